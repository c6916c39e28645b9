import Derived.Test.YtecdendjlgohjaaGreatDoorFnAlignedG5
import Derived.Test.YtecdendjlgohjaaGreatDoorFnAlignedG1
import Derived.Test.YtecdendjlgohjaaGreatDoorFnAlignedG3
import Derived.Test.YtecdendjlgohjaaGreatDoorFnAlignedG4
import Derived.Test.YtecdendjlgohjaaGreatDoorFnAlignedG2
set_option linter.unusedVariables false
set_option linter.unusedSimpArgs false
namespace Go.Proofs.YtecdendjlgohjaaGreatDoor
open Go.RowKit Go.Sort
set_option maxHeartbeats 4000000
set_option maxRecDepth 100000
set_option linter.unusedVariables false
set_option linter.unusedSimpArgs false
theorem M.le_sum {a : Nat} : ∀ {l : List Nat}, a ∈ l → a ≤ l.sum
  | b :: l, h => by
    rw [List.sum_cons]
    rcases List.mem_cons.1 h with rfl | h
    · omega
    · have := M.le_sum h; omega
theorem own_form2 {w : World} {B n : Nat} {e : TypeId} {A : Option Addr} {m c : Nat} {cs : List Value} (h : w.ownsRow B e 1 (.slice A m c) n cs) (hn : 0 < n) : ∃ g, A = some ⟨g, 0, none⟩ ∧ B ≤ g ∧ g < w.heap.size := by
  obtain ⟨g, cap, h1, h2, h3⟩ := World.ownsRow.form h hn
  simp only [Value.slice.injEq] at h1
  exact ⟨g, h1.1, h2, h3⟩
def RetMx (w : World) (r : Option (List Strip)) (en : Ending) (w' : World) : Prop :=
  ∃ v, en = .returned (.tuple #[.agg #[v], .bool r.isSome]) ∧ OS tSt 44 w' (Iv w.heap.size w'.heap.size) v (r.getD []) ∧ Below w.heap.size w w'
theorem ei_lns : EI Tryz.prog 74 49 (.slice none 0 0) 1 24 := ⟨Tryz.underlying74, by kernel_rfl, rfl, by decide⟩
theorem impl_TrimSuffix (s : ByteArray) (w : World) (hs : s.size ≤ 1000000000) :
    Calls Tryz.prog 42 #[.string s, .string ⟨#[10]⟩] w fun e w' => e = .returned (.string ⟨(Lib.trimSuffix s.data.toList [10]).toArray⟩) ∧ w' = w :=
  Tryz.strings_TrimSuffix s ⟨#[10]⟩ w (by omega)
theorem M.build_no {ok : List (List UInt8) → Bool} {Ws : List (List (List UInt8))} {W : List (List UInt8)} (h : W ∈ Ws) (hW : ok W = false) : M.build ok Ws = none := by
  unfold M.build
  rw [if_neg]
  intro hc
  have := List.all_eq_true.1 hc W h
  rw [hW] at this
  cases this
theorem M.okI_head {W : List (List UInt8)} (h : M.headOk W = false) : M.okI W = false := by rw [M.okI, h]; rfl
theorem M.wd_at {W : List (List UInt8)} {k : Nat} (h : k < W.length) : W[k]? = some (M.wd W k) := by rw [M.wd, List.getElem?_eq_getElem h]; rfl
theorem impl_num (a : List UInt8) (h : a.length ≤ 1000000000) (u : World) (hu : LAD u) : Calls Tryz.prog 44 #[.string ⟨a.toArray⟩] u fun e w' => e = .returned (.tuple #[.int .i64 ((M.num a).getD 0), .bool (M.num a).isSome]) ∧ Below u.heap.size u w' := by
  have := impl_ReadDecimal ⟨a.toArray⟩ (by rw [M.size_mk]; exact h) u hu
  rwa [show M.numB ⟨a.toArray⟩ = M.num a by simp [M.numB]] at this
theorem M.words_len1 {L x : List UInt8} (h : x ∈ M.wordsOf L) : x.length ≤ L.length := by
  have key : ∀ (l : List UInt8) (y : List UInt8), y ∈ M.splitBy 32 l → y.length ≤ l.length := fun l y hy => by
    have h1 := M.splitBy_sum 32 l
    obtain ⟨i, hi, rfl⟩ := List.mem_iff_getElem.1 hy
    have h2 : (M.splitBy 32 l)[i].length ≤ ((M.splitBy 32 l).map List.length).sum := M.le_sum (List.mem_map.2 ⟨_, List.getElem_mem hi, rfl⟩)
    omega
  exact key L x (List.mem_filter.1 h).1
theorem st_new (w : World) (s : ByteArray) (l : Int) (hs : s.size ≤ maxLen) : tSt.O w (fun _ => False) [.string s, .int .i64 l, .slice none 0 0] (s, l, []) :=
  st_O.2 ⟨none, 0, 0, rfl, hs, sl_O.2 (OS.nil _ _ _ _)⟩
theorem impl_readMixer (s : ByteArray) (w : World) (hs : s.size ≤ 10000000) (hL : LAD w) :
    Calls Tryz.prog 23 #[.string s] w (RetMx w (M.build M.okI (M.linesI s.data.toList))) := by
  obtain ⟨W1, hW1⟩ : ∃ W1, W1 = ((w.alloc (.cells #[.slice none 0 0] 24)).alloc (.cells #[] 49)).alloc (.cells #[.slice none 0 0] 24) := ⟨_, rfl⟩
  have B1 : Below w.heap.size w W1 := by rw [hW1]; exact (((Below.refl _ _).alloc (Nat.le_refl _) _).alloc (by simp) _).alloc (by simp; omega) _
  have z1 : W1.heap.size = w.heap.size + 3 := by rw [hW1]; simp
  have r0 : W1.cell? ⟨w.heap.size, 0, none⟩ = some (.slice none 0 0) := by rw [hW1]; simp [go_sem]
  have r1 : W1.cell? ⟨w.heap.size + 2, 0, none⟩ = some (.slice none 0 0) := by rw [hW1]; simp [go_sem]
  have f0 : W1.frozen? ⟨w.heap.size, 0, none⟩ = false := by rw [hW1]; simp [go_sem]
  have f1 : W1.frozen? ⟨w.heap.size + 2, 0, none⟩ = false := by rw [hW1]; simp [go_sem]
  have ol0 : OS tLn 49 W1 (fun b => b = w.heap.size + 1) (.slice (some ⟨w.heap.size + 1, 0, none⟩) 0 0) [] := by
    have o1 : ((w.alloc (.cells #[.slice none 0 0] 24)).alloc (.cells #[] 49)).ownsRow 0 49 1 (.slice (some ⟨(w.alloc (.cells #[.slice none 0 0] 24)).heap.size, 0, none⟩) 0 0) 0 [] := World.ownsRow_made _ _ _ (Nat.zero_le _) (by simp [maxLen]) rfl
    refine ⟨[], fun _ _ => False, ?_, rfl, fun g hg => ?_, fun _ _ h => h.elim, fun _ _ _ _ h => h.elim, fun k h => by simp at h⟩
    · rw [hW1]
      have o2 := o1.alloc (.cells #[.slice none 0 0] 24)
      show World.ownsRow _ 0 _ 1 _ 0 []
      simpa using o2
    · simp only [Value.ownBlock, Option.some.injEq] at hg
      exact hg.symm
  have HW1 := Lib.hid hW1
  have Z1 := Lib.hid z1
  have HTR := Lib.hid (impl_TrimSuffix s W1 (by omega))
  obtain ⟨T, hT⟩ : ∃ T, T = Lib.trimSuffix s.data.toList [10] := ⟨_, rfl⟩
  have hTs : T.length ≤ s.size := by rw [hT, Lib.size_eq]; exact Lib.trimSuffix_le _ _
  rw [← hT] at HTR
  have HSP := Lib.hid (impl_Split ⟨T.toArray⟩ 10 W1 (by rw [M.size_mk]; omega) (hL.on B1))
  rw [show (⟨T.toArray⟩ : ByteArray).data.toList = T by simp] at HSP
  obtain ⟨Ls, hLs⟩ : ∃ Ls, Ls = M.splitBy 10 T := ⟨_, rfl⟩
  rw [← hLs] at HSP
  have hcnt : Ls.length ≤ s.size + 1 := by have := M.splitBy_cnt 10 T; rw [← hLs] at this; omega
  have hsum : (Ls.map List.length).sum ≤ s.size := by have := M.splitBy_sum 10 T; rw [← hLs] at this; omega
  obtain ⟨Ws, hWs⟩ : ∃ Ws, Ws = M.linesI s.data.toList := ⟨_, rfl⟩
  have hWL : Ws = Ls.map M.wordsOf := by rw [hWs, M.linesI, ← hT, ← hLs]
  rw [← hWs]
  have HWL := Lib.hid hWL
  have hWl : Ws.length = Ls.length := by rw [hWL, List.length_map]
  have HL := Lib.hid hL
  clear hW1 z1 hT hLs hWs hWL hL
  go_enter Tryz.func23, Tryz.ntmps23
  go_wp2_with fail
  rw [← HW1.out]
  refine HTR.out.mono ?_
  rintro e w' ⟨rfl, hw⟩
  rw [hw]
  clear hw
  go_wp2_with fail
  refine HSP.out.mono ?_
  rintro e W3 ⟨rfl, ownp, b3, hlt3⟩
  rw [Z1.out] at ownp hlt3
  have B3 := bel_trans B1 b3
  have R0 : W3.cell? ⟨w.heap.size, 0, none⟩ = some (.slice none 0 0) := by rw [b3.cell (by show w.heap.size < _; have := Z1.out; omega)]; exact r0
  have R1 : W3.cell? ⟨w.heap.size + 2, 0, none⟩ = some (.slice none 0 0) := by rw [b3.cell (by show w.heap.size + 2 < _; have := Z1.out; omega)]; exact r1
  have F0 : W3.frozen? ⟨w.heap.size, 0, none⟩ = false := by rw [b3.frozen (by show w.heap.size < _; have := Z1.out; omega)]; exact f0
  have F1 : W3.frozen? ⟨w.heap.size + 2, 0, none⟩ = false := by rw [b3.frozen (by show w.heap.size + 2 < _; have := Z1.out; omega)]; exact f1
  have ol3 := ol0.chg (Chg.of_below b3 (fun _ => False)) (fun _ _ h => h)
  have PC := Lib.hid (fun (k : Nat) (x : List UInt8) (hx : Ls[k]? = some x) => show W3.cell? ⟨w.heap.size + 3, k, none⟩ = some (.string ⟨x.toArray⟩) by
    have hadd : (⟨w.heap.size + 3, 0, none⟩ : Addr).add k = ⟨w.heap.size + 3, k, none⟩ := by unfold Addr.add; split <;> simp_all
    rw [← hadd]
    exact World.ownsRow.cells ownp (g := w.heap.size + 3) rfl k _ (by simp [M.strs, hx]))
  clear ownp b3 r0 r1 f0 f1 B1 ol0
  rw [Z1.out]
  generalize hN : Ls.length = N at hcnt hWl ⊢
  go_wp2_with fail
  go_loopw [5, 21] (fun vl i wr => ∃ (k : Nat) (v : Value) (FV FL : Nat → Prop), i = .int .i64 k ∧ k ≤ N ∧ wr.cell? ⟨w.heap.size + 2, 0, none⟩ = some v ∧ OS tSt 44 wr FV v ((Ws.take k).map M.headR) ∧ OS tLn 49 wr FL vl ((Ws.take k).map (fun W => W.drop 2)) ∧
      Hid (∀ b, FV b → W3.heap.size ≤ b ∧ b < wr.heap.size) ∧ Hid (∀ b, FL b → (b = w.heap.size + 1 ∨ W3.heap.size ≤ b) ∧ b < wr.heap.size) ∧ Hid (∀ b, FV b → ¬ FL b) ∧ Hid (∀ j W, j < k → Ws[j]? = some W → M.headOk W = true) ∧
      Hid (∀ p : Addr, p.block < W3.heap.size → p.block ≠ w.heap.size + 2 → p.block ≠ w.heap.size + 1 → wr.cell? p = W3.cell? p) ∧ Hid (∀ p : Addr, p.block < W3.heap.size → p.block ≠ w.heap.size + 1 → wr.frozen? p = W3.frozen? p) ∧ W3.heap.size ≤ wr.heap.size ∧ Below w.heap.size w wr) (fun _ i _ => N - (intOf i).toNat)
  case atStart => exact ⟨0, _, fun _ => False, _, rfl, by omega, R1, OS.nil _ _ _ _, ol3, Lib.hid (fun _ h => h.elim), Lib.hid (fun b h => ⟨.inl h, by omega⟩), Lib.hid (fun _ h => h.elim), Lib.hid (by omega), Lib.hid (fun _ _ _ _ => rfl), Lib.hid (fun _ _ _ => rfl), Nat.le_refl _, B3⟩
  case round =>
    obtain ⟨k, v, FV, FL, rfl, hk, hv, oS, oL, HFS, HFL, HD, HH, KC, KF, hsz, hb⟩ := hrel
    have R0r : wr.cell? ⟨w.heap.size, 0, none⟩ = some (.slice none 0 0) := by rw [KC.out _ (by show w.heap.size < _; omega) (by show w.heap.size ≠ _; omega) (by show w.heap.size ≠ _; omega)]; exact R0
    have F0r : wr.frozen? ⟨w.heap.size, 0, none⟩ = false := by rw [KF.out _ (by show w.heap.size < _; omega) (by show w.heap.size ≠ _; omega)]; exact F0
    have F1r : wr.frozen? ⟨w.heap.size + 2, 0, none⟩ = false := by rw [KF.out _ (by show w.heap.size + 2 < _; omega) (by show w.heap.size + 2 ≠ _; omega)]; exact F1
    by_cases hlt : k < N
    · have X := Lib.hid (List.getElem?_eq_getElem (l := Ls) (i := k) (by omega))
      generalize Ls[k]'(by omega) = x at X
      have hcx : wr.cell? ⟨w.heap.size + 3, k, none⟩ = some (.string ⟨x.toArray⟩) := by
        rw [KC.out _ (by show w.heap.size + 3 < _; omega) (by show w.heap.size + 3 ≠ _; omega) (by show w.heap.size + 3 ≠ _; omega)]
        exact PC.out k x X.out
      have XW := Lib.hid (show Ws[k]? = some (M.wordsOf x) by rw [HWL.out, List.getElem?_map, X.out]; rfl)
      have hxs : x.length ≤ s.size := by
        have h2 : x.length ≤ (Ls.map List.length).sum := M.le_sum (List.mem_map.2 ⟨x, List.mem_of_getElem? X.out, rfl⟩)
        omega
      have HSW := Lib.hid (impl_SplitWords ⟨x.toArray⟩ wr (by rw [M.size_mk]; omega) (HL.out.on hb))
      rw [show (⟨x.toArray⟩ : ByteArray).data.toList = x by simp] at HSW
      obtain ⟨W, hW⟩ : ∃ W, W = M.wordsOf x := ⟨_, rfl⟩
      rw [← hW] at XW HSW
      have hwx := Lib.hid (fun y hy => M.words_len1 (L := x) (x := y) hy)
      rw [← hW] at hwx
      have hwc : W.length ≤ x.length + 1 := by rw [hW]; exact M.words_cnt x
      have HWX := Lib.hid hW
      clear hW
      have hmemW : W ∈ Ws := List.mem_of_getElem? XW.out
      have NOW := Lib.hid (fun h : M.headOk W = false => M.build_no hmemW (M.okI_head h))
      have hrem : (W.length : Int).tmod 3 = ((W.length % 3 : Nat) : Int) := by rw [Int.tmod_eq_emod_of_nonneg (by omega)]; omega
      clear hmemW
      by_cases h2 : 2 ≤ W.length
      · by_cases h3 : W.length % 3 = 2
        · have e3 : ((W.length % 3 : Nat) : Int) = 2 := by omega
          rw [e3] at hrem
          have HND := Lib.hid (impl_num (M.wd W 1) (by have := M.wd_len hwx.out 1; omega))
          cases hn1 : M.num (M.wd W 1) with
          | none =>
            have NO := Lib.hid (NOW.out (by rw [M.headOk, hn1]; simp))
            go_wp2_with (first | (go_at_call 43; refine HSW.out.mono ?_; rintro e u1 ⟨v8, rfl, ow, d1⟩; obtain ⟨A8, c8, rfl, hc8, hm8, -⟩ := own_shape ow; have B4 := bel_trans hb d1; obtain ⟨g8, rfl, hg0, hg1⟩ := own_form2 ow (by omega); have cw0 : u1.cell? ⟨g8, 0, none⟩ = some (.string ⟨(M.wd W 0).toArray⟩) := World.ownsRow.cells ow (g := g8) rfl 0 _ (by simp [M.strs, M.wd_at (show 0 < W.length by omega)]); have cw1 : u1.cell? ⟨g8, 1, none⟩ = some (.string ⟨(M.wd W 1).toArray⟩) := World.ownsRow.cells ow (g := g8) rfl 1 _ (by simp [M.strs, M.wd_at (show 1 < W.length by omega)])) | (go_at_call 44; with_reducible refine (HND.out _ (HL.out.on B4)).mono ?_; rw [hn1]; rintro e u2 ⟨rfl, d2⟩; have B5 := bel_trans B4 d2; have D5 := bel_trans d1 d2; have rR : u2.cell? ⟨w.heap.size, 0, none⟩ = some (.slice none 0 0) := (by rw [D5.cell (by show w.heap.size < _; omega)]; exact R0r); have fR : u2.frozen? ⟨w.heap.size, 0, none⟩ = false := (by rw [D5.frozen (by show w.heap.size < _; omega)]; exact F0r)))
            refine bodyPost_ret (v := .tuple #[.agg #[.slice none 0 0], .bool false]) (by simp [results, Tryz.results23, go_sem, rR, fR]) rfl ?_
            rw [NO.out]
            exact ⟨_, rfl, OS.nil _ _ _ _, B5.setCell (Nat.le_refl _) _⟩
          | some q =>
            have HK := Lib.hid (show M.headOk W = true by rw [M.headOk, hn1, decide_eq_true h2, decide_eq_true h3]; rfl)
            have HQ := Lib.hid (show M.headR W = (⟨(M.wd W 0).toArray⟩, q, []) by rw [M.headR, hn1]; rfl)
            have hlk : ((Ws.take k).map M.headR).length = k := by rw [List.length_map, List.length_take]; omega
            obtain ⟨Av, cv, ev⟩ := oS.shape
            rw [hlk] at ev
            subst ev
            have hlk2 : ((Ws.take k).map (fun W => W.drop 2)).length = k := by rw [List.length_map, List.length_take]; omega
            obtain ⟨Al, cl, ev⟩ := oL.shape
            rw [hlk2] at ev
            subst ev
            go_wp2_with (first | (go_at_call 43; refine HSW.out.mono ?_; rintro e u1 ⟨v8, rfl, ow, d1⟩; obtain ⟨A8, c8, rfl, hc8, hm8, -⟩ := own_shape ow; have B4 := bel_trans hb d1; obtain ⟨g8, rfl, hg0, hg1⟩ := own_form2 ow (by omega); have cw0 : u1.cell? ⟨g8, 0, none⟩ = some (.string ⟨(M.wd W 0).toArray⟩) := World.ownsRow.cells ow (g := g8) rfl 0 _ (by simp [M.strs, M.wd_at (show 0 < W.length by omega)]); have cw1 : u1.cell? ⟨g8, 1, none⟩ = some (.string ⟨(M.wd W 1).toArray⟩) := World.ownsRow.cells ow (g := g8) rfl 1 _ (by simp [M.strs, M.wd_at (show 1 < W.length by omega)])) | (go_at_call 44; with_reducible refine (HND.out _ (HL.out.on B4)).mono ?_; rw [hn1]; rintro e u2 ⟨rfl, d2⟩; have B5 := bel_trans B4 d2; have D5 := bel_trans d1 d2))
            have D5w := D5
            have hv2 : u2.cell? ⟨w.heap.size + 2, 0, none⟩ = some (.slice Av k cv) := by rw [D5.cell (by show w.heap.size + 2 < _; omega)]; exact hv
            have cx0 : u2.cell? ⟨g8, 0, none⟩ = some (.string ⟨(M.wd W 0).toArray⟩) := by rw [d2.cell hg1]; exact cw0
            have m0 := cell_regrown hv2
            have m1 := cell_regrown cx0
            have s5 := D5.size
            have s4 := d1.size
            have s6 := d2.size
            have F1u : u2.frozen? ⟨w.heap.size + 2, 0, none⟩ = false := by rw [D5.frozen (by show w.heap.size + 2 < _; omega)]; exact F1r
            have R0u : u2.cell? ⟨w.heap.size, 0, none⟩ = some (.slice none 0 0) := by rw [D5.cell (by show w.heap.size < _; omega)]; exact R0r
            have oS2 := (oS.real.chg (Chg.of_below D5 (fun _ => False)) (fun _ _ h => h)).chg (Chg.of_below (below_drewN (Below.refl u2.heap.size u2) 1) (fun _ => False)) (fun _ _ h => h)
            have oL2 := (oL.real.chg (Chg.of_below D5 (fun _ => False)) (fun _ _ h => h)).chg (Chg.of_below (below_drewN (Below.refl u2.heap.size u2) 1) (fun _ => False)) (fun _ _ h => h)
            have DD : Below u2.heap.size u2 u2.drew := below_drewN (Below.refl _ _) 1
            have hkl : ((Ws.take k).map M.headR).length ≤ 100000000 := by rw [List.length_map, List.length_take]; omega
            have HSZ := Lib.hid (show (⟨(M.wd W 0).toArray⟩ : ByteArray).size ≤ maxLen by rw [M.size_mk]; have := M.wd_len hwx.out 0; unfold maxLen; omega)
            go_wp2_with fail
            (refine wp_region_fresh [0, 2, 3, 5] [1, 4] 2 (.one 6 (.one 7 .rest)) [8, 9, 10] (by kernel_rfl) (by kernel_rfl) ?_; simp only [pickOps]; simp only [List.filterMap, List.getElem?_cons_succ, List.getElem?_cons_zero]; (repeat (go_big_quiet_step (fail))); refine wpQuiet_nil ?_; (repeat (go_big_quiet_step (fail))); refine wpQuiet_nil ?_)
            refine seqT_one rfl ?_
            go_wp2_with fail
            refine ⟨regrown_of_below DD, seqT_one rfl ?_⟩
            go_wp2_with fail
            refine ⟨regrown_of_below (bel_trans DD ((Below.refl _ _).alloc (Nat.le_refl _) _)), seqT_rest ?_⟩
            obtain ⟨FS2, hFS2⟩ : ∃ F : Nat → Prop, F = fun b => FV b ∧ b < wr.heap.size := ⟨_, rfl⟩
            obtain ⟨FL2, hFL2⟩ : ∃ F : Nat → Prop, F = fun b => FL b ∧ b < wr.heap.size := ⟨_, rfl⟩
            rw [← hFS2] at oS2
            rw [← hFL2] at oL2
            have HS2 := Lib.hid (fun b (h : FS2 b) => show W3.heap.size ≤ b ∧ b < wr.heap.size by rw [hFS2] at h; exact ⟨(HFS.out b h.1).1, h.2⟩)
            have HL2 := Lib.hid (fun b (h : FL2 b) => show (b = w.heap.size + 1 ∨ W3.heap.size ≤ b) ∧ b < wr.heap.size by rw [hFL2] at h; exact ⟨(HFL.out b h.1).1, h.2⟩)
            have HD2 := Lib.hid (fun b (h : FS2 b) (h' : FL2 b) => show False by rw [hFS2] at h; rw [hFL2] at h'; exact HD.out b h.1 h'.1)
            clear hFS2 hFL2
            have hdr : u2.drew.heap.size = u2.heap.size := rfl
            go_wp2_with (first | (at_builtin; refine wpList_pushS ei_st #[.string ⟨(M.wd W 0).toArray⟩, .int .i64 q, .slice none 0 0] rfl _ _ rfl oS2 (st_new _ _ _ HSZ.out) (fun _ _ h => h) rfl rfl (by unfold maxLen; omega) (by omega) ?_; intro v3 w4 own4 ch4; obtain ⟨A4, c4, e4⟩ := own4.shape; rw [List.length_append, hlk, List.length_singleton] at e4; subst e4; have hv4 : w4.cell? ⟨w.heap.size + 2, 0, none⟩ = some (.slice Av k cv) := (by rw [ch4.cell1 (by show w.heap.size + 2 < u2.heap.size; omega) (fun h => by have := (HS2.out _ h).1; simp only at this; omega)]; exact hv2); have hf4 : w4.frozen? ⟨w.heap.size + 2, 0, none⟩ = false := (by rw [ch4.frozen1 (by show w.heap.size + 2 < u2.heap.size; omega) (fun h => by have := (HS2.out _ h).1; simp only at this; omega)]; exact F1u)) | (at_builtin; have s7 : u2.heap.size ≤ w4.heap.size := ch4.size; have e9 : (w4.setCell ⟨w.heap.size + 1 + 1, 0, none⟩ (.slice A4 (k + 1) c4)).heap.size = w4.heap.size := (by simp); have CB : Chg (fun b => b = w.heap.size + 2) w4 (w4.setCell ⟨w.heap.size + 1 + 1, 0, none⟩ (.slice A4 (k + 1) c4)) := Chg.set w4 (w.heap.size + 2) 0 _ rfl; have oL5 := (oL2.chg ch4 (fun b h h' => HD2.out b h' h)).chg CB (fun b h (h' : b = w.heap.size + 2) => (by have := (HL2.out b h).1; omega)); have ln5 : tLn.O (w4.setCell ⟨w.heap.size + 1 + 1, 0, none⟩ (.slice A4 (k + 1) c4)) (fun b => b = g8) [.slice (if c8 = 2 then some ⟨g8, 0, none⟩ else some ⟨g8, 2, none⟩) (W.length - 2) (c8 - 2)] (W.drop 2) := tLn.okeep (fun b (hb8 : b = g8) => (by rw [hb8]; exact (CB.block g8 (by omega) (show ¬ g8 = w.heap.size + 2 by omega)).trans ((ch4.block g8 (show g8 < u2.heap.size by omega) (fun h => by have := (HS2.out _ h).2; omega)).trans ((DD.block g8 (by omega)).trans (d2.block g8 hg1))))) (tLn_tail ow h2 hc8 hm8); refine wpList_pushS ei_lns #[.slice (if c8 = 2 then some ⟨g8, 0, none⟩ else some ⟨g8, 2, none⟩) (W.length - 2) (c8 - 2)] rfl _ _ rfl oL5 ln5 (fun b h (h' : b = g8) => (by have := (HL2.out b h).2; omega)) rfl (by rw [e9]; rfl) (by unfold maxLen; omega) (by omega) ?_; intro v5 w6 own6 ch6))
            go_roundw
            case rel =>
              have t4 : u2.heap.size ≤ w4.heap.size := ch4.size
              have t6 : w4.heap.size ≤ w6.heap.size := by have := ch6.size; omega
              obtain ⟨w5, hw5⟩ : ∃ w5, w5 = w4.setCell ⟨w.heap.size + 1 + 1, 0, none⟩ (.slice A4 (k + 1) c4) := ⟨_, rfl⟩
              have c5 : w5.cell? ⟨w.heap.size + 2, 0, none⟩ = some (.slice A4 (k + 1) c4) := by rw [hw5]; exact World.cell?_setCell_same _ _ _ hv4
              have CB5 : Chg (fun b => b = w.heap.size + 2) w4 w5 := by rw [hw5]; exact CB
              have e95 : w5.heap.size = w4.heap.size := by rw [hw5]; exact e9
              rw [← hw5] at ch6
              have S4 := own4.wide (F' := fun b => FS2 b ∨ (u2.heap.size < b ∧ b < w4.heap.size)) (fun b h => by rcases h with h | h | h; exact .inl h; exact h.elim; exact .inr h)
              have S6 := (S4.chg CB5 (fun b h (h' : b = w.heap.size + 2) => by rcases h with h | h; (have := (HS2.out b h).1; omega); omega)).chg ch6 (fun b h h' => by
                have h3 := (HL2.out b h').2
                rcases h with h | h
                · exact HD2.out b h h'
                · omega)
              have L6 := own6.wide (F' := fun b => FL2 b ∨ b = g8 ∨ (w4.heap.size < b ∧ b < w6.heap.size)) (fun b h => by rcases h with h | h | h; exact .inl h; exact .inr (.inl h); exact .inr (.inr (by rw [e9] at h; exact h)))
              have CG : Chg (fun b => FS2 b ∨ b = w.heap.size + 2 ∨ FL2 b) wr w6 := ((((Chg.of_below D5 _).trans (Chg.of_below DD _)).trans (ch4.wide (fun _ h => .inl h))).trans (CB5.wide (fun _ h => .inr (.inl h)))).trans (ch6.wide (fun _ h => .inr (.inr h)))
              have B6 : Below w.heap.size w w6 := hb.trans (CG.toBelow (fun b h => by
                rcases h with h | h | h
                · have := (HS2.out b h).1; omega
                · omega
                · have := (HL2.out b h).1; omega) (by omega))
              refine ⟨k + 1, .slice A4 (k + 1) c4, fun b => FS2 b ∨ (u2.heap.size < b ∧ b < w4.heap.size), fun b => FL2 b ∨ b = g8 ∨ (w4.heap.size < b ∧ b < w6.heap.size), by go_num, by omega, ?_, ?_, ?_, Lib.hid (fun b h => ?_), Lib.hid (fun b h => ?_), Lib.hid (fun b h h' => ?_), Lib.hid (fun j W' hj hW' => ?_), Lib.hid (fun p h1 h2 h3 => ?_), Lib.hid (fun p h1 h2 => ?_), by omega, B6⟩
              rotate_left
              · rw [M.take_at XW.out, List.map_append, List.map_singleton, HQ.out]
                exact S6
              · rw [M.take_at XW.out, List.map_append, List.map_singleton]
                exact L6
              · rcases h with h | h
                · have := HS2.out b h; omega
                · omega
              · rcases h with h | h | h
                · have := HL2.out b h; omega
                · omega
                · omega
              · rcases h with h | h
                · have h3 := HS2.out b h
                  rcases h' with h' | h' | h'
                  · exact HD2.out b h h'
                  · omega
                  · omega
                · rcases h' with h' | h' | h'
                  · have := (HL2.out b h').2; omega
                  · omega
                  · omega
              · rcases Nat.lt_or_ge j k with h3 | h3
                · exact HH.out j W' h3 hW'
                · obtain rfl : j = k := by omega
                  rw [XW.out] at hW'
                  rw [← Option.some.inj hW']; exact HK.out
              · rw [CG.cell1 (by omega) (fun h => by
                  rcases h with h | h | h
                  · have := (HS2.out _ h).1; omega
                  · omega
                  · have := (HL2.out _ h).1; omega), KC.out p h1 h2 h3]
              · have n1 : ¬ FL2 p.block := fun h => by have := (HL2.out _ h).1; omega
                have n2 : ¬ FS2 p.block := fun h => by have := (HS2.out _ h).1; omega
                rw [ch6.frozen1 (by omega) n1, hw5, World.frozen?_setCell, ch4.frozen1 (show p.block < u2.heap.size by omega) n2]
                exact (DD.frozen (by omega)).trans ((D5.frozen (by omega)).trans (KF.out p h1 h2))
              · rw [ch6.cell1 (by show w.heap.size + 2 < _; omega) (fun h => by have := (HL2.out _ h).1; simp only at this; omega)]
                exact c5
            case measure => simp [intOf]; omega
        · have e3 : ¬ ((W.length % 3 : Nat) : Int) = 2 := by omega
          have NO := Lib.hid (NOW.out (by rw [M.headOk, decide_eq_false h3]; simp))
          generalize ((W.length % 3 : Nat) : Int) = z3 at hrem e3
          have e4 : (z3 != 2) = true := by simpa using e3
          have e5 : z3 ≠ 2 := e3
          go_wp2_with (go_at_call 43; refine HSW.out.mono ?_; rintro e u1 ⟨v8, rfl, ow, d1⟩; obtain ⟨A8, c8, rfl, hc8, hm8, -⟩ := own_shape ow; have B4 := bel_trans hb d1; have rR : u1.cell? ⟨w.heap.size, 0, none⟩ = some (.slice none 0 0) := (by rw [d1.cell (by show w.heap.size < _; omega)]; exact R0r); have fR : u1.frozen? ⟨w.heap.size, 0, none⟩ = false := (by rw [d1.frozen (by show w.heap.size < _; omega)]; exact F0r))
          refine bodyPost_ret (v := .tuple #[.agg #[.slice none 0 0], .bool false]) (by simp [results, Tryz.results23, go_sem, rR, fR]) rfl ?_
          rw [NO.out]
          exact ⟨_, rfl, OS.nil _ _ _ _, B4.setCell (Nat.le_refl _) _⟩
      · have NO := Lib.hid (NOW.out (by rw [M.headOk, decide_eq_false h2]; rfl))
        go_wp2_with (go_at_call 43; refine HSW.out.mono ?_; rintro e u1 ⟨v8, rfl, ow, d1⟩; obtain ⟨A8, c8, rfl, hc8, hm8, -⟩ := own_shape ow; have B4 := bel_trans hb d1; have rR : u1.cell? ⟨w.heap.size, 0, none⟩ = some (.slice none 0 0) := (by rw [d1.cell (by show w.heap.size < _; omega)]; exact R0r); have fR : u1.frozen? ⟨w.heap.size, 0, none⟩ = false := (by rw [d1.frozen (by show w.heap.size < _; omega)]; exact F0r))
        refine bodyPost_ret (v := .tuple #[.agg #[.slice none 0 0], .bool false]) (by simp [results, Tryz.results23, go_sem, rR, fR]) rfl ?_
        rw [NO.out]
        exact ⟨_, rfl, OS.nil _ _ _ _, B4.setCell (Nat.le_refl _) _⟩
    · have hkN : k = N := by omega
      subst hkN
      rw [List.take_of_length_le (by omega)] at oS oL
      obtain ⟨W7, hW7⟩ : ∃ u : World, u = wr := ⟨_, rfl⟩
      obtain ⟨hsr, hhs⟩ : ∃ hs, hs = Ws.map M.headR := ⟨_, rfl⟩
      have HHS := Lib.hid hhs
      obtain ⟨Av, cv, ev⟩ := oS.shape
      rw [List.length_map, hWl] at ev
      subst ev
      obtain ⟨Al, cl, ev⟩ := oL.shape
      rw [List.length_map, hWl] at ev
      subst ev
      rw [← hW7] at hv oS oL HFS HFL KC KF hsz hb ⊢
      have oS0 : OS tSt 44 W7 FV (.slice Av k cv) (M.stage M.headR (M.fullR hsr) Ws 0) := by rw [M.stage_zero]; exact oS
      have FIT := Lib.hid (fun i => M.stage_fits (Ls := Ls) (Ws := Ws) (h := M.headR) (hs := hsr) (i := i) (by omega) (fun j W L hW hL => by
        rw [HWL.out, List.getElem?_map, hL] at hW
        obtain rfl := Option.some.inj hW
        exact ⟨fun y hy => M.words_len1 hy, M.words_cnt L⟩) (fun W => ⟨rfl, rfl⟩))
      have HNM := Lib.hid (fun i => M.stage_names (h := M.headR) (f := M.fullR hsr) (Ws := Ws) (i := i) (fun W => rfl))
      clear hW7 oS R0r F0r F1r hhs
      clear wr
      go_wp2_with fail
      go_loopw [65] (fun i wr => ∃ (q : Nat) (GS : Nat → Prop), i = .int .i64 q ∧ q ≤ k ∧ wr.cell? ⟨w.heap.size + 2, 0, none⟩ = some (.slice Av k cv) ∧ OS tSt 44 wr GS (.slice Av k cv) (M.stage M.headR (M.fullR hsr) Ws q) ∧ OS tLn 49 wr FL (.slice Al k cl) (Ws.map (fun W => W.drop 2)) ∧
          Hid (∀ b, GS b → W3.heap.size ≤ b ∧ b < wr.heap.size) ∧ Hid (∀ b, GS b → ¬ FL b) ∧ Hid (∀ j W, j < q → Ws[j]? = some W → (List.range (M.cntW W)).all (M.gOk W) = true) ∧
          Hid (∀ p : Addr, p.block < W3.heap.size → wr.cell? p = W7.cell? p) ∧ Hid (∀ p : Addr, p.block < W3.heap.size → wr.frozen? p = W7.frozen? p) ∧ W7.heap.size ≤ wr.heap.size ∧ Below w.heap.size w wr) (fun i _ => k - (intOf i).toNat)
      case atStart => exact ⟨0, FV, rfl, by omega, hv, oS0, oL, HFS, HD, Lib.hid (by omega), Lib.hid (fun _ _ => rfl), Lib.hid (fun _ _ => rfl), Nat.le_refl _, hb⟩
      case round =>
        clear hv oS0 oL HFS HD
        obtain ⟨q, GS, rfl, hq, hv, oS, oL, HFS, HD, HG, KC2, KF2, hsz2, hb2⟩ := hrel
        have R0r : wr.cell? ⟨w.heap.size, 0, none⟩ = some (.slice none 0 0) := by rw [KC2.out _ (by show w.heap.size < _; omega), KC.out _ (by show w.heap.size < _; omega) (by show w.heap.size ≠ _; omega) (by show w.heap.size ≠ _; omega)]; exact R0
        have F0r : wr.frozen? ⟨w.heap.size, 0, none⟩ = false := by rw [KF2.out _ (by show w.heap.size < _; omega), KF.out _ (by show w.heap.size < _; omega) (by show w.heap.size ≠ _; omega)]; exact F0
        by_cases hlt2 : q < k
        · have X := Lib.hid (List.getElem?_eq_getElem (l := Ls) (i := q) (by omega))
          generalize Ls[q]'(by omega) = x at X
          have hxs : x.length ≤ s.size := by
            have h2 : x.length ≤ (Ls.map List.length).sum := M.le_sum (List.mem_map.2 ⟨x, List.mem_of_getElem? X.out, rfl⟩)
            omega
          obtain ⟨W, hW⟩ : ∃ W, W = M.wordsOf x := ⟨_, rfl⟩
          have XW := Lib.hid (show Ws[q]? = some W by rw [HWL.out, List.getElem?_map, X.out, hW]; rfl)
          have hwx := Lib.hid (fun y hy => M.words_len1 (L := x) (x := y) hy)
          rw [← hW] at hwx
          have hwc : W.length ≤ x.length + 1 := by rw [hW]; exact M.words_cnt x
          have hhk := HH.out q W (by omega) XW.out
          rw [M.headOk, Bool.and_eq_true, Bool.and_eq_true, decide_eq_true_eq, decide_eq_true_eq] at hhk
          obtain ⟨⟨h2, h3⟩, -⟩ := hhk
          have hcn : 3 * M.cntW W + 2 = W.length := by rw [M.cntW]; omega
          have NOW := Lib.hid (fun (t : Nat) (ht : t < M.cntW W) (h : M.gOk W t = false) => M.build_no (List.mem_of_getElem? XW.out) (M.okI_gain ht h))
          clear hW
          obtain ⟨cssL, FsL, ohL, csL, hcsL, hoL⟩ := oL.openAt (k := q) (x := W.drop 2) (by rw [List.getElem?_map, XW.out]; rfl)
          obtain ⟨gL, rfl, hgL, -, hgL2, -⟩ := ohL.form (by rw [List.length_map]; omega)
          have hoL' := tLn.owide ohL.fits hoL
          obtain ⟨Aw, cw, rfl, hcw1, hcw2, hrd, hfp⟩ := hoL'
          have cL : wr.cell? ⟨gL, q, none⟩ = some (.slice Aw (W.drop 2).length cw) := by
            have := (ohL.cell hcsL (j := 0) rfl).1
            rw [show q * tLn.s + 0 = q from Nat.mul_one q] at this
            exact this
          have ln0 : tLn.O wr FL [.slice Aw (W.length - 2) cw] (W.drop (2 + 3 * 0)) := by
            refine ⟨Aw, cw, ?_, hcw1, hcw2, hrd, hfp⟩
            rw [List.length_drop]
          rw [List.length_drop] at cL hcw1
          have oP0 : OS tSt 44 wr GS (.slice Av k cv) ((M.stage M.headR (M.fullR hsr) Ws q).set q (M.partR hsr W 0)) := by
            rw [M.partR_zero, show (M.stage M.headR (M.fullR hsr) Ws q).set q (M.headR W) = M.stage M.headR (M.fullR hsr) Ws q from List.ext_getElem? fun i => by
              rw [List.getElem?_set]
              split
              · rename_i e; subst e
                rw [if_pos (by rw [M.stage_len]; omega), M.stage_at XW.out]
              · rfl]
            exact oS
          clear hfp hrd hcsL hoL ohL oS
          go_wp2_with fail
          obtain ⟨W8, hW8⟩ : ∃ u : World, u = wr := ⟨_, rfl⟩
          rw [← hW8] at hv oP0 oL HFS ln0 R0r F0r KC2 KF2 hsz2 hb2 ⊢
          clear hW8 cL hgL2
          clear wr
          go_loopw [12] (fun vw wr => ∃ (j : Nat) (A' : Option Addr) (c' : Nat) (G2 : Nat → Prop), vw = .slice A' (W.length - 2 - 3 * j) c' ∧ j ≤ M.cntW W ∧ W.length - 2 - 3 * j ≤ c' ∧ tLn.O wr FL [.slice A' (W.length - 2 - 3 * j) c'] (W.drop (2 + 3 * j)) ∧ wr.cell? ⟨w.heap.size + 2, 0, none⟩ = some (.slice Av k cv) ∧
              OS tSt 44 wr G2 (.slice Av k cv) ((M.stage M.headR (M.fullR hsr) Ws q).set q (M.partR hsr W j)) ∧ OS tLn 49 wr FL (.slice (some ⟨gL, 0, none⟩) k cl) (Ws.map (fun W => W.drop 2)) ∧
              Hid (∀ b, G2 b → W3.heap.size ≤ b ∧ b < wr.heap.size) ∧ Hid (∀ b, G2 b → ¬ FL b) ∧ Hid (∀ t, t < j → M.gOk W t = true) ∧
              Hid (∀ p : Addr, p.block < W3.heap.size → wr.cell? p = W8.cell? p) ∧ Hid (∀ p : Addr, p.block < W3.heap.size → wr.frozen? p = W8.frozen? p) ∧ W8.heap.size ≤ wr.heap.size ∧ Below w.heap.size w wr) (fun vw _ => slLen vw)
          case atStart => exact ⟨0, Aw, cw, GS, by simp, by omega, by omega, ln0, hv, oP0, oL, HFS, HD, Lib.hid (by omega), Lib.hid (fun _ _ => rfl), Lib.hid (fun _ _ => rfl), Nat.le_refl _, hb2⟩
          case round =>
            clear ln0 hv oP0 oL HFS HD
            obtain ⟨j, A', c', G2, rfl, hj, hc', ln, hv, oP, oL, HFS, HD, HG2, KC3, KF3, hsz3, hb3⟩ := hrel
            have R0w : wr.cell? ⟨w.heap.size, 0, none⟩ = some (.slice none 0 0) := by rw [KC3.out _ (by show w.heap.size < _; omega)]; exact R0r
            have F0w : wr.frozen? ⟨w.heap.size, 0, none⟩ = false := by rw [KF3.out _ (by show w.heap.size < _; omega)]; exact F0r
            by_cases hlt3 : j < M.cntW W
            · have hn3 : 3 ≤ W.length - 2 - 3 * j := by omega
              have ln' := ln
              obtain ⟨A1, c1, ecs, hcl1, hcl2, hrd, hfp⟩ := ln'
              simp only [List.cons.injEq, Value.slice.injEq, and_true] at ecs
              obtain ⟨rfl, eln, rfl⟩ := ecs
              obtain ⟨ad, rfl, hab, hcl⟩ := hrd.2 (by omega)
              have hFad := hfp ad (by omega) rfl
              have hsp := spot_none (hcl 0 (.string ⟨(M.wd W (2 + 3 * j + 0)).toArray⟩) (by
                rw [M.strs, List.getElem?_map, List.getElem?_drop, M.wd_at (show 2 + 3 * j + 0 < W.length by omega)]; rfl))
              have hsp' : ad = ⟨ad.block, ad.off, none⟩ := by simpa [Addr.add] using hsp
              generalize ad.block = ba at hsp' hab hFad
              generalize ad.off = oa at hsp'
              subst hsp'
              have hadS := Lib.hid (fun h : G2 ba => HD.out ba h hFad)
              have w2 : wr.cell? ⟨ba, oa + 2, none⟩ = some (.string ⟨(M.wd W (2 + 3 * j + 2)).toArray⟩) := by rw [← Addr.add_lit]; exact hcl 2 _ (by
                rw [M.strs, List.getElem?_map, List.getElem?_drop, M.wd_at (show 2 + 3 * j + 2 < W.length by omega)]; rfl)
              have w1 : wr.cell? ⟨ba, oa + 1, none⟩ = some (.string ⟨(M.wd W (2 + 3 * j + 1)).toArray⟩) := by rw [← Addr.add_lit]; exact hcl 1 _ (by
                rw [M.strs, List.getElem?_map, List.getElem?_drop, M.wd_at (show 2 + 3 * j + 1 < W.length by omega)]; rfl)
              have HND := Lib.hid (impl_num (M.wd W (2 + 3 * j + 2)) (by have := M.wd_len hwx.out (2 + 3 * j + 2); omega) wr (HL.out.on hb3))
              clear hrd hcl hfp eln hcl1 hcl2
              cases hn1 : M.num (M.wd W (2 + 3 * j + 2)) with
              | none =>
                have NO := Lib.hid (NOW.out j hlt3 (by rw [M.gOk, hn1]; rfl))
                rw [hn1] at HND
                go_wp2_with (go_at_call 44; with_reducible refine HND.out.mono ?_; rintro e u2 ⟨rfl, d2⟩; have B5 := bel_trans hb3 d2; have rR : u2.cell? ⟨w.heap.size, 0, none⟩ = some (.slice none 0 0) := (by rw [d2.cell (by show w.heap.size < _; omega)]; exact R0w); have fR : u2.frozen? ⟨w.heap.size, 0, none⟩ = false := (by rw [d2.frozen (by show w.heap.size < _; omega)]; exact F0w))
                refine bodyPost_ret (v := .tuple #[.agg #[.slice none 0 0], .bool false]) (by simp [results, Tryz.results23, go_sem, rR, fR]) rfl ?_
                rw [NO.out]
                exact ⟨_, rfl, OS.nil _ _ _ _, B5.setCell (Nat.le_refl _) _⟩
              | some g =>
                rw [hn1] at HND
                have HSR := Lib.hid (show M.sndR hsr W j = (M.named hsr ⟨(M.wd W (2 + 3 * j + 1)).toArray⟩, g) by rw [M.sndR, hn1]; rfl)
                have HG1 := Lib.hid (show M.gOk W j = true by rw [M.gOk, hn1]; rfl)
                go_wp2_with (go_at_call 44; with_reducible refine HND.out.mono ?_; rintro e u2 ⟨rfl, d2⟩; have B5 := bel_trans hb3 d2)
                have s2 := d2.size
                obtain ⟨Y, hY⟩ : ∃ Y, Y = (M.stage M.headR (M.fullR hsr) Ws q).set q (M.partR hsr W j) := ⟨_, rfl⟩
                rw [← hY] at oP
                have hYl : Y.length = k := by rw [hY, List.length_set, M.stage_len]; omega
                have hYq : Y[q]? = some (M.partR hsr W j) := by rw [hY, List.getElem?_set_self (by rw [M.stage_len]; omega)]
                have HNY := Lib.hid (show ∀ t, M.named Y t = M.named hsr t from fun t => M.named_names (by rw [hY, M.set_names (y := M.partR hsr W j) (M.stage_at XW.out) rfl, HNM.out, HHS.out]) t)
                have hYs : hM.sz Y ≤ 100000000 := by
                  have := M.fits_sz (show M.fits Ls Y by rw [hY]; exact M.fits_set (FIT.out q) X.out (M.partR_fits hwx.out hwc (by omega)))
                  omega
                have HYN := Lib.hid (show Y.set q (M.partR hsr W (j + 1)) = (M.stage M.headR (M.fullR hsr) Ws q).set q (M.partR hsr W (j + 1)) by rw [hY, List.set_set])
                clear hY
                have oP2 := oP.chg (Chg.of_below d2 (fun _ => False)) (fun _ _ h => h)
                have hR := oP2.read
                obtain ⟨css, Fs, oh, cs, hcs, ho⟩ := oP2.openAt hYq
                obtain ⟨gS, rfl, hgS, hgS2, hgS3, -⟩ := oh.form (by rw [hYl]; omega)
                obtain ⟨As, ns, cS, rfl, hzs, hsd⟩ := st_O.1 (show tSt.O u2 (Fs q) cs (⟨(M.wd W 0).toArray⟩, (M.num (M.wd W 1)).getD 0, M.sndsR hsr W j) from ho)
                obtain ⟨vs, evs, osd⟩ := hsd
                simp only [List.cons.injEq, and_true] at evs
                subst evs
                obtain ⟨As', cS', es⟩ := osd.shape
                rw [M.sndsR_len] at es
                simp only [Value.slice.injEq] at es
                obtain ⟨rfl, hnj, rfl⟩ := es
                obtain rfl : j = ns := hnj.symm
                clear hnj
                obtain ⟨cS2, fS2⟩ := oh.cell hcs (j := 2) rfl
                rw [show q * tSt.s + 2 = q * 3 + 2 from rfl] at cS2 fS2
                have HFs := Lib.hid (fun b (h : Fs q b) => show W3.heap.size ≤ b ∧ b < wr.heap.size ∧ ¬ FL b from ⟨(HFS.out b (oh.fits b h)).1, (HFS.out b (oh.fits b h)).2, HD.out b (oh.fits b h)⟩)
                have hv2 : u2.cell? ⟨w.heap.size + 2, 0, none⟩ = some (.slice (some ⟨gS, 0, none⟩) k cv) := by rw [d2.cell (by show w.heap.size + 2 < _; omega)]; exact hv
                have w1u : u2.cell? ⟨ba, oa + 1, none⟩ = some (.string ⟨(M.wd W (2 + 3 * j + 1)).toArray⟩) := by rw [d2.cell hab]; exact w1
                have m0 := ChgTo.cell (F := Fs q) hv2 (fun h => by have := (HFs.out _ h).1; simp only at this; omega)
                have m1 := ChgTo.cell (F := Fs q) cS2 hgS2
                have m2 := ChgTo.cell (F := Fs q) w1u (fun h => (HFs.out _ h).2.2 hFad)
                have DD : Below u2.heap.size u2 u2.drew := below_drewN (Below.refl _ _) 1
                have HN := Lib.hid (impl_stripNamed (some ⟨gS, 0, none⟩) k cv Y ⟨(M.wd W (2 + 3 * j + 1)).toArray⟩ u2.drew (tM.later (sl_R.2 hR) DD) hYs)
                clear w1 w2 hR
                go_wp2_with fail
                (refine wp_region_chg (Fs q) [0, 2, 3, 5, 10, 11, 14] [1, 4, 6, 7, 8, 9, 12] 6 (.one 13 (.one 15 (.one 16 (.one 17 (.first 18 (.first 19 .rest)))))) [20] [20] (by kernel_rfl) (by kernel_rfl) ?_; simp only [pickOps]; simp only [List.filterMap, List.getElem?_cons_succ, List.getElem?_cons_zero]; (repeat (go_big_quiet_step (fail))); refine wpQuiet_nil ?_; (repeat (go_big_quiet_step (fail))); refine wpQuiet_nil ?_)
                refine seqT_one2 rfl ?_
                go_wp2_with fail
                refine HN.out.mono ?_
                rintro e u3 ⟨rfl, d3⟩
                rw [HNY.out]
                have DD3 : Below u2.heap.size u2 u3 := bel_trans DD d3
                have s3 := DD3.size
                have osd3 := osd.real.chg (Chg.of_below DD3 (fun _ => False)) (fun _ _ h => h)
                have cS3 : u3.cell? ⟨gS, q * 3 + 2, none⟩ = some (.slice As j cS) := by rw [DD3.cell hgS3]; exact cS2
                have fS3 : u3.frozen? ⟨gS, q * 3 + 2, none⟩ = false := by rw [DD3.frozen hgS3]; exact fS2
                go_wp2_with fail
                refine ⟨⟨⟨u3, Chg.of_below DD3 _⟩, rfl⟩, seqT_one2 rfl ?_⟩
                go_wp2_with fail
                refine ⟨⟨⟨u3, Chg.of_below DD3 _⟩, rfl⟩, seqT_one2 rfl ?_⟩
                go_wp2_with fail
                refine ⟨⟨⟨_, Chg.of_below (bel_trans DD3 ((Below.refl _ _).alloc (Nat.le_refl _) _)) _⟩, rfl⟩, seqT_one2 rfl ?_⟩
                go_wp2_with (at_builtin; refine wpList_pushS ei_sd #[.int .i64 (M.named hsr ⟨(M.wd W (2 + 3 * j + 1)).toArray⟩), .int .i64 g] rfl _ _ rfl osd3 (Fe := fun _ => False) (y := (M.named hsr ⟨(M.wd W (2 + 3 * j + 1)).toArray⟩, g)) rfl (fun _ _ h => h) rfl rfl (by rw [M.sndsR_len]; unfold maxLen; omega) (by rw [M.sndsR_len]; omega) ?_; intro v5 w5 own5 ch5; obtain ⟨A5, c5, e5⟩ := own5.shape; rw [List.length_append, M.sndsR_len, List.length_singleton] at e5; subst e5; have cS5 : w5.cell? ⟨gS, q * 3 + 2, none⟩ = some (.slice As j cS) := (by rw [ch5.cell1 (show gS < u3.heap.size by omega) (fun h => hgS2 h.1)]; exact cS3); have fS5 : w5.frozen? ⟨gS, q * 3 + 2, none⟩ = false := (by rw [ch5.frozen1 (show gS < u3.heap.size by omega) (fun h => hgS2 h.1)]; exact fS3))
                have CH5 : Chg (Fs q) u2 w5 := (Chg.of_below DD3 _).trans (ch5.wide (fun _ h => h.1))
                refine ⟨⟨⟨w5, CH5⟩, rfl⟩, ?_⟩
                (refine seqT_first2 rfl ?_; (repeat (go_big_quiet_step (fail))); refine wpQuiet_nil ?_)
                (refine seqT_first2 rfl ?_; (repeat (go_big_quiet_step (fail))); refine wpQuiet_nil ?_)
                refine seqT_rest2 ?_
                go_wp2_with fail
                go_roundw
                case rel =>
                  obtain ⟨w6, hw6⟩ : ∃ w6, w6 = w5.setCell ⟨gS, q * 3 + 2, none⟩ (.slice A5 (j + 1) c5) := ⟨_, rfl⟩
                  have t3 : u3.heap.size ≤ w5.heap.size := ch5.size
                  have t6 : w6.heap.size = w5.heap.size := by rw [hw6]; simp
                  have CS : Chg (fun b => b = gS) w5 w6 := by rw [hw6]; exact Chg.set w5 gS (q * 3 + 2) _ rfl
                  have CHr : Chg (fun b => Fs q b ∨ b = gS) wr w6 := ((Chg.of_below d2 _).trans (CH5.wide (fun _ h => .inl h))).trans (CS.wide (fun _ h => .inr h))
                  have hG := Lib.hid (fun b (h : Fs q b ∨ b = gS) => show W3.heap.size ≤ b ∧ b < wr.heap.size ∧ ¬ FL b from by
                    rcases h with h | h
                    · exact HFs.out b h
                    · rw [h]; exact ⟨(HFS.out gS hgS).1, (HFS.out gS hgS).2, HD.out gS hgS⟩)
                  have own6 : OS tSd 47 w6 (fun b => Fs q b ∨ (u3.heap.size < b ∧ b < w5.heap.size)) (.slice A5 (j + 1) c5) (M.sndsR hsr W (j + 1)) := by
                    rw [M.sndsR_next, HSR.out]
                    refine (own5.chg CS (fun b h (h' : b = gS) => ?_)).wide (fun b h => ?_)
                    · rcases h with h | h | h
                      · exact hgS2 (h' ▸ h.1)
                      · exact h.elim
                      · omega
                    · rcases h with h | h | h
                      · exact .inl h.1
                      · exact h.elim
                      · exact .inr h
                  have hset := (oh.chg CH5).set hcs 2 (by decide) (.slice A5 (j + 1) c5)
                  rw [show q * tSt.s + 2 = q * 3 + 2 from rfl, ← hw6] at hset
                  obtain ⟨oh6, hcs6⟩ := hset
                  have st6 : tSt.O w6 (fun b => Fs q b ∨ (u3.heap.size < b ∧ b < w5.heap.size)) [.string ⟨(M.wd W 0).toArray⟩, .int .i64 ((M.num (M.wd W 1)).getD 0), .slice A5 (j + 1) c5] (M.partR hsr W (j + 1)) := (st_O (s := ⟨(M.wd W 0).toArray⟩) (l := (M.num (M.wd W 1)).getD 0) (xs := M.sndsR hsr W (j + 1))).2 ⟨A5, j + 1, c5, rfl, hzs, ⟨_, rfl, own6⟩⟩
                  have oP6 := oh6.fill2 (cs := [.string ⟨(M.wd W 0).toArray⟩, .int .i64 ((M.num (M.wd W 1)).getD 0), .slice A5 (j + 1) c5]) hcs6 st6 (fun b h => by
                    rcases h with h | h
                    · exact .inl h
                    · refine .inr fun h' => ?_
                      have := (HFS.out b h').2
                      omega)
                  rw [HYN.out] at oP6
                  have oP7 : OS tSt 44 w6 (fun b => G2 b ∨ (u3.heap.size < b ∧ b < w5.heap.size)) (.slice (some ⟨gS, 0, none⟩) k cv) ((M.stage M.headR (M.fullR hsr) Ws q).set q (M.partR hsr W (j + 1))) := by
                    exact oP6.wide (fun b h => by rcases h with h | h | h; exact .inl h; exact .inl (oh.fits b h); exact .inr h)
                  have ln6 := tLn.ochg (tLn_cut ln (k := 3) (by rw [List.length_drop]; omega)) CHr (fun b h h' => (hG.out b h').2.2 h)
                  rw [List.drop_drop] at ln6
                  have ln7 : tLn.O w6 FL [.slice (if c' = 3 then some ⟨ba, oa, none⟩ else some ⟨ba, oa + 3, none⟩) (W.length - 2 - 3 * (j + 1)) (c' - 3)] (W.drop (2 + 3 * (j + 1))) := by
                    have e1 : W.length - 2 - 3 * j - 3 = W.length - 2 - 3 * (j + 1) := by omega
                    have e2 : 2 + 3 * j + 3 = 2 + 3 * (j + 1) := by omega
                    rw [e1, e2, show (some (⟨ba, oa, none⟩ : Addr)).map (·.add 3) = some ⟨ba, oa + 3, none⟩ by simp [Addr.add]] at ln6
                    exact ln6
                  rw [← hw6]
                  refine ⟨j + 1, if c' = 3 then some ⟨ba, oa, none⟩ else some ⟨ba, oa + 3, none⟩, c' - 3, fun b => G2 b ∨ (u3.heap.size < b ∧ b < w5.heap.size), by rw [show W.length - 2 - 3 * j - 3 = W.length - 2 - 3 * (j + 1) by omega], by omega, by omega, ln7, ?_, oP7, oL.chg CHr (fun b h h' => (hG.out b h').2.2 h), Lib.hid (fun b h => ?_), Lib.hid (fun b h h' => ?_), Lib.hid (fun t ht => ?_), Lib.hid (fun p h1 => ?_), Lib.hid (fun p h1 => ?_), by omega, ?_⟩
                  · rw [CHr.cell1 (by show w.heap.size + 2 < _; omega) (fun h => by have := (hG.out _ h).1; simp only at this; omega)]
                    exact hv
                  · rcases h with h | h
                    · have := HFS.out b h; omega
                    · omega
                  · rcases h with h | h
                    · exact HD.out b h h'
                    · have h9 := (HFL.out b h').2
                      omega
                  · rcases Nat.lt_or_ge t j with h9 | h9
                    · exact HG2.out t h9
                    · obtain rfl : t = j := by omega
                      exact HG1.out
                  · rw [CHr.cell1 (by omega) (fun h => by have := (hG.out _ h).1; omega)]
                    exact KC3.out p h1
                  · rw [hw6, World.frozen?_setCell, CH5.frozen1 (by omega) (fun h => by have := (HFs.out _ h).1; omega)]
                    exact (d2.frozen (by omega)).trans (KF3.out p h1)
                  · exact hb3.trans (CHr.toBelow (fun b h => by have := (hG.out b h).1; omega) (by omega))
                case measure => simp [slLen]; omega
            · have hje : j = M.cntW W := by omega
              subst hje
              rw [show W.length - 2 - 3 * M.cntW W = 0 by omega]
              go_wp2_with fail
              go_roundw
              case rel =>
                refine ⟨q + 1, G2, by go_num, by omega, hv, ?_, oL, HFS, HD, Lib.hid (fun t W' ht hW' => ?_), Lib.hid (fun p h1 => (KC3.out p h1).trans (KC2.out p h1)), Lib.hid (fun p h1 => (KF3.out p h1).trans (KF2.out p h1)), by omega, hb3⟩
                · rw [← M.stage_next XW.out]
                  exact oP
                · rcases Nat.lt_or_ge t q with h9 | h9
                  · exact HG.out t W' h9 hW'
                  · obtain rfl : t = q := by omega
                    rw [XW.out] at hW'
                    rw [← Option.some.inj hW']
                    exact M.gOk_all HG2.out
              case measure => simp [intOf]; omega
        · have hqk : q = k := by omega
          subst hqk
          rw [M.stage_end (by omega)] at oS
          have YES := Lib.hid (show M.build M.okI Ws = some (Ws.map (M.fullR hsr)) by
            unfold M.build
            rw [if_pos, HHS.out]
            rw [List.all_eq_true]
            intro W hW
            obtain ⟨i, hi⟩ := List.getElem?_of_mem hW
            have hi2 := (List.getElem?_eq_some_iff.1 hi).1
            rw [M.okI, HH.out i W (by omega) hi, HG.out i W (by omega) hi]; rfl)
          go_wp2_with fail
          refine bodyPost_ret (v := .tuple #[.agg #[.slice Av q cv], .bool true]) (by simp [results, Tryz.results23, go_sem, R0r, F0r]) rfl ?_
          rw [YES.out]
          refine ⟨_, rfl, ?_, hb2.setCell (Nat.le_refl _) _⟩
          refine (oS.chg (Chg.set (F := fun b => b = w.heap.size) wr w.heap.size 0 _ rfl) (fun b h (h' : b = w.heap.size) => by have := (HFS.out b h).1; omega)).wide (fun b h => ?_)
          have := HFS.out b h
          exact ⟨by omega, by simpa using this.2⟩
end Go.Proofs.YtecdendjlgohjaaGreatDoor
namespace Go.Proofs.YtecdendjlgohjaaGreatDoor
open Go.RowKit Go.Sort
set_option maxHeartbeats 1000000
set_option maxRecDepth 100000
end Go.Proofs.YtecdendjlgohjaaGreatDoor
namespace Go.Proofs.YtecdendjlgohjaaGreatDoor
open Go.RowKit Go.Sort
set_option maxHeartbeats 4000000
set_option maxRecDepth 100000
end Go.Proofs.YtecdendjlgohjaaGreatDoor
namespace Go.Proofs.YtecdendjlgohjaaGreatDoor
open Go.RowKit Go.Sort
set_option maxHeartbeats 4000000
set_option maxRecDepth 100000
set_option linter.unusedVariables false
set_option linter.unusedSimpArgs false
theorem M.buildI_sz {s : List UInt8} {ms : List Strip} (h : M.build M.okI (M.linesI s) = some ms) (hs : s.length ≤ 10000000) : hM.sz ms ≤ 100000000 := by
  unfold M.build at h
  split at h
  · have e := Option.some.inj h
    have hf := M.stage_fits (Ls := M.splitBy 10 (Lib.trimSuffix s [10])) (Ws := M.linesI s) (h := M.headR) (hs := (M.linesI s).map M.headR) (i := (M.linesI s).length) (by rw [M.linesI, List.length_map]) (fun j W L hW hL => by
      rw [M.linesI, List.getElem?_map, hL] at hW
      obtain rfl := Option.some.inj hW
      exact ⟨fun y hy => M.words_len1 hy, M.words_cnt L⟩) (fun W => ⟨rfl, rfl⟩)
    rw [M.stage_end (Nat.le_refl _), e] at hf
    have h1 := M.fits_sz hf
    have h2 := M.splitBy_sum 10 (Lib.trimSuffix s [10])
    have h3 := M.splitBy_cnt 10 (Lib.trimSuffix s [10])
    have h4 := Lib.trimSuffix_le s [10]
    omega
  · cases h
theorem impl_ReadMixer (s : ByteArray) (w : World) (hs : s.size ≤ 10000000) (hL : LAD w) :
    Calls Tryz.prog 6 #[.string s] w (RetMx w (M.mixI s.data.toList)) := by
  obtain ⟨W1, hW1⟩ : ∃ W1, W1 = w.alloc (.cells #[.slice none 0 0] 24) := ⟨_, rfl⟩
  have B1 : Below w.heap.size w W1 := by rw [hW1]; exact (Below.refl _ _).alloc (Nat.le_refl _) _
  have z1 : W1.heap.size = w.heap.size + 1 := by rw [hW1]; simp
  have r0 : W1.cell? ⟨w.heap.size, 0, none⟩ = some (.slice none 0 0) := by rw [hW1]; simp [go_sem]
  have f0 : W1.frozen? ⟨w.heap.size, 0, none⟩ = false := by rw [hW1]; simp [go_sem]
  have HW1 := Lib.hid hW1
  have HRM := Lib.hid (impl_readMixer s W1 hs (hL.on B1))
  have HL := Lib.hid hL
  clear hW1 hL
  have hsl : s.data.toList.length ≤ 10000000 := by rw [← Lib.size_eq]; exact hs
  go_enter Tryz.func6, Tryz.ntmps6
  go_wp2_with fail
  rw [← HW1.out]
  refine HRM.out.mono ?_
  intro e w2 hr
  obtain ⟨v2, rfl, o2, b2⟩ := hr
  rw [z1] at o2
  have B2 := bel_trans B1 b2
  have s2 : w.heap.size + 1 ≤ w2.heap.size := by have := b2.size; omega
  have R0 : w2.cell? ⟨w.heap.size, 0, none⟩ = some (.slice none 0 0) := by rw [b2.cell (by show w.heap.size < _; omega)]; exact r0
  have F0 : w2.frozen? ⟨w.heap.size, 0, none⟩ = false := by rw [b2.frozen (by show w.heap.size < _; omega)]; exact f0
  clear r0 f0 b2 B1 z1
  cases hB : M.build M.okI (M.linesI s.data.toList) with
  | none =>
    have NO := Lib.hid (show M.mixI s.data.toList = none by rw [M.mixI, hB]; rfl)
    rw [hB] at o2
    obtain ⟨A2, c2, rfl⟩ := o2.shape
    clear hB
    have hR2 : (w2.alloc (.cells #[.slice A2 0 c2] 24)).cell? ⟨w.heap.size, 0, none⟩ = some (.slice none 0 0) := by
      rw [(show Below w2.heap.size w2 (w2.alloc (.cells #[.slice A2 0 c2] 24)) from (Below.refl _ _).alloc (Nat.le_refl _) _).cell (by show w.heap.size < _; omega)]; exact R0
    have hF2 : (w2.alloc (.cells #[.slice A2 0 c2] 24)).frozen? ⟨w.heap.size, 0, none⟩ = false := by
      rw [(show Below w2.heap.size w2 (w2.alloc (.cells #[.slice A2 0 c2] 24)) from (Below.refl _ _).alloc (Nat.le_refl _) _).frozen (by show w.heap.size < _; omega)]; exact F0
    go_wp2_with fail
    refine bodyPost_ret (v := .tuple #[.agg #[.slice none 0 0], .bool false]) (by simp [results, Tryz.results6, go_sem, hR2, hF2]) rfl ?_
    rw [NO.out]
    exact ⟨_, rfl, OS.nil _ _ _ _, (B2.alloc B2.size _).setCell (Nat.le_refl _) _⟩
  | some ms =>
    have hsz := M.buildI_sz hB hsl
    have HMI := Lib.hid (show M.mixI s.data.toList = if M.mixOk ms = true ∧ M.mxT ms ms.length = s.data.toList then some ms else none by rw [M.mixI, hB]; rfl)
    rw [hB] at o2
    rw [show (some ms).getD [] = ms from rfl] at o2
    rw [show (some ms).isSome = true from rfl]
    obtain ⟨A2, c2, rfl⟩ := o2.shape
    clear hB
    obtain ⟨U, hU⟩ : ∃ U, U = w2.alloc (.cells #[.slice A2 ms.length c2] 24) := ⟨_, rfl⟩
    have BU : Below w2.heap.size w2 U := by rw [hU]; exact (Below.refl _ _).alloc (Nat.le_refl _) _
    have zU : U.heap.size = w2.heap.size + 1 := by rw [hU]; simp
    have cU : U.cell? ⟨w2.heap.size, 0, none⟩ = some (.slice A2 ms.length c2) := by rw [hU]; simp [go_sem]
    have R1 : U.cell? ⟨w.heap.size, 0, none⟩ = some (.slice none 0 0) := by rw [BU.cell (by show w.heap.size < _; omega)]; exact R0
    have F1 : U.frozen? ⟨w.heap.size, 0, none⟩ = false := by rw [BU.frozen (by show w.heap.size < _; omega)]; exact F0
    have rm : tM.R U U.heap.size [.slice A2 ms.length c2] ms := tM.later (sl_R.2 o2.read) BU
    have BB := bel_trans B2 BU
    have HU := Lib.hid hU
    have hI := impl_isMixer A2 ms.length c2 ms U rm hsz
    clear hU
    cases hok : M.mixOk ms with
    | false =>
      have NO := Lib.hid (show M.mixI s.data.toList = none by rw [HMI.out, hok, if_neg (by simp)])
      rw [hok] at hI
      have HI := Lib.hid hI
      clear hok hI
      go_wp2_with fail
      rw [← HU.out]
      refine HI.out.mono ?_
      rintro e u1 ⟨rfl, d1⟩
      have R2 : u1.cell? ⟨w.heap.size, 0, none⟩ = some (.slice none 0 0) := by rw [d1.cell (by show w.heap.size < _; omega)]; exact R1
      have F2 : u1.frozen? ⟨w.heap.size, 0, none⟩ = false := by rw [d1.frozen (by show w.heap.size < _; omega)]; exact F1
      go_wp2_with fail
      refine bodyPost_ret (v := .tuple #[.agg #[.slice none 0 0], .bool false]) (by simp [results, Tryz.results6, go_sem, R2, F2]) rfl ?_
      rw [NO.out]
      exact ⟨_, rfl, OS.nil _ _ _ _, (bel_trans BB d1).setCell (Nat.le_refl _) _⟩
    | true =>
      rw [hok] at hI
      have HI := Lib.hid hI
      have HT : ∀ u, Below U.heap.size U u → Calls Tryz.prog 16 #[.agg #[.slice A2 ms.length c2]] u fun e w' => e = .returned (.string ⟨(M.mxT ms ms.length).toArray⟩) ∧ Below u.heap.size u w' := fun u hu => by
        have := impl_MixerText A2 ms.length c2 ms u (tM.later rm hu) hsz (HL.out.on (bel_trans BB hu)).1
        rwa [M.mixerText, if_pos hok] at this
      have HTX := Lib.hid HT
      by_cases ht : M.mxT ms ms.length = s.data.toList
      · have YES := Lib.hid (show M.mixI s.data.toList = some ms by rw [HMI.out, if_pos ⟨hok, ht⟩])
        have e1 : (M.mxT ms ms.length == s.toList) = true := by rw [ByteArray.toList_eq, ht]; exact beq_self_eq_true _
        clear hok hI ht HT
        go_wp2_with fail
        rw [← HU.out]
        refine HI.out.mono ?_
        rintro e u1 ⟨rfl, d1⟩
        have c1 : u1.cell? ⟨w2.heap.size, 0, none⟩ = some (.slice A2 ms.length c2) := by rw [d1.cell (by show w2.heap.size < _; omega)]; exact cU
        go_wp2_with fail
        refine (HTX.out u1 d1).mono ?_
        rintro e u2 ⟨rfl, d2⟩
        have D2 := bel_trans d1 d2
        have c3 : u2.cell? ⟨w2.heap.size, 0, none⟩ = some (.slice A2 ms.length c2) := by rw [D2.cell (by show w2.heap.size < _; omega)]; exact cU
        have R2 : u2.cell? ⟨w.heap.size, 0, none⟩ = some (.slice none 0 0) := by rw [D2.cell (by show w.heap.size < _; omega)]; exact R1
        have F2 : u2.frozen? ⟨w.heap.size, 0, none⟩ = false := by rw [D2.frozen (by show w.heap.size < _; omega)]; exact F1
        go_wp2_with fail
        refine bodyPost_ret (v := .tuple #[.agg #[.slice A2 ms.length c2], .bool true]) (by simp [results, Tryz.results6, go_sem, R2, F2]) rfl ?_
        rw [YES.out]
        refine ⟨_, rfl, ?_, (bel_trans BB D2).setCell (Nat.le_refl _) _⟩
        have o3 := (o2.below (bel_trans BU D2) (Nat.le_refl _)).chg (Chg.set (F := fun b => b = w.heap.size) u2 w.heap.size 0 (.slice A2 ms.length c2) rfl) (fun b h (h' : b = w.heap.size) => by have := h.1; omega)
        refine o3.iv (by omega) ?_
        have := D2.size
        simp
        omega
      · have NO := Lib.hid (show M.mixI s.data.toList = none by rw [HMI.out, if_neg (fun h => ht h.2)])
        have e1 : (M.mxT ms ms.length == s.toList) = false := by rw [ByteArray.toList_eq, beq_eq_false_iff_ne]; exact ht
        have e2 : ¬ M.mxT ms ms.length = s.toList := by rw [ByteArray.toList_eq]; exact ht
        clear hok hI ht HT
        go_wp2_with fail
        rw [← HU.out]
        refine HI.out.mono ?_
        rintro e u1 ⟨rfl, d1⟩
        have c1 : u1.cell? ⟨w2.heap.size, 0, none⟩ = some (.slice A2 ms.length c2) := by rw [d1.cell (by show w2.heap.size < _; omega)]; exact cU
        go_wp2_with fail
        refine (HTX.out u1 d1).mono ?_
        rintro e u2 ⟨rfl, d2⟩
        have D2 := bel_trans d1 d2
        have R2 : u2.cell? ⟨w.heap.size, 0, none⟩ = some (.slice none 0 0) := by rw [D2.cell (by show w.heap.size < _; omega)]; exact R1
        have F2 : u2.frozen? ⟨w.heap.size, 0, none⟩ = false := by rw [D2.frozen (by show w.heap.size < _; omega)]; exact F1
        go_wp2_with fail
        refine bodyPost_ret (v := .tuple #[.agg #[.slice none 0 0], .bool false]) (by simp [results, Tryz.results6, go_sem, R2, F2]) rfl ?_
        rw [NO.out]
        exact ⟨_, rfl, OS.nil _ _ _ _, (bel_trans BB D2).setCell (Nat.le_refl _) _⟩
end Go.Proofs.YtecdendjlgohjaaGreatDoor
namespace Go.Proofs.YtecdendjlgohjaaGreatDoor
open Go.RowKit Go.Sort
set_option maxHeartbeats 40000000
set_option maxRecDepth 100000
set_option linter.unusedVariables false
def ebL (b : Bool) : List Value := [.bool b]
theorem ebL_len (b : Bool) : (ebL b).length = 1 := rfl
theorem ei_bL : EI Tryz.prog 45 4 (.bool false) 1 1 := ⟨Tryz.underlying45, by kernel_rfl, rfl, by decide⟩
theorem core_FnAligned (A0 : Option Addr) (n0 : Nat) (c0 : Nat) (x0 : List UInt8) (w : World) (hT : LAD w) (h0 : RS tU8 w w.heap.size (.slice A0 n0 c0) x0) :
    Calls Tryz.prog 4 #[.slice A0 n0 c0] w fun e w' => e = .returned (.bool true) ∧ Below w.heap.size w w' := by
  have HT := Lib.hid hT
  clear hT
  cases hlong : decide (1048576 < n0)
  · have hlong' := Lib.hid hlong
    clear hlong
    go_enter Tryz.func4, Tryz.ntmps4
    go_wp2_with fail
    refine (laws_b10Long _ _ _ _).mono ?_
    rw [hlong'.out]
    rintro e w' ⟨rfl, rfl⟩
    go_wp2_with fail
    refine (spec_DrawDelaysOf _ _ _ _ _ h0).mono ?_
    rintro e w1 ⟨A1, c1, ms, rfl, r1, hl6, ht, b1⟩
    have hn := Lib.hid (M.tiny_sz ht.out (by omega) (by omega))
    obtain ⟨U1, hU⟩ : ∃ U, U = w1.alloc (.cells #[.slice A1 ms.length c1] 24) := ⟨_, rfl⟩
    have bU1 : Below w1.heap.size w1 U1 := by rw [hU]; exact (Below.refl _ _).alloc (Nat.le_refl _) _
    have k1 : U1.cell? ⟨w1.heap.size, 0, none⟩ = some (.slice A1 ms.length c1) := by rw [hU]; simp [go_sem]
    have l1 : w1.heap.size < U1.heap.size := by rw [hU]; simp
    have HU1 := Lib.hid hU
    clear hU
    have B1 := bel_trans b1 bU1
    have rm1 := tM.later r1 bU1
    go_wp2_with fail
    rw [← HU1.out]
    refine (impl_EntryTimes _ _ _ ms U1 rm1 hn.out).mono ?_
    rintro e w2 ⟨v2, rfl, o2, b2⟩
    have B2 := bel_trans B1 b2
    have rm2 := tM.later rm1 b2
    have k2 : w2.cell? ⟨w1.heap.size, 0, none⟩ = some (.slice A1 ms.length c1) := by rw [b2.cell l1]; exact k1
    have l2 := Nat.lt_of_lt_of_le l1 b2.size
    cases hok : M.mixOk ms
    · have R1 := Lib.hid (show M.entryR ms = ([], 1) by rw [M.entryR, hok]; rfl)
      have R2 := Lib.hid (show M.delaysR ms = ([], 1) by rw [M.delaysR, hok]; rfl)
      have R3 := Lib.hid (show M.totalR ms = (0, 1) by rw [M.totalR, hok]; rfl)
      have HOK := Lib.hid hok
      clear hok
      rw [R1.out] at o2 ⊢
      obtain ⟨A2, c2, rfl, -⟩ := o2.shape
      go_wp2_with fail
      refine (impl_DelaysOf _ _ _ ms w2 rm2 hn.out).mono ?_
      rw [R2.out]
      rintro e w3 ⟨v3, rfl, o3, b3⟩
      obtain ⟨A3, c3, rfl⟩ := o3.shape
      have B3 := bel_trans B2 b3
      have rm3 := tM.later rm2 b3
      have k3 : w3.cell? ⟨w1.heap.size, 0, none⟩ = some (.slice A1 ms.length c1) := by rw [b3.cell l2]; exact k2
      have l3 := Nat.lt_of_lt_of_le l2 b3.size
      go_wp2_with fail
      refine (impl_TotalLatency _ _ _ ms w3 rm3 hn.out).mono ?_
      rw [R3.out]
      rintro e w4 ⟨rfl, b4⟩
      have B4 := bel_trans B3 b4
      have rm4 := tM.later rm3 b4
      have k4 : w4.cell? ⟨w1.heap.size, 0, none⟩ = some (.slice A1 ms.length c1) := by rw [b4.cell l3]; exact k3
      go_wp2_with fail
      refine (spec_ValidMixer _ _ _ ms w4 rm4 hn.out).mono ?_
      rw [HOK.out]
      rintro e w5 ⟨rfl, b5⟩
      go_wp2_with fail
      go_ret
      exact ⟨rfl, bel_trans B4 b5⟩
    · have R1 := Lib.hid (show M.entryR ms = (M.entries ms, 0) by rw [M.entryR, hok]; rfl)
      have R2 := Lib.hid (show M.delaysR ms = (M.delays ms, 0) by rw [M.delaysR, hok]; rfl)
      have R3 := Lib.hid (show M.totalR ms = (M.total ms, 0) by rw [M.totalR, hok]; rfl)
      have HOK := Lib.hid hok
      have hmn := M.mix_n hok
      have HE := Lib.hid (M.entries_len ms)
      have HD := Lib.hid (M.delays_len ms)
      have HUP := Lib.hid (M.entries_upTo hok)
      clear hok
      rw [R1.out] at o2 ⊢
      obtain ⟨A2, c2, rfl, r2⟩ := o2.shape
      rw [show (M.entries ms, (0 : Int)).1 = M.entries ms from rfl, HE.out] at r2 ⊢
      obtain ⟨N, hN⟩ : ∃ N, N = ms.length := ⟨_, rfl⟩
      rw [← hN] at rm2 k2 r2 hl6 hmn ⊢
      have HLX := Lib.hid hN.symm
      have hX := Lib.hid (List.getElem?_eq_getElem (l := ms) (i := N - 1) (by omega))
      generalize ms[N - 1]'(by omega) = x at hX
      obtain ⟨s, l, us⟩ := x
      have hlat := (M.mix_strip HOK.out hX.out).1
      have hEl := Lib.hid (List.getElem?_eq_getElem (l := M.entries ms) (i := N - 1) (by rw [M.entries_len]; omega))
      generalize (M.entries ms)[N - 1]'(by rw [M.entries_len]; omega) = t at hEl
      have hbt := M.upTo_at HUP.out hEl.out
      have HT3 := Lib.hid (show M.totalR ms = (t + l, 0) by rw [R3.out, M.total, HLX.out, hEl.out, hX.out]; rfl)
      have hN0 : ¬ (N : Int) = 0 := by omega
      have hN0n : ¬ N = 0 := by omega
      have hkk : IntKind.i64.wrap ((N : Int) - 1) = ((N - 1 : Nat) : Int) := by rw [IntWalk.i64_in _ (by omega)]; omega
      have i0 : (0 : Int) ≤ ((N - 1 : Nat) : Int) := by omega
      have i1 : ((N - 1 : Nat) : Int) < (N : Int) := by omega
      have i2 : N - 1 < N := by omega
      have htl : IntKind.i64.wrap (t + l) = t + l := IntWalk.i64_in _ (by omega)
      clear hN
      go_wp2_with fail
      refine (impl_DelaysOf _ _ _ ms w2 rm2 hn.out).mono ?_
      rw [R2.out]
      rintro e w3 ⟨v3, rfl, o3, b3⟩
      have rd3 := o3.read
      obtain ⟨A3, c3, rfl⟩ := rd3.shape
      rw [show (M.delays ms, (0 : Int)).1 = M.delays ms from rfl, HD.out, HLX.out] at rd3 ⊢
      have B3 := bel_trans B2 b3
      have rm3 := tM.later rm2 b3
      have r3 := r2.later b3
      have k3 : w3.cell? ⟨w1.heap.size, 0, none⟩ = some (.slice A1 N c1) := by rw [b3.cell l2]; exact k2
      have l3 := Nat.lt_of_lt_of_le l2 b3.size
      go_wp2_with fail
      refine (impl_TotalLatency _ _ _ ms w3 rm3 hn.out).mono ?_
      rw [HT3.out]
      rintro e w4 ⟨rfl, b4⟩
      have B4 := bel_trans B3 b4
      have rm4 := tM.later rm3 b4
      have r4 := r3.later b4
      have rd4 := rd3.later b4
      have k4 : w4.cell? ⟨w1.heap.size, 0, none⟩ = some (.slice A1 N c1) := by rw [b4.cell l3]; exact k3
      have l4 := Nat.lt_of_lt_of_le l3 b4.size
      go_wp2_with fail
      refine (spec_ValidMixer _ _ _ ms w4 rm4 hn.out).mono ?_
      rw [HOK.out]
      rintro e w5 ⟨rfl, b5⟩
      have B5 := bel_trans B4 b5
      have rm5 := tM.later rm4 b5
      have r5 := r4.later b5
      have rd5 := rd4.later b5
      have k5 : w5.cell? ⟨w1.heap.size, 0, none⟩ = some (.slice A1 N c1) := by rw [b5.cell l4]; exact k4
      have l5 := Nat.lt_of_lt_of_le l4 b5.size
      clear k1 k2 k3 k4 l1 l2 l3 l4 r1 rm1 rm2 rm3 rm4 r2 r3 r4 rd3 rd4 b1 b2 b3 b4 b5 bU1 o2 o3 B1 B2 B3 B4
      have rx := sl_R.1 rm5
      obtain ⟨b, o1, cc, cs, hv, hab, -, hE, hcc⟩ := rx.atX hX.out
      simp only [Value.slice.injEq] at hv
      obtain ⟨rfl, -, rfl⟩ := hv
      obtain ⟨A9, n9, c9, rfl, -, -⟩ := st_R.1 hE
      have e1 : w5.cell? ⟨b, o1 + (N - 1) * 3 + 1, none⟩ = some (.int .i64 l) := hcc 1 _ rfl
      clear hcc hE
      obtain ⟨ad, t', rfl, hal, Z, hz⟩ := r5.at (k := N - 1) i2
      obtain rfl : t' = t := by have := Z.out; rw [hEl.out] at this; injection this with this; exact this.symm
      clear Z
      go_wp2_with fail
      refine wp_region_still_lit (by kernel_rfl) (by kernel_rfl) ?_
      iterate 31 still_step
      refine wpStill_nil ?_
      obtain ⟨w5', hv5⟩ : ∃ v : World, v = { w5 with drawn := w5.drawn + 1 } := ⟨_, rfl⟩
      have bv : Below w5.heap.size w5 w5' := by rw [hv5]; exact (Below.refl w5.heap.size w5).drew
      rw [← hv5]
      replace B5 := bel_trans B5 bv
      replace rx := rx.later bv
      replace rd5 := rd5.later bv
      replace r5 := r5.later bv
      replace k5 : w5'.cell? ⟨w1.heap.size, 0, none⟩ = some (.slice (some ⟨b, o1, none⟩) N c1) := by rw [bv.cell l5]; exact k5
      replace l5 := Nat.lt_of_lt_of_le l5 bv.size
      replace rm5 := tM.later rm5 bv
      replace hab := Nat.lt_of_lt_of_le hab bv.size
      clear hal hz e1 bv hv5
      obtain ⟨w5, hv5⟩ : ∃ v, v = w5' := ⟨_, rfl⟩
      rw [← hv5] at B5 rx rd5 r5 k5 l5 rm5 hab ⊢
      clear hv5
      go_wp2_with (at_make; refine wpList_mk ei_bL rfl _ _ rfl N _ _ rfl rfl rfl rfl (by omega) (by unfold maxLen; omega) ?_; intro w6 own6 bel6)
      have hs6 : w5.heap.size < w6.heap.size := (World.ownsRow.lt own6 _ rfl).2
      have ow6 : OA ebL 4 1 w5.heap.size (w5.heap.size + 1) w6 (.slice (some ⟨w5.heap.size, 0, none⟩) N N) (List.replicate ms.length false) := by
        rw [HLX.out]
        exact OA.made ebL_len (by decide) rfl own6 (fun k hk => by simp only [Value.ownBlock, Option.some.injEq] at hk; omega)
      have D6 := Lib.hid (M.Dir.zero ms)
      clear own6 hX hEl htl HT3 i0 i1 i2 hkk hbt hlat R1 R2 R3 hN0 hN0n HE HD HU1
      have lg : w1.heap.size < w5.heap.size := by omega
      have hd0' := Lib.hid (M.delays_at (xs := ms) (k := 0) (by rw [HLX.out]; omega))
      obtain ⟨bd, od, cd, csd, hvd, habd, -, -, -⟩ := rd5.atX hd0'.out
      simp only [Value.slice.injEq] at hvd
      obtain ⟨rfl, -, rfl⟩ := hvd
      clear hd0'
      go_loopw [12] (fun i wr => ∃ (k : Nat) (ds : List Bool), i = .int .i64 k ∧ k ≤ N ∧ Hid (M.Dir ms k 0 ds) ∧ OA ebL 4 1 w5.heap.size (w5.heap.size + 1) wr (.slice (some ⟨w5.heap.size, 0, none⟩) N N) ds ∧ Below w5.heap.size w5 wr ∧ w5.heap.size < wr.heap.size) (fun i _ => N - (intOf i).toNat)
      case atStart => exact ⟨0, _, rfl, by omega, D6, ow6, bel6, hs6⟩
      case round =>
        obtain ⟨k, ds, rfl, hk, HDir, ow, Bw, hsw⟩ := hrel
        have Bw5 : Below w5.heap.size w5 wr := Bw
        have kr : wr.cell? ⟨w1.heap.size, 0, none⟩ = some (.slice (some ⟨b, o1, none⟩) N c1) := by rw [Bw.cell (by show w1.heap.size < w5.heap.size; exact lg)]; exact k5
        by_cases hlt : k < N
        · have hX1 := Lib.hid (List.getElem?_eq_getElem (l := ms) (i := k) (by rw [HLX.out]; exact hlt))
          generalize ms[k]'(by rw [HLX.out]; exact hlt) = x at hX1
          obtain ⟨s1, y1, us1⟩ := x
          obtain ⟨b', o', cc', cs1, hv, hab1, -, hE1, hcc1⟩ := (rx.below Bw5).atX hX1.out
          simp only [Value.slice.injEq, Option.some.injEq, Addr.mk.injEq] at hv
          obtain ⟨⟨rfl, rfl, -⟩, -, rfl⟩ := hv
          obtain ⟨A4, n4, c4, rfl, hs1, hE1⟩ := st_R.1 hE1
          obtain rfl : us1.length = n4 := (sl_R.1 hE1).cap.1
          have e0 : wr.cell? ⟨b, o1 + k * 3, none⟩ = some (.string s1) := hcc1 0 _ rfl
          have e1 : wr.cell? ⟨b, o1 + k * 3 + 1, none⟩ = some (.int .i64 y1) := hcc1 1 _ rfl
          have e2 : wr.cell? ⟨b, o1 + k * 3 + 2, none⟩ = some (.slice A4 us1.length c4) := hcc1 2 _ rfl
          have hlat1 := (M.mix_strip HOK.out hX1.out).1
          have hus4 := (M.mix_strip HOK.out hX1.out).2.1
          have hdk := Lib.hid (M.delays_at (xs := ms) (k := k) (by rw [HLX.out]; exact hlt))
          obtain ⟨bd', od', cd', csd', hvd, habd', -, hEd, hccd⟩ := (rd5.below Bw5).atX hdk.out
          simp only [Value.slice.injEq, Option.some.injEq, Addr.mk.injEq] at hvd
          obtain ⟨⟨rfl, rfl, -⟩, -, rfl⟩ := hvd
          obtain ⟨vd, rfl, hrd⟩ := hEd
          obtain ⟨Ad, cdd, rfl⟩ := hrd.shape
          have hdl := M.delayRow_len hX1.out
          rw [hdl] at hrd hccd
          have f0 : wr.cell? ⟨bd, od + k, none⟩ = some (.slice Ad us1.length cdd) := by
            have h1 := hccd 0 _ rfl
            change wr.cell? ⟨bd, od + k * 1 + 0, none⟩ = _ at h1
            rw [Nat.mul_one, Nat.add_zero] at h1
            exact h1
          obtain ⟨ad1, y, had, -, Y, hy⟩ := (r5.below Bw5).at hlt
          obtain rfl := Option.some.inj had
          have by0 := M.upTo_at HUP.out Y.out
          obtain ⟨U, hU⟩ : ∃ U, U = wr.alloc (.cells #[.string s1, .int .i64 y1, .slice A4 us1.length c4] 44) := ⟨_, rfl⟩
          have GU : Below wr.heap.size wr U := by rw [hU]; exact (Below.refl _ _).alloc (Nat.le_refl _) _
          have uu1 : U.cell? ⟨wr.heap.size, 1, none⟩ = some (.int .i64 y1) := by rw [hU, cell_of_row _ wr.heap.size 1 _ 44 (0, 0) (heap_alloc_new wr _)]; rfl
          have uu2 : U.cell? ⟨wr.heap.size, 2, none⟩ = some (.slice A4 us1.length c4) := by rw [hU, cell_of_row _ wr.heap.size 2 _ 44 (0, 0) (heap_alloc_new wr _)]; rfl
          have uf : U.cell? ⟨bd, od + k, none⟩ = some (.slice Ad us1.length cdd) := by rw [GU.cell (by show bd < wr.heap.size; omega)]; exact f0
          have lU : wr.heap.size < U.heap.size := by rw [hU]; simp
          have HU := Lib.hid hU
          have owU : OA ebL 4 1 w5.heap.size (w5.heap.size + 1) U (.slice (some ⟨w5.heap.size, 0, none⟩) N N) ds := ow.below GU (by omega)
          have BU : Below w5.heap.size w5 U := Bw.trans (GU.mono (by omega))
          have hk0 : (0 : Int) ≤ (k : Int) := by omega
          have hkN : (k : Int) < (N : Int) := by omega
          have HRD := Lib.hid hrd
          have HE1 := Lib.hid hE1
          clear hU hcc1 hccd hdl hrd hE1 Bw ow
          go_wp2_with fail
          rw [← HU.out]
          go_wp2_with fail
          refine wp_region_still_lit (by kernel_rfl) (by kernel_rfl) ?_
          iterate 9 still_step
          refine wpStill_nil ?_
          obtain ⟨U', hv5⟩ : ∃ v : World, v = { U with drawn := U.drawn + 1 } := ⟨_, rfl⟩
          have bv : Below U.heap.size U U' := by rw [hv5]; exact (Below.refl U.heap.size U).drew
          rw [← hv5]
          replace uu1 : U'.cell? ⟨wr.heap.size, 1, none⟩ = some (.int .i64 y1) := by rw [bv.cell lU]; exact uu1
          replace uu2 : U'.cell? ⟨wr.heap.size, 2, none⟩ = some (.slice A4 us1.length c4) := by rw [bv.cell lU]; exact uu2
          replace uf : U'.cell? ⟨bd, od + k, none⟩ = some (.slice Ad us1.length cdd) := by rw [bv.cell (by show bd < U.heap.size; omega)]; exact uf
          replace owU : OA ebL 4 1 w5.heap.size (w5.heap.size + 1) U' (.slice (some ⟨w5.heap.size, 0, none⟩) N N) ds := owU.below bv (by omega)
          replace BU : Below w5.heap.size w5 U' := BU.trans (bv.mono (by omega))
          replace GU : Below wr.heap.size wr U' := GU.trans (bv.mono (by omega))
          replace lU := Nat.lt_of_lt_of_le lU bv.size
          clear bv hv5
          obtain ⟨U, hv5⟩ : ∃ v : World, v = U' := ⟨_, rfl⟩
          rw [← hv5] at uu1 uu2 uf owU BU GU lU ⊢
          clear hv5
          go_wp2_with fail
          obtain ⟨wo, rfl⟩ : ∃ wo : World, wo = wr := ⟨_, rfl⟩
          go_loopw [14] (fun i wr => ∃ (j : Nat) (ds1 : List Bool), i = .int .i64 j ∧ j ≤ us1.length ∧ Hid (M.Dir ms k j ds1) ∧ OA ebL 4 1 w5.heap.size (w5.heap.size + 1) wr (.slice (some ⟨w5.heap.size, 0, none⟩) N N) ds1 ∧ Mid w5.heap.size (w5.heap.size + 1) U wr) (fun i _ => us1.length - (intOf i).toNat)
          case atStart => exact ⟨0, ds, rfl, by omega, HDir, owU, Mid.refl _ _ _⟩
          case round =>
            obtain ⟨j, ds1, rfl, hj, HDj, owx, mx⟩ := hrel
            have BX : Below w5.heap.size w5 wr := BU.trans (mx.toBelow (by omega))
            have BX5 : Below w5.heap.size w5 wr := BX
            have BXr : Below w5.heap.size wo wr := (GU.mono (by omega)).trans (mx.toBelow (by omega))
            have hsx := mx.size
            have p1 : wr.cell? ⟨wo.heap.size, 1, none⟩ = some (.int .i64 y1) := mx.cellK lU (.inr (by omega)) uu1
            have p2 : wr.cell? ⟨wo.heap.size, 2, none⟩ = some (.slice A4 us1.length c4) := mx.cellK lU (.inr (by omega)) uu2
            by_cases hlt2 : j < us1.length
            · have p3 : wr.cell? ⟨bd, od + k, none⟩ = some (.slice Ad us1.length cdd) := mx.cellK (by omega) (.inl (by omega)) uf
              obtain ⟨b2, o2, ⟨p0, pg⟩, rfl, hab2, X2, hdd⟩ := ((tSdS_ra HE1.out).1.below BXr).at sd_len (by decide) hlt2
              have g0 : wr.cell? ⟨b2, o2 + j * 2, none⟩ = some (.int .i64 p0) := hdd 0 _ rfl
              have ht := M.to_of HOK.out hX1.out X2.out
              obtain ⟨q, rfl⟩ : ∃ q : Nat, p0 = q := ⟨p0.toNat, ht.2.2⟩
              rw [Int.toNat_natCast] at ht
              have hqN : q < N := by have := HLX.out; omega
              obtain ⟨ad2, z, had, -, Zq, hzq⟩ := (r5.below BX5).at hqN
              obtain rfl := Option.some.inj had
              obtain ⟨ad3, y', had, -, Y', hy'⟩ := (r5.below BX5).at hlt
              obtain rfl := Option.some.inj had
              obtain rfl : y' = y := by have := Y'.out; rw [Y.out] at this; injection this with this; exact this.symm
              have bz0 := M.upTo_at HUP.out Zq.out
              obtain ⟨ad4, dv, hAd, -, Dv, hdv⟩ := (HRD.out.ri.below BXr).at hlt2
              subst hAd
              have hdve : dv = z - y' - y1 := by
                have h1 := Dv.out
                rw [M.delayRow_at hX1.out X2.out Zq.out Y.out] at h1
                injection h1 with h1
                exact h1.symm
              have hge : y' + y1 ≤ z := by
                have h1 := M.al_ge HOK.out hX1.out X2.out
                rw [Int.toNat_natCast] at h1
                unfold M.g_ at h1
                rw [Y.out, Zq.out] at h1
                exact h1
              have hd0 : ¬ dv < 0 := by omega
              have hw1 : IntKind.i64.wrap (y' + y1) = y' + y1 := IntWalk.i64_in _ (by omega)
              have hw2 : IntKind.i64.wrap (y' + y1 + dv) = z := by rw [IntWalk.i64_in _ (by omega)]; omega
              have hq2 : q < ds1.length := by rw [HDj.out.len, HLX.out]; exact hqN
              have hD := Lib.hid (List.getElem?_eq_getElem hq2)
              generalize ds1[q] = d at hD
              have cd1 := (OA.cell ebL_len owx hD.out (j := 0) rfl).1
              have cd2 := (OA.cell ebL_len owx hD.out (j := 0) rfl).2
              rw [Nat.mul_one, Nat.add_zero] at cd1 cd2
              have hj0 : (0 : Int) ≤ (j : Int) := by omega
              have hju : (j : Int) < (us1.length : Int) := by omega
              have hq0 : (0 : Int) ≤ (q : Int) := by omega
              have hqn2 : (q : Int) < (N : Int) := by omega
              have HDE := Lib.hid (show (decide (dv = 0)) = true ↔ M.g_ (M.entries ms) k + y1 = M.g_ (M.entries ms) q by
                unfold M.g_
                rw [Y.out, Zq.out, decide_eq_true_eq]
                show dv = 0 ↔ y' + y1 = z
                omega)
              have HDS := Lib.hid (HDj.out.send hX1.out X2.out (by rw [HLX.out]; exact hqN) hD.out HDE.out)
              clear hdd hdve hge HDE Dv Zq Y' ht bz0 hq2
              go_wp2_with fail
              refine wp_region_still_lit (by kernel_rfl) (by kernel_rfl) ?_
              iterate 35 still_step
              refine wpStill_nil ?_
              change Exit.then _ _ _ _ wr.drew
              obtain ⟨W, hWd⟩ : ∃ v, v = wr.drew := ⟨_, rfl⟩
              rw [← hWd]
              replace p2 : W.cell? ⟨wo.heap.size, 2, none⟩ = some (.slice (some ⟨b2, o2, none⟩) us1.length c4) := by rw [hWd]; exact p2
              replace p3 : W.cell? ⟨bd, od + k, none⟩ = some (.slice (some ad4) us1.length cdd) := by rw [hWd]; exact p3
              replace g0 : W.cell? ⟨b2, o2 + j * 2, none⟩ = some (.int .i64 (q : Int)) := by rw [hWd]; exact g0
              replace hdv : W.cell? (ad4.add j) = some (.int .i64 dv) := by rw [hWd]; exact hdv
              replace cd1 : W.cell? ⟨w5.heap.size, q, none⟩ = some (.bool d) := by rw [hWd]; exact cd1
              replace cd2 : W.frozen? ⟨w5.heap.size, q, none⟩ = false := by rw [hWd]; exact cd2
              have bdd : Below wr.heap.size wr W.drew := by rw [hWd]; exact (Below.refl _ _).drew.drew
              have owdd := owx.below bdd (by omega)
              have hset : ∀ v : Bool, OA ebL 4 1 w5.heap.size (w5.heap.size + 1) (W.drew.setCell ⟨w5.heap.size, q, none⟩ (.bool v)) (.slice (some ⟨w5.heap.size, 0, none⟩) N N) (ds1.set q v) ∧ Mid w5.heap.size (w5.heap.size + 1) wr (W.drew.setCell ⟨w5.heap.size, q, none⟩ (.bool v)) := fun v => by
                have h1 := OA.set ebL_len owdd hD.out (j := 0) (by decide) (y := v) (u := .bool v) rfl
                rw [Nat.mul_one, Nat.add_zero] at h1
                exact ⟨h1.1, (Mid.of_below bdd _ _).trans h1.2⟩
              have HSET := Lib.hid hset
              clear hset bdd owdd hWd p1 hy' hzq
              cases d
              · have HQ := Lib.hid (show M.Dir ms k (j + 1) (ds1.set q (dv == 0)) from HDS.out)
                go_wp2_with fail
                refine wp_region_still_tail 26 (by kernel_rfl) (by kernel_rfl) ?_
                simp only [List.take_succ_cons, List.take_zero, List.drop_succ_cons, List.drop_zero]
                iterate 16 still_step
                have HCD := Lib.hid cd1
                clear cd1
                iterate 10 still_step
                refine wpStill_nil ?_
                change wpList _ _ _ _ _ W.drew
                have cd1 := HCD.out
                go_wp2_with fail
                go_roundw
                case rel => exact ⟨j + 1, ds1.set q (dv == 0), by go_num, by omega, HQ, (HSET.out (dv == 0)).1, mx.trans (HSET.out (dv == 0)).2⟩
                case measure => simp [intOf]; omega
              · have HQ := Lib.hid (show M.Dir ms k (j + 1) (ds1.set q true) from HDS.out)
                go_wp2_with fail
                refine wp_region_still_tail 26 (by kernel_rfl) (by kernel_rfl) ?_
                simp only [List.take_succ_cons, List.take_zero, List.drop_succ_cons, List.drop_zero]
                iterate 16 still_step
                have HCD := Lib.hid cd1
                clear cd1
                iterate 10
                  with_reducible refine wpStill_step (fun K hK => ?_)
                  go_simp
                  with_reducible refine hK _ ?_
                  clear hK K
                with_reducible refine wpStill_nil ?_
                change wpList _ _ _ _ _ W.drew
                have cd1 := HCD.out
                go_wp2_with fail
                go_roundw
                case rel => exact ⟨j + 1, ds1.set q true, by go_num, by omega, HQ, (HSET.out true).1, mx.trans (HSET.out true).2⟩
                case measure => simp [intOf]; omega
            · go_wp2_with fail
              go_roundw
              case rel => exact ⟨k + 1, ds1, by go_num, by omega, Lib.hid (HDj.out.next hX1.out (by omega)), owx, BX, by omega⟩
              case measure => simp [intOf]; omega
        · obtain rfl : k = N := by omega
          obtain ⟨X, rfl⟩ : ∃ X : World, X = wr := ⟨_, rfl⟩
          clear hlt hk
          go_wp2_with fail
          go_loopw [15] (fun i wr => ∃ t : Nat, i = .int .i64 t ∧ t ≤ k ∧ Below X.heap.size X wr) (fun i _ => k - (intOf i).toNat)
          case atStart => exact ⟨0, rfl, by omega, Below.refl _ _⟩
          case round =>
            obtain ⟨t, rfl, htk, BY⟩ := hrel
            have BY5 : Below w5.heap.size w5 wr := Bw5.trans (BY.mono (by have := Bw5.size; omega))
            have kr2 : wr.cell? ⟨w1.heap.size, 0, none⟩ = some (.slice (some ⟨b, o1, none⟩) k c1) := by rw [BY.cell (by show w1.heap.size < _; omega)]; exact kr
            by_cases hlt : t < k
            · go_wp2_with fail
              obtain ⟨wo, rfl⟩ : ∃ wo : World, wo = wr := ⟨_, rfl⟩
              go_loopw [16, 17] (fun sv kv wr => ∃ (q : Nat) (sb : Bool), sv = .bool sb ∧ kv = .int .i64 q ∧ q ≤ t ∧ Hid (sb = true ↔ M.sntS ms q 0 t) ∧ Below X.heap.size X wr) (fun _ kv _ => t - (intOf kv).toNat)
              case atStart => exact ⟨0, false, rfl, rfl, by omega, Lib.hid ⟨fun e => (by cases e), fun e => absurd e (M.snt_zero ms t)⟩, BY⟩
              case round =>
                obtain ⟨q, sb, rfl, rfl, hqt, HS, BZ⟩ := hrel
                have BZ5 : Below w5.heap.size w5 wr := Bw5.trans (BZ.mono (by have := Bw5.size; omega))
                have kr3 : wr.cell? ⟨w1.heap.size, 0, none⟩ = some (.slice (some ⟨b, o1, none⟩) k c1) := by rw [BZ.cell (by show w1.heap.size < _; omega)]; exact kr
                by_cases hlq : q < t
                · have hX1 := Lib.hid (List.getElem?_eq_getElem (l := ms) (i := q) (by rw [HLX.out]; omega))
                  generalize ms[q]'(by rw [HLX.out]; omega) = x at hX1
                  obtain ⟨s1, y1, us1⟩ := x
                  have hqk : (q : Int) < (k : Int) := by omega
                  go_wp2_with fail
                  obtain ⟨wo2, rfl⟩ : ∃ wo : World, wo = wr := ⟨_, rfl⟩
                  go_loopw [16, 18] (fun sv jv wr => ∃ (j : Nat) (sb : Bool), sv = .bool sb ∧ jv = .int .i64 j ∧ j ≤ us1.length ∧ Hid (sb = true ↔ M.sntS ms q j t) ∧ Below X.heap.size X wr) (fun _ jv _ => us1.length - (intOf jv).toNat)
                  case atStart => exact ⟨0, sb, rfl, rfl, by omega, HS, BZ⟩
                  case round =>
                    clear HS
                    obtain ⟨j, sb, rfl, rfl, hju, HS, BV⟩ := hrel
                    have BV5 : Below w5.heap.size w5 wr := Bw5.trans (BV.mono (by have := Bw5.size; omega))
                    have kr4 : wr.cell? ⟨w1.heap.size, 0, none⟩ = some (.slice (some ⟨b, o1, none⟩) k c1) := by rw [BV.cell (by show w1.heap.size < _; omega)]; exact kr
                    obtain ⟨b', o', cc', cs1, hv, hab1, -, hE1, hcc1⟩ := (rx.below BV5).atX hX1.out
                    simp only [Value.slice.injEq, Option.some.injEq, Addr.mk.injEq] at hv
                    obtain ⟨⟨rfl, rfl, -⟩, -, rfl⟩ := hv
                    obtain ⟨A4, n4, c4, rfl, -, hE1⟩ := st_R.1 hE1
                    obtain rfl : us1.length = n4 := (sl_R.1 hE1).cap.1
                    have hu4 := (M.mix_strip HOK.out hX1.out).2.1
                    have e2 : wr.cell? ⟨b, o1 + q * 3 + 2, none⟩ = some (.slice A4 us1.length c4) := hcc1 2 _ rfl
                    clear hcc1
                    by_cases hlj : j < us1.length
                    · obtain ⟨b2, o2, ⟨p0, pg⟩, rfl, hab2, X2, hdd⟩ := ((tSdS_ra hE1).1).at sd_len (by decide) hlj
                      have g0 : wr.cell? ⟨b2, o2 + j * 2, none⟩ = some (.int .i64 p0) := hdd 0 _ rfl
                      have HN := Lib.hid (M.snt_send (q := t) hX1.out X2.out)
                      clear hdd hE1
                      have hju1 : (j : Int) < (us1.length : Int) := by omega
                      cases sb
                      · by_cases hpt : p0 = (t : Int)
                        · have HS2 := Lib.hid (show true = true ↔ M.sntS ms q (j + 1) t from ⟨fun _ => HN.out.2 (.inr hpt), fun _ => rfl⟩)
                          subst hpt
                          go_wp2_with fail
                          go_roundw
                          case rel => exact ⟨j + 1, true, by first | rfl | simp, by go_num, by omega, HS2, BV⟩
                          case measure => simp [intOf]; omega
                        · have HS2 := Lib.hid (show false = true ↔ M.sntS ms q (j + 1) t from ⟨fun e => (by cases e), fun e => by
                            rcases HN.out.1 e with h | h
                            · exact HS.out.2 h
                            · exact absurd h hpt⟩)
                          have hptb : (p0 == (t : Int)) = false := by simpa using hpt
                          go_wp2_with fail
                          go_roundw
                          case rel => exact ⟨j + 1, false, by first | rfl | simp [hpt], by go_num, by omega, HS2, BV⟩
                          case measure => simp [intOf]; omega
                      · have HS2 := Lib.hid (show true = true ↔ M.sntS ms q (j + 1) t from ⟨fun _ => HN.out.2 (.inl (HS.out.1 rfl)), fun _ => rfl⟩)
                        go_wp2_with fail
                        go_roundw
                        case rel => exact ⟨j + 1, true, rfl, by go_num, by omega, HS2, BV⟩
                        case measure => simp [intOf]; omega
                    · have HS2 := Lib.hid (show sb = true ↔ M.sntS ms (q + 1) 0 t from HS.out.trans (M.snt_next hX1.out (by omega)))
                      go_wp2_with fail
                      go_roundw
                      case rel => exact ⟨q + 1, sb, rfl, by go_num, by omega, HS2, BV⟩
                      case measure => simp [intOf]; omega
                · obtain rfl : q = t := by omega
                  have owr := ow.below (BZ.mono (by omega)) (Nat.le_refl _)
                  have hq2 : q < ds.length := by rw [HDir.out.len, HLX.out]; exact hlt
                  have hD := Lib.hid (List.getElem?_eq_getElem hq2)
                  generalize ds[q] = d at hD
                  have cd1 := (OA.cell ebL_len owr hD.out (j := 0) rfl).1
                  rw [Nat.mul_one, Nat.add_zero] at cd1
                  obtain ⟨ad1, y, had, -, Y, hy⟩ := (r5.below BZ5).at hlt
                  obtain rfl := Option.some.inj had
                  obtain ⟨rfl, hz⟩ := M.snt_dir HOK.out (show M.Dir ms ms.length 0 ds by rw [HLX.out]; exact HDir.out) (by rw [HLX.out]; exact hlt) HS.out hD.out
                  have hy0 : sb = false → y = 0 := fun e => by
                    have h1 := hz e
                    unfold M.g_ at h1
                    rw [Y.out] at h1
                    exact h1
                  have hqk : (q : Int) < (k : Int) := by omega
                  clear hz
                  cases sb
                  · obtain rfl := hy0 rfl
                    go_wp2_with fail
                    go_roundw
                    case rel => exact ⟨q + 1, by go_num, by omega, BZ⟩
                    case measure => simp [intOf]; omega
                  · go_wp2_with fail
                    go_roundw
                    case rel => exact ⟨q + 1, by go_num, by omega, BZ⟩
                    case measure => simp [intOf]; omega
            · obtain rfl : t = k := by omega
              have rmY : tM.R wr wr.heap.size [.slice (some ⟨b, o1, none⟩) t c1] ms := tM.later rm5 (Bw5.trans (BY.mono (by have := Bw5.size; omega)))
              have HX := Lib.hid (show M.mixI (⟨(M.mixerText ms).toArray⟩ : ByteArray).data.toList = some ms by
                rw [show (⟨(M.mixerText ms).toArray⟩ : ByteArray).data.toList = M.mixerText ms by simp, M.mixerText, if_pos HOK.out]
                exact M.mixI_text HOK.out)
              have HZ := Lib.hid (show (⟨(M.mixerText ms).toArray⟩ : ByteArray).size ≤ 10000000 by
                rw [M.size_mk, M.mixerText, if_pos HOK.out]
                have := M.mxT_le HOK.out ms.length (Nat.le_refl _)
                have := HLX.out
                omega)
              have BT : Below w.heap.size w wr := bel_trans B5 BY5
              have lY : w1.heap.size < wr.heap.size := by have := BY5.size; omega
              go_wp2_with fail
              refine (impl_MixerText _ _ _ ms wr rmY hn.out (HT.out.on BT).1).mono ?_
              rintro e v1 ⟨rfl, a1⟩
              have A1' := bel_trans BT a1
              go_wp2_with fail
              refine (impl_ReadMixer _ v1 HZ.out (HT.out.on A1')).mono ?_
              rw [HX.out]
              intro e v2 hr2
              obtain ⟨vb, rfl, ob, a2⟩ := hr2
              obtain ⟨Ab, cb, rfl⟩ := ob.shape
              have rb := ob.read
              rw [show (some ms).getD [] = ms from rfl, HLX.out] at rb ⊢
              have A2' := bel_trans A1' a2
              obtain ⟨V2, hV⟩ : ∃ U, U = v2.alloc (.cells #[.slice Ab t cb] 24) := ⟨_, rfl⟩
              have bV : Below v2.heap.size v2 V2 := by rw [hV]; exact (Below.refl _ _).alloc (Nat.le_refl _) _
              have q2 : V2.cell? ⟨v2.heap.size, 0, none⟩ = some (.slice Ab t cb) := by rw [hV]; simp [go_sem]
              have HV := Lib.hid hV
              have kv2 : v2.cell? ⟨w1.heap.size, 0, none⟩ = some (.slice (some ⟨b, o1, none⟩) t c1) := by rw [a2.cell (Nat.lt_of_lt_of_le lY a1.size), a1.cell lY]; exact kr2
              have lv2 : w1.heap.size < v2.heap.size := Nat.lt_of_lt_of_le (Nat.lt_of_lt_of_le lY a1.size) a2.size
              have kV : V2.cell? ⟨w1.heap.size, 0, none⟩ = some (.slice (some ⟨b, o1, none⟩) t c1) := by rw [bV.cell lv2]; exact kv2
              have rmV : tM.R V2 V2.heap.size [.slice (some ⟨b, o1, none⟩) t c1] ms := tM.later rmY (bel_trans (bel_trans a1 a2) bV)
              have rbV : tM.R V2 V2.heap.size [.slice Ab t cb] ms := tM.later (sl_R.2 rb) bV
              clear hV
              go_wp2_with fail
              rw [← HV.out]
              refine (spec_SameMixer _ _ _ _ _ _ ms ms V2 rbV rmV hn.out hn.out).mono ?_
              rw [decide_eq_true rfl]
              rintro e v3 ⟨rfl, a3⟩
              go_wp2_with fail
              go_ret
              exact ⟨rfl, bel_trans A2' (bel_trans bV a3)⟩
  · go_enter Tryz.func4, Tryz.ntmps4
    go_wp2_with fail
    refine (laws_b10Long _ _ _ _).mono ?_
    rw [hlong]
    rintro e w' ⟨rfl, rfl⟩
    go_wp2
    go_ret
    exact ⟨rfl, Below.refl _ _⟩
end Go.Proofs.YtecdendjlgohjaaGreatDoor
