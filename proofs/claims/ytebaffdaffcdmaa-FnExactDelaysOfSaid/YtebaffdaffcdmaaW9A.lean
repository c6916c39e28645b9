import Derived.Test.YtebaffdaffcdmaaW94
import Derived.Deep.RegionHeld3
namespace Go.Proofs.Ytebaffdaffcdmaa
open Go.RowKit
set_option maxHeartbeats 4000000
set_option maxRecDepth 100000
theorem OS.made0 {α : Type} (t : Ty α) (e : TypeId) (w : World) : OS t e (w.alloc (.cells #[] e)) (Iv w.heap.size (w.alloc (.cells #[] e)).heap.size) (.slice (some ⟨w.heap.size, 0, none⟩) 0 0) [] :=
  ⟨[], fun _ _ => False, World.ownsRow_made _ _ _ (Nat.zero_le _) (by simp [maxLen]) (by simp), rfl, fun g hg => by simp only [Value.ownBlock, Option.some.injEq] at hg; subst hg; exact ⟨Nat.le_refl _, by simp⟩, fun _ _ h => h.elim, fun _ _ _ _ h => h.elim, fun k h => by simp at h⟩
theorem ei_S : EI Try.prog 47 41 (.slice none 0 0) 1 24 := ⟨Try.underlying47, by kernel_rfl, rfl, by decide⟩
theorem cl_SS (x : List (List Int)) : hSS.cnt x ≤ hSS.sz x := by
  show hS.cntL x ≤ x.length + hS.szL x
  have : hS.cntL x ≤ hS.szL x := by
    induction x with
    | nil => exact Nat.le_refl _
    | cons y ys ih =>
      rw [Hs.cntL, Hs.szL, hS_cnt, hS_sz]
      omega
  omega
def RetSS (w : World) (r : List (List Int) × Int) (en : Ending) (w' : World) : Prop :=
  ∃ v, en = .returned (.tuple #[v, .int .i64 r.2]) ∧ OS tS 41 w' (Iv w.heap.size w'.heap.size) v r.1 ∧ Below w.heap.size w w'
theorem retSS_nf {w w' : World} {r : List (List Int) × Int} {en : Ending} (h : RetSS w r en w') :
    ∃ A n c, en = .returned (.tuple #[.slice A n c, .int .i64 r.2]) ∧ tSS.O w' (Iv w.heap.size w'.heap.size) [.slice A n c] r.1 ∧ Below w.heap.size w w' := by
  obtain ⟨v, rfl, own, bel⟩ := h
  obtain ⟨A, c, rfl⟩ := own.shape
  exact ⟨_, _, _, rfl, sl_O.2 own, bel⟩
theorem Iv.apart {a b c d : Nat} (h : b ≤ c) : ∀ k, Iv a b k → ¬ Iv c d k := fun k h1 h2 => by have := h1.2; have := h2.1; omega
theorem Iv.grow {a b c d : Nat} (h1 : a ≤ b) (h2 : b ≤ c) (h3 : c ≤ d) : ∀ k, (Iv a b k ∨ Iv b c k ∨ c < k ∧ k < d) → Iv a d k := by
  intro k h
  unfold Iv at *
  omega
/-- The delay of one send of strip k. -/
def M.delayOf (es : List Int) (k : Nat) (l : Int) (p : Int × Int) : Int := (es[p.1.toNat]?).getD 0 - (es[k]?).getD 0 - l
def M.delayRow (xs : List Strip) (k : Nat) : List Int := ((xs[k]?).getD M.sz).2.2.map (M.delayOf (M.entries xs) k ((xs[k]?).getD M.sz).2.1)
def M.delays (xs : List Strip) : List (List Int) := (List.range xs.length).map (M.delayRow xs)
def M.delaysR (xs : List Strip) : List (List Int) × Int := if M.mixOk xs then (M.delays xs, 0) else ([], 1)
theorem M.delays_len (xs : List Strip) : (M.delays xs).length = xs.length := by simp [M.delays]
theorem M.delays_at {xs : List Strip} {k : Nat} (h : k < xs.length) : (M.delays xs)[k]? = some (M.delayRow xs k) := by simp [M.delays, h]
theorem M.delayRow_len {xs : List Strip} {k : Nat} {s : ByteArray} {l : Int} {us : List (Int × Int)} (h : xs[k]? = some (s, l, us)) : (M.delayRow xs k).length = us.length := by simp [M.delayRow, h]
theorem M.delayRow_at {xs : List Strip} {k : Nat} {s : ByteArray} {l : Int} {us : List (Int × Int)} (h : xs[k]? = some (s, l, us)) {j q : Nat} {g x y : Int} (hj : us[j]? = some ((q : Int), g)) (hx : (M.entries xs)[q]? = some x) (hy : (M.entries xs)[k]? = some y) : (M.delayRow xs k)[j]? = some (x - y - l) := by
  simp [M.delayRow, h, hj, M.delayOf, hx, hy]
theorem impl_delays (A : Option Addr) (n c : Nat) (xs : List Strip) (w : World) (hx : tM.R w w.heap.size [.slice A n c] xs) (hok : M.mixOk xs = true) :
    Calls Try.prog 57 #[.agg #[.slice A n c]] w fun e w' => ∃ v, e = .returned v ∧ OS tS 41 w' (Iv w.heap.size w'.heap.size) v (M.delays xs) ∧ Below w.heap.size w w' := by
  have rx := sl_R.1 hx
  have hlx := rx.cap.1
  have hmn := M.mix_n hok
  have hnb : 1 ≤ n ∧ n ≤ 8 := by omega
  have HLX := Lib.hid hlx
  have HOK := Lib.hid hok
  have hel := M.entries_len xs
  rw [hlx] at hel
  have HEL := Lib.hid hel
  have HUP := Lib.hid (M.entries_upTo hok)
  have hdl : (M.delays xs).length = n := by rw [M.delays_len]; exact hlx
  have HDL := Lib.hid hdl
  obtain ⟨W, hW⟩ : ∃ W, W = w.alloc (.cells #[.slice A n c] 29) := ⟨_, rfl⟩
  have B0 : Below w.heap.size w W := by rw [hW]; exact (Below.refl _ _).alloc (Nat.le_refl _) _
  have hself : W.cell? ⟨w.heap.size, 0, none⟩ = some (.slice A n c) := by rw [hW]; simp [go_sem]
  have lx : w.heap.size < W.heap.size := by rw [hW]; simp
  have hxW := tM.later hx B0
  have HW := Lib.hid hW
  clear hlx hmn hok hel hdl hW
  go_enter Try.func57, Try.ntmps57
  go_wp2_with fail
  rw [← HW.out]
  go_wp2_with (go_at_call 54; refine (impl_entries _ _ _ _ _ hxW HOK.out).mono ?_; rintro e w3 ⟨v3, rfl, own3, bel3⟩; obtain ⟨A3, c3, rfl, -⟩ := own3.shape; rw [HEL.out] at own3 ⊢; obtain ⟨g, rfl, hg1, hg2⟩ := own3.form' (show 0 < n by omega); have hs3 : w3.cell? ⟨w.heap.size, 0, none⟩ = some (.slice A n c) := (by rw [bel3.cell lx]; exact hself); have lw3 : w.heap.size < w3.heap.size := Nat.lt_of_lt_of_le lx bel3.size)
  have B03 : Below w.heap.size w w3 := bel_trans B0 bel3
  have hw3 := B03.size
  clear bel3 hself B0 hxW
  go_loopw [4, 5, 6, 7, 9, 16, 25] (fun v _ _ _ _ i _ wr => ∃ k : Nat, i = .int .i64 k ∧ k ≤ n ∧ OS tS 41 wr (Iv w3.heap.size wr.heap.size) v ((M.delays xs).take k) ∧ Below w3.heap.size w3 wr) (fun _ _ _ _ _ i _ _ => n - (intOf i).toNat)
  case atStart => exact ⟨0, rfl, by omega, OS.made0 _ _ _, (Below.refl _ _).alloc (Nat.le_refl _) _⟩
  case round =>
    obtain ⟨k, rfl, hk, own, Bw⟩ := hrel
    have hsb := Bw.size
    have BW := bel_trans B03 Bw
    have hpl : ((M.delays xs).take k).length ≤ 8 := by rw [List.length_take]; omega
    by_cases hlt : k < n
    · have hX := Lib.hid (List.getElem?_eq_getElem (l := xs) (i := k) (by rw [HLX.out]; exact hlt))
      obtain ⟨b, o1, cc, cs, hv, hab, -, hE, hcc⟩ := (rx.below BW).atX hX.out
      simp only [Value.slice.injEq] at hv
      obtain ⟨rfl, -, rfl⟩ := hv
      generalize xs[k]'(by rw [HLX.out]; exact hlt) = x at hX hE
      obtain ⟨s, l, us⟩ := x
      obtain ⟨A2, n2, c2, rfl, -, hE⟩ := st_R.1 hE
      have e0 : wr.cell? ⟨b, o1 + k * 3, none⟩ = some (.string s) := hcc 0 _ rfl
      have e1 : wr.cell? ⟨b, o1 + k * 3 + 1, none⟩ = some (.int .i64 l) := hcc 1 _ rfl
      have e2 : wr.cell? ⟨b, o1 + k * 3 + 2, none⟩ = some (.slice A2 n2 c2) := hcc 2 _ rfl
      have hbr : b < wr.heap.size := Nat.lt_of_lt_of_le hab BW.size
      have rs := (tSdS_ra hE).1
      have hn2 := rs.1
      obtain ⟨hlat, hu4, hsb2⟩ := M.mix_strip HOK.out hX.out
      have HSB := Lib.hid hsb2
      have n2b : n2 ≤ 4 := by omega
      have hkn2 : (k : Int) < (n : Int) := by omega
      have hrl : (M.delayRow xs k).length = n2 := by rw [M.delayRow_len hX.out]; exact hn2
      have HRL := Lib.hid hrl
      have hpt := Lib.hid (M.take_at (M.delays_at (xs := xs) (k := k) (by rw [HLX.out]; exact hlt)))
      clear hcc hE hn2 hu4 hsb2 hrl
      go_wp2
      obtain ⟨wo, rfl⟩ : ∃ wo : World, wo = wr := ⟨_, rfl⟩
      obtain ⟨U, hU⟩ : ∃ U, U = wo.alloc (.cells #[.string s, .int .i64 l, .slice A2 n2 c2] 57) := ⟨_, rfl⟩
      rw [← hU]
      have BUo : Below wo.heap.size wo U := by rw [hU]; exact (Below.refl _ _).alloc (Nat.le_refl _) _
      have HSU : U.heap.size = wo.heap.size + 1 := by rw [hU]; simp
      have lb : U.cell? ⟨wo.heap.size, 1, none⟩ = some (.int .i64 l) := by rw [hU, cell_of_row _ wo.heap.size 1 _ 57 (0, 0) (heap_alloc_new wo _)]; rfl
      have own0 := OI.made 2 U
      have BU0 : Below U.heap.size U (U.alloc (.cells #[] 2)) := (Below.refl _ _).alloc (Nat.le_refl _) _
      rw [HSU] at own0
      go_loopw [7, 9, 25] (fun v _ i wr => ∃ j : Nat, i = .int .i64 j ∧ j ≤ n2 ∧ OI 2 (wo.heap.size + 1) wr v ((M.delayRow xs k).take j) ∧ Below (wo.heap.size + 1) U wr) (fun _ _ i _ => n2 - (intOf i).toNat)
      case atStart => exact ⟨0, rfl, by omega, own0, by rw [← HSU]; exact BU0⟩
      case round =>
        obtain ⟨j, rfl, hj, ownj, BU⟩ := hrel
        have hszj : wo.heap.size + 1 ≤ wr.heap.size := by have := BU.size; omega
        have Bo : Below wo.heap.size wo wr := BUo.trans (BU.mono (Nat.le_succ _))
        have lj : wr.cell? ⟨wo.heap.size, 1, none⟩ = some (.int .i64 l) := by rw [BU.cell (Nat.lt_succ_self _)]; exact lb
        have ownE := own3.below (Bw.trans (Bo.mono hsb))
        have hpj : ((M.delayRow xs k).take j).length ≤ 4 := by rw [List.length_take]; omega
        by_cases hlt2 : j < n2
        · obtain ⟨b2, o2, ⟨p0, p1⟩, rfl, hab2, X2, hdd⟩ := (rs.below (Bo.mono BW.size)).at sd_len (by decide) hlt2
          have f0 : wr.cell? ⟨b2, o2 + j * 2, none⟩ = some (.int .i64 p0) := hdd 0 _ rfl
          have f1 : wr.cell? ⟨b2, o2 + j * 2 + 1, none⟩ = some (.int .i64 p1) := hdd 1 _ rfl
          obtain ⟨hp1, hp2, -⟩ := M.sends_at HSB.out X2.out
          obtain ⟨q, rfl⟩ : ∃ q : Nat, p0 = q := ⟨p0.toNat, by omega⟩
          have hqn : q < n := by have := HLX.out; omega
          have hqn2 : (q : Int) < (n : Int) := by omega
          obtain ⟨x, hxx, cx, -, -, gw⟩ := ownE.at' hqn
          obtain ⟨y, hyy, cy, -, -, -⟩ := ownE.at' hlt
          have bx := M.upTo_at HUP.out hxx.out
          have by_ := M.upTo_at HUP.out hyy.out
          have hP := Lib.hid (M.take_at (M.delayRow_at hX.out X2.out hxx.out hyy.out))
          have w1_ : IntKind.i64.wrap (x - y) = x - y := IntWalk.i64_in _ (by omega)
          have w2_ : IntKind.i64.wrap (x - y - l) = x - y - l := IntWalk.i64_in _ (by omega)
          clear hdd hp1 hp2
          obtain ⟨V, hV⟩ : ∃ V, V = wr.alloc (.cells #[.int .i64 (q : Int), .int .i64 p1] 71) := ⟨_, rfl⟩
          have G0 : Below wr.heap.size wr V := by rw [hV]; exact (Below.refl _ _).alloc (Nat.le_refl _) _
          have u0 : V.cell? ⟨wr.heap.size, 0, none⟩ = some (.int .i64 (q : Int)) := by rw [hV, cell_of_row _ wr.heap.size 0 _ 71 (0, 0) (heap_alloc_new wr _)]; rfl
          have ux : V.cell? ⟨g, q, none⟩ = some (.int .i64 x) := by rw [G0.cell gw]; exact cx
          have uy : V.cell? ⟨g, k, none⟩ = some (.int .i64 y) := by rw [G0.cell gw]; exact cy
          have ul : V.cell? ⟨wo.heap.size, 1, none⟩ = some (.int .i64 l) := by rw [G0.cell (show (⟨wo.heap.size, 1, none⟩ : Addr).block < _ from hszj)]; exact lj
          have ownV := ownj.below G0
          have lV : wr.heap.size < V.heap.size := by rw [hV]; simp
          have HV := Lib.hid hV
          have hsV := G0.size
          have BA : ∀ us, Below V.heap.size V (V.alloc (.cells us 2)).drew := fun us => ((Below.refl _ _).alloc (Nat.le_refl _) _).drew
          have gV : g < V.heap.size := by omega
          have oV : wo.heap.size < V.heap.size := by omega
          have gB : g < wo.heap.size + 1 := by omega
          have oB : wo.heap.size < wo.heap.size + 1 := Nat.lt_succ_self _
          have ownV0 : V.ownsRow (wo.heap.size + 1) 2 1 _ ((M.delayRow xs k).take j).length (((M.delayRow xs k).take j).map (.int .i64)) := ownV
          have c1_ : ((M.delayRow xs k).take j).length + 1 ≤ maxLen := by unfold maxLen; omega
          have c2_ : (((M.delayRow xs k).take j).length + 1) * 8 ≤ 140737488355328 := by omega
          have c3_ : wo.heap.size + 1 ≤ V.heap.size := by omega
          clear hV
          go_wp2
          rw [← HV.out]
          have hne : ∀ {v : Value}, OI 2 (wo.heap.size + 1) wr v ((M.delayRow xs k).take j) → v.ownBlock ≠ some wr.heap.size := fun h h2 => Nat.lt_irrefl _ (World.ownsRow.lt h _ h2).2
          go_region_held3 (fun w' => w'.cell? ⟨wr.heap.size, 0, none⟩ = some (.int .i64 (q : Int)) ∧ w'.cell? ⟨g, q, none⟩ = some (.int .i64 x) ∧ w'.cell? ⟨g, k, none⟩ = some (.int .i64 y) ∧ w'.cell? ⟨wo.heap.size, 1, none⟩ = some (.int .i64 l))
            (first | exact ⟨u0, ux, uy, ul⟩ | exact ⟨((BA _).cell lV).trans u0, ((BA _).cell gV).trans ux, ((BA _).cell gV).trans uy, ((BA _).cell oV).trans ul⟩ | exact ⟨z0, z1, z2, z3⟩)
            (first | (refine step_push1 (o := ⟨some 44, _, _, _, _, _⟩) ei_i64 rfl (.tmp 29) (.tmp 43) rfl (World.ownsRow.drew (World.ownsRow.alloc ownV0 _)) rfl rfl (cell_alloc1 _ _ _) rfl c1_ c2_ (base_alloc c3_) ?_; intro v1 w1 own1 gr1 bel1; have z0 : w1.cell? ⟨wr.heap.size, 0, none⟩ = some (.int .i64 (q : Int)) := (by rw [World.cell?_of_block (gr1.block wr.heap.size (Nat.lt_of_lt_of_le lV (BA _).size) (hne ownj).symm), (BA _).cell (show (⟨wr.heap.size, 0, none⟩ : Addr).block < _ from lV)]; exact u0); have z1 : w1.cell? ⟨g, q, none⟩ = some (.int .i64 x) := (by rw [bel1.cell (show (⟨g, q, none⟩ : Addr).block < _ from gB), (BA _).cell (show (⟨g, q, none⟩ : Addr).block < _ from gV)]; exact ux); have z2 : w1.cell? ⟨g, k, none⟩ = some (.int .i64 y) := (by rw [bel1.cell (show (⟨g, k, none⟩ : Addr).block < _ from gB), (BA _).cell (show (⟨g, k, none⟩ : Addr).block < _ from gV)]; exact uy); have z3 : w1.cell? ⟨wo.heap.size, 1, none⟩ = some (.int .i64 l) := (by rw [bel1.cell (show (⟨wo.heap.size, 1, none⟩ : Addr).block < _ from oB), (BA _).cell (show (⟨wo.heap.size, 1, none⟩ : Addr).block < _ from oV)]; exact ul)))
          go_wp2
          go_roundw
          case rel => exact ⟨j + 1, by go_num, by omega, by rw [hP.out]; exact OI.push own1, ((BU.trans (G0.mono hszj)).trans ((BA _).mono c3_)).trans bel1⟩
          case measure => simp [intOf]; omega
        · obtain rfl : j = n2 := by omega
          rw [List.take_of_length_le (by rw [HRL.out]; exact Nat.le_refl _)] at ownj
          obtain ⟨A4, c4, rfl, -⟩ := ownj.shape
          have ow := own.below Bo (Nat.le_refl _)
          have os2 := tS_O.2 (OI.os (OI.base ownj (show wo.heap.size ≤ _ by omega)))
          have s2 := Bo.size
          go_wp2_with (at_builtin; refine wpList_pushS ei_S #[.slice A4 (M.delayRow xs k).length c4] rfl _ _ rfl ow os2 (Iv.apart (Nat.le_refl _)) rfl rfl (by unfold maxLen; omega) (by omega) ?_; intro v3 w4 own4 ch4)
          go_roundw
          case rel =>
            refine ⟨k + 1, by go_num, by omega, ?_, (Bw.trans (Bo.mono hsb)).trans (ch4.toBelow (fun b hb => hb.1) (by omega))⟩
            rw [hpt.out]
            exact own4.wide (Iv.grow hsb s2 ch4.size)
          case measure => simp [intOf]; omega
    · obtain rfl : k = n := by omega
      go_wp2
      go_ret
      rw [List.take_of_length_le (by rw [HDL.out]; exact Nat.le_refl _)] at own
      exact ⟨_, rfl, own.wide (fun b hb => ⟨Nat.le_trans hw3 hb.1, hb.2⟩), BW⟩
theorem spec_l26Delays (vb : Nat) (A : Option Addr) (n c : Nat) (xs : List Strip) (w : World) (hv0 : w.cell? ⟨vb, 0, none⟩ = some (.slice A n c)) (hx : tM.R w w.heap.size [.slice A n c] xs) (hok : M.mixOk xs = true) :
    Calls Try.prog 56 #[.pointer (some ⟨vb, 0, none⟩)] w fun e w' => ∃ v, e = .returned v ∧ OS tS 41 w' (Iv w.heap.size w'.heap.size) v (M.delays xs) ∧ Below w.heap.size w w' := by
  have hvb : vb < w.heap.size := World.block_lt_of_cell? w _ hv0
  have rx := sl_R.1 hx
  have hlx := rx.cap.1
  have hmn := M.mix_n hok
  have hnb : 1 ≤ n ∧ n ≤ 8 := by omega
  have HLX := Lib.hid hlx
  have HOK := Lib.hid hok
  have hel := M.entries_len xs
  rw [hlx] at hel
  have HEL := Lib.hid hel
  have HUP := Lib.hid (M.entries_upTo hok)
  have hdl : (M.delays xs).length = n := by rw [M.delays_len]; exact hlx
  have HDL := Lib.hid hdl
  clear hlx hmn hok hel hdl
  go_enter Try.func56, Try.ntmps56
  go_wp2_with (go_at_call 53; refine (spec_l26Entries _ _ _ _ _ _ hv0 hx HOK.out).mono ?_; rintro e w3 ⟨v3, rfl, own3, bel3⟩; obtain ⟨A3, c3, rfl, -⟩ := own3.shape; rw [HEL.out] at own3 ⊢; obtain ⟨g, rfl, hg1, hg2⟩ := own3.form' (show 0 < n by omega))
  have B03 := bel3
  have hw3 := B03.size
  clear bel3
  go_loopw [4, 5, 6, 7, 8] (fun v i _ _ _ wr => ∃ k : Nat, i = .int .i64 k ∧ k ≤ n ∧ OS tS 41 wr (Iv w3.heap.size wr.heap.size) v ((M.delays xs).take k) ∧ Below w3.heap.size w3 wr) (fun _ i _ _ _ _ => n - (intOf i).toNat)
  case atStart => exact ⟨0, rfl, by omega, OS.made0 _ _ _, (Below.refl _ _).alloc (Nat.le_refl _) _⟩
  case round =>
    obtain ⟨k, rfl, hk, own, Bw⟩ := hrel
    have hsb := Bw.size
    have BW := bel_trans B03 Bw
    have hpl : ((M.delays xs).take k).length ≤ 8 := by rw [List.length_take]; omega
    have c0 : wr.cell? ⟨vb, 0, none⟩ = some (.slice A n c) := by rw [BW.cell hvb]; exact hv0
    by_cases hlt : k < n
    · have hX := Lib.hid (List.getElem?_eq_getElem (l := xs) (i := k) (by rw [HLX.out]; exact hlt))
      obtain ⟨b, o1, cc, cs, hv, hab, -, hE, hcc⟩ := (rx.below BW).atX hX.out
      simp only [Value.slice.injEq] at hv
      obtain ⟨rfl, -, rfl⟩ := hv
      generalize xs[k]'(by rw [HLX.out]; exact hlt) = x at hX hE
      obtain ⟨s, l, us⟩ := x
      obtain ⟨A2, n2, c2, rfl, -, hE⟩ := st_R.1 hE
      have e0 : wr.cell? ⟨b, o1 + k * 3, none⟩ = some (.string s) := hcc 0 _ rfl
      have e1 : wr.cell? ⟨b, o1 + k * 3 + 1, none⟩ = some (.int .i64 l) := hcc 1 _ rfl
      have e2 : wr.cell? ⟨b, o1 + k * 3 + 2, none⟩ = some (.slice A2 n2 c2) := hcc 2 _ rfl
      have hbr : b < wr.heap.size := Nat.lt_of_lt_of_le hab BW.size
      have rs := (tSdS_ra hE).1
      have hn2 := rs.1
      obtain ⟨hlat, hu4, hsb2⟩ := M.mix_strip HOK.out hX.out
      have HSB := Lib.hid hsb2
      have n2b : n2 ≤ 4 := by omega
      have hkn2 : (k : Int) < (n : Int) := by omega
      have hrl : (M.delayRow xs k).length = n2 := by rw [M.delayRow_len hX.out]; exact hn2
      have HRL := Lib.hid hrl
      have hpt := Lib.hid (M.take_at (M.delays_at (xs := xs) (k := k) (by rw [HLX.out]; exact hlt)))
      clear hcc hE hn2 hu4 hsb2 hrl
      go_wp2
      obtain ⟨wo, rfl⟩ : ∃ wo : World, wo = wr := ⟨_, rfl⟩
      go_loopw [7, 8] (fun v i wr => ∃ j : Nat, i = .int .i64 j ∧ j ≤ n2 ∧ OI 2 wo.heap.size wr v ((M.delayRow xs k).take j) ∧ Below wo.heap.size wo wr) (fun _ i _ => n2 - (intOf i).toNat)
      case atStart => exact ⟨0, rfl, by omega, OI.made _ _, (Below.refl _ _).alloc (Nat.le_refl _) _⟩
      case round =>
        obtain ⟨j, rfl, hj, ownj, Bo⟩ := hrel
        have hszj : wo.heap.size ≤ wr.heap.size := Bo.size
        have g1 : wr.cell? ⟨b, o1 + k * 3 + 1, none⟩ = some (.int .i64 l) := by rw [Bo.cell hbr]; exact e1
        have g2 : wr.cell? ⟨b, o1 + k * 3 + 2, none⟩ = some (.slice A2 n2 c2) := by rw [Bo.cell hbr]; exact e2
        have ownE := own3.below (Bw.trans (Bo.mono hsb))
        have hpj : ((M.delayRow xs k).take j).length ≤ 4 := by rw [List.length_take]; omega
        by_cases hlt2 : j < n2
        · obtain ⟨b2, o2, ⟨p0, p1⟩, rfl, hab2, X2, hdd⟩ := (rs.below (Bo.mono BW.size)).at sd_len (by decide) hlt2
          have f0 : wr.cell? ⟨b2, o2 + j * 2, none⟩ = some (.int .i64 p0) := hdd 0 _ rfl
          have f1 : wr.cell? ⟨b2, o2 + j * 2 + 1, none⟩ = some (.int .i64 p1) := hdd 1 _ rfl
          obtain ⟨hp1, hp2, -⟩ := M.sends_at HSB.out X2.out
          obtain ⟨q, rfl⟩ : ∃ q : Nat, p0 = q := ⟨p0.toNat, by omega⟩
          have hqn : q < n := by have := HLX.out; omega
          have hqn2 : (q : Int) < (n : Int) := by omega
          obtain ⟨x, hxx, cx, -, -, gw⟩ := ownE.at' hqn
          obtain ⟨y, hyy, cy, -, -, -⟩ := ownE.at' hlt
          have bx := M.upTo_at HUP.out hxx.out
          have by_ := M.upTo_at HUP.out hyy.out
          have hP := Lib.hid (M.take_at (M.delayRow_at hX.out X2.out hxx.out hyy.out))
          have w1_ : IntKind.i64.wrap (x - y) = x - y := IntWalk.i64_in _ (by omega)
          have w2_ : IntKind.i64.wrap (x - y - l) = x - y - l := IntWalk.i64_in _ (by omega)
          clear hdd hp1 hp2
          have hb2w : b2 < wr.heap.size := Nat.lt_of_lt_of_le hab2 (Nat.le_trans BW.size Bo.size)
          have BA : ∀ us, Below wr.heap.size wr (wr.alloc (.cells us 2)).drew := fun us => ((Below.refl _ _).alloc (Nat.le_refl _) _).drew
          have gV : g < wr.heap.size := by omega
          have gB : g < wo.heap.size := by omega
          have bV : b < wr.heap.size := by omega
          have hbo : b < wo.heap.size := hbr
          have hb2o : b2 < wo.heap.size := Nat.lt_of_lt_of_le hab2 BW.size
          have ownV0 : wr.ownsRow wo.heap.size 2 1 _ ((M.delayRow xs k).take j).length (((M.delayRow xs k).take j).map (.int .i64)) := ownj
          have c1_ : ((M.delayRow xs k).take j).length + 1 ≤ maxLen := by unfold maxLen; omega
          have c2_ : (((M.delayRow xs k).take j).length + 1) * 8 ≤ 140737488355328 := by omega
          go_wp2
          go_region_held3 (fun w' => w'.cell? ⟨b, o1 + k * 3 + 2, none⟩ = some (.slice (some ⟨b2, o2, none⟩) n2 c2) ∧ w'.cell? ⟨b2, o2 + j * 2, none⟩ = some (.int .i64 (q : Int)) ∧ w'.cell? ⟨g, q, none⟩ = some (.int .i64 x) ∧ w'.cell? ⟨g, k, none⟩ = some (.int .i64 y) ∧ w'.cell? ⟨b, o1 + k * 3 + 1, none⟩ = some (.int .i64 l))
            (first | exact ⟨g2, f0, cx, cy, g1⟩ | exact ⟨((BA _).cell bV).trans g2, ((BA _).cell hb2w).trans f0, ((BA _).cell gV).trans cx, ((BA _).cell gV).trans cy, ((BA _).cell bV).trans g1⟩ | exact ⟨z1, z2, z3, z4, z5⟩)
            (first | (refine step_push1 (o := ⟨some 60, _, _, _, _, _⟩) ei_i64 rfl (.tmp 37) (.tmp 59) rfl (World.ownsRow.drew (World.ownsRow.alloc ownV0 _)) rfl rfl (cell_alloc1 _ _ _) rfl c1_ c2_ (base_alloc hszj) ?_; intro v1 w1 own1 gr1 bel1; have z1 : w1.cell? ⟨b, o1 + k * 3 + 2, none⟩ = some (.slice (some ⟨b2, o2, none⟩) n2 c2) := (by rw [bel1.cell (show (⟨b, o1 + k * 3 + 2, none⟩ : Addr).block < _ from hbo), (BA _).cell (show (⟨b, o1 + k * 3 + 2, none⟩ : Addr).block < _ from bV)]; exact g2); have z2 : w1.cell? ⟨b2, o2 + j * 2, none⟩ = some (.int .i64 (q : Int)) := (by rw [bel1.cell (show (⟨b2, o2 + j * 2, none⟩ : Addr).block < _ from hb2o), (BA _).cell (show (⟨b2, o2 + j * 2, none⟩ : Addr).block < _ from hb2w)]; exact f0); have z3 : w1.cell? ⟨g, q, none⟩ = some (.int .i64 x) := (by rw [bel1.cell (show (⟨g, q, none⟩ : Addr).block < _ from gB), (BA _).cell (show (⟨g, q, none⟩ : Addr).block < _ from gV)]; exact cx); have z4 : w1.cell? ⟨g, k, none⟩ = some (.int .i64 y) := (by rw [bel1.cell (show (⟨g, k, none⟩ : Addr).block < _ from gB), (BA _).cell (show (⟨g, k, none⟩ : Addr).block < _ from gV)]; exact cy); have z5 : w1.cell? ⟨b, o1 + k * 3 + 1, none⟩ = some (.int .i64 l) := (by rw [bel1.cell (show (⟨b, o1 + k * 3 + 1, none⟩ : Addr).block < _ from hbo), (BA _).cell (show (⟨b, o1 + k * 3 + 1, none⟩ : Addr).block < _ from bV)]; exact g1)))
          go_wp2
          go_roundw
          case rel => exact ⟨j + 1, by go_num, by omega, by rw [hP.out]; exact OI.push own1, (Bo.trans ((BA _).mono hszj)).trans bel1⟩
          case measure => simp [intOf]; omega
        · obtain rfl : j = n2 := by omega
          rw [List.take_of_length_le (by rw [HRL.out]; exact Nat.le_refl _)] at ownj
          obtain ⟨A4, c4, rfl, -⟩ := ownj.shape
          have ow := own.below Bo (Nat.le_refl _)
          have os2 := tS_O.2 (OI.os (OI.base ownj (show wo.heap.size ≤ _ by omega)))
          have s2 := Bo.size
          go_wp2_with (at_builtin; refine wpList_pushS ei_S #[.slice A4 (M.delayRow xs k).length c4] rfl _ _ rfl ow os2 (Iv.apart (Nat.le_refl _)) rfl rfl (by unfold maxLen; omega) (by omega) ?_; intro v3 w4 own4 ch4)
          go_roundw
          case rel =>
            refine ⟨k + 1, by go_num, by omega, ?_, (Bw.trans (Bo.mono hsb)).trans (ch4.toBelow (fun b hb => hb.1) (by omega))⟩
            rw [hpt.out]
            exact own4.wide (Iv.grow hsb s2 ch4.size)
          case measure => simp [intOf]; omega
    · obtain rfl : k = n := by omega
      go_wp2
      go_ret
      rw [List.take_of_length_le (by rw [HDL.out]; exact Nat.le_refl _)] at own
      exact ⟨_, rfl, own.wide (fun b hb => ⟨Nat.le_trans hw3 hb.1, hb.2⟩), BW⟩
theorem impl_DelaysOf (A : Option Addr) (n c : Nat) (xs : List Strip) (w : World) (hx : tM.R w w.heap.size [.slice A n c] xs) (hn : hM.sz xs ≤ 100000000) :
    Calls Try.prog 33 #[.agg #[.slice A n c]] w (RetSS w (M.delaysR xs)) := by
  have hb : Below w.heap.size w (w.alloc (.cells #[.slice A n c] 29)) := (Below.refl _ _).alloc (Nat.le_refl _) _
  have hx2 := tM.later hx hb
  have hself : (w.alloc (.cells #[.slice A n c] 29)).cell? ⟨w.heap.size, 0, none⟩ = some (.slice A n c) := by simp [go_sem]
  have hsz : (w.alloc (.cells #[.slice A n c] 29)).heap.size = w.heap.size + 1 := by simp
  have HSZ := Lib.hid hsz
  clear hsz
  cases hM : M.mixOk xs
  · have R := Lib.hid (show M.delaysR xs = ([], 1) by rw [M.delaysR, hM]; rfl)
    have HM := Lib.hid hM
    clear hM
    go_enter Try.func33, Try.ntmps33
    go_wp2_with (go_at_call 43; refine (impl_isMixer _ _ _ _ _ hx2 hn).mono ?_; rw [HM.out]; rintro e w2 ⟨rfl, bel2⟩; have hv2 : w2.cell? ⟨w.heap.size, 0, none⟩ = some (.slice A n c) := (by rw [bel2.cell (by rw [HSZ.out]; simp)]; exact hself))
    go_ret2
    rw [R.out]
    exact ⟨_, rfl, OS.nil _ _ _ _, bel_trans hb bel2⟩
  · have R := Lib.hid (show M.delaysR xs = (M.delays xs, 0) by rw [M.delaysR, hM]; rfl)
    have HM := Lib.hid hM
    clear hM
    go_enter Try.func33, Try.ntmps33
    go_wp2_with (first | (go_at_call 43; refine (impl_isMixer _ _ _ _ _ hx2 hn).mono ?_; rw [HM.out]; rintro e w2 ⟨rfl, bel2⟩; have hv2 : w2.cell? ⟨w.heap.size, 0, none⟩ = some (.slice A n c) := (by rw [bel2.cell (by rw [HSZ.out]; simp)]; exact hself)) | (go_at_call 57; refine (impl_delays _ _ _ _ _ (tM.later hx2 bel2) HM.out).mono ?_; rintro e w3 ⟨v3, rfl, own3, bel3⟩))
    go_ret2
    rw [R.out]
    have B2 := bel_trans hb bel2
    have hs := B2.size
    exact ⟨_, rfl, own3.wide (fun b hb => ⟨Nat.le_trans hs hb.1, hb.2⟩), bel_trans B2 bel3⟩
theorem spec_DelaysOf (A : Option Addr) (n c : Nat) (xs : List Strip) (w : World) (hx : tM.R w w.heap.size [.slice A n c] xs) (hn : hM.sz xs ≤ 100000000) :
    Calls Try.prog 32 #[.agg #[.slice A n c]] w (RetSS w (M.delaysR xs)) := by
  have hb : Below w.heap.size w (w.alloc (.cells #[.slice A n c] 29)) := (Below.refl _ _).alloc (Nat.le_refl _) _
  have hx2 := tM.later hx hb
  have hself : (w.alloc (.cells #[.slice A n c] 29)).cell? ⟨w.heap.size, 0, none⟩ = some (.slice A n c) := by simp [go_sem]
  have hsz : (w.alloc (.cells #[.slice A n c] 29)).heap.size = w.heap.size + 1 := by simp
  have HSZ := Lib.hid hsz
  clear hsz
  cases hM : M.mixOk xs
  · have R := Lib.hid (show M.delaysR xs = ([], 1) by rw [M.delaysR, hM]; rfl)
    have HM := Lib.hid hM
    clear hM
    go_enter Try.func32, Try.ntmps32
    go_wp2_with (go_at_call 42; refine (spec_l26Ok _ _ _ _ _ _ hself hx2 hn).mono ?_; rw [HM.out]; rintro e w2 ⟨rfl, bel2⟩; have hv2 : w2.cell? ⟨w.heap.size, 0, none⟩ = some (.slice A n c) := (by rw [bel2.cell (by rw [HSZ.out]; simp)]; exact hself))
    go_ret2
    rw [R.out]
    exact ⟨_, rfl, OS.nil _ _ _ _, bel_trans hb bel2⟩
  · have R := Lib.hid (show M.delaysR xs = (M.delays xs, 0) by rw [M.delaysR, hM]; rfl)
    have HM := Lib.hid hM
    clear hM
    go_enter Try.func32, Try.ntmps32
    go_wp2_with (first | (go_at_call 42; refine (spec_l26Ok _ _ _ _ _ _ hself hx2 hn).mono ?_; rw [HM.out]; rintro e w2 ⟨rfl, bel2⟩; have hv2 : w2.cell? ⟨w.heap.size, 0, none⟩ = some (.slice A n c) := (by rw [bel2.cell (by rw [HSZ.out]; simp)]; exact hself)) | (go_at_call 56; refine (spec_l26Delays _ _ _ _ _ _ hv2 (tM.later hx2 bel2) HM.out).mono ?_; rintro e w3 ⟨v3, rfl, own3, bel3⟩))
    go_ret2
    rw [R.out]
    have B2 := bel_trans hb bel2
    have hs := B2.size
    exact ⟨_, rfl, own3.wide (fun b hb => ⟨Nat.le_trans hs hb.1, hb.2⟩), bel_trans B2 bel3⟩
theorem M.delaysR_len (xs : List Strip) : (M.delaysR xs).1.length ≤ 8 ∧ ∀ r ∈ (M.delaysR xs).1, r.length ≤ 4 := by
  unfold M.delaysR
  split
  · rename_i h
    refine ⟨by show (M.delays xs).length ≤ 8; rw [M.delays_len]; exact (M.mix_n h).2, fun r hr => ?_⟩
    obtain ⟨k, hk, rfl⟩ := List.mem_map.1 hr
    have hk' := List.mem_range.1 hk
    have hX : xs[k]? = some xs[k] := List.getElem?_eq_getElem hk'
    generalize xs[k] = x at hX
    obtain ⟨s, l, us⟩ := x
    rw [M.delayRow_len hX]
    exact (M.mix_strip h hX).2.1
  · exact ⟨by simp, fun r hr => by simp at hr⟩
theorem szL_le {b : Nat} : ∀ {x : List (List Int)}, (∀ r ∈ x, r.length ≤ b) → hS.szL x ≤ x.length * b
  | [], _ => Nat.zero_le _
  | y :: ys, h => by
    rw [Hs.szL, hS_sz, List.length_cons, Nat.succ_mul]
    have h1 := h y (by simp)
    have h2 := szL_le (x := ys) (fun r hr => h r (by simp [hr]))
    omega
theorem M.delaysR_sz (xs : List Strip) : hSS.sz (M.delaysR xs).1 ≤ 100 := by
  obtain ⟨h1, h2⟩ := M.delaysR_len xs
  have h3 := szL_le h2
  show (M.delaysR xs).1.length + hS.szL (M.delaysR xs).1 ≤ 100
  omega
end Go.Proofs.Ytebaffdaffcdmaa
