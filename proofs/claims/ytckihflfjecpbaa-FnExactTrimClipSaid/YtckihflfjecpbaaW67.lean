import Derived.Test.YtckihflfjecpbaaW66
import Derived.Shelf.Spec.SlicesInsert
import Derived.Lib.AppendZerosOnto
import Derived.Laws.NewBlocks
namespace Go.Proofs.Ytckihflfjecpbaa
open Go.RowKit Go.Lib
set_option maxHeartbeats 4000000
set_option maxRecDepth 100000
theorem run_copy_wide {P : Program} (w : World) (dT sT ty elem : TypeId) (z b o dLen dCap : Nat) (a : Addr) (sLen sCap : Nat) (cs : List Value)
    (hu : P.underlying dT = some (.slice elem)) (hs : (P.info? elem).map (·.size) = some z) (hn : cs.length = Nat.min sLen dLen * z)
    (hsrc : ∀ j v, cs[j]? = some v → w.cell? (a.add j) = some v) (hc : ∀ j, j < cs.length → (w.cell? ⟨b, o + j, none⟩).isSome = true) (hf : ∀ j, j < cs.length → w.frozen? ⟨b, o + j, none⟩ = false) (h1 : ∀ v ∈ cs, v.oneCell' = true) :
    (Builtin.copy_ #[dT, sT] ty #[.slice (some ⟨b, o, none⟩) dLen dCap, .slice (some a) sLen sCap]).run P w = .ok (goInt (Nat.min sLen dLen)) (w.setCells b o cs) := by
  have hl := run_loadCells_list (P := P) w a cs hsrc
  have hst := run_storeCells_cells (P := P) b o cs 0 w (by simpa using hc) (by simpa using hf) h1
  cases hq : P.info? elem with
  | none => simp [hq] at hs
  | some i =>
    have hi : i.size = z := by simpa [hq] using hs
    simp [Builtin.copy_, run_underlying hu, Builtin.lenOf, Builtin.firstCells, sizeOf, typeInfo, hq, hi, ← hn, hl, hst]
theorem own_spread {base s n cap g : Nat} {e : TypeId} {cs : List Value} {w : World} (h : w.ownsRow base e s (.slice (some ⟨g, 0, none⟩) n cap) n cs) {k : Nat} (hk : n ≤ k) (hc : k ≤ cap) :
    ∃ ds : List Value, ds.length = (k - n) * s ∧ w.ownsRow base e s (.slice (some ⟨g, 0, none⟩) k cap) k (cs ++ ds) := by
  rcases h.2 with ⟨h', _⟩ | ⟨g', cap', cur, h', hb, hg, hnc, hcm, hcs, htake⟩
  · simp at h'
  · simp only [Value.slice.injEq, Option.some.injEq, Addr.mk.injEq, and_true, true_and] at h'
    obtain ⟨rfl, rfl⟩ := h'
    have hks : n * s ≤ k * s := Nat.mul_le_mul_right _ hk
    have hkc : k * s ≤ cap * s := Nat.mul_le_mul_right _ hc
    have hl : cur.toList.length = cap * s := by simpa using hcs
    have e0 : cs ++ (cur.toList.take (k * s)).drop (n * s) = cur.toList.take (k * s) := by
      rw [← htake, show cur.toList.take (n * s) = (cur.toList.take (k * s)).take (n * s) by rw [List.take_take, Nat.min_eq_left hks], List.take_append_drop]
    refine ⟨(cur.toList.take (k * s)).drop (n * s), by rw [List.length_drop, List.length_take, hl, Nat.min_eq_left hkc, Nat.sub_mul], ?_, .inr ⟨g, cap, cur, rfl, hb, hg, hc, hcm, hcs, e0.symm⟩⟩
    rw [e0, List.length_take, hl, Nat.min_eq_left hkc]
/-- The elements with some put in ahead of place i. -/
def M.insP {α : Type} (xs : List α) (i : Nat) (ys : List α) : List α := xs.take i ++ ys ++ xs.drop i
theorem M.insP_len {α : Type} (xs : List α) (i : Nat) (ys : List α) (h : i ≤ xs.length) : (M.insP xs i ys).length = xs.length + ys.length := by
  unfold M.insP
  simp
  omega
theorem setAll_ins (cs ds vs : List Value) (p m : Nat) (hp : p ≤ cs.length) (hd : ds.length = m) (hv : vs.length = m) :
    setAll (setAll (cs ++ ds) (p + m) (cs.drop p)) p vs = cs.take p ++ vs ++ cs.drop p := by
  have h1 : setAll (cs ++ ds) (p + m) (cs.drop p) = (cs ++ ds).take (p + m) ++ cs.drop p := by
    rw [setAll_eq _ _ _ (by rw [List.length_append, List.length_drop]; omega), show (cs ++ ds).drop (p + m + (cs.drop p).length) = [] from List.drop_eq_nil_of_le (by rw [List.length_append, List.length_drop]; omega), List.append_nil]
  have h2 : ((cs ++ ds).take (p + m)).length = p + m := by simp; omega
  rw [h1, setAll_eq _ _ _ (by rw [List.length_append, h2]; omega), List.take_append_of_le_length (by omega), List.take_take, Nat.min_eq_left (by omega), List.take_append_of_le_length hp, hv, List.drop_left' h2]
theorem Insert_shift (g n c i m vb vc lo hi : Nat) (xs ys : List Clip) (w : World) (own : OA cl 78 5 lo hi w (.slice (some ⟨g, 0, none⟩) n c) xs)
    (hvb : w.heap[vb]? = some (.cells (ys.flatMap cl).toArray 78 (0, 0))) (hgv : vb < lo ∨ hi ≤ vb) (hym : ys.length = m) (hm0 : 0 < m) (hi' : i < n) (hroom : n + m ≤ c) (hn : n ≤ 1000000000) (hcm : c ≤ maxLen) :
    Calls Try.prog 145 #[.slice (some ⟨g, 0, none⟩) n c, .int .i64 i, .slice (some ⟨vb, 0, none⟩) m vc] w fun e w' => ∃ v, e = .returned v ∧ OA cl 78 5 lo hi w' v (M.insP xs i ys) ∧ Mid lo hi w w' := by
  have hxm := OX.m_eq own
  have hgl : lo ≤ g ∧ g < hi := ⟨(World.ownsRow.lt own.1 g rfl).1, own.2 g rfl⟩
  unfold OA at own
  rw [← hxm] at own
  unfold maxLen at hcm
  have T0 := Try.underlying63
  have u0 := run_underlying T0
  have hinfo := (ei_cl).2.1
  obtain ⟨i0, hi0, hz0, hz1, hz2⟩ := info_parts hinfo
  have hsz : (Try.prog.info? 78).map (·.size) = some 5 := by rw [hi0]; simp [hz1]
  obtain ⟨vs, hvs⟩ : ∃ vs, vs = ys.flatMap cl := ⟨_, rfl⟩
  obtain ⟨cs, hcs⟩ : ∃ cs, cs = xs.flatMap cl := ⟨_, rfl⟩
  have hvl : vs.length = m * 5 := by rw [hvs, flat_len cl_len, hym]
  have hcl : cs.length = n * 5 := by rw [hcs, flat_len cl_len, ← hxm]
  have h1v : ∀ v ∈ vs, v.oneCell' = true := by rw [hvs]; exact cls_oneCell _
  have h1c : ∀ v ∈ cs, v.oneCell' = true := by rw [hcs]; exact cls_oneCell _
  rw [← hvs] at hvb
  rw [← hcs] at own
  obtain ⟨ds, hdl, own1⟩ := own_spread own.1 (k := n + m) (by omega) hroom
  rw [show n + m - n = m by omega] at hdl
  have hcd : (cs ++ ds).length = (n + m) * 5 := own1.1
  have hsp : ∀ j, j < (n + m) * 5 → (w.cell? ⟨g, j, none⟩).isSome = true := fun j hj => (own_cells own1 hj).1
  have hfz : ∀ j, j < (n + m) * 5 → w.frozen? ⟨g, j, none⟩ = false := fun j hj => (own_cells own1 hj).2
  have hcc : ∀ j v, cs[j]? = some v → w.cell? ⟨g, j, none⟩ = some v := fun j v hj => by
    have hjl := (List.getElem?_eq_some_iff.1 hj).1
    rw [World.ownsRow.cellAt own1 j (by omega), List.getElem?_append_left hjl]; exact hj
  have hvne : vb ≠ g := by omega
  have hvcell : ∀ j v, vs[j]? = some v → w.cell? ⟨vb, j, none⟩ = some v := fun j v hj => by
    rw [cell_of_row _ vb j vs.toArray _ (0, 0) hvb]; simpa using hj
  have hsa : w.shape? vb = some (78, vs.toArray.size) := by simp [World.shape?, hvb]
  obtain ⟨kB, hsb, hkB⟩ : ∃ kB, w.shape? g = some (78, kB) ∧ kB ≠ 0 := by
    rcases own.1.2 with ⟨h', _⟩ | ⟨g', cap', cur, h', hb, hg, hnc, hcm', hcs', htake⟩
    · simp at h'
    · simp only [Value.slice.injEq, Option.some.injEq, Addr.mk.injEq, and_true, true_and] at h'
      obtain ⟨rfl, rfl⟩ := h'
      exact ⟨cur.size, by simp [World.shape?, hg], by omega⟩
  have hfa : ∀ j, w.frozen? ⟨vb, j, none⟩ = false := fun j => by simp [World.frozen?, hvb]
  have hz : ∀ w, (Go.sizeOf 78).run Try.prog w = .ok 5 w := fun w => by simp [sizeOf, typeInfo, hi0, hz1]
  have hov : ∀ lb cb, (callFunc 155 #[.slice (some ⟨vb, 0, none⟩) m vc, .slice (some ⟨g, (i + m) * 5, none⟩) lb cb]).run Try.prog w = .ok (.value (.bool false)) w := fun lb cb => by
    rw [run_callFunc_extern Try.func155 (by kernel_rfl) (by kernel_rfl) (by kernel_rfl) (e := Extern.SlicesOverlaps.overlaps #[63, 63] #[4]) (by kernel_rfl),
      Lib.run_overlaps_apart w 63 4 78 T0 5 hz ⟨vb, 0, none⟩ ⟨g, (i + m) * 5, none⟩ m vc lb cb hvne _ _ _ _ hsa hsb hkB (hfa _) (hfa _)]
    rfl
  have hdl' : (cs.drop (i * 5)).length = (n - i) * 5 := by rw [List.length_drop, hcl]; omega
  have hcp1 : ∀ ty dc sc, (Builtin.copy_ #[63, 63] ty #[.slice (some ⟨g, (i + m) * 5, none⟩) (n + m - (i + m)) dc, .slice (some ⟨g, i * 5, none⟩) (n + m - i) sc]).run Try.prog w.drew = .ok (goInt (Nat.min (n + m - i) (n + m - (i + m)))) (w.drew.setCells g ((i + m) * 5) (cs.drop (i * 5))) := fun ty dc sc =>
    run_copy_wide w.drew _ _ ty 78 5 g ((i + m) * 5) (n + m - (i + m)) dc ⟨g, i * 5, none⟩ (n + m - i) sc (cs.drop (i * 5)) T0 hsz (by rw [hdl']; simp only [Nat.min_def]; split <;> omega)
      (fun j v hj => by rw [Addr.add_lit]; exact hcc (i * 5 + j) v (by rwa [List.getElem?_drop] at hj))
      (fun j hj => hsp _ (by omega)) (fun j hj => hfz _ (by omega)) (fun v hv => h1c v (List.mem_of_mem_drop hv))
  obtain ⟨o1, g1⟩ := own_setCells (cs.drop (i * 5)) w.drew (cs ++ ds) ((i + m) * 5) ⟨own1.1, own1.2⟩
  obtain ⟨W1, hW1⟩ : ∃ W1, W1 = w.drew.setCells g ((i + m) * 5) (cs.drop (i * 5)) := ⟨_, rfl⟩
  rw [← hW1] at o1 g1
  obtain ⟨o2, g2⟩ := own_setCells vs W1 _ (i * 5) o1
  have hfin : Hid (OA cl 78 5 lo hi (W1.setCells g (i * 5) vs) (.slice (some ⟨g, 0, none⟩) (n + m) c) (M.insP xs i ys) ∧ Mid lo hi w (W1.setCells g (i * 5) vs)) := by
    rw [show (i + m) * 5 = i * 5 + m * 5 by omega, setAll_ins cs ds vs (i * 5) (m * 5) (by omega) hdl hvl, hcs, hvs, flat_take cl_len, flat_drop cl_len, ← List.flatMap_append, ← List.flatMap_append] at o2
    have hle : (M.insP xs i ys).length = n + m := by rw [M.insP_len _ _ _ (by omega), hym, ← hxm]
    refine ⟨⟨by rw [hle]; exact hvs ▸ o2, fun q hq => by injection hq with hq; subst hq; exact hgl.2⟩, ?_⟩
    have hd : Mid lo hi w w.drew := ⟨rfl, rfl, rfl, Nat.le_refl _, fun _ _ _ => rfl⟩
    exact (hd.trans (Mid.of_grown g1 fun q hq => by injection hq with hq; subst hq; exact hgl)).trans (Mid.of_grown g2 fun q hq => by injection hq with hq; subst hq; exact hgl)
  have hcp2 : ∀ (W : World), (∀ x, W.cell? x = W1.cell? x) → (∀ x, W.frozen? x = W1.frozen? x) → ∀ ty dc, (Builtin.copy_ #[63, 63] ty #[.slice (some ⟨g, i * 5, none⟩) (n + m - i) dc, .slice (some ⟨vb, 0, none⟩) m vc]).run Try.prog W = .ok (goInt (Nat.min m (n + m - i))) (W.setCells g (i * 5) vs) := fun W hWc hWf ty dc =>
    run_copy_wide W _ _ ty 78 5 g (i * 5) (n + m - i) dc ⟨vb, 0, none⟩ m vc vs T0 hsz (by rw [hvl]; simp only [Nat.min_def]; split <;> omega)
      (fun j v hj => by
        rw [Addr.add_lit, Nat.zero_add, hWc, hW1, World.cell?_setCells_out g _ _ _ _ (fun h _ => absurd h hvne)]
        exact hvcell j v hj)
      (fun j hj => by rw [hWc]; exact (own_cells o1 (by omega)).1) (fun j hj => by rw [hWf]; exact (own_cells o1 (by omega)).2) h1v
  rw [← hW1] at hcp1
  have hz1' : ¬ ((m : Int) = 0) := by omega
  have hz2' : ¬ ((i : Int) = (n : Int)) := by omega
  have hw1 : IntKind.i64.wrap ((i : Int) + (m : Int)) = (i : Int) + (m : Int) := by rw [IntKind.wrap_i64]; omega
  have hb1 : (0 : Int) ≤ (i : Int) + (m : Int) := by omega
  have hin : i ≤ n := by omega
  clear hgv
  have htn : ((i : Int) + (m : Int)).toNat = i + m := by omega
  have hb2 : ¬ (c = i + m) := by omega
  have hb3 : (i : Int) ≤ (n : Int) + (m : Int) := by omega
  have hb4 : ¬ (c = i) := by omega
  have HW1 := Lib.hid hW1
  clear hW1 o1 o2 g1 g2 own own1 hcd hsp hfz hcc hvcell hsa hsb hfa hdl hdl' hcl hvl hcs hvs hinfo hi0 hz0 hz1 hz2 hsz hz hvb hym hxm hgl h1v h1c
  go_enter Try.func145, Try.ntmps145
  go_wp2_with (simp only [hov])
  go_region_law (refine step_copy_runI rfl _ _ 63 63 rfl _ _ (by simp [Act.eval, Act.put]) (by simp [Act.eval, Act.put]) (hcp1 _ _ _) ?_)
  go_wp2_with (at_builtin; refine wpList_copy_runI _ rfl _ _ 63 63 rfl _ _ rfl rfl (hcp2 _ (fun _ => rfl) (fun _ => rfl) _ _) ?_)
  go_ret
  exact ⟨_, rfl, hfin.out⟩
theorem own_of_row {w : World} {base g n cap s : Nat} {e : TypeId} {ROW : Array Value} (hb : base ≤ g) (hg : w.heap[g]? = some (.cells ROW e (0, 0))) (hn : n ≤ cap) (hc : cap ≤ maxLen) (hs : ROW.size = cap * s) :
    w.ownsRow base e s (.slice (some ⟨g, 0, none⟩) n cap) n (ROW.toList.take (n * s)) := by
  have h1 : n * s ≤ cap * s := Nat.mul_le_mul_right _ hn
  exact ⟨by rw [List.length_take]; simp; omega, .inr ⟨g, cap, ROW, rfl, hb, hg, hn, hc, hs, rfl⟩⟩
theorem setAll_grow (cs zs vs ts : List Value) (p m : Nat) (hz : zs.length = m + ts.length) (hc : cs.length = p) (hv : vs.length = m) :
    setAll (setAll (cs ++ zs) p vs) (p + m) ts = cs ++ vs ++ ts := by
  have h1 : setAll (cs ++ zs) p vs = cs ++ vs ++ zs.drop m := by
    rw [setAll_eq _ _ _ (by rw [List.length_append]; omega), List.take_left' hc, hv, List.drop_append, hc, show cs.drop (p + m) = [] from List.drop_eq_nil_of_le (by omega), List.nil_append, show p + m - p = m by omega]
  have h2 : (cs ++ vs).length = p + m := by rw [List.length_append]; omega
  rw [h1, setAll_eq _ _ _ (by rw [List.length_append, List.length_drop, h2]; omega), List.take_left' h2, show (cs ++ vs ++ zs.drop m).drop (p + m + ts.length) = [] from List.drop_eq_nil_of_le (by rw [List.length_append, List.length_drop, h2]; omega), List.append_nil]
theorem Insert_grow (g n c i m vb vc lo hi : Nat) (xs ys : List Clip) (w : World) (own : OA cl 78 5 lo hi w (.slice (some ⟨g, 0, none⟩) n c) xs)
    (hvb : w.heap[vb]? = some (.cells (ys.flatMap cl).toArray 78 (0, 0))) (hym : ys.length = m) (hm0 : 0 < m) (hm9 : m ≤ 1000000000) (hi' : i < n) (hnc : n ≤ c) (hroom : c < n + m) (hn : n ≤ 1000000000) :
    Calls Try.prog 145 #[.slice (some ⟨g, 0, none⟩) n c, .int .i64 i, .slice (some ⟨vb, 0, none⟩) m vc] w fun e w' => ∃ v, e = .returned v ∧ OA cl 78 5 w.heap.size w'.heap.size w' v (M.insP xs i ys) ∧ Below w.heap.size w w' := by
  have hxm := OX.m_eq own
  unfold OA at own
  rw [← hxm] at own
  have T0 := Try.underlying63
  have T3 := Try.underlying3
  have u0 := run_underlying T0
  have hinfo := (ei_cl).2.1
  obtain ⟨i0, hi0, hz0, hz1, hz2⟩ := info_parts hinfo
  have hsz : (Try.prog.info? 78).map (·.size) = some 5 := by rw [hi0]; simp [hz1]
  obtain ⟨vs, hvs⟩ : ∃ vs, vs = ys.flatMap cl := ⟨_, rfl⟩
  obtain ⟨cs, hcs⟩ : ∃ cs, cs = xs.flatMap cl := ⟨_, rfl⟩
  have hvl : vs.length = m * 5 := by rw [hvs, flat_len cl_len, hym]
  have hcl : cs.length = n * 5 := by rw [hcs, flat_len cl_len, ← hxm]
  have h1v : ∀ v ∈ vs, v.oneCell' = true := by rw [hvs]; exact cls_oneCell _
  have h1c : ∀ v ∈ cs, v.oneCell' = true := by rw [hcs]; exact cls_oneCell _
  rw [← hvs] at hvb
  rw [← hcs] at own
  have hcc : ∀ j v, cs[j]? = some v → w.cell? ⟨g, j, none⟩ = some v := fun j v hj => by
    have hjl := (List.getElem?_eq_some_iff.1 hj).1
    rw [World.ownsRow.cellAt own.1 j (by omega)]; exact hj
  have hvcell : ∀ j v, vs[j]? = some v → w.cell? ⟨vb, j, none⟩ = some v := fun j v hj => by
    rw [cell_of_row _ vb j vs.toArray _ (0, 0) hvb]; simpa using hj
  have hbw : g < w.heap.size := (World.ownsRow.lt own.1 g rfl).2
  have hvw : vb < w.heap.size := (Array.getElem?_eq_some_iff.1 hvb).1
  have hkk : (n : Int) + (m : Int) - (i : Int) = ((n + m - i : Nat) : Int) := by omega
  have hik : i + (n + m - i) = n + m := by omega
  obtain ⟨zc, hzc⟩ : ∃ zc : Array Value, zc = (Value.agg #[.int .i64 0, .int .i64 0, .int .i64 0, .int .i64 0, .int .i64 0]).cells := ⟨_, rfl⟩
  have hzcs : zc.size = 5 := by rw [hzc]; rfl
  have hold : (Builtin.firstCells i0.size i (.slice (some ⟨g, 0, none⟩) i c)).run Try.prog w.drew = .ok (cs.take (i * 5)).toArray w.drew := by
    rw [hz1]
    exact run_firstCells_some w.drew 5 i ⟨g, 0, none⟩ i c (cs.take (i * 5)) (by rw [List.length_take]; omega) (fun j v hj => by
      rw [Addr.add_lit, Nat.zero_add]
      rw [List.getElem?_take] at hj
      split at hj
      · exact hcc j v hj
      · cases hj)
  have hrz : ∀ ty, (Builtin.append_ #[63, 3] ty #[.slice (some ⟨g, 0, none⟩) i c, .int .i64 ((n : Int) + (m : Int) - (i : Int))]).run Try.prog w =
      .ok (.slice (some ⟨w.heap.size, 0, none⟩) (n + m) (grownCap w (n + m) c 78)) (w.drew.alloc (.cells ((cs.take (i * 5)).toArray ++ Builtin.zeroCells zc (n + m - i) ++ Builtin.zeroCells zc (grownCap w (n + m) c 78 - (n + m))) 78)) := fun ty => by
    have h := Lib.run_append_grow_zeros w 63 3 ty 78 i0 _ .i64 .i64 T0 T3 hi0 hz0 (some ⟨g, 0, none⟩) i c (cs.take (i * 5)) hold (n + m - i) (by omega) (by omega) (by omega) (by omega) (by rw [hz2]; omega) (by rw [hz2, hik]; exact growslice_fits hroom (by omega))
    rw [hik, ← hzc] at h
    rw [hkk]
    exact h
  obtain ⟨G, hG⟩ : ∃ G, G = grownCap w (n + m) c 78 := ⟨_, rfl⟩
  have hGn : n + m ≤ G := by rw [hG]; exact grownCap_ge w _ _ _
  have hGm : G ≤ maxLen := by rw [hG]; exact grownCap_le_maxLen w (n + m) c _ (by unfold maxLen; omega)
  have hG63 : G ≤ 9223372036854775807 := by unfold maxLen at hGm; omega
  obtain ⟨ROW, hROW⟩ : ∃ ROW : Array Value, ROW = (cs.take (i * 5)).toArray ++ Builtin.zeroCells zc (n + m - i) ++ Builtin.zeroCells zc (G - (n + m)) := ⟨_, rfl⟩
  rw [← hG, ← hROW] at hrz
  have hzl : (Builtin.zeroCells zc (n + m - i)).size = (n + m - i) * 5 := by simp [Builtin.zeroCells, hzcs]
  have hzl2 : (Builtin.zeroCells zc (G - (n + m))).size = (G - (n + m)) * 5 := by simp [Builtin.zeroCells, hzcs]
  have htl : (cs.take (i * 5)).length = i * 5 := by rw [List.length_take]; omega
  have hRl : ROW.size = G * 5 := by
    rw [hROW, Array.size_append, Array.size_append, hzl, hzl2]
    simp only [List.size_toArray, htl]
    omega
  obtain ⟨W1, hW1⟩ : ∃ W1, W1 = w.drew.alloc (.cells ROW 78) := ⟨_, rfl⟩
  rw [← hW1] at hrz
  have hrow1 : W1.heap[w.heap.size]? = some (.cells ROW 78 (0, 0)) := by rw [hW1]; exact heap_alloc_new w.drew _
  have own1 := own_of_row (w := W1) (base := w.heap.size) (s := 5) (Nat.le_refl _) hrow1 hGn hGm hRl
  have e1 : ROW.toList.take ((n + m) * 5) = cs.take (i * 5) ++ (Builtin.zeroCells zc (n + m - i)).toList := by
    rw [hROW, Array.toList_append, Array.toList_append]
    exact List.take_left' (by simp only [List.length_append, Array.length_toList, hzl, htl]; omega)
  rw [e1] at own1
  have hOb : ∀ j v, w.cell? ⟨g, j, none⟩ = some v → W1.cell? ⟨g, j, none⟩ = some v := fun j v h => by rw [hW1, World.cell?_alloc_past (w := w.drew) _ g j hbw]; exact h
  have hOv : ∀ j v, w.cell? ⟨vb, j, none⟩ = some v → W1.cell? ⟨vb, j, none⟩ = some v := fun j v h => by rw [hW1, World.cell?_alloc_past (w := w.drew) _ vb j hvw]; exact h
  obtain ⟨o1, g1⟩ := own_setCells vs W1 _ (i * 5) own1
  obtain ⟨W2, hW2⟩ : ∃ W2, W2 = W1.setCells w.heap.size (i * 5) vs := ⟨_, rfl⟩
  rw [← hW2] at o1 g1
  have hcpA : ∀ (W : World), (∀ x, W.cell? x = W1.cell? x) → (∀ x, W.frozen? x = W1.frozen? x) → ∀ ty dc, (Builtin.copy_ #[63, 63] ty #[.slice (some ⟨w.heap.size, i * 5, none⟩) (n + m - i) dc, .slice (some ⟨vb, 0, none⟩) m vc]).run Try.prog W = .ok (goInt (Nat.min m (n + m - i))) (W.setCells w.heap.size (i * 5) vs) := fun W hWc hWf ty dc =>
    run_copy_wide W _ _ ty 78 5 w.heap.size (i * 5) (n + m - i) dc ⟨vb, 0, none⟩ m vc vs T0 hsz (by rw [hvl]; simp only [Nat.min_def]; split <;> omega)
      (fun j v hj => by rw [Addr.add_lit, Nat.zero_add, hWc]; exact hOv _ v (hvcell j v hj))
      (fun j hj => by rw [hWc]; exact (own_cells own1 (by omega)).1) (fun j hj => by rw [hWf]; exact (own_cells own1 (by omega)).2) h1v
  have hbN : g ≠ w.heap.size := by omega
  have hdl : (cs.drop (i * 5)).length = (n - i) * 5 := by rw [List.length_drop, hcl]; omega
  have hcpB : ∀ (W : World), (∀ x, W.cell? x = W2.cell? x) → (∀ x, W.frozen? x = W2.frozen? x) → ∀ ty dc sc, (Builtin.copy_ #[63, 63] ty #[.slice (some ⟨w.heap.size, (i + m) * 5, none⟩) (n + m - (i + m)) dc, .slice (some ⟨g, i * 5, none⟩) (n - i) sc]).run Try.prog W = .ok (goInt (Nat.min (n - i) (n + m - (i + m)))) (W.setCells w.heap.size ((i + m) * 5) (cs.drop (i * 5))) := fun W hWc hWf ty dc sc =>
    run_copy_wide W _ _ ty 78 5 w.heap.size ((i + m) * 5) (n + m - (i + m)) dc ⟨g, i * 5, none⟩ (n - i) sc (cs.drop (i * 5)) T0 hsz (by rw [hdl]; simp only [Nat.min_def]; split <;> omega)
      (fun j v hj => by
        rw [Addr.add_lit, hWc, hW2, World.cell?_setCells_out _ _ _ _ _ (fun h _ => absurd h hbN)]
        exact hOb _ v (hcc (i * 5 + j) v (by rwa [List.getElem?_drop] at hj)))
      (fun j hj => by rw [hWc]; exact (own_cells o1 (by omega)).1)
      (fun j hj => by rw [hWf]; exact (own_cells o1 (by omega)).2) (fun v hv => h1c v (List.mem_of_mem_drop hv))
  have hfin : ∀ W : World, (∀ k : Nat, W.heap[k]? = W2.heap[k]?) → W.os = W2.os → W.tape = W2.tape → W.output = W2.output → W.heap.size = W2.heap.size → OA cl 78 5 w.heap.size (W.setCells w.heap.size ((i + m) * 5) (cs.drop (i * 5))).heap.size (W.setCells w.heap.size ((i + m) * 5) (cs.drop (i * 5))) (.slice (some ⟨w.heap.size, 0, none⟩) (n + m) G) (M.insP xs i ys) ∧ Below w.heap.size w (W.setCells w.heap.size ((i + m) * 5) (cs.drop (i * 5))) := by
    intro W hh hos htp hou hss
    have o1' : W.ownsRow w.heap.size 78 5 (.slice (some ⟨w.heap.size, 0, none⟩) (n + m) G) (n + m) (setAll (cs.take (i * 5) ++ (Builtin.zeroCells zc (n + m - i)).toList) (i * 5) vs) := by
      refine ⟨o1.1, ?_⟩
      rcases o1.2 with h | ⟨g', cap', cur, h', hb, hg, h3⟩
      · exact .inl h
      · exact .inr ⟨g', cap', cur, h', hb, (hh g').trans hg, h3⟩
    obtain ⟨o2, g2⟩ := own_setCells (cs.drop (i * 5)) W _ ((i + m) * 5) o1'
    rw [show (i + m) * 5 = i * 5 + m * 5 by omega, setAll_grow (cs.take (i * 5)) (Builtin.zeroCells zc (n + m - i)).toList vs (cs.drop (i * 5)) (i * 5) (m * 5) (by rw [Array.length_toList, hzl, hdl]; omega) htl hvl, hcs, hvs, flat_take cl_len, flat_drop cl_len, ← List.flatMap_append, ← List.flatMap_append] at o2
    have hle : (M.insP xs i ys).length = n + m := by rw [M.insP_len _ _ _ (by omega), hym, ← hxm]
    have B1 : Below w.heap.size w W1 := by
      have hd : Below w.heap.size w w.drew := below_drewN (Below.refl _ _) 1
      rw [hW1]; exact hd.alloc (Nat.le_refl _) _
    have B2 : Below w.heap.size w W2 := B1.grown g1 B1.size fun q hq => by injection hq with hq; omega
    have B3 : Below w.heap.size w W := ⟨hos.trans B2.os, htp.trans B2.tape, hou.trans B2.output, by rw [hss]; exact B2.size, fun k hk => (hh k).trans (B2.block k hk)⟩
    rw [show (i + m) * 5 = i * 5 + m * 5 by omega]
    refine ⟨?_, ?_⟩
    · rw [hcs, flat_drop cl_len]
      unfold OA
      rw [hle]
      exact OX.of_own o2
    · rw [hcs, flat_drop cl_len]
      rw [show (i + m) * 5 = i * 5 + m * 5 by omega, hcs, flat_drop cl_len] at g2
      exact B3.grown g2 (by rw [hss]; exact B2.size) fun q hq => by injection hq with hq; omega
  have HFIN := Lib.hid hfin
  have hGi : ¬ (G = i) := by omega
  have hGim : ¬ (G = i + m) := by omega
  have hci : ¬ (c = i) := by omega
  subst hW1
  subst hW2
  have hE1 : ∀ x, ((w.alloc (.cells ROW 78)).drew).cell? x = (w.drew.alloc (.cells ROW 78)).cell? x := fun x => rfl
  have hE2 : ∀ x, ((w.alloc (.cells ROW 78)).drew).frozen? x = (w.drew.alloc (.cells ROW 78)).frozen? x := fun x => rfl
  have hF1 : ∀ x, (((w.alloc (.cells ROW 78)).drew.setCells w.heap.size (i * 5) vs).drew).cell? x = ((w.drew.alloc (.cells ROW 78)).setCells w.heap.size (i * 5) vs).cell? x := fun x => rfl
  have hF2 : ∀ x, (((w.alloc (.cells ROW 78)).drew.setCells w.heap.size (i * 5) vs).drew).frozen? x = ((w.drew.alloc (.cells ROW 78)).setCells w.heap.size (i * 5) vs).frozen? x := fun x => rfl
  have hz1' : ¬ ((m : Int) = 0) := by omega
  have hz2' : ¬ ((i : Int) = (n : Int)) := by omega
  have hz3 : (c : Int) < (n : Int) + (m : Int) := by omega
  have hw1 : IntKind.i64.wrap ((i : Int) + (m : Int)) = (i : Int) + (m : Int) := by rw [IntKind.wrap_i64]; omega
  have hb1 : (0 : Int) ≤ (i : Int) + (m : Int) := by omega
  have hin : i ≤ n := by omega
  have htn : ((i : Int) + (m : Int)).toNat = i + m := by omega
  have hb3 : (i : Int) ≤ (n : Int) := by omega
  have hcm : c ≤ 9223372036854775807 := by omega
  clear hfin o1 g1 own own1 hcc hvcell hdl hcl hvl hcs hvs hinfo hi0 hz0 hz1 hz2 hsz hvb hym hxm h1v h1c hkk hik hold hROW hG hRl hzl hzl2 htl hrow1 e1 hOb hOv hzc hzcs hGm
  go_enter Try.func145, Try.ntmps145
  go_wp2_with (first
    | (at_builtin; refine Lib.wpList_append_run _ rfl _ _ _ _ rfl _ _ rfl rfl _ _ (hrz _) ?_)
    | (at_builtin; refine wpList_copy_runI _ rfl _ _ 63 63 rfl _ _ rfl rfl (hcpA _ hE1 hE2 _ _) ?_))
  go_region_law (refine step_copy_runI rfl _ _ 63 63 rfl (.slice (some ⟨w.heap.size, (i + m) * 5, none⟩) (n + m - (i + m)) (G - (i + m))) (.slice (some ⟨g, i * 5, none⟩) (n - i) (c - i)) (by simp [Act.eval, Act.put]) (by simp [Act.eval, Act.put]) (hcpB _ hF1 hF2 3 (G - (i + m)) (c - i)) ?_)
  go_wp2
  go_ret
  refine ⟨_, rfl, HFIN.out _ (fun _ => rfl) rfl rfl rfl rfl⟩
theorem Insert_end (A : Option Addr) (n c m vb vc lo hi : Nat) (xs ys : List Clip) (w : World) (own : OA cl 78 5 lo hi w (.slice A n c) xs)
    (hvb : w.heap[vb]? = some (.cells (ys.flatMap cl).toArray 78 (0, 0))) (hym : ys.length = m) (hm0 : 0 < m) (hm9 : m ≤ 1000000000) (hn : n ≤ 1000000000) (hlo : lo ≤ w.heap.size) (hxm : n = xs.length) (hcm : c ≤ maxLen) (hnc : n ≤ c) :
    Calls Try.prog 145 #[.slice A n c, .int .i64 n, .slice (some ⟨vb, 0, none⟩) m vc] w fun e w' => ∃ v, e = .returned v ∧ OA cl 78 5 lo w'.heap.size w' v (M.insP xs n ys) ∧ Below lo w w' := by
  unfold maxLen at hcm
  have hvl : (ys.flatMap cl).length = m * 5 := by rw [flat_len cl_len, hym]
  have hr : Reads w w.heap.size 5 (some ⟨vb, 0, none⟩) m (ys.flatMap cl) := by
    refine ⟨hvl, fun _ => ⟨_, rfl, (Array.getElem?_eq_some_iff.1 hvb).1, fun j u hj => ?_⟩⟩
    rw [Addr.add_lit, Nat.zero_add, cell_of_row _ vb j _ _ (0, 0) hvb]
    simpa using hj
  have own0 := own.1
  rw [← hxm] at own0
  have hfin : ∀ v (w1 : World), w1.ownsRow lo 78 5 v (n + m) (xs.flatMap cl ++ ys.flatMap cl) → OA cl 78 5 lo w1.heap.size w1 v (M.insP xs n ys) := by
    intro v w1 h
    have e1 : M.insP xs n ys = xs ++ ys := by rw [M.insP, hxm, List.take_length, List.drop_length, List.append_nil]
    unfold OA
    rw [e1, List.flatMap_append, List.length_append, hym, ← hxm]
    exact OX.of_own h
  have FIN := Lib.hid hfin
  have hz1' : ¬ ((m : Int) = 0) := by omega
  have T0 := Try.underlying63
  have u0 := run_underlying T0
  have ONE := Lib.hid (cls_oneCell ys)
  clear hfin hvl hvb own hym
  rcases A with _ | ad
  · go_enter Try.func145, Try.ntmps145
    go_wp2_with (at_builtin; refine wpList_cat ei_cl rfl _ _ rfl own0 rfl hr rfl ONE.out (by unfold maxLen; omega) (by omega) hlo ?_; intro v1 w1 own1 gr1 bel1)
    go_ret
    exact ⟨_, rfl, FIN.out _ _ own1, bel1⟩
  · by_cases hcn : c = n
    · subst hcn
      go_enter Try.func145, Try.ntmps145
      go_wp2_with (at_builtin; refine wpList_cat ei_cl rfl _ _ rfl own0 rfl hr rfl ONE.out (by unfold maxLen; omega) (by omega) hlo ?_; intro v1 w1 own1 gr1 bel1)
      go_ret
      exact ⟨_, rfl, FIN.out _ _ own1, bel1⟩
    · go_enter Try.func145, Try.ntmps145
      go_wp2_with (at_builtin; refine wpList_cat ei_cl rfl _ _ rfl own0 rfl hr rfl ONE.out (by unfold maxLen; omega) (by omega) hlo ?_; intro v1 w1 own1 gr1 bel1)
      go_ret
      exact ⟨_, rfl, FIN.out _ _ own1, bel1⟩
theorem OX.n_of {A : Option Addr} {e s lo hi m c n : Nat} {w : World} {cs : List Value} (h : OX e s lo hi w (.slice A m c) n cs) : m = n ∧ n ≤ c ∧ c ≤ maxLen ∧ (0 < n → ∃ g, A = some ⟨g, 0, none⟩) := by
  rcases h.1.2 with ⟨h', h0⟩ | ⟨g', cap', cur, h', hb, hg, hnc, hcm', hcs', htake⟩
  · simp only [Value.slice.injEq] at h'
    exact ⟨by omega, by omega, by unfold maxLen; omega, fun h => by omega⟩
  · simp only [Value.slice.injEq] at h'
    obtain ⟨rfl, rfl, rfl⟩ := h'
    exact ⟨rfl, hnc, hcm', fun _ => ⟨g', rfl⟩⟩
/-- slices.Insert of one clip into a row that is owned. -/
theorem Insert_one (A : Option Addr) (n c i vb lo hi : Nat) (xs : List Clip) (x : Clip) (w : World) (own : OA cl 78 5 lo hi w (.slice A n c) xs)
    (hvb : w.heap[vb]? = some (.cells (cl x).toArray 78 (0, 0))) (hgv : vb < lo ∨ hi ≤ vb) (hi' : i ≤ n) (hn : n ≤ 1000000000) (hlo : lo ≤ w.heap.size) (hhi : hi ≤ w.heap.size) :
    Calls Try.prog 145 #[.slice A n c, .int .i64 i, .slice (some ⟨vb, 0, none⟩) 1 1] w fun e w' => ∃ v, e = .returned v ∧ OA cl 78 5 lo w'.heap.size w' v (M.insP xs i [x]) ∧ Below lo w w' := by
  obtain ⟨hxm, hnc, hcm, hform⟩ := OX.n_of own
  have hvb' : w.heap[vb]? = some (.cells ([x].flatMap cl).toArray 78 (0, 0)) := by rw [hvb, List.flatMap_cons, List.flatMap_nil, List.append_nil]
  rcases Nat.lt_or_ge i n with hlt | hge
  · obtain ⟨g, rfl⟩ := hform (by omega)
    by_cases hroom : n + 1 ≤ c
    · refine (Insert_shift g n c i 1 vb 1 lo hi xs [x] w own hvb' hgv rfl (by decide) hlt hroom hn hcm).mono ?_
      rintro e w' ⟨v, rfl, own', m'⟩
      exact ⟨v, rfl, own'.wide (Nat.le_refl _) (Nat.le_trans hhi m'.size), m'.toBelow hlo⟩
    · refine (Insert_grow g n c i 1 vb 1 lo hi xs [x] w own hvb' rfl (by decide) (by decide) hlt (by omega) (by omega) hn).mono ?_
      rintro e w' ⟨v, rfl, own', b'⟩
      exact ⟨v, rfl, own'.wide hlo (Nat.le_refl _), b'.mono hlo⟩
  · obtain rfl : i = n := by omega
    exact Insert_end A i c 1 vb 1 lo hi xs [x] w own hvb' rfl (by decide) (by decide) hn hlo hxm hcm (by omega)
end Go.Proofs.Ytckihflfjecpbaa
