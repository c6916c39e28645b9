import Derived.Test.YtckihflfjecpbaaW31
import Derived.Deep.RegionLaw
import Derived.Lib.SliceRun
namespace Go.Proofs.Ytckihflfjecpbaa
open Go.RowKit
set_option maxHeartbeats 400000
set_option maxRecDepth 100000
/-- A list, some of whose elements are set. -/
def setAll {α : Type} : List α → Nat → List α → List α
  | cs, _, [] => cs
  | cs, o, u :: us => setAll (cs.set o u) (o + 1) us
theorem setAll_len {α : Type} (us : List α) : ∀ (cs : List α) (o : Nat), (setAll cs o us).length = cs.length := by
  induction us with
  | nil => intro cs o; rfl
  | cons u us ih => intro cs o; rw [setAll, ih, List.length_set]
theorem setAll_at {α : Type} (us : List α) : ∀ (cs : List α) (o k : Nat), o + us.length ≤ cs.length → (setAll cs o us)[k]? = if o ≤ k ∧ k < o + us.length then us[k - o]? else cs[k]? := by
  induction us with
  | nil => intro cs o k _; rw [setAll, if_neg (by simp)]
  | cons u us ih =>
    intro cs o k h
    rw [List.length_cons] at h
    rw [setAll, ih _ _ _ (by rw [List.length_set]; omega), List.length_cons]
    by_cases h1 : o + 1 ≤ k ∧ k < o + 1 + us.length
    · rw [if_pos h1, if_pos (by omega), show k - o = (k - (o + 1)) + 1 by omega, List.getElem?_cons_succ]
    · rw [if_neg h1]
      by_cases h2 : k = o
      · subst h2
        rw [if_pos (by omega), Nat.sub_self, List.getElem?_set_self (by omega)]
        rfl
      · rw [if_neg (by omega), List.getElem?_set_ne (fun e => h2 e.symm)]
theorem setAll_eq {α : Type} (us cs : List α) (o : Nat) (h : o + us.length ≤ cs.length) : setAll cs o us = cs.take o ++ us ++ cs.drop (o + us.length) := by
  apply List.ext_getElem?
  intro k
  rw [setAll_at us cs o k h]
  by_cases h1 : k < o
  · rw [if_neg (by omega), List.getElem?_append_left (by simp; omega), List.getElem?_append_left (by simp; omega), List.getElem?_take, if_pos h1]
  · by_cases h2 : k < o + us.length
    · rw [if_pos (by omega), List.getElem?_append_left (by simp; omega), List.getElem?_append_right (by simp; omega), List.length_take, Nat.min_eq_left (by omega)]
    · rw [if_neg (by omega), List.getElem?_append_right (by simp; omega), List.getElem?_drop]
      congr 1
      simp
      omega
section
variable {base s n cap g : Nat} {e : TypeId} {cs : List Value} {w : World}
theorem own_setCells (us : List Value) : ∀ (w : World) (cs : List Value) (o : Nat), w.ownsRow base e s (.slice (some ⟨g, 0, none⟩) n cap) n cs →
    (w.setCells g o us).ownsRow base e s (.slice (some ⟨g, 0, none⟩) n cap) n (setAll cs o us) ∧ w.grownBy (w.setCells g o us) (some g) := by
  induction us with
  | nil => intro w cs o h; exact ⟨h, World.grownBy.refl w _⟩
  | cons u us ih =>
    intro w cs o h
    have h1 := World.ownsRow.stored h o u
    obtain ⟨h2, h3⟩ := ih _ _ (o + 1) h1.1
    exact ⟨h2, grown_trans h1.2 h3⟩
theorem own_cut (h : w.ownsRow base e s (.slice (some ⟨g, 0, none⟩) n cap) n cs) {k : Nat} (hk : k ≤ n) : w.ownsRow base e s (.slice (some ⟨g, 0, none⟩) k cap) k (cs.take (k * s)) := by
  rcases h.2 with ⟨h', _⟩ | ⟨g', cap', cur, h', hb, hg, hnc, hcm, hcs, htake⟩
  · simp at h'
  · simp only [Value.slice.injEq, Option.some.injEq, Addr.mk.injEq, and_true, true_and] at h'
    obtain ⟨rfl, rfl⟩ := h'
    have hks : k * s ≤ n * s := Nat.mul_le_mul_right _ hk
    refine ⟨by rw [List.length_take, h.1]; omega, .inr ⟨g, cap, cur, rfl, hb, hg, by omega, hcm, hcs, ?_⟩⟩
    rw [← htake, List.take_take, Nat.min_eq_left hks]
theorem own_cells (h : w.ownsRow base e s (.slice (some ⟨g, 0, none⟩) n cap) n cs) {j : Nat} (hj : j < n * s) : (w.cell? ⟨g, j, none⟩).isSome = true ∧ w.frozen? ⟨g, j, none⟩ = false := by
  refine ⟨?_, World.ownsRow.frozenAt h j⟩
  rw [World.ownsRow.cellAt h j hj, List.getElem?_eq_getElem (by rw [h.1]; exact hj)]
  rfl
end
/-- 'clear(s)' of elements of some cells. -/
theorem run_clear_wide {P : Program} (w : World) (t e : TypeId) (z : Value) (s : Nat) (ht : P.underlying t = some (.slice e)) (hv : ∀ w, (zeroValue e).run P w = .ok z w) (hz : z.cells.size = s) (h1 : ∀ u ∈ z.cells.toList, u.oneCell' = true) (b o n c : Nat) (hn : 0 < n)
    (hc : ∀ j, j < n * s → (w.cell? ⟨b, o + j, none⟩).isSome = true ∧ w.frozen? ⟨b, o + j, none⟩ = false) :
    ∃ zs : List Value, zs.length = n * s ∧ ∀ ty, (Builtin.clear_ #[t] ty #[.slice (some ⟨b, o, none⟩) n c]).run P w = .ok (.tuple #[]) (w.setCells b o zs) := by
  have hl : (Builtin.zeroCells z.cells n).toList.length = n * s := by simp [Builtin.zeroCells, hz]
  refine ⟨(Builtin.zeroCells z.cells n).toList, hl, fun ty => ?_⟩
  have hst := run_storeCells_cells (P := P) b o (Builtin.zeroCells z.cells n).toList 0 w (by intro j hj; rw [hl] at hj; simpa using (hc j hj).1) (by intro j hj; rw [hl] at hj; simpa using (hc j hj).2) (by
    intro u hu
    simp only [Builtin.zeroCells, Array.toList_map, List.mem_map] at hu
    obtain ⟨i, hi, rfl⟩ := hu
    have hpos : 0 < z.cells.size := by
      rcases Nat.eq_zero_or_pos z.cells.size with h0 | h0
      · rw [h0, Nat.mul_zero] at hi
        simp at hi
      · exact h0
    rw [getElem!_pos z.cells (i % z.cells.size) (Nat.mod_lt _ hpos)]
    exact h1 _ (by simp))
  simp only [Nat.add_zero] at hst
  obtain ⟨m, rfl⟩ : ∃ m, n = m + 1 := ⟨n - 1, by omega⟩
  simp [Builtin.clear_, run_underlying ht, hv, hst]
section
variable {α : Type} {enc : α → List Value} {s : Nat}
theorem flat_take (henc : ∀ x, (enc x).length = s) (xs : List α) (k : Nat) : (xs.flatMap enc).take (k * s) = (xs.take k).flatMap enc := by
  induction xs generalizing k with
  | nil => simp
  | cons y ys ih =>
    cases k with
    | zero => simp
    | succ k => rw [List.take_succ_cons, List.flatMap_cons, List.flatMap_cons, ← ih, Nat.succ_mul, Nat.add_comm, List.take_append, henc, List.take_of_length_le (by rw [henc]; omega)]; congr 2; omega
theorem flat_drop (henc : ∀ x, (enc x).length = s) (xs : List α) (k : Nat) : (xs.flatMap enc).drop (k * s) = (xs.drop k).flatMap enc := by
  induction xs generalizing k with
  | nil => simp
  | cons y ys ih =>
    cases k with
    | zero => simp
    | succ k => rw [List.drop_succ_cons, List.flatMap_cons, ← ih, Nat.succ_mul, Nat.add_comm, List.drop_append, henc, List.drop_of_length_le (by rw [henc]; omega), List.nil_append]; congr 1; omega
end
theorem RA.reads {α : Type} {enc : α → List Value} {s : Nat} {w : World} {B n : Nat} {A : Option Addr} {xs : List α} (h : RA enc s w B A n xs) : Reads w B s A n (xs.flatMap enc) := h.2
theorem pts_oneCell (xs : List (Int × Int)) : ∀ u ∈ xs.flatMap pt, u.oneCell' = true := by
  intro u hu
  obtain ⟨p, _, hp⟩ := List.mem_flatMap.1 hu
  simp only [pt, List.mem_cons, List.not_mem_nil, or_false] at hp
  rcases hp with rfl | rfl <;> rfl
theorem slices_Clone_impl_CurvePoint_impl_CurvePoint (A : Option Addr) (n c : Nat) (xs : List (Int × Int)) (w : World) (hx : RA pt 2 w w.heap.size A n xs) (hn : n ≤ 1000000000) :
    Calls Try.prog 89 #[.slice A n c] w fun e w' => ∃ v, e = .returned v ∧ OA pt 34 2 w.heap.size w'.heap.size w' v xs ∧ Below w.heap.size w w' := by
  have hl := Lib.hid hx.len
  rcases A with _ | ad
  · have hx0 : xs = [] := by
      rcases Nat.eq_zero_or_pos n with h0 | h0
      · exact List.eq_nil_of_length_eq_zero (by rw [hl.out]; exact h0)
      · obtain ⟨ad, h, _⟩ := hx.2.2 h0
        cases h
    have hx0' := Lib.hid hx0
    clear hx0
    have heq := Lib.run_eql_slice_nil (P := Try.prog) w 28 34 none n c 0 0 Try.underlying28
    go_enter Try.func89, Try.ntmps89
    go_wp2
    go_ret
    rw [hx0'.out]
    exact ⟨_, rfl, OA.nil _, Below.refl _ _⟩
  · have heq := Lib.run_eql_slice_nil (P := Try.prog) w 28 34 (some ad) n c 0 0 Try.underlying28
    have h0 : (w.alloc (.cells #[] 34)).ownsRow w.heap.size 34 2 (.slice (some ⟨w.heap.size, 0, none⟩) 0 0) 0 [] := World.ownsRow_made _ _ _ (Nat.le_refl _) (by simp [maxLen]) rfl
    have hb0 : Below w.heap.size w (w.alloc (.cells #[] 34)) := (Below.refl _ _).alloc (Nat.le_refl _) _
    go_enter Try.func89, Try.ntmps89
    go_wp2_with (at_builtin; refine wpList_cat ei_pt rfl _ _ rfl h0 rfl (Reads.below hx.reads hb0) rfl (pts_oneCell _) (by unfold maxLen; omega) (by omega) hb0.size ?_; intro v1 w1 own1 gr1 bel1)
    go_ret
    rw [Nat.zero_add, List.nil_append, ← hl.out] at own1
    exact ⟨_, rfl, OX.of_own own1, hb0.trans bel1⟩
theorem slices_Delete_impl_CurvePoint_impl_CurvePoint (g n c k lo hi : Nat) (xs : List (Int × Int)) (w : World) (own : OA pt 34 2 lo hi w (.slice (some ⟨g, 0, none⟩) n c) xs) (hk : k < n) (hn : n ≤ 1000000000) (hnc : n ≤ c) (hcm : c ≤ maxLen) :
    Calls Try.prog 130 #[.slice (some ⟨g, 0, none⟩) n c, .int .i64 k, .int .i64 ((k : Int) + 1)] w fun e w' => e = .returned (.slice (some ⟨g, 0, none⟩) (n - 1) c) ∧ OA pt 34 2 lo hi w' (.slice (some ⟨g, 0, none⟩) (n - 1) c) (xs.take k ++ xs.drop (k + 1)) ∧ Mid lo hi w w' := by
  have hm := OX.m_eq own
  unfold OA at own
  rw [← hm] at own
  have hm' := Lib.hid hm
  unfold maxLen at hcm
  obtain ⟨news, hnews⟩ : ∃ news, news = (xs.drop (k + 1)).flatMap pt := ⟨_, rfl⟩
  have hlen : news.length = (n - (k + 1)) * 2 := by rw [hnews, flat_len pt_len, List.length_drop, hm'.out]
  have hone : Hid (∀ u ∈ news, u.oneCell' = true) := by rw [hnews]; exact pts_oneCell _
  have hnews' := Lib.hid hnews
  have hlen' := Lib.hid hlen
  have ownd : w.drew.ownsRow lo 34 2 (.slice (some ⟨g, 0, none⟩) n c) n (xs.flatMap pt) := ⟨own.1.1, own.1.2⟩
  have hsp : Hid (∀ t, t < news.length → (w.drew.cell? ⟨g, 0 + k * 2 + t, none⟩).isSome = true ∧ w.drew.frozen? ⟨g, 0 + k * 2 + t, none⟩ = false) := by
    intro t ht
    have := own_cells ownd (j := 0 + k * 2 + t) (by omega)
    exact this
  have hsrc : Hid (∀ t u, news[t]? = some u → w.drew.cell? ((⟨g, (k + 1) * 2, none⟩ : Addr).add t) = some u) := by
    intro t u ht
    have htl := (List.getElem?_eq_some_iff.1 ht).1
    rw [Addr.add_lit, World.ownsRow.cellAt ownd _ (by omega), ← ht, hnews, ← flat_drop pt_len, List.getElem?_drop]
  obtain ⟨o1, g1⟩ := own_setCells news _ _ (0 + k * 2) ownd
  obtain ⟨zs, hzl, hcl⟩ := run_clear_wide (P := Try.prog) (w.drew.setCells g (0 + k * 2) news) 28 34 (.agg #[.int .i64 0, .int .i64 0]) 2 Try.underlying28 (fun _ => by kernel_rfl) rfl (by simp [Value.cells, Value.oneCell']) g ((k + (n - (k + 1))) * 2) (n - (k + (n - (k + 1)))) (c - (k + (n - (k + 1)))) (by omega)
    (fun j hj => own_cells o1 (by omega))
  obtain ⟨o2, g2⟩ := own_setCells zs _ _ ((k + (n - (k + 1))) * 2) o1
  obtain ⟨W1, hW1⟩ : ∃ W1, W1 = w.drew.setCells g (0 + k * 2) news := ⟨_, rfl⟩
  rw [← hW1] at hcl o1 o2 g1 g2
  have hW := Lib.hid hW1
  have HCL := Lib.hid hcl
  have hfin : Hid (OA pt 34 2 lo hi (W1.setCells g ((k + (n - (k + 1))) * 2) zs) (.slice (some ⟨g, 0, none⟩) (k + (n - (k + 1))) c) (xs.take k ++ xs.drop (k + 1)) ∧ Mid lo hi w (W1.setCells g ((k + (n - (k + 1))) * 2) zs)) := by
    have o3 := own_cut o2 (k := k + (n - (k + 1))) (by omega)
    have hlx : (xs.flatMap pt).length = n * 2 := own.1.1
    rw [setAll_eq zs _ _ (by rw [setAll_len, hlx, hzl]; omega), setAll_eq news _ _ (by rw [hlx, hlen]; omega), Nat.zero_add] at o3
    have e1 : (((xs.flatMap pt).take (k * 2) ++ news ++ (xs.flatMap pt).drop (k * 2 + news.length)).take ((k + (n - (k + 1))) * 2) ++ zs ++ ((xs.flatMap pt).take (k * 2) ++ news ++ (xs.flatMap pt).drop (k * 2 + news.length)).drop ((k + (n - (k + 1))) * 2 + zs.length)).take ((k + (n - (k + 1))) * 2) = (xs.take k ++ xs.drop (k + 1)).flatMap pt := by
      rw [List.append_assoc, List.take_left' (by simp [hlx, hlen, hzl]; omega), List.take_left' (by simp [hlx, hlen]; omega), flat_take pt_len, List.flatMap_append, hnews'.out]
    rw [e1] at o3
    have hle : (xs.take k ++ xs.drop (k + 1)).length = k + (n - (k + 1)) := by rw [List.length_append, List.length_take, List.length_drop, hm'.out]; omega
    have hgl : lo ≤ g ∧ g < hi := ⟨(World.ownsRow.lt own.1 g rfl).1, own.2 g rfl⟩
    refine ⟨⟨by rw [hle]; exact o3, fun q hq => by injection hq with hq; subst hq; exact hgl.2⟩, ?_⟩
    have hd : Mid lo hi w w.drew := ⟨rfl, rfl, rfl, Nat.le_refl _, fun _ _ _ => rfl⟩
    exact (hd.trans (Mid.of_grown g1 fun q hq => by injection hq with hq; subst hq; exact hgl)).trans (Mid.of_grown g2 fun q hq => by injection hq with hq; subst hq; exact hgl)
  obtain ⟨i0, hi0, hz0, hz1, hz2⟩ := info_parts (ei_pt).2.1
  have hkc : k ≤ c := by omega
  have hkc1 : k + 1 ≤ c := by omega
  have hb1 : (0 : Int) ≤ (k : Int) + 1 := by omega
  have hb2 : (k : Int) + 1 ≤ (n : Int) := by omega
  clear hW1 hcl o1 o2 g1 g2 own ownd hnews hlen hm
  by_cases hck : c = k + 1
  · subst hck
    obtain rfl : n = k + 1 := by omega
    have hnil := Lib.hid (show news.length = 0 * 2 by have := hlen'.out; omega)
    have hb3 : (k : Int) ≤ (k : Int) + 1 := by omega
    have hsrc0 : Hid (∀ t u, news[t]? = some u → w.drew.cell? ((⟨g, 0, none⟩ : Addr).add t) = some u) := by
      intro t u ht
      have := (List.getElem?_eq_some_iff.1 ht).1
      have := hnil.out
      omega
    simp only [Nat.sub_self, Nat.add_zero, Nat.add_sub_cancel_left] at HCL hfin hzl
    clear hlen' hsrc hb2
    have hb2 : (k : Int) + 1 ≤ ((k + 1 : Nat) : Int) := by omega
    go_enter Try.func130, Try.ntmps130
    go_wp2_with fail
    go_region_law (refine step_append_room rfl (.tmp 22) (.tmp 25) 28 rfl 34 i0 2 Try.underlying28 hi0 hz1 g 0 k (k + 1) (by simp [Act.eval, Act.put]) ⟨g, 0, none⟩ 0 0 news (by simp [Act.eval, Act.put]) hnil.out hsrc0.out hone.out (by omega) hsp.out ?_; rw [← hW.out])
    have hcl := HCL.out
    go_wp2
    go_ret
    exact ⟨rfl, hfin.out⟩
  · go_enter Try.func130, Try.ntmps130
    go_wp2_with fail
    go_region_law (refine step_append_room rfl (.tmp 22) (.tmp 25) 28 rfl 34 i0 2 Try.underlying28 hi0 hz1 g 0 k c (by simp [Act.eval, Act.put]) ⟨g, (k + 1) * 2, none⟩ (n - (k + 1)) (c - (k + 1)) news (by simp [Act.eval, Act.put]) hlen'.out hsrc.out hone.out (by omega) hsp.out ?_; rw [← hW.out])
    have hcl := HCL.out
    have hne : ¬ c = k + (n - (k + 1)) := by omega
    have hle1 : k + (n - (k + 1)) ≤ n := by omega
    go_wp2
    go_ret
    rw [show n - 1 = k + (n - (k + 1)) by omega]
    exact ⟨rfl, hfin.out⟩
end Go.Proofs.Ytckihflfjecpbaa
