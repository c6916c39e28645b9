import Derived.Test.YtckihflfjecpbaaW32
namespace Go.Proofs.Ytckihflfjecpbaa
open Go.RowKit
set_option maxHeartbeats 400000
set_option maxRecDepth 100000
def M.dropP {α : Type} (xs : List α) (k : Nat) : List α := xs.take k ++ xs.drop (k + 1)
theorem M.dropP_len {α : Type} (xs : List α) {k : Nat} (hk : k < xs.length) : (M.dropP xs k).length = xs.length - 1 := by
  rw [M.dropP, List.length_append, List.length_take, List.length_drop]
  omega
def M.dropR (xs : List (Int × Int)) (k : Int) : List (Int × Int) × Int :=
  if M.curveOk xs then (if M.inn k 0 ((xs.length : Int) - 1) then (if xs.length = 1 then ([], 6) else (M.dropP xs k.toNat, 0)) else ([], 2)) else ([], 1)
theorem impl_Curve_without (A : Option Addr) (n c k : Nat) (xs : List (Int × Int)) (w : World) (hx : RA pt 2 w w.heap.size A n xs) (hn : n ≤ 1000000000) (hk : k < n) :
    Calls Try.prog 83 #[.agg #[.slice A n c], .int .i64 k] w fun e w' => ∃ v, e = .returned (.agg #[v]) ∧ OA pt 34 2 w.heap.size w'.heap.size w' v (M.dropP xs k) ∧ Below w.heap.size w w' := by
  have hl := Lib.hid hx.len
  have hb2 : Below w.heap.size w ((w.alloc (.cells #[.slice A n c] 30)).alloc (.cells #[.slice none 0 0] 30)) := ((Below.refl _ _).alloc (Nat.le_refl _) _).alloc (by simp) _
  have hx1 := hx.later hb2
  go_enter Try.func83, Try.ntmps83
  go_wp2_with fail
  refine (slices_Clone_impl_CurvePoint_impl_CurvePoint _ _ _ _ _ hx1 hn).mono ?_
  rintro e w2 ⟨v, rfl, own2, bel2⟩
  obtain ⟨A2, c2, rfl, hc2, hm2, -⟩ := own_shape own2.1
  obtain ⟨g, rfl, hg1, hg2, hg3, -⟩ := own2.form (by rw [hl.out]; omega)
  have hq : w2.cell? ⟨w.heap.size + 1, 0, none⟩ = some (.slice none 0 0) := by rw [bel2.cell (by simp)]; simp [go_sem]
  have hf : w2.frozen? ⟨w.heap.size + 1, 0, none⟩ = false := by rw [bel2.frozen (by simp)]; simp [go_sem]
  have hs2 : w.heap.size + 1 + 1 ≤ w2.heap.size := by have := bel2.size; simpa using this
  have e0 : ((w.alloc (.cells #[.slice A n c] 30)).alloc (.cells #[.slice none 0 0] 30)).heap.size = w.heap.size + 1 + 1 := by simp
  rw [e0] at own2
  clear e0
  go_wp2_with fail
  refine (slices_Delete_impl_CurvePoint_impl_CurvePoint g xs.length c2 k _ _ xs w2 own2 (by rw [hl.out]; exact hk) (by rw [hl.out]; exact hn) hc2 hm2).mono ?_
  rintro e w3 ⟨rfl, own3, m3⟩
  have B3 : Below (w.heap.size + 1 + 1) w2 w3 := m3.toBelow hs2
  have hq3 : w3.cell? ⟨w.heap.size + 1, 0, none⟩ = some (.slice none 0 0) := by rw [B3.cell (by simp)]; exact hq
  have hf3 : w3.frozen? ⟨w.heap.size + 1, 0, none⟩ = false := by rw [B3.frozen (by simp)]; exact hf
  go_wp2
  refine bodyPost_ret (v := .agg #[.slice (some ⟨g, 0, none⟩) (xs.length - 1) c2]) (by simp [results, Try.results83, go_sem, hq3, hf3]) rfl ?_
  exact ⟨_, rfl, (own3.mid (Mid.cell w3 (w.heap.size + 1) 0 (.slice (some ⟨g, 0, none⟩) (xs.length - 1) c2)) (.inr (Nat.le_refl _)) m3.size).wide (by omega) (by simpa using m3.size), ((hb2.trans (bel2.mono hb2.size)).trans (B3.mono (by omega))).setCell (by simp) _⟩
theorem RA.cut {α : Type} {enc : α → List Value} {s B n c k : Nat} {w : World} {A : Option Addr} {xs : List α} (henc : ∀ x, (enc x).length = s) (h : RA enc s w B A n xs) (hk : k ≤ n) (hc : n ≤ c) :
    RA enc s w B (if c = k then A else A.map (·.add (k * s))) (n - k) (xs.drop k) := by
  refine ⟨by rw [List.length_drop, h.1], ?_⟩
  rw [← flat_drop henc]
  exact Reads.cut h.2 hk hc
theorem RA.head {α : Type} {enc : α → List Value} {s B n k : Nat} {w : World} {A : Option Addr} {xs : List α} (henc : ∀ x, (enc x).length = s) (h : RA enc s w B A n xs) (hk : k ≤ n) : RA enc s w B A k (xs.take k) := by
  refine ⟨by rw [List.length_take, h.1]; omega, by rw [flat_len henc, List.length_take, h.1, Nat.min_eq_left hk], fun h0 => ?_⟩
  obtain ⟨ad, e, hb, hc⟩ := h.2.2 (by omega)
  refine ⟨ad, e, hb, fun j u hu => hc j u ?_⟩
  rw [← flat_take henc, List.getElem?_take] at hu
  split at hu
  · exact hu
  · simp at hu
theorem spec_l25Drop (A : Option Addr) (n c k : Nat) (xs : List (Int × Int)) (w : World) (hx : RA pt 2 w w.heap.size A n xs) (hn : n ≤ 1000000000) (hk : k < n) (hc : n ≤ c) (hm : c ≤ maxLen) :
    Calls Try.prog 80 #[.slice A n c, .int .i64 k] w fun e w' => ∃ v, e = .returned v ∧ OA pt 34 2 w.heap.size w'.heap.size w' v (M.dropP xs k) ∧ Below w.heap.size w w' := by
  have hl := Lib.hid hx.len
  unfold maxLen at hm
  obtain ⟨b, o, x0, rfl, hab, X0, hc0⟩ := hx.at pt_len (by decide) (k := 0) (by omega)
  clear hc0 X0 x0
  have h0 : (w.alloc (.cells #[] 34)).ownsRow w.heap.size 34 2 (.slice (some ⟨w.heap.size, 0, none⟩) 0 0) 0 [] := World.ownsRow_made _ _ _ (Nat.le_refl _) (by simp [maxLen]) rfl
  have hb0 : Below w.heap.size w (w.alloc (.cells #[] 34)) := (Below.refl _ _).alloc (Nat.le_refl _) _
  have r1 := (hx.head pt_len (Nat.le_of_lt hk)).reads.below hb0
  have r2 := (hx.cut pt_len (k := k + 1) hk hc).reads
  have fin : ∀ v (w1 w2 : World), w2.ownsRow w.heap.size 34 2 v (k + (n - (k + 1))) ((xs.take k).flatMap pt ++ (xs.drop (k + 1)).flatMap pt) → OA pt 34 2 w.heap.size w2.heap.size w2 v (M.dropP xs k) := by
    intro v w1 w2 h
    unfold OA M.dropP
    rw [← List.flatMap_append] at h
    rw [List.length_append, List.length_take, List.length_drop, hl.out, Nat.min_eq_left (Nat.le_of_lt hk)]
    exact OX.of_own h
  have FIN := Lib.hid fin
  clear fin
  by_cases hck : c = k + 1
  · rw [if_pos hck] at r2
    subst hck
    obtain rfl : n = k + 1 := by omega
    rw [Nat.sub_self] at r2 FIN
    have tok1 : True := trivial
    go_enter Try.func80, Try.ntmps80
    go_wp2_with (first | (at_builtin; have _t := tok1; refine wpList_cat ei_pt rfl _ _ rfl h0 rfl r1 rfl (pts_oneCell _) (by unfold maxLen; omega) (by omega) hb0.size ?_; intro v1 w1 own1 gr1 bel1; rw [Nat.zero_add, List.nil_append] at own1; obtain ⟨A1, c1, rfl, -⟩ := own_shape own1; have hb1 := hb0.trans bel1; clear tok1 _t) | (at_builtin; refine wpList_cat ei_pt rfl _ _ rfl own1 rfl (r2.below hb1) rfl (pts_oneCell _) (by unfold maxLen; omega) (by omega) hb1.size ?_; intro v2 w2 own2 gr2 bel2))
    go_ret
    exact ⟨_, rfl, FIN.out _ w1 _ own2, hb1.trans bel2⟩
  · rw [if_neg hck, Option.map_some, Addr.add_lit] at r2
    have tok1 : True := trivial
    go_enter Try.func80, Try.ntmps80
    go_wp2_with (first | (at_builtin; have _t := tok1; refine wpList_cat ei_pt rfl _ _ rfl h0 rfl r1 rfl (pts_oneCell _) (by unfold maxLen; omega) (by omega) hb0.size ?_; intro v1 w1 own1 gr1 bel1; rw [Nat.zero_add, List.nil_append] at own1; obtain ⟨A1, c1, rfl, -⟩ := own_shape own1; have hb1 := hb0.trans bel1; clear tok1 _t) | (at_builtin; refine wpList_cat ei_pt rfl _ _ rfl own1 rfl (r2.below hb1) rfl (pts_oneCell _) (by unfold maxLen; omega) (by omega) hb1.size ?_; intro v2 w2 own2 gr2 bel2))
    go_ret
    exact ⟨_, rfl, FIN.out _ w1 _ own2, hb1.trans bel2⟩
end Go.Proofs.Ytckihflfjecpbaa
