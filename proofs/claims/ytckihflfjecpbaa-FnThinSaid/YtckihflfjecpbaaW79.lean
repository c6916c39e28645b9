import Derived.Test.YtckihflfjecpbaaW78
import Derived.Test.YtckihflfjecpbaaW6
namespace Go.Proofs.Ytckihflfjecpbaa
open Go.RowKit
set_option maxHeartbeats 2000000
set_option maxRecDepth 100000
/-- What the drawing of a signal gives back. -/
def DrewL (b lo : Nat) (A : Option Addr) (n c : Nat) (code : List UInt8) (K m : Nat) (w : World) (e : Ending) (w' : World) : Prop :=
  ∃ v xs, e = .returned v ∧ OS tI 2 w' (Iv w.heap.size w'.heap.size) v xs ∧ xs.length ≤ m ∧ Hid (∀ x ∈ xs, M.smp x = true) ∧ Src w' b lo A n c code K ∧ Mid b (b + 1) w w'
/-- How the drawing of a signal stands. -/
structure DL (w : World) (b lo : Nat) (A : Option Addr) (n c : Nat) (code : List UInt8) (K : Nat) (xs : List Int) (v : Value) (wr : World) : Prop where
  own : OS tI 2 wr (Iv w.heap.size wr.heap.size) v xs
  src : Src wr b lo A n c code K
  mid : Mid b (b + 1) w wr
  sz : w.heap.size + 1 ≤ wr.heap.size
theorem DL.step {w wr w' : World} {b lo : Nat} {A : Option Addr} {n c : Nat} {code : List UInt8} {K K' : Nat} {xs : List Int} {v : Value} (h : DL w b lo A n c code K xs v wr) (hb : b < w.heap.size) (hs : Src w' b lo A n c code K') (hm : Mid b (b + 1) wr w') : DL w b lo A n c code K' xs v w' :=
  have hz := h.sz
  ⟨(h.own.mid hm (.inr (by omega)) (Nat.le_refl _)).iv (Nat.le_refl _) hm.size, hs, h.mid.trans hm, Nat.le_trans hz hm.size⟩
theorem DL.more {w wr : World} {b lo : Nat} {A : Option Addr} {n c : Nat} {code : List UInt8} {K K' : Nat} {xs : List Int} {v : Value} (h : DL w b lo A n c code K xs v wr) (hK : K ≤ K') : DL w b lo A n c code K' xs v wr :=
  ⟨h.own, h.src.more hK, h.mid, h.sz⟩
theorem M.smp_of {x : Int} (h0 : -2147483648 ≤ x) (h1 : x ≤ 2147483647) : M.smp x = true := by simp [M.smp, M.inn]; omega
theorem spec_l29Draw (b lo : Nat) (A : Option Addr) (n c : Nat) (code : List UInt8) (K m : Nat) (w : World) (h : Src w b lo A n c code K) (hK : K ≤ 1000000) (hm : m ≤ 1000) :
    Calls Try.prog 90 #[.pointer (some ⟨b, 0, none⟩), .int .i64 m] w (DrewL b lo A n c code (K + 12 + 6 * m) m w) := by
  have hbw := h.lt
  have d0 : DL w b lo A n c code K [] (.slice (some ⟨w.heap.size, 0, none⟩) 0 0) (w.alloc (.cells #[] 2)) := by
    have hB := (Below.refl w.heap.size w).alloc (Nat.le_refl _) (.cells #[] 2)
    exact ⟨OS.made0 tI 2 w, h.below hB hbw, Mid.of_below hB _ _, by simp⟩
  go_enter Try.func90, Try.ntmps90
  go_wp2_with fail
  refine (spec_l01Draw b lo A n c code K _ d0.src (by omega)).mono ?_
  rintro e w1 ⟨x, rfl, ⟨x0, x1⟩, s1, m1⟩
  have d1 := d0.step hbw s1 m1
  clear d0 s1 m1
  go_wp2_with fail
  refine (src_pick b lo A n c code _ 200 _ d1.src (by omega) (by omega)).mono ?_
  rintro e w2 ⟨s, rfl, ⟨s0, s1⟩, s2, m2⟩
  have d2 := d1.step hbw s2 m2
  clear d1 s2 m2
  have s3 : s ≤ 199 := by omega
  clear s1
  go_wp2_with fail
  refine (src_pick b lo A n c code _ 4 _ d2.src (by omega) (by omega)).mono ?_
  rintro e w3 ⟨q, rfl, ⟨q0, q1⟩, s4, m3⟩
  have d3 := d2.step hbw s4 m3
  clear d2 s4 m3
  have q2 : q ≤ 3 := by omega
  clear q1
  go_wp2_with fail
  refine (src_pick b lo A n c code _ ((m : Int) + 1) _ d3.src (by omega) (by omega)).mono ?_
  rintro e w4 ⟨k, rfl, ⟨k0, k1⟩, s5, m4⟩
  have d4 := d3.step hbw s5 m4
  clear d3 s5 m4
  obtain ⟨k, rfl⟩ : ∃ j : Nat, k = j := ⟨k.toNat, by omega⟩
  have hkm : k ≤ m := by omega
  clear k1
  go_wp2_with fail
  go_loopw [5, 6, 7, 9] (fun v y t i wr => ∃ (j : Nat) (xs : List Int) (z u : Int), i = .int .i64 j ∧ y = .int .i64 z ∧ t = .int .i64 u ∧ j ≤ k ∧ xs.length + j ≤ k ∧ -2147483648 ≤ z ∧ z ≤ 2147483647 ∧ -200 - (xs.length : Int) ≤ u ∧ u ≤ 200 + (xs.length : Int) ∧ Hid (∀ x ∈ xs, M.smp x = true) ∧ DL w b lo A n c code (K + 12 + 6 * (k - j)) xs v wr)
    (fun _ _ _ i _ => (intOf i).toNat)
  case atStart => exact ⟨k, [], x, s - 100, rfl, rfl, rfl, by omega, by simp, by omega, by omega, by simp; omega, by simp; omega, Lib.hid (by simp), d4.more (by omega)⟩
  case round =>
    obtain ⟨j, xs, z, u, rfl, rfl, rfl, hj, hl, z0, z1, u0, u1, hsm, D⟩ := hrel
    have hsz := D.sz
    by_cases hlt : 0 < j
    · have hsm2 : Hid (∀ y ∈ xs ++ [z], M.smp y = true) := Lib.hid (by
        intro y hy
        rcases List.mem_append.1 hy with h | h
        · exact hsm.out y h
        · simp only [List.mem_singleton] at h
          subst h
          exact M.smp_of z0 z1)
      obtain ⟨A0, c0, rfl⟩ := D.own.shape
      by_cases e0 : q = 0
      · subst e0
        go_wp2_with (at_builtin; refine wpList_pushS (t := tI) ei_i64 #[.int .i64 z] rfl _ _ rfl D.own (Fe := fun _ => False) (y := z) rfl (fun _ _ h => h) rfl rfl (by unfold maxLen; omega) (by omega) ?_; intro v5 w5 own5 ch5)
        have D5 : DL w b lo A n c code (K + 12 + 6 * (k - j)) (xs ++ [z]) v5 w5 := by
          have hB5 : Below w.heap.size wr w5 := ch5.toBelow (fun b hb => hb.1) (by omega)
          refine ⟨own5.wide ?_, D.src.below hB5 hbw, D.mid.thenB' hB5 (Nat.le_refl _), by have := ch5.size; omega⟩
          intro q hq
          have h5 := ch5.size
          rcases hq with hq | hq | hq
          · unfold Iv at *; omega
          · exact hq.elim
          · unfold Iv; omega
        clear own5 ch5 D hsz
        generalize hys : xs ++ [z] = ys at D5 hsm2
        have HYS := Lib.hid hys
        clear hys
        have hl5 : ys.length = xs.length + 1 := by rw [← HYS.out]; simp
        refine (spec_l01Draw b lo A n c code _ _ D5.src (by omega)).mono ?_
        rintro e w6 ⟨x6, rfl, ⟨v0, v1⟩, s6, m6⟩
        have D6 := D5.step hbw s6 m6
        go_wp2
        go_roundw
        case rel => exact ⟨j - 1, ys, x6, u, by go_num, rfl, rfl, by omega, by omega, by omega, by omega, by omega, by omega, hsm2, D6.more (by omega)⟩
        case measure => simp [intOf]; omega
      · have f0 : (q == 0) = false := by simpa using e0
        by_cases e1 : q = 1
        · subst e1
          go_wp2_with (at_builtin; refine wpList_pushS (t := tI) ei_i64 #[.int .i64 z] rfl _ _ rfl D.own (Fe := fun _ => False) (y := z) rfl (fun _ _ h => h) rfl rfl (by unfold maxLen; omega) (by omega) ?_; intro v5 w5 own5 ch5)
          have D5 : DL w b lo A n c code (K + 12 + 6 * (k - j)) (xs ++ [z]) v5 w5 := by
            have hB5 : Below w.heap.size wr w5 := ch5.toBelow (fun b hb => hb.1) (by omega)
            refine ⟨own5.wide ?_, D.src.below hB5 hbw, D.mid.thenB' hB5 (Nat.le_refl _), by have := ch5.size; omega⟩
            intro q hq
            have h5 := ch5.size
            rcases hq with hq | hq | hq
            · unfold Iv at *; omega
            · exact hq.elim
            · unfold Iv; omega
          clear own5 ch5 D hsz
          generalize hys : xs ++ [z] = ys at D5 hsm2
          have HYS := Lib.hid hys
          clear hys
          have hl5 : ys.length = xs.length + 1 := by rw [← HYS.out]; simp
          refine (src_pick b lo A n c code _ 9 _ D5.src (by omega) (by omega)).mono ?_
          rintro e w6 ⟨x6, rfl, ⟨v0, v1⟩, s6, m6⟩
          have D6 := D5.step hbw s6 m6
          have v2 : x6 ≤ 8 := by omega
          clear v1
          go_wp2_with fail
          refine (spec_l01Add _ _ _).mono ?_
          rintro e w' ⟨rfl, rfl⟩
          have hb := M.wrap32_bd (z + (x6 - 4))
          go_wp2
          go_roundw
          case rel => exact ⟨j - 1, ys, wrap32 (z + (x6 - 4)), u, by go_num, rfl, rfl, by omega, by omega, by omega, by omega, by omega, by omega, hsm2, D6.more (by omega)⟩
          case measure => simp [intOf]; omega
        · have f1 : (q == 1) = false := by simpa using e1
          by_cases e2 : q = 2
          · subst e2
            go_wp2_with (at_builtin; refine wpList_pushS (t := tI) ei_i64 #[.int .i64 z] rfl _ _ rfl D.own (Fe := fun _ => False) (y := z) rfl (fun _ _ h => h) rfl rfl (by unfold maxLen; omega) (by omega) ?_; intro v5 w5 own5 ch5)
            have D5 : DL w b lo A n c code (K + 12 + 6 * (k - j)) (xs ++ [z]) v5 w5 := by
              have hB5 : Below w.heap.size wr w5 := ch5.toBelow (fun b hb => hb.1) (by omega)
              refine ⟨own5.wide ?_, D.src.below hB5 hbw, D.mid.thenB' hB5 (Nat.le_refl _), by have := ch5.size; omega⟩
              intro q hq
              have h5 := ch5.size
              rcases hq with hq | hq | hq
              · unfold Iv at *; omega
              · exact hq.elim
              · unfold Iv; omega
            clear own5 ch5 D hsz
            generalize hys : xs ++ [z] = ys at D5 hsm2
            have HYS := Lib.hid hys
            clear hys
            have hl5 : ys.length = xs.length + 1 := by rw [← HYS.out]; simp
            refine (spec_l01Add _ _ _).mono ?_
            rintro e w' ⟨rfl, rfl⟩
            go_wp2_with fail
            refine (src_pick b lo A n c code _ 3 _ D5.src (by omega) (by omega)).mono ?_
            rintro e w6 ⟨x6, rfl, ⟨v0, v1⟩, s6, m6⟩
            have D6 := D5.step hbw s6 m6
            have v2 : x6 ≤ 2 := by omega
            clear v1
            have hb := M.wrap32_bd (z + u)
            go_wp2
            go_roundw
            case rel => exact ⟨j - 1, ys, wrap32 (z + u), u + (x6 - 1), by go_num, rfl, rfl, by omega, by omega, by omega, by omega, by omega, by omega, hsm2, D6.more (by omega)⟩
            case measure => simp [intOf]; omega
          · have f2 : (q == 2) = false := by simpa using e2
            go_wp2_with (at_builtin; refine wpList_pushS (t := tI) ei_i64 #[.int .i64 z] rfl _ _ rfl D.own (Fe := fun _ => False) (y := z) rfl (fun _ _ h => h) rfl rfl (by unfold maxLen; omega) (by omega) ?_; intro v5 w5 own5 ch5)
            have D5 : DL w b lo A n c code (K + 12 + 6 * (k - j)) (xs ++ [z]) v5 w5 := by
              have hB5 : Below w.heap.size wr w5 := ch5.toBelow (fun b hb => hb.1) (by omega)
              refine ⟨own5.wide ?_, D.src.below hB5 hbw, D.mid.thenB' hB5 (Nat.le_refl _), by have := ch5.size; omega⟩
              intro q hq
              have h5 := ch5.size
              rcases hq with hq | hq | hq
              · unfold Iv at *; omega
              · exact hq.elim
              · unfold Iv; omega
            clear own5 ch5 D hsz
            generalize hys : xs ++ [z] = ys at D5 hsm2
            have HYS := Lib.hid hys
            clear hys
            have hl5 : ys.length = xs.length + 1 := by rw [← HYS.out]; simp
            refine (src_pick b lo A n c code _ 40 _ D5.src (by omega) (by omega)).mono ?_
            rintro e w6 ⟨x6, rfl, ⟨v0, v1⟩, s6, m6⟩
            have D6 := D5.step hbw s6 m6
            have v2 : x6 ≤ 39 := by omega
            clear v1
            go_wp2
            go_roundw
            case rel => exact ⟨j - 1, ys, x6 - 20, u, by go_num, rfl, rfl, by omega, by omega, by omega, by omega, by omega, by omega, hsm2, D6.more (by omega)⟩
            case measure => simp [intOf]; omega
    · obtain rfl : j = 0 := by omega
      go_wp2
      go_ret
      exact ⟨_, _, rfl, D.own, by omega, hsm, D.src.more (by omega), D.mid⟩
end Go.Proofs.Ytckihflfjecpbaa
