import Derived.Test.YtckihflfjecpbaaW70
namespace Go.Proofs.Ytckihflfjecpbaa
open Go.RowKit
set_option maxHeartbeats 1000000
set_option maxRecDepth 100000
theorem src_among (b lo : Nat) (A : Option Addr) (n c : Nat) (code : List UInt8) (K : Nat) (g m d : Nat) (xs : List Int) (w : World) (h : Src w b lo A n c code K) (hK : K ≤ 100000000000) (hl : xs.length = m) (hm : 0 < m ∧ m ≤ 60000) (hg : g ≠ b) (hgw : g < w.heap.size)
    (hc : ∀ j x, xs[j]? = some x → w.cell? ⟨g, j, none⟩ = some (.int .i64 x)) :
    Calls Try.prog 132 #[.pointer (some ⟨b, 0, none⟩), .slice (some ⟨g, 0, none⟩) m d] w (Drew b lo A n c code (K + 2) (fun v => v ∈ xs) w) := by
  have HC := Lib.hid hc
  have HL := Lib.hid hl
  clear hc hl
  go_enter Try.func132, Try.ntmps132
  go_wp2_with fail
  refine (src_pick b lo A n c code K m w h hK (by omega)).mono ?_
  rintro e w1 ⟨v, rfl, ⟨v0, v1⟩, s1, m1⟩
  obtain ⟨k, rfl⟩ : ∃ k : Nat, v = k := ⟨v.toNat, by omega⟩
  have hk : k < m := by omega
  have hk2 : (k : Int) < (m : Int) := by omega
  have hX := Lib.hid (List.getElem?_eq_getElem (l := xs) (i := k) (by rw [HL.out]; exact hk))
  generalize xs[k]'(by rw [HL.out]; exact hk) = x at hX
  have hx : w1.cell? ⟨g, k, none⟩ = some (.int .i64 x) := by
    rw [World.cell?_of_block (m1.block g hgw (by omega))]
    exact HC.out k x hX.out
  go_wp2
  go_ret
  exact ⟨x, rfl, List.mem_of_getElem? hX.out, s1, m1⟩
theorem spec_l01Draw (b lo : Nat) (A : Option Addr) (n c : Nat) (code : List UInt8) (K : Nat) (w : World) (h : Src w b lo A n c code K) (hK : K ≤ 10000000000) :
    Calls Try.prog 134 #[.pointer (some ⟨b, 0, none⟩)] w (Drew b lo A n c code (K + 6) (fun v => -2147483648 ≤ v ∧ v ≤ 2147483647) w) := by
  have hbw := h.lt
  go_enter Try.func134, Try.ntmps134
  go_wp2_with fail
  refine (src_pick b lo A n c code K 8 w h (by omega) (by omega)).mono ?_
  rintro e w1 ⟨v, rfl, ⟨v0, v1⟩, s1, m1⟩
  have hb1 := s1.lt
  by_cases e0 : v = 0
  · subst e0
    have s2 := s1.below ((Below.refl w1.heap.size w1).alloc (Nat.le_refl _) (.cells #[.int .i64 (-2147483648), .int .i64 2147483647, .int .i64 (-2147483647), .int .i64 65536, .int .i64 (-65536), .int .i64 1073741824] 2)) hb1
    go_wp2_with fail
    refine (src_among b lo A n c code (K + 2) w1.heap.size 6 6 [-2147483648, 2147483647, -2147483647, 65536, -65536, 1073741824] _ s2 (by omega) rfl (by omega) (by omega) (by simp) ?_).mono ?_
    · intro j x hx
      rw [cell_of_row _ w1.heap.size j _ 2 (0, 0) (heap_alloc_new w1 _)]
      match j, hx with
      | 0, hx => simp at hx; subst hx; rfl
      | 1, hx => simp at hx; subst hx; rfl
      | 2, hx => simp at hx; subst hx; rfl
      | 3, hx => simp at hx; subst hx; rfl
      | 4, hx => simp at hx; subst hx; rfl
      | 5, hx => simp at hx; subst hx; rfl
      | j + 6, hx => simp at hx
    · rintro e w2 ⟨x, rfl, hx, s3, m3⟩
      go_wp2
      go_ret
      refine ⟨x, rfl, ?_, s3.more (by omega), m1.trans ((Mid.of_below ((Below.refl _ _).alloc (Nat.le_refl _) _) _ _).trans m3)⟩
      simp at hx
      omega
  · have f0 : (v == 0) = false := by simpa using e0
    by_cases e1 : v = 1
    · subst e1
      go_wp2_with fail
      refine (src_next b lo A n c code (K + 2) w1 s1 (by omega)).mono ?_
      rintro e w2 ⟨x, rfl, ⟨x0, x1⟩, s2, m2⟩
      go_wp2_with fail
      go_loopw [3, 4] (fun q i wr => ∃ (j : Nat) (y : Int), i = .int .i64 j ∧ j ≤ 3 ∧ q = .int .i64 y ∧ 0 ≤ y ∧ y < 256 ^ (j + 1) ∧ Src wr b lo A n c code (K + 3 + j) ∧ Mid b (b + 1) w wr) (fun _ i _ => 3 - (intOf i).toNat)
      case atStart => exact ⟨0, x, rfl, by omega, rfl, by omega, by omega, s2, m1.trans m2⟩
      case round =>
        obtain ⟨j, y, rfl, hj, rfl, y0, y1, s3, m3⟩ := hrel
        by_cases hlt : j < 3
        · have hy2 : y ≤ 16777215 ∧ 256 * y + 255 < 256 ^ (j + 1 + 1) := by
            rcases (show j = 0 ∨ j = 1 ∨ j = 2 by omega) with rfl | rfl | rfl <;> omega
          obtain ⟨hy2, hy3⟩ := hy2
          have hy3' := Lib.hid hy3
          clear y1 hy3
          go_wp2_with fail
          refine (src_next b lo A n c code (K + 3 + j) wr s3 (by omega)).mono ?_
          rintro e w4 ⟨u, rfl, ⟨u0, u1⟩, s4, m4⟩
          go_wp2
          go_roundw
          case rel => exact ⟨j + 1, 256 * y + u, by go_num, by omega, rfl, by omega, by have := hy3'.out; omega, s4.more (by omega), m3.trans m4⟩
          case measure => simp [intOf]; omega
        · clear y1
          go_wp2_with (go_at_call 98; refine (spec_l01Wrap _ _).mono ?_; rintro e w' ⟨rfl, rfl⟩)
          go_ret
          have hw : -2147483648 ≤ wrap32 y ∧ wrap32 y ≤ 2147483647 := by unfold wrap32; omega
          exact ⟨_, rfl, hw, s3.more (by omega), m3⟩
    · have f1 : (v == 1) = false := by simpa using e1
      by_cases e2 : v = 2
      · subst e2
        go_wp2_with fail
        go_ret
        exact ⟨0, rfl, by omega, s1.more (by omega), m1⟩
      · have f2 : (v == 2) = false := by simpa using e2
        go_wp2_with fail
        refine (src_pick b lo A n c code (K + 2) 41 w1 s1 (by omega) (by omega)).mono ?_
        rintro e w2 ⟨x, rfl, ⟨x0, x1⟩, s2, m2⟩
        go_wp2
        go_ret
        exact ⟨_, rfl, by omega, s2.more (by omega), m1.trans m2⟩
end Go.Proofs.Ytckihflfjecpbaa
