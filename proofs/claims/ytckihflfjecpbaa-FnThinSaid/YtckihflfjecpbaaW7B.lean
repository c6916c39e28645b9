import Derived.Test.YtckihflfjecpbaaW79
import Derived.Test.YtckihflfjecpbaaW3
namespace Go.Proofs.Ytckihflfjecpbaa
open Go.RowKit
set_option maxHeartbeats 2000000
set_option maxRecDepth 100000
theorem laws_v8Same (A A' : Option Addr) (n c n' c' : Nat) (xs ys : List Int) (w : World) (hx : RI w w.heap.size A n xs) (hy : RI w w.heap.size A' n' ys) (hn : n ≤ 1000000000) :
    Calls Try.prog 43 #[.slice A n c, .slice A' n' c'] w fun e w' => e = .returned (.bool (decide (xs = ys))) ∧ Below w.heap.size w w' := by
  have hl := Lib.hid hx.len
  have hl' := Lib.hid hy.len
  by_cases hnn : n = n'
  · subst hnn
    go_enter Try.func43, Try.ntmps43
    go_wp2
    go_loopw [5] (fun i wr => ∃ k : Nat, i = .int .i64 k ∧ k ≤ n ∧ Hid (xs.take k = ys.take k) ∧ Below w.heap.size w wr) (fun i _ => n - (intOf i).toNat)
    case atStart => exact ⟨0, rfl, by omega, Lib.hid (by simp), Below.refl _ _⟩
    case round =>
      obtain ⟨k, rfl, hk, H, hb⟩ := hrel
      by_cases hlt : k < n
      · obtain ⟨ad, x, rfl, hab, X, hc⟩ := (hx.below hb).at hlt
        obtain ⟨ad', y, rfl, hab', Y, hc'⟩ := (hy.below hb).at hlt
        by_cases hxy : x = y
        · subst hxy
          go_wp2
          go_quiet (fail)
          go_wp2
          go_roundw
          case rel => exact ⟨k + 1, by go_num, by omega, Lib.hid (by rw [M.take_at X.out, M.take_at Y.out, H.out]), hb.trans (below_drewN (Below.refl _ _) _)⟩
          case measure => simp [intOf]; omega
        · have hne := Lib.hid (show ¬ xs = ys from fun e => hxy (by have h1 := X.out; have h2 := Y.out; rw [e, h2] at h1; injection h1 with h1; exact h1.symm))
          have hxy' : (x == y) = false := by simpa using hxy
          clear hxy
          go_wp2
          go_quiet (fail)
          go_wp2
          go_ret
          exact ⟨ret_bool (by simp [hne.out]), hb.trans (below_drewN (Below.refl _ _) _)⟩
      · go_wp2
        go_ret
        have h1 : xs = ys := by have := H.out; rwa [List.take_of_length_le (by rw [hl.out]; omega), List.take_of_length_le (by rw [hl'.out]; omega)] at this
        exact ⟨ret_bool (by simp [h1]), hb⟩
  · have hne := Lib.hid (show ¬ xs = ys from fun e => hnn (by rw [← hl.out, ← hl'.out, e]))
    go_enter Try.func43, Try.ntmps43
    go_wp2
    go_ret
    exact ⟨ret_bool (by simp [hne.out]), Below.refl _ _⟩
theorem laws_v8Long (A A' : Option Addr) (n c n' c' : Nat) (w : World) :
    Calls Try.prog 32 #[.slice A n c, .slice A' n' c'] w fun e w' => e = .returned (.bool (decide (1048576 < n) || decide (1048576 < n'))) ∧ w = w' := by
  by_cases h1 : 1048576 < n
  · go_enter Try.func32, Try.ntmps32
    go_wp2
    go_ret
    exact ⟨ret_bool (by simp [h1]), rfl⟩
  · go_enter Try.func32, Try.ntmps32
    go_wp2
    go_ret
    exact ⟨ret_bool (by rw [Bool.eq_iff_iff]; simp; try omega), rfl⟩
theorem byte_cell {w : World} {A : Option Addr} {n c : Nat} {code : List UInt8} (hr : RS tU8 w w.heap.size (.slice A n c) code) {k : Nat} (hk : k < n) :
    ∃ (bb o : Nat) (x : Int), A = some ⟨bb, o, none⟩ ∧ w.cell? ⟨bb, o + k, none⟩ = some (.int .u8 x) ∧ 0 ≤ x ∧ x ≤ 255 := by
  obtain rfl : code.length = n := hr.cap.1
  obtain ⟨bb, o, c1, cs, hv, hab, -, hE, hc⟩ := hr.at (k := k) (by omega)
  simp only [Value.slice.injEq] at hv
  obtain ⟨rfl, -, rfl⟩ := hv
  generalize code[k]'(by omega) = x at hE
  obtain rfl : cs = [.int .u8 (x.toNat : Int)] := hE
  have hx : w.cell? ⟨bb, o + k * 1, none⟩ = some (.int .u8 (x.toNat : Int)) := hc 0 _ rfl
  rw [Nat.mul_one] at hx
  exact ⟨bb, o, _, rfl, hx, by omega, by have := x.toNat_lt; omega⟩
theorem laws_v8At (A : Option Addr) (n c : Nat) (code : List UInt8) (k : Nat) (m : Int) (w : World) (hr : RS tU8 w w.heap.size (.slice A n c) code) (hk : k ≤ 1000) (hm : 0 ≤ m ∧ m ≤ 1000000) :
    Calls Try.prog 34 #[.slice A n c, .int .i64 k, .int .i64 m] w fun e w' => ∃ v, e = .returned (.int .i64 v) ∧ (0 ≤ v ∧ (v < m ∨ v = 0)) ∧ Below w.heap.size w w' := by
  have hl : n ≤ 9223372036854775807 := by have h1 := hr.cap.2; unfold maxLen at h1; omega
  by_cases h1 : m ≤ 1
  · go_enter Try.func34, Try.ntmps34
    go_wp2
    go_ret
    exact ⟨_, rfl, ⟨by omega, .inr rfl⟩, Below.refl _ _⟩
  · by_cases hlt : k < n
    · obtain ⟨bb, o, x, rfl, hx, x0, x1⟩ := byte_cell hr hlt
      have hlt' : (k : Int) < (n : Int) := by omega
      have hd1 : decide ((n : Int) ≤ (k : Int)) = false := by simp; omega
      have hd2 : decide (n ≤ k) = false := by simp; omega
      have hd3 : ¬ n ≤ k := by omega
      by_cases hl2 : k + 1 < n
      · obtain ⟨bb', o', y, he, hy, y0, y1⟩ := byte_cell hr hl2
        simp only [Option.some.injEq, Addr.mk.injEq] at he
        obtain ⟨rfl, rfl, -⟩ := he
        have hl3 : (k : Int) + 1 < (n : Int) := by omega
        have hl4 : ((k : Int) + 1).toNat = k + 1 := by omega
        go_enter Try.func34, Try.ntmps34
        go_wp2
        go_ret
        exact ⟨_, rfl, ⟨Int.emod_nonneg _ (by omega), .inl (Int.emod_lt_of_pos _ (by omega))⟩, Below.refl _ _⟩
      · have hl3 : ¬ (k : Int) + 1 < (n : Int) := by omega
        go_enter Try.func34, Try.ntmps34
        go_wp2
        go_ret
        exact ⟨_, rfl, ⟨Int.emod_nonneg _ (by omega), .inl (Int.emod_lt_of_pos _ (by omega))⟩, Below.refl _ _⟩
    · have hd2 : n ≤ k := by omega
      go_enter Try.func34, Try.ntmps34
      go_wp2
      go_ret
      exact ⟨_, rfl, ⟨by omega, .inr rfl⟩, Below.refl _ _⟩
def SigL (m : Nat) (w : World) (e : Ending) (w' : World) : Prop :=
  ∃ A1 c1 xs, e = .returned (.slice A1 (List.length xs) c1) ∧ RI w' w'.heap.size A1 xs.length xs ∧ xs.length ≤ m ∧ Hid (∀ x ∈ xs, M.smp x = true) ∧ Below w.heap.size w w'
theorem spec_E8Signal (A : Option Addr) (n c m : Nat) (code : List UInt8) (w : World) (hr : RS tU8 w w.heap.size (.slice A n c) code) (hm : m ≤ 1000) :
    Calls Try.prog 37 #[.slice A n c, .int .i64 m] w (SigL m w) := by
  go_enter Try.func37, Try.ntmps37
  go_wp2_with fail
  refine (spec_l00From A n c code w hr).mono ?_
  rintro e w1 ⟨b, rfl, rfl, s1, b1, z1⟩
  have z1' := Lib.hid z1
  have lt1 : w.heap.size + 1 ≤ w1.heap.size := by omega
  clear z1
  go_wp2_with fail
  refine (spec_l29Draw _ _ A n c code 0 m w1 s1 (by omega) (by omega)).mono ?_
  rintro e w2 ⟨v, xs, rfl, o2, hl2, hs2, s2, m2⟩
  obtain ⟨A2, c2, rfl⟩ := o2.shape
  go_wp2
  go_ret
  exact ⟨A2, c2, xs, rfl, o2.read.ri, hl2, hs2, b1.trans (m2.toBelow (by omega))⟩
def CurL (w : World) (e : Ending) (w' : World) : Prop :=
  ∃ A1 c1 xs, e = .returned (.agg #[.slice A1 (List.length xs) c1]) ∧ RA pt 2 w' w'.heap.size A1 xs.length xs ∧ Hid (M.curveOk xs = true ∧ ∀ p ∈ xs, p.1 ≤ 100) ∧ xs.length ≤ 24 ∧ xs.length ≤ c1 ∧ c1 ≤ maxLen ∧ Below w.heap.size w w'
theorem OA.cap {α : Type} {enc : α → List Value} {e : TypeId} {s lo hi n c : Nat} {w : World} {A : Option Addr} {xs : List α} (h : OA enc e s lo hi w (.slice A n c) xs) : n ≤ c ∧ c ≤ maxLen := by
  obtain ⟨A', c', hv, h1, h2, _⟩ := own_shape h.1
  simp only [Value.slice.injEq] at hv
  obtain ⟨rfl, rfl, rfl⟩ := hv
  exact ⟨h1, h2⟩
theorem spec_E8Curve (A : Option Addr) (n c : Nat) (code : List UInt8) (w : World) (hr : RS tU8 w w.heap.size (.slice A n c) code) :
    Calls Try.prog 33 #[.slice A n c] w (CurL w) := by
  obtain ⟨W, hW⟩ : ∃ W, W = w.alloc (.cells #[.slice none 0 0] 30) := ⟨_, rfl⟩
  have B0 : Below w.heap.size w W := by rw [hW]; exact (Below.refl _ _).alloc (Nat.le_refl _) _
  have z0 : w.heap.size + 1 ≤ W.heap.size := by rw [hW]; simp
  have q0 : W.cell? ⟨w.heap.size, 0, none⟩ = some (.slice none 0 0) := by rw [hW]; simp [go_sem]
  have f0 : W.frozen? ⟨w.heap.size, 0, none⟩ = false := by rw [hW]; simp [go_sem]
  have HW := Lib.hid hW
  clear hW
  have hr0 := hr.later B0
  go_enter Try.func33, Try.ntmps33
  go_wp2_with fail
  rw [← HW.out]
  refine (spec_l00From A n c code W hr0).mono ?_
  rintro e w1 ⟨b, rfl, hb, s1, b1, z1⟩
  have hbl : w.heap.size + 1 ≤ b := by omega
  have lt1 : b + 1 ≤ w1.heap.size := by omega
  have hb' := Lib.hid hb
  clear z1 hb
  go_wp2_with fail
  refine (spec_l25Draw _ _ A n c code 0 w1 s1 (by omega)).mono ?_
  rintro e w2 ⟨A1, c1, xs, rfl, o2, hok, s2, m2⟩
  have lt2 := m2.size
  have q2 : w2.cell? ⟨w.heap.size, 0, none⟩ = some (.slice none 0 0) := by rw [World.cell?_of_block (m2.block w.heap.size (by omega) (.inl (by omega))), b1.cell (by show w.heap.size < _; omega)]; exact q0
  have f2 : w2.frozen? ⟨w.heap.size, 0, none⟩ = false := by rw [World.frozen?_of_block (m2.block w.heap.size (by omega) (.inl (by omega))), b1.frozen (by show w.heap.size < _; omega)]; exact f0
  go_wp2
  refine bodyPost_ret (v := .agg #[.slice A1 xs.length c1]) (by simp [results, Try.results33, go_sem, q2, f2]) rfl ?_
  have hm : Mid w.heap.size (w.heap.size + 1) w2 (w2.setCell ⟨w.heap.size, 0, none⟩ (.slice A1 xs.length c1)) := Mid.cell w2 w.heap.size 0 _
  have o3 := o2.mid hm (.inr (by omega)) (Nat.le_refl _)
  have hb1 := hb'.out
  refine ⟨A1, c1, xs, rfl, o3.ra, hok, (M.curve_len hok.out.1).2, o3.cap.1, o3.cap.2, ?_⟩
  exact ((B0.trans (b1.mono B0.size)).trans ((m2.toBelow (by omega)).mono (by omega))).setCell (Nat.le_refl _) _
end Go.Proofs.Ytckihflfjecpbaa
