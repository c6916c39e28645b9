import Derived.Test.YtafbhangjeddaaaW71
import Derived.Test.YtafbhangjeddaaaW11
import Derived.Test.YtafbhangjeddaaaW51
import Derived.Test.YtafbhangjeddaaaM2
namespace Go.Proofs.Ytafbhangjeddaaa
open Go.RowKit
set_option maxHeartbeats 1000000
set_option maxRecDepth 100000
/-- What a drawing of a signal gives back. -/
def DrewS (b lo : Nat) (A : Option Addr) (n c : Nat) (code : List UInt8) (K m : Nat) (w : World) (e : Ending) (w' : World) : Prop :=
  ∃ v xs, e = .returned v ∧ OS tI 2 w' (Iv w.heap.size w'.heap.size) v xs ∧ xs.length ≤ m ∧ Hid (∀ x ∈ xs, M.smp x = true) ∧ Src w' b lo A n c code K ∧ Mid b (b + 1) w w'
theorem Mid.thenB {lo hi : Nat} {a b c : World} (h : Mid lo hi a b) (k : Below a.heap.size b c) : Mid lo hi a c :=
  ⟨k.os.trans h.os, k.tape.trans h.tape, k.output.trans h.output, Nat.le_trans h.size k.size, fun i hi' hm => (k.block i hi').trans (h.block i hi' hm)⟩
theorem M.smp_of {x : Int} (h0 : -2147483648 ≤ x) (h1 : x ≤ 2147483647) : M.smp x = true := by simp [M.smp, M.inn]; omega
theorem spec_l03Draw (b lo : Nat) (A : Option Addr) (n c : Nat) (code : List UInt8) (K m : Nat) (w : World) (h : Src w b lo A n c code K) (hK : K ≤ 1000000) (hm : m ≤ 1000) :
    Calls Try.prog 69 #[.pointer (some ⟨b, 0, none⟩), .int .i64 m] w (DrewS b lo A n c code (K + 2 + 6 * m) m w) := by
  have hbw := h.lt
  have hB := (Below.refl w.heap.size w).alloc (Nat.le_refl _) (.cells #[] 2)
  have s0 := h.below hB hbw
  have own0 := OS.made0 tI 2 w
  have hsz0 : (w.alloc (.cells #[] 2)).heap.size = w.heap.size + 1 := by simp
  rw [hsz0] at own0
  have hsz0' := Lib.hid hsz0
  clear hsz0
  go_enter Try.func69, Try.ntmps69
  go_wp2_with fail
  refine (src_pick b lo A n c code K ((m : Int) + 1) _ s0 (by omega) (by omega)).mono ?_
  rintro e w1 ⟨k, rfl, ⟨k0, k1⟩, s1, m1⟩
  obtain ⟨k, rfl⟩ : ∃ j : Nat, k = j := ⟨k.toNat, by omega⟩
  have hkm : k ≤ m := by omega
  have hs1 : w.heap.size + 1 ≤ w1.heap.size := by have h1 := m1.size; rw [hsz0'.out] at h1; exact h1
  have own1 : OS tI 2 w1 (Iv w.heap.size w1.heap.size) (.slice (some ⟨w.heap.size, 0, none⟩) 0 0) [] := (own0.mid m1 (.inr (by omega)) (by rw [hsz0'.out]; exact Nat.le_refl _)).iv (Nat.le_refl _) hs1
  have M1 : Mid b (b + 1) w w1 := (Mid.of_below hB _ _).trans m1
  clear k1 hB own0 m1
  go_wp2_with fail
  go_loopw [5, 6] (fun v i wr => ∃ (j : Nat) (xs : List Int), i = .int .i64 j ∧ j ≤ k ∧ xs.length + j ≤ k ∧ OS tI 2 wr (Iv w.heap.size wr.heap.size) v xs ∧ Hid (∀ x ∈ xs, M.smp x = true) ∧ Src wr b lo A n c code (K + 2 + 6 * (k - j)) ∧ w.heap.size + 1 ≤ wr.heap.size ∧ Mid b (b + 1) w wr)
    (fun _ i _ => (intOf i).toNat)
  case atStart => exact ⟨k, [], rfl, by omega, by simp, own1, Lib.hid (by simp), s1.more (by omega), hs1, M1⟩
  case round =>
    obtain ⟨j, xs, rfl, hj, hxj, own, hsm, s2, hsz, M2⟩ := hrel
    by_cases hlt : 0 < j
    · go_wp2_with fail
      refine (spec_l01Draw b lo A n c code (K + 2 + 6 * (k - j)) wr s2 (by omega)).mono ?_
      rintro e w4 ⟨x, rfl, ⟨x0, x1⟩, s4, m4⟩
      have own4 := own.mid m4 (.inr (by omega)) (Nat.le_refl _)
      have hs4 := m4.size
      have hb4 := s4.lt
      obtain ⟨A0, c0, rfl⟩ := own.shape
      go_wp2_with (at_builtin; refine wpList_pushS (t := tI) ei_i64 #[.int .i64 x] rfl _ _ rfl own4 (Fe := fun _ => False) (y := x) rfl (fun _ _ h => h) rfl rfl (by unfold maxLen; omega) (by omega) ?_; intro v5 w5 own5 ch5)
      go_roundw
      case rel =>
        have hs5 := ch5.size
        have hB5 : Below w.heap.size w4 w5 := ch5.toBelow (fun b hb => hb.1) (by omega)
        refine ⟨j - 1, xs ++ [x], by go_num, by omega, by simp; omega, own5.wide ?_, Lib.hid ?_, (s4.below hB5 hbw).more (by omega), by omega, (M2.trans m4).thenB hB5⟩
        · intro q hq
          rcases hq with hq | hq | hq
          · unfold Iv at *; omega
          · exact hq.elim
          · unfold Iv; omega
        · intro y hy
          rcases List.mem_append.1 hy with h | h
          · exact hsm.out y h
          · simp only [List.mem_singleton] at h
            subst h
            exact M.smp_of x0 x1
      case measure => simp [intOf]; omega
    · obtain rfl : j = 0 := by omega
      go_wp2
      go_ret
      exact ⟨_, _, rfl, own, by omega, hsm, s2.more (by omega), M2⟩
/-- What the drawing of a signal, taps and a factor gives back. -/
def SigP (w : World) (e : Ending) (w' : World) : Prop :=
  ∃ A1 c1 xs A2 c2 ts f, e = .returned (.tuple #[.slice A1 xs.length c1, .slice A2 ts.length c2, .int .i64 f]) ∧ RI w' w'.heap.size A1 xs.length xs ∧ RI w' w'.heap.size A2 ts.length ts ∧
    xs.length ≤ 24 ∧ Hid (∀ x ∈ xs, M.smp x = true) ∧ 1 ≤ ts.length ∧ ts.length ≤ 10 ∧ Hid (∀ x ∈ ts, M.smp x = true) ∧ 1 ≤ f ∧ f ≤ 5 ∧ Below w.heap.size w w'
theorem spec_A2Signal (A : Option Addr) (n c : Nat) (code : List UInt8) (w : World) (hr : RS tU8 w w.heap.size (.slice A n c) code) :
    Calls Try.prog 34 #[.slice A n c] w (SigP w) := by
  go_enter Try.func34, Try.ntmps34
  go_wp2_with fail
  refine (spec_l00From A n c code w hr).mono ?_
  rintro e w1 ⟨b, rfl, rfl, s1, b1, z1⟩
  have z1' := Lib.hid z1
  have lt1 : w.heap.size + 1 ≤ w1.heap.size := by omega
  clear z1
  go_wp2_with fail
  refine (spec_l03Draw _ _ A n c code 0 24 w1 s1 (by omega) (by omega)).mono ?_
  rintro e w2 ⟨v, xs, rfl, o2, hl2, hs2, s2, m2⟩
  obtain ⟨A2, c2, rfl⟩ := o2.shape
  have lt2 := m2.size
  go_wp2_with fail
  refine (spec_l03Draw _ _ A n c code _ 9 w2 s2 (by omega) (by omega)).mono ?_
  rintro e w3 ⟨v, ts, rfl, o3, hl3, hs3, s3, m3⟩
  obtain ⟨A3, c3, rfl⟩ := o3.shape
  have lt3 := m3.size
  have o2a := o2.mid m3 (.inr (by omega)) (Nat.le_refl _)
  go_wp2_with fail
  refine (spec_l01Draw _ _ A n c code _ w3 s3 (by omega)).mono ?_
  rintro e w4 ⟨y, rfl, ⟨y0, y1⟩, s4, m4⟩
  have lt4 := m4.size
  have o2b := o2a.mid m4 (.inr (by omega)) (by omega)
  have o3a := o3.mid m4 (.inr (by omega)) (Nat.le_refl _)
  have h4 := s4.lt
  go_wp2_with (at_builtin; refine wpList_pushS (t := tI) ei_i64 #[.int .i64 y] rfl _ _ rfl o3a (Fe := fun _ => False) (y := y) rfl (fun _ _ h => h) rfl rfl (by unfold maxLen; omega) (by omega) ?_; intro v5 w5 o5 ch5)
  have lt5 := ch5.size
  have B5 : Below w2.heap.size w4 w5 := ch5.toBelow (fun b hb => hb.1) (by omega)
  have s5 := s4.below B5 (by omega)
  have o2c := o2b.below B5 (Nat.le_refl _)
  have o5a : OS tI 2 w5 (Iv w2.heap.size w5.heap.size) v5 (ts ++ [y]) := o5.wide (fun q hq => by
    rcases hq with hq | hq | hq
    · unfold Iv at *; omega
    · exact hq.elim
    · unfold Iv; omega)
  clear o5
  obtain ⟨A5, c5, rfl⟩ := o5a.shape
  go_wp2_with fail
  refine (src_pick _ _ A n c code _ 5 w5 s5 (by omega) (by omega)).mono ?_
  rintro e w6 ⟨f, rfl, ⟨f0, f1⟩, s6, m6⟩
  have lt6 := m6.size
  have o2d := o2c.mid m6 (.inr (by omega)) (by omega)
  have o5b := o5a.mid m6 (.inr (by omega)) (Nat.le_refl _)
  go_wp2
  go_ret3
  refine ⟨A2, c2, xs, A5, c5, ts ++ [y], 1 + f, by rw [List.length_append]; rfl, o2d.read.ri, o5b.read.ri, hl2, hs2, by simp, by simp; omega, Lib.hid ?_, by omega, by omega, ?_⟩
  · intro q hq
    rcases List.mem_append.1 hq with h | h
    · exact hs3.out q h
    · simp only [List.mem_singleton] at h
      subst h
      exact M.smp_of y0 y1
  · have B4 : Below w.heap.size w w4 := ((b1.trans (m2.toBelow (by omega))).trans (m3.toBelow (by omega))).trans (m4.toBelow (by omega))
    exact (B4.trans (B5.mono (by omega))).trans (m6.toBelow (by omega))
theorem laws_a2Long (A A' : Option Addr) (n c n' c' : Nat) (w : World) :
    Calls Try.prog 33 #[.slice A n c, .slice A' n' c'] w fun e w' => e = .returned (.bool (decide (3000 < n) || decide (3000 < n'))) ∧ w = w' := by
  by_cases h1 : 3000 < n
  · go_enter Try.func33, Try.ntmps33
    go_wp2
    go_ret
    exact ⟨ret_bool (by simp [h1]), rfl⟩
  · go_enter Try.func33, Try.ntmps33
    go_wp2
    go_ret
    exact ⟨ret_bool (by rw [Bool.eq_iff_iff]; simp; try omega), rfl⟩
theorem laws_a2At (A : Option Addr) (n c : Nat) (code : List UInt8) (k : Nat) (m : Int) (w : World) (hr : RS tU8 w w.heap.size (.slice A n c) code) (hm : 1 ≤ m) (hm2 : m ≤ 1000) :
    Calls Try.prog 41 #[.slice A n c, .int .i64 k, .int .i64 m] w fun e w' => ∃ v, e = .returned (.int .i64 v) ∧ (0 ≤ v ∧ v < m) ∧ Below w.heap.size w w' := by
  obtain rfl : code.length = n := hr.cap.1
  have hl : code.length ≤ 9223372036854775807 := by have h1 := hr.cap.2; unfold maxLen at h1; omega
  by_cases hlt : k < code.length
  · obtain ⟨bb, o, c1, cs, hv, hab, -, hE, hc⟩ := hr.at (k := k) (by omega)
    simp only [Value.slice.injEq] at hv
    obtain ⟨rfl, -, rfl⟩ := hv
    generalize code[k]'(by omega) = x at hE
    obtain rfl : cs = [.int .u8 (x.toNat : Int)] := hE
    have hx : w.cell? ⟨bb, o + k * 1, none⟩ = some (.int .u8 (x.toNat : Int)) := hc 0 _ rfl
    have hx2 : (0 : Int) ≤ (x.toNat : Int) := by omega
    have hx3 : (x.toNat : Int) ≤ 255 := by have := x.toNat_lt; omega
    rw [Nat.mul_one] at hx
    clear hc
    have hlt' : (k : Int) < (code.length : Int) := by omega
    go_enter Try.func41, Try.ntmps41
    go_wp2
    go_ret
    exact ⟨_, rfl, ⟨Int.emod_nonneg _ (by omega), Int.emod_lt_of_pos _ (by omega)⟩, Below.refl _ _⟩
  · go_enter Try.func41, Try.ntmps41
    go_wp2
    go_ret
    exact ⟨_, rfl, ⟨by omega, by omega⟩, Below.refl _ _⟩
end Go.Proofs.Ytafbhangjeddaaa
