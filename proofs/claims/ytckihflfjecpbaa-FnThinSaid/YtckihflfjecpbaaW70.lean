import Derived.Test.YtckihflfjecpbaaW50
import Derived.Test.YtckihflfjecpbaaK6
namespace Go.Proofs.Ytckihflfjecpbaa
open Go.RowKit
set_option maxHeartbeats 1000000
set_option maxRecDepth 100000
/-- A byte. -/
def tU8 : Ty UInt8 := Ty.flat 1 (by decide) 0 (fun x => [.int .u8 (x.toNat : Int)]) (fun _ => rfl) (by simp [Value.oneCell'])
/-- An object that draws numbers out of code bytes: it lies in block b, the bytes in blocks below lo; at most K of them are drawn. -/
structure SrcP (w : World) (b lo : Nat) (A : Option Addr) (n c : Nat) (code : List UInt8) (K : Nat) (a z : Int) : Prop where
  c0 : w.cell? ⟨b, 0, none⟩ = some (.slice A n c)
  c1 : w.cell? ⟨b, 1, none⟩ = some (.int .i64 a)
  c2 : w.cell? ⟨b, 2, none⟩ = some (.int .u64 z)
  f1 : w.frozen? ⟨b, 1, none⟩ = false
  f2 : w.frozen? ⟨b, 2, none⟩ = false
  rd : RS tU8 w lo (.slice A n c) code
  ha : 0 ≤ a
  hK : a ≤ K
  hb : lo ≤ b
def Src (w : World) (b lo : Nat) (A : Option Addr) (n c : Nat) (code : List UInt8) (K : Nat) : Prop := ∃ a z, SrcP w b lo A n c code K a z
/-- What a drawing gives back: a number, and the object in its new state. -/
def Drew (b lo : Nat) (A : Option Addr) (n c : Nat) (code : List UInt8) (K : Nat) (P : Int → Prop) (w : World) (e : Ending) (w' : World) : Prop :=
  ∃ v, e = .returned (.int .i64 v) ∧ P v ∧ Src w' b lo A n c code K ∧ Mid b (b + 1) w w'
section
variable {w w' : World} {b lo n c K K' : Nat} {A : Option Addr} {code : List UInt8}
theorem Src.lt (h : Src w b lo A n c code K) : b < w.heap.size := by
  obtain ⟨a, z, h⟩ := h
  exact World.block_lt_of_cell? w _ h.c0
theorem Src.keep (h : Src w b lo A n c code K) (hk : ∀ k, k < b + 1 → w'.heap[k]? = w.heap[k]?) : Src w' b lo A n c code K := by
  obtain ⟨a, z, h⟩ := h
  have hb := hk b (by omega)
  refine ⟨a, z, ?_, ?_, ?_, ?_, ?_, h.rd.keep fun p hp => World.cell?_of_block (hk p.block (by have := h.hb; omega)), h.ha, h.hK, h.hb⟩
  · rw [World.cell?_of_block hb]; exact h.c0
  · rw [World.cell?_of_block hb]; exact h.c1
  · rw [World.cell?_of_block hb]; exact h.c2
  · rw [World.frozen?_of_block hb]; exact h.f1
  · rw [World.frozen?_of_block hb]; exact h.f2
theorem Src.below {B : Nat} (h : Src w b lo A n c code K) (hb : Below B w w') (hB : b < B) : Src w' b lo A n c code K := h.keep fun k hk => hb.block k (by omega)
theorem Src.mid {l r : Nat} (h : Src w b lo A n c code K) (hm : Mid l r w w') (hd : b < l) : Src w' b lo A n c code K := by
  have hlt := h.lt
  exact h.keep fun k hk => hm.block k (by omega) (.inl (by omega))
theorem Src.more (h : Src w b lo A n c code K) (hK : K ≤ K') : Src w b lo A n c code K' := by
  obtain ⟨a, z, h⟩ := h
  exact ⟨a, z, h.c0, h.c1, h.c2, h.f1, h.f2, h.rd, h.ha, by have := h.hK; omega, h.hb⟩
end
theorem SrcP.step {w : World} {b lo n c K K' : Nat} {A : Option Addr} {code : List UInt8} {a z : Int} (h : SrcP w b lo A n c code K a z) (m m' : Nat) (a' z' : Int) (ha : 0 ≤ a') (hK : a' ≤ K') :
    SrcP ((((w.drewN m).setCell ⟨b, 1, none⟩ (.int .i64 a')).setCell ⟨b, 2, none⟩ (.int .u64 z')).drewN m') b lo A n c code K' a' z' ∧ Mid b (b + 1) w ((((w.drewN m).setCell ⟨b, 1, none⟩ (.int .i64 a')).setCell ⟨b, 2, none⟩ (.int .u64 z')).drewN m') := by
  obtain ⟨h0, h1, h2, g1, g2, hr, _, _, hb⟩ := h
  have m0 : Mid b (b + 1) w (w.drewN m) := ⟨rfl, rfl, rfl, Nat.le_refl _, fun _ _ _ => rfl⟩
  have m1 : Mid b (b + 1) (w.drewN m) ((w.drewN m).setCell ⟨b, 1, none⟩ (.int .i64 a')) := Mid.of_grown (grown_setCell _ b 1 _) fun k hk => by injection hk with hk; omega
  have m2 : Mid b (b + 1) ((w.drewN m).setCell ⟨b, 1, none⟩ (.int .i64 a')) (((w.drewN m).setCell ⟨b, 1, none⟩ (.int .i64 a')).setCell ⟨b, 2, none⟩ (.int .u64 z')) := Mid.of_grown (grown_setCell _ b 2 _) fun k hk => by injection hk with hk; omega
  have m3 : Mid b (b + 1) (((w.drewN m).setCell ⟨b, 1, none⟩ (.int .i64 a')).setCell ⟨b, 2, none⟩ (.int .u64 z')) ((((w.drewN m).setCell ⟨b, 1, none⟩ (.int .i64 a')).setCell ⟨b, 2, none⟩ (.int .u64 z')).drewN m') := ⟨rfl, rfl, rfl, Nat.le_refl _, fun _ _ _ => rfl⟩
  have M := ((m0.trans m1).trans m2).trans m3
  refine ⟨⟨?_, ?_, ?_, ?_, ?_, hr.keep fun p hp => World.cell?_of_block (M.block p.block ?_ (.inl (by omega))), ha, hK, hb⟩, M⟩
  · simp [go_sem, *]
  · simp [go_sem, *]
  · simp [go_sem, *]
  · simp [go_sem, *]
  · simp [go_sem, *]
  · have := World.block_lt_of_cell? w _ h0
    simp only at this
    omega
theorem byte_low (n : Int) : 0 ≤ wrap64 (bits BinOp.and IntKind.u64 n 255) ∧ wrap64 (bits BinOp.and IntKind.u64 n 255) ≤ 255 := by
  have hx : ((BitVec.ofInt 64 n &&& BitVec.ofInt 64 255).toNat : Int) ≤ 255 := by
    rw [BitVec.toNat_and, show (BitVec.ofInt 64 255).toNat = 2 ^ 8 - 1 from by decide, Nat.and_two_pow_sub_one_eq_mod]
    omega
  have h2 : bits BinOp.and IntKind.u64 n 255 = ((BitVec.ofInt 64 n &&& BitVec.ofInt 64 255).toNat : Int) := by
    show IntKind.u64.wrap ((BitVec.ofInt 64 n &&& BitVec.ofInt 64 255).toNat : Int) = _
    rw [IntKind.wrap_u64]
    omega
  rw [h2]
  unfold wrap64
  omega
theorem src_next (b lo : Nat) (A : Option Addr) (n c : Nat) (code : List UInt8) (K : Nat) (w : World) (h : Src w b lo A n c code K) (hK : K ≤ 1000000000000) :
    Calls Try.prog 154 #[.pointer (some ⟨b, 0, none⟩)] w (Drew b lo A n c code (K + 1) (fun v => 0 ≤ v ∧ v ≤ 255) w) := by
  obtain ⟨a, z, hP⟩ := h
  obtain ⟨hc0, hc1, hc2, hf1, hf2, hr, ha, haK, hlo⟩ := hP
  have HP := Lib.hid (SrcP.mk hc0 hc1 hc2 hf1 hf2 hr ha haK hlo)
  obtain rfl : code.length = n := hr.cap.1
  have hl : code.length ≤ 9223372036854775807 := by have h1 := hr.cap.2; unfold maxLen at h1; omega
  have hbw : b < w.heap.size := World.block_lt_of_cell? w _ hc0
  by_cases hlt : a < code.length
  · obtain ⟨k, rfl⟩ : ∃ k : Nat, a = k := ⟨a.toNat, by omega⟩
    obtain ⟨bb, o, c1, cs, hv, hab, -, hE, hc⟩ := hr.at (k := k) (by omega)
    simp only [Value.slice.injEq] at hv
    obtain ⟨rfl, -, rfl⟩ := hv
    generalize code[k]'(by omega) = x at hE
    obtain rfl : cs = [.int .u8 (x.toNat : Int)] := hE
    have hx : w.cell? ⟨bb, o + k * 1, none⟩ = some (.int .u8 (x.toNat : Int)) := hc 0 _ rfl
    have hx2 : (0 : Int) ≤ (x.toNat : Int) := by omega
    have hx3 : (x.toNat : Int) ≤ 255 := by have := x.toNat_lt; omega
    rw [Nat.mul_one] at hx
    clear hc
    have hlt' : (k : Int) < (code.length : Int) := hlt
    go_enter Try.func154, Try.ntmps154
    go_wp2
    go_quiet (fail)
    go_wp2
    go_quiet (fail)
    go_wp2
    go_quiet (fail)
    go_wp2
    go_ret
    exact ⟨_, rfl, ⟨by omega, by omega⟩, ⟨_, _, (HP.out.step _ _ ((k : Int) + 1) _ (by omega) (by omega)).1⟩, (HP.out.step _ _ ((k : Int) + 1) _ (by omega) (K' := K + 1) (by omega)).2⟩
  · have hgt : (code.length : Int) ≤ a := by omega
    have hdl : decide (a < (code.length : Int)) = false := by simp; omega
    have hd2 : decide (a + 1 ≤ (code.length : Int)) = false := by simp; omega
    go_enter Try.func154, Try.ntmps154
    go_wp2
    go_quiet (fail)
    go_wp2
    go_quiet (fail)
    go_wp2
    go_ret
    exact ⟨_, rfl, byte_low _, ⟨_, _, (HP.out.step _ _ (a + 1) _ (by omega) (by omega)).1⟩, (HP.out.step _ _ (a + 1) _ (by omega) (K' := K + 1) (by omega)).2⟩
theorem src_pick (b lo : Nat) (A : Option Addr) (n c : Nat) (code : List UInt8) (K : Nat) (m : Int) (w : World) (h : Src w b lo A n c code K) (hK : K ≤ 100000000000) (hm : m ≤ 65536) :
    Calls Try.prog 131 #[.pointer (some ⟨b, 0, none⟩), .int .i64 m] w (Drew b lo A n c code (K + 2) (fun v => 0 ≤ v ∧ (v < m ∨ v = 0)) w) := by
  by_cases h1 : m ≤ 1
  · go_enter Try.func131, Try.ntmps131
    go_wp2
    go_ret
    exact ⟨0, rfl, ⟨by omega, .inr rfl⟩, h.more (by omega), Mid.refl _ _ _⟩
  · by_cases h2 : 200 < m
    · go_enter Try.func131, Try.ntmps131
      go_wp2_with fail
      refine (src_next b lo A n c code K w h (by omega)).mono ?_
      rintro e w1 ⟨x, rfl, ⟨x0, x1⟩, s1, m1⟩
      go_wp2_with fail
      refine (src_next b lo A n c code (K + 1) w1 s1 (by omega)).mono ?_
      rintro e w2 ⟨y, rfl, ⟨y0, y1⟩, s2, m2⟩
      go_wp2
      go_ret
      exact ⟨_, rfl, ⟨Int.emod_nonneg _ (by omega), .inl (Int.emod_lt_of_pos _ (by omega))⟩, s2, m1.trans m2⟩
    · go_enter Try.func131, Try.ntmps131
      go_wp2_with fail
      refine (src_next b lo A n c code K w h (by omega)).mono ?_
      rintro e w1 ⟨x, rfl, ⟨x0, x1⟩, s1, m1⟩
      go_wp2
      go_ret
      exact ⟨_, rfl, ⟨Int.emod_nonneg _ (by omega), .inl (Int.emod_lt_of_pos _ (by omega))⟩, s1.more (by omega), m1⟩
theorem spec_l00From (A : Option Addr) (n c : Nat) (code : List UInt8) (w : World) (hr : RS tU8 w w.heap.size (.slice A n c) code) :
    Calls Try.prog 87 #[.slice A n c] w fun e w' => ∃ b, e = .returned (.pointer (some ⟨b, 0, none⟩)) ∧ b = w.heap.size ∧ Src w' b w.heap.size A n c code 0 ∧ Below w.heap.size w w' ∧ w'.heap.size = w.heap.size + 1 := by
  have hs : (w.alloc (.cells #[.slice A n c, .int .i64 0, .int .u64 0] 145)).heap.size = w.heap.size + 1 := by simp
  have hs' := Lib.hid hs
  have hb : Below w.heap.size w (w.alloc (.cells #[.slice A n c, .int .i64 0, .int .u64 0] 145)) := (Below.refl _ _).alloc (Nat.le_refl _) _
  clear hs
  go_enter Try.func87, Try.ntmps87
  go_wp2
  go_ret
  exact ⟨_, rfl, rfl, ⟨0, 0, by simp [go_sem], by simp [go_sem], by simp [go_sem], by simp [go_sem], by simp [go_sem], hr.keep fun p hp => hb.cell hp, by omega, by omega, Nat.le_refl _⟩, hb, hs'.out⟩
end Go.Proofs.Ytckihflfjecpbaa
