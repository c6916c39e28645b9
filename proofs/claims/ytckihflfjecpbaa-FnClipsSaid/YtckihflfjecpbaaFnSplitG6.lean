import Derived.Test.YtckihflfjecpbaaFnSplitG5
import Derived.Test.YtckihflfjecpbaaFnSplitG2
import Derived.Test.YtckihflfjecpbaaFnSplitG1
import Derived.Lib.QuietBelow
import Derived.BigQuiet
set_option linter.unusedVariables false
set_option linter.unusedSimpArgs false
namespace Go.Proofs.Ytckihflfjecpbaa
open Go.RowKit
set_option maxHeartbeats 2000000
set_option maxRecDepth 100000
def M.clampT (d : Int) : Int := max (-8000) (min 8000 d)
theorem M.clampT_bd (d : Int) : -8000 ≤ M.clampT d ∧ M.clampT d ≤ 8000 := by unfold M.clampT; omega
def M.shiftP (xs : List (Int × Int)) (d : Int) : List (Int × Int) := xs.map fun p => (p.1 + d, p.2)
def M.shiftR (xs : List (Int × Int)) (d : Int) : List (Int × Int) × Int := if M.curveOk xs then (if M.curveOk (M.shiftP xs (M.clampT d)) then (M.shiftP xs (M.clampT d), 0) else ([], 2)) else ([], 1)
theorem M.shiftP_len (xs : List (Int × Int)) (d : Int) : (M.shiftP xs d).length = xs.length := by simp [M.shiftP]
theorem M.shiftP_at {xs : List (Int × Int)} {k : Nat} {p : Int × Int} (d : Int) (h : xs[k]? = some p) : (M.shiftP xs d)[k]? = some (p.1 + d, p.2) := by simp [M.shiftP, h]
theorem M.seg_shift (p q : Int × Int) (t d : Int) : M.seg (p.1 + d, p.2) (q.1 + d, q.2) (t + d) = M.seg p q t := by
  unfold M.seg
  simp only
  rw [show t + d - (p.1 + d) = t - p.1 by omega, show q.1 + d - (p.1 + d) = q.1 - p.1 by omega]
theorem M.atGo_shift (qs : List (Int × Int)) (t d : Int) : ∀ p : Int × Int, M.atGo (p.1 + d, p.2) (M.shiftP qs d) (t + d) = M.atGo p qs t := by
  induction qs with
  | nil => intro p; rfl
  | cons q qs ih =>
    intro p
    show M.atGo (p.1 + d, p.2) ((q.1 + d, q.2) :: M.shiftP qs d) (t + d) = _
    rw [M.atGo, M.atGo, M.seg_shift, ih q]
    simp only
    by_cases h : t < q.1
    · rw [if_pos h, if_pos (by omega)]
    · rw [if_neg h, if_neg (by omega)]
theorem M.atC_shift (xs : List (Int × Int)) (t d : Int) : M.atC (M.shiftP xs d) (t + d) = M.atC xs t := by
  cases xs with
  | nil => rfl
  | cons p qs =>
    show M.atC ((p.1 + d, p.2) :: M.shiftP qs d) (t + d) = _
    rw [M.atC, M.atC, M.atGo_shift]
    simp only
    by_cases h : t < p.1
    · rw [if_pos h, if_pos (by omega)]
    · rw [if_neg h, if_neg (by omega)]
theorem M.shift_ok {xs : List (Int × Int)} {d : Int} (h : M.curveOk xs = true) (hb : ∀ p ∈ xs, 0 ≤ p.1 + d ∧ p.1 + d ≤ 4000) : M.curveOk (M.shiftP xs d) = true := by
  rw [M.curve_iff] at h ⊢
  obtain ⟨h1, h2, h3⟩ := h
  refine ⟨fun p hp => ?_, ?_, by rw [M.shiftP_len]; exact h3⟩
  · obtain ⟨q, hq, rfl⟩ := List.mem_map.1 hp
    have g1 := h1 q hq
    have g2 := hb q hq
    rw [M.ptOk, Bool.and_eq_true, M.inn_iff, M.inn_iff] at g1 ⊢
    exact ⟨g2, g1.2⟩
  · rw [M.shiftP, List.pairwise_map]
    exact h2.imp fun {a b} hab => by simp only; omega
theorem M.shift_back (xs : List (Int × Int)) (d : Int) : M.shiftP (M.shiftP xs d) (-d) = xs := by
  rw [M.shiftP, M.shiftP, List.map_map]
  conv => rhs; rw [← List.map_id xs]
  refine List.map_congr_left fun p _ => ?_
  simp only [Function.comp, id]
  rw [Int.add_neg_cancel_right]
/-- What FnShifted asks. -/
theorem M.shifted {xs : List (Int × Int)} {d : Int} (h : M.curveOk xs = true) (hb : ∀ p ∈ xs, p.1 ≤ 100) (hd : 0 ≤ d ∧ d ≤ 100) :
    M.curveOk (M.shiftP xs d) = true ∧ M.shiftR xs d = (M.shiftP xs d, 0) ∧ M.shiftR (M.shiftP xs d) (-d) = (xs, 0) := by
  have hp : ∀ p ∈ xs, 0 ≤ p.1 + d ∧ p.1 + d ≤ 4000 := fun p hp => by
    have h1 := ((M.curve_iff xs).1 h).1 p hp
    have h2 := hb p hp
    rw [M.ptOk, Bool.and_eq_true, M.inn_iff, M.inn_iff] at h1
    omega
  have h1 := M.shift_ok h hp
  have c1 : M.clampT d = d := by unfold M.clampT; omega
  have c2 : M.clampT (-d) = -d := by unfold M.clampT; omega
  refine ⟨h1, ?_, ?_⟩
  · rw [M.shiftR, h, c1, h1]; rfl
  · rw [M.shiftR, h1, c2, M.shift_back, h]; rfl
theorem M.apply_full {x : Int} (h : -2147483648 ≤ x ∧ x ≤ 2147483647) : wrap32 (x * 65536 / 65536) = x := by
  rw [Int.mul_ediv_cancel _ (by decide)]
  unfold wrap32
  omega
theorem M.apply_none (x : Int) : wrap32 (x * 0 / 65536) = 0 := by
  rw [Int.mul_zero, Int.zero_ediv]
  unfold wrap32
  omega
end Go.Proofs.Ytckihflfjecpbaa
namespace Go.Proofs.Ytckihflfjecpbaa
open Go.RowKit
theorem Ty.oset {α : Type} (t : Ty α) {w : World} {lo hi g o : Nat} {cs : List Value} {x : α} {u : Value} (h : t.O w (Iv lo hi) cs x) (hg : g < lo ∨ hi ≤ g) : t.O (w.setCell ⟨g, o, none⟩ u) (Iv lo hi) cs x :=
  t.okeep (fun b ⟨h1, h2⟩ => heap_setCell_other w ⟨g, o, none⟩ b u (fun e => by simp only at e; omega)) h
end Go.Proofs.Ytckihflfjecpbaa
namespace Go.Proofs.Ytckihflfjecpbaa
open Go.RowKit
set_option maxHeartbeats 1000000
set_option maxRecDepth 100000
/-- A byte. -/
def tU8 : Ty UInt8 := Ty.flat 1 (by decide) 0 (fun x => [.int .u8 (x.toNat : Int)]) (fun _ => rfl) (by simp [Value.oneCell'])
/-- An object that draws numbers out of code bytes: it lies in block b, the bytes in blocks below lo; at most K of them are drawn. -/
structure SrcP (w : World) (b lo : Nat) (A : Option Addr) (n c : Nat) (code : List UInt8) (K : Nat) (a z : Int) : Prop where
  c0 : w.cell? ⟨b, 0, none⟩ = some (.slice A n c)
  c1 : w.cell? ⟨b, 1, none⟩ = some (.int .i64 a)
  c2 : w.cell? ⟨b, 2, none⟩ = some (.int .u64 z)
  f1 : w.frozen? ⟨b, 1, none⟩ = false
  f2 : w.frozen? ⟨b, 2, none⟩ = false
  rd : RS tU8 w lo (.slice A n c) code
  ha : 0 ≤ a
  hK : a ≤ K
  hb : lo ≤ b
def Src (w : World) (b lo : Nat) (A : Option Addr) (n c : Nat) (code : List UInt8) (K : Nat) : Prop := ∃ a z, SrcP w b lo A n c code K a z
/-- What a drawing gives back: a number, and the object in its new state. -/
def Drew (b lo : Nat) (A : Option Addr) (n c : Nat) (code : List UInt8) (K : Nat) (P : Int → Prop) (w : World) (e : Ending) (w' : World) : Prop :=
  ∃ v, e = .returned (.int .i64 v) ∧ P v ∧ Src w' b lo A n c code K ∧ Mid b (b + 1) w w'
section
variable {w w' : World} {b lo n c K K' : Nat} {A : Option Addr} {code : List UInt8}
theorem Src.lt (h : Src w b lo A n c code K) : b < w.heap.size := by
  obtain ⟨a, z, h⟩ := h
  exact World.block_lt_of_cell? w _ h.c0
theorem Src.keep (h : Src w b lo A n c code K) (hk : ∀ k, k < b + 1 → w'.heap[k]? = w.heap[k]?) : Src w' b lo A n c code K := by
  obtain ⟨a, z, h⟩ := h
  have hb := hk b (by omega)
  refine ⟨a, z, ?_, ?_, ?_, ?_, ?_, h.rd.keep fun p hp => World.cell?_of_block (hk p.block (by have := h.hb; omega)), h.ha, h.hK, h.hb⟩
  · rw [World.cell?_of_block hb]; exact h.c0
  · rw [World.cell?_of_block hb]; exact h.c1
  · rw [World.cell?_of_block hb]; exact h.c2
  · rw [World.frozen?_of_block hb]; exact h.f1
  · rw [World.frozen?_of_block hb]; exact h.f2
theorem Src.below {B : Nat} (h : Src w b lo A n c code K) (hb : Below B w w') (hB : b < B) : Src w' b lo A n c code K := h.keep fun k hk => hb.block k (by omega)
theorem Src.mid {l r : Nat} (h : Src w b lo A n c code K) (hm : Mid l r w w') (hd : b < l) : Src w' b lo A n c code K := by
  have hlt := h.lt
  exact h.keep fun k hk => hm.block k (by omega) (.inl (by omega))
theorem Src.more (h : Src w b lo A n c code K) (hK : K ≤ K') : Src w b lo A n c code K' := by
  obtain ⟨a, z, h⟩ := h
  exact ⟨a, z, h.c0, h.c1, h.c2, h.f1, h.f2, h.rd, h.ha, by have := h.hK; omega, h.hb⟩
end
theorem SrcP.step {w : World} {b lo n c K K' : Nat} {A : Option Addr} {code : List UInt8} {a z : Int} (h : SrcP w b lo A n c code K a z) (m m' : Nat) (a' z' : Int) (ha : 0 ≤ a') (hK : a' ≤ K') :
    SrcP ((((w.drewN m).setCell ⟨b, 1, none⟩ (.int .i64 a')).setCell ⟨b, 2, none⟩ (.int .u64 z')).drewN m') b lo A n c code K' a' z' ∧ Mid b (b + 1) w ((((w.drewN m).setCell ⟨b, 1, none⟩ (.int .i64 a')).setCell ⟨b, 2, none⟩ (.int .u64 z')).drewN m') := by
  obtain ⟨h0, h1, h2, g1, g2, hr, _, _, hb⟩ := h
  have m0 : Mid b (b + 1) w (w.drewN m) := ⟨rfl, rfl, rfl, Nat.le_refl _, fun _ _ _ => rfl⟩
  have m1 : Mid b (b + 1) (w.drewN m) ((w.drewN m).setCell ⟨b, 1, none⟩ (.int .i64 a')) := Mid.of_grown (grown_setCell _ b 1 _) fun k hk => by injection hk with hk; omega
  have m2 : Mid b (b + 1) ((w.drewN m).setCell ⟨b, 1, none⟩ (.int .i64 a')) (((w.drewN m).setCell ⟨b, 1, none⟩ (.int .i64 a')).setCell ⟨b, 2, none⟩ (.int .u64 z')) := Mid.of_grown (grown_setCell _ b 2 _) fun k hk => by injection hk with hk; omega
  have m3 : Mid b (b + 1) (((w.drewN m).setCell ⟨b, 1, none⟩ (.int .i64 a')).setCell ⟨b, 2, none⟩ (.int .u64 z')) ((((w.drewN m).setCell ⟨b, 1, none⟩ (.int .i64 a')).setCell ⟨b, 2, none⟩ (.int .u64 z')).drewN m') := ⟨rfl, rfl, rfl, Nat.le_refl _, fun _ _ _ => rfl⟩
  have M := ((m0.trans m1).trans m2).trans m3
  refine ⟨⟨?_, ?_, ?_, ?_, ?_, hr.keep fun p hp => World.cell?_of_block (M.block p.block ?_ (.inl (by omega))), ha, hK, hb⟩, M⟩
  · simp [go_sem, *]
  · simp [go_sem, *]
  · simp [go_sem, *]
  · simp [go_sem, *]
  · simp [go_sem, *]
  · have := World.block_lt_of_cell? w _ h0
    simp only at this
    omega
theorem byte_low (n : Int) : 0 ≤ wrap64 (bits BinOp.and IntKind.u64 n 255) ∧ wrap64 (bits BinOp.and IntKind.u64 n 255) ≤ 255 := by
  have hx : ((BitVec.ofInt 64 n &&& BitVec.ofInt 64 255).toNat : Int) ≤ 255 := by
    rw [BitVec.toNat_and, show (BitVec.ofInt 64 255).toNat = 2 ^ 8 - 1 from by decide, Nat.and_two_pow_sub_one_eq_mod]
    omega
  have h2 : bits BinOp.and IntKind.u64 n 255 = ((BitVec.ofInt 64 n &&& BitVec.ofInt 64 255).toNat : Int) := by
    show IntKind.u64.wrap ((BitVec.ofInt 64 n &&& BitVec.ofInt 64 255).toNat : Int) = _
    rw [IntKind.wrap_u64]
    omega
  rw [h2]
  unfold wrap64
  omega
theorem src_next (b lo : Nat) (A : Option Addr) (n c : Nat) (code : List UInt8) (K : Nat) (w : World) (h : Src w b lo A n c code K) (hK : K ≤ 1000000000000) :
    Calls Try.prog 154 #[.pointer (some ⟨b, 0, none⟩)] w (Drew b lo A n c code (K + 1) (fun v => 0 ≤ v ∧ v ≤ 255) w) := by
  obtain ⟨a, z, hP⟩ := h
  obtain ⟨hc0, hc1, hc2, hf1, hf2, hr, ha, haK, hlo⟩ := hP
  have HP := Lib.hid (SrcP.mk hc0 hc1 hc2 hf1 hf2 hr ha haK hlo)
  obtain rfl : code.length = n := hr.cap.1
  have hl : code.length ≤ 9223372036854775807 := by have h1 := hr.cap.2; unfold maxLen at h1; omega
  have hbw : b < w.heap.size := World.block_lt_of_cell? w _ hc0
  by_cases hlt : a < code.length
  · obtain ⟨k, rfl⟩ : ∃ k : Nat, a = k := ⟨a.toNat, by omega⟩
    obtain ⟨bb, o, c1, cs, hv, hab, -, hE, hc⟩ := hr.at (k := k) (by omega)
    simp only [Value.slice.injEq] at hv
    obtain ⟨rfl, -, rfl⟩ := hv
    generalize code[k]'(by omega) = x at hE
    obtain rfl : cs = [.int .u8 (x.toNat : Int)] := hE
    have hx : w.cell? ⟨bb, o + k * 1, none⟩ = some (.int .u8 (x.toNat : Int)) := hc 0 _ rfl
    have hx2 : (0 : Int) ≤ (x.toNat : Int) := by omega
    have hx3 : (x.toNat : Int) ≤ 255 := by have := x.toNat_lt; omega
    rw [Nat.mul_one] at hx
    clear hc
    have hlt' : (k : Int) < (code.length : Int) := hlt
    go_enter Try.func154, Try.ntmps154
    go_wp2
    go_quiet (fail)
    go_wp2
    go_quiet (fail)
    go_wp2
    go_quiet (fail)
    go_wp2
    go_ret
    exact ⟨_, rfl, ⟨by omega, by omega⟩, ⟨_, _, (HP.out.step _ _ ((k : Int) + 1) _ (by omega) (by omega)).1⟩, (HP.out.step _ _ ((k : Int) + 1) _ (by omega) (K' := K + 1) (by omega)).2⟩
  · have hgt : (code.length : Int) ≤ a := by omega
    have hdl : decide (a < (code.length : Int)) = false := by simp; omega
    have hd2 : decide (a + 1 ≤ (code.length : Int)) = false := by simp; omega
    go_enter Try.func154, Try.ntmps154
    go_wp2
    go_quiet (fail)
    go_wp2
    go_quiet (fail)
    go_wp2
    go_ret
    exact ⟨_, rfl, byte_low _, ⟨_, _, (HP.out.step _ _ (a + 1) _ (by omega) (by omega)).1⟩, (HP.out.step _ _ (a + 1) _ (by omega) (K' := K + 1) (by omega)).2⟩
theorem src_pick (b lo : Nat) (A : Option Addr) (n c : Nat) (code : List UInt8) (K : Nat) (m : Int) (w : World) (h : Src w b lo A n c code K) (hK : K ≤ 100000000000) (hm : m ≤ 65536) :
    Calls Try.prog 131 #[.pointer (some ⟨b, 0, none⟩), .int .i64 m] w (Drew b lo A n c code (K + 2) (fun v => 0 ≤ v ∧ (v < m ∨ v = 0)) w) := by
  by_cases h1 : m ≤ 1
  · go_enter Try.func131, Try.ntmps131
    go_wp2
    go_ret
    exact ⟨0, rfl, ⟨by omega, .inr rfl⟩, h.more (by omega), Mid.refl _ _ _⟩
  · by_cases h2 : 200 < m
    · go_enter Try.func131, Try.ntmps131
      go_wp2_with fail
      refine (src_next b lo A n c code K w h (by omega)).mono ?_
      rintro e w1 ⟨x, rfl, ⟨x0, x1⟩, s1, m1⟩
      go_wp2_with fail
      refine (src_next b lo A n c code (K + 1) w1 s1 (by omega)).mono ?_
      rintro e w2 ⟨y, rfl, ⟨y0, y1⟩, s2, m2⟩
      go_wp2
      go_ret
      exact ⟨_, rfl, ⟨Int.emod_nonneg _ (by omega), .inl (Int.emod_lt_of_pos _ (by omega))⟩, s2, m1.trans m2⟩
    · go_enter Try.func131, Try.ntmps131
      go_wp2_with fail
      refine (src_next b lo A n c code K w h (by omega)).mono ?_
      rintro e w1 ⟨x, rfl, ⟨x0, x1⟩, s1, m1⟩
      go_wp2
      go_ret
      exact ⟨_, rfl, ⟨Int.emod_nonneg _ (by omega), .inl (Int.emod_lt_of_pos _ (by omega))⟩, s1.more (by omega), m1⟩
theorem spec_l00From (A : Option Addr) (n c : Nat) (code : List UInt8) (w : World) (hr : RS tU8 w w.heap.size (.slice A n c) code) :
    Calls Try.prog 87 #[.slice A n c] w fun e w' => ∃ b, e = .returned (.pointer (some ⟨b, 0, none⟩)) ∧ b = w.heap.size ∧ Src w' b w.heap.size A n c code 0 ∧ Below w.heap.size w w' ∧ w'.heap.size = w.heap.size + 1 := by
  have hs : (w.alloc (.cells #[.slice A n c, .int .i64 0, .int .u64 0] 145)).heap.size = w.heap.size + 1 := by simp
  have hs' := Lib.hid hs
  have hb : Below w.heap.size w (w.alloc (.cells #[.slice A n c, .int .i64 0, .int .u64 0] 145)) := (Below.refl _ _).alloc (Nat.le_refl _) _
  clear hs
  go_enter Try.func87, Try.ntmps87
  go_wp2
  go_ret
  exact ⟨_, rfl, rfl, ⟨0, 0, by simp [go_sem], by simp [go_sem], by simp [go_sem], by simp [go_sem], by simp [go_sem], hr.keep fun p hp => hb.cell hp, by omega, by omega, Nat.le_refl _⟩, hb, hs'.out⟩
end Go.Proofs.Ytckihflfjecpbaa
namespace Go.Proofs.Ytckihflfjecpbaa
open Go.RowKit
set_option maxHeartbeats 1000000
set_option maxRecDepth 100000
theorem src_among (b lo : Nat) (A : Option Addr) (n c : Nat) (code : List UInt8) (K : Nat) (g m d : Nat) (xs : List Int) (w : World) (h : Src w b lo A n c code K) (hK : K ≤ 100000000000) (hl : xs.length = m) (hm : 0 < m ∧ m ≤ 60000) (hg : g ≠ b) (hgw : g < w.heap.size)
    (hc : ∀ j x, xs[j]? = some x → w.cell? ⟨g, j, none⟩ = some (.int .i64 x)) :
    Calls Try.prog 132 #[.pointer (some ⟨b, 0, none⟩), .slice (some ⟨g, 0, none⟩) m d] w (Drew b lo A n c code (K + 2) (fun v => v ∈ xs) w) := by
  have HC := Lib.hid hc
  have HL := Lib.hid hl
  clear hc hl
  go_enter Try.func132, Try.ntmps132
  go_wp2_with fail
  refine (src_pick b lo A n c code K m w h hK (by omega)).mono ?_
  rintro e w1 ⟨v, rfl, ⟨v0, v1⟩, s1, m1⟩
  obtain ⟨k, rfl⟩ : ∃ k : Nat, v = k := ⟨v.toNat, by omega⟩
  have hk : k < m := by omega
  have hk2 : (k : Int) < (m : Int) := by omega
  have hX := Lib.hid (List.getElem?_eq_getElem (l := xs) (i := k) (by rw [HL.out]; exact hk))
  generalize xs[k]'(by rw [HL.out]; exact hk) = x at hX
  have hx : w1.cell? ⟨g, k, none⟩ = some (.int .i64 x) := by
    rw [World.cell?_of_block (m1.block g hgw (by omega))]
    exact HC.out k x hX.out
  go_wp2
  go_ret
  exact ⟨x, rfl, List.mem_of_getElem? hX.out, s1, m1⟩
theorem spec_l01Draw (b lo : Nat) (A : Option Addr) (n c : Nat) (code : List UInt8) (K : Nat) (w : World) (h : Src w b lo A n c code K) (hK : K ≤ 10000000000) :
    Calls Try.prog 134 #[.pointer (some ⟨b, 0, none⟩)] w (Drew b lo A n c code (K + 6) (fun v => -2147483648 ≤ v ∧ v ≤ 2147483647) w) := by
  have hbw := h.lt
  go_enter Try.func134, Try.ntmps134
  go_wp2_with fail
  refine (src_pick b lo A n c code K 8 w h (by omega) (by omega)).mono ?_
  rintro e w1 ⟨v, rfl, ⟨v0, v1⟩, s1, m1⟩
  have hb1 := s1.lt
  by_cases e0 : v = 0
  · subst e0
    have s2 := s1.below ((Below.refl w1.heap.size w1).alloc (Nat.le_refl _) (.cells #[.int .i64 (-2147483648), .int .i64 2147483647, .int .i64 (-2147483647), .int .i64 65536, .int .i64 (-65536), .int .i64 1073741824] 2)) hb1
    go_wp2_with fail
    refine (src_among b lo A n c code (K + 2) w1.heap.size 6 6 [-2147483648, 2147483647, -2147483647, 65536, -65536, 1073741824] _ s2 (by omega) rfl (by omega) (by omega) (by simp) ?_).mono ?_
    · intro j x hx
      rw [cell_of_row _ w1.heap.size j _ 2 (0, 0) (heap_alloc_new w1 _)]
      match j, hx with
      | 0, hx => simp at hx; subst hx; rfl
      | 1, hx => simp at hx; subst hx; rfl
      | 2, hx => simp at hx; subst hx; rfl
      | 3, hx => simp at hx; subst hx; rfl
      | 4, hx => simp at hx; subst hx; rfl
      | 5, hx => simp at hx; subst hx; rfl
      | j + 6, hx => simp at hx
    · rintro e w2 ⟨x, rfl, hx, s3, m3⟩
      go_wp2
      go_ret
      refine ⟨x, rfl, ?_, s3.more (by omega), m1.trans ((Mid.of_below ((Below.refl _ _).alloc (Nat.le_refl _) _) _ _).trans m3)⟩
      simp at hx
      omega
  · have f0 : (v == 0) = false := by simpa using e0
    by_cases e1 : v = 1
    · subst e1
      go_wp2_with fail
      refine (src_next b lo A n c code (K + 2) w1 s1 (by omega)).mono ?_
      rintro e w2 ⟨x, rfl, ⟨x0, x1⟩, s2, m2⟩
      go_wp2_with fail
      go_loopw [3, 4] (fun q i wr => ∃ (j : Nat) (y : Int), i = .int .i64 j ∧ j ≤ 3 ∧ q = .int .i64 y ∧ 0 ≤ y ∧ y < 256 ^ (j + 1) ∧ Src wr b lo A n c code (K + 3 + j) ∧ Mid b (b + 1) w wr) (fun _ i _ => 3 - (intOf i).toNat)
      case atStart => exact ⟨0, x, rfl, by omega, rfl, by omega, by omega, s2, m1.trans m2⟩
      case round =>
        obtain ⟨j, y, rfl, hj, rfl, y0, y1, s3, m3⟩ := hrel
        by_cases hlt : j < 3
        · have hy2 : y ≤ 16777215 ∧ 256 * y + 255 < 256 ^ (j + 1 + 1) := by
            rcases (show j = 0 ∨ j = 1 ∨ j = 2 by omega) with rfl | rfl | rfl <;> omega
          obtain ⟨hy2, hy3⟩ := hy2
          have hy3' := Lib.hid hy3
          clear y1 hy3
          go_wp2_with fail
          refine (src_next b lo A n c code (K + 3 + j) wr s3 (by omega)).mono ?_
          rintro e w4 ⟨u, rfl, ⟨u0, u1⟩, s4, m4⟩
          go_wp2
          go_roundw
          case rel => exact ⟨j + 1, 256 * y + u, by go_num, by omega, rfl, by omega, by have := hy3'.out; omega, s4.more (by omega), m3.trans m4⟩
          case measure => simp [intOf]; omega
        · clear y1
          go_wp2_with (go_at_call 98; refine (spec_l01Wrap _ _).mono ?_; rintro e w' ⟨rfl, rfl⟩)
          go_ret
          have hw : -2147483648 ≤ wrap32 y ∧ wrap32 y ≤ 2147483647 := by unfold wrap32; omega
          exact ⟨_, rfl, hw, s3.more (by omega), m3⟩
    · have f1 : (v == 1) = false := by simpa using e1
      by_cases e2 : v = 2
      · subst e2
        go_wp2_with fail
        go_ret
        exact ⟨0, rfl, by omega, s1.more (by omega), m1⟩
      · have f2 : (v == 2) = false := by simpa using e2
        go_wp2_with fail
        refine (src_pick b lo A n c code (K + 2) 41 w1 s1 (by omega) (by omega)).mono ?_
        rintro e w2 ⟨x, rfl, ⟨x0, x1⟩, s2, m2⟩
        go_wp2
        go_ret
        exact ⟨_, rfl, by omega, s2.more (by omega), m1.trans m2⟩
end Go.Proofs.Ytckihflfjecpbaa
namespace Go.Proofs.Ytckihflfjecpbaa
open Go.RowKit
set_option maxHeartbeats 400000
end Go.Proofs.Ytckihflfjecpbaa
namespace Go.Proofs.Ytckihflfjecpbaa
open Go.RowKit
set_option maxHeartbeats 1000000
set_option maxRecDepth 100000
theorem OS.made0 {α : Type} (t : Ty α) (e : TypeId) (w : World) : OS t e (w.alloc (.cells #[] e)) (Iv w.heap.size (w.alloc (.cells #[] e)).heap.size) (.slice (some ⟨w.heap.size, 0, none⟩) 0 0) [] :=
  ⟨[], fun _ _ => False, World.ownsRow_made _ _ _ (Nat.zero_le _) (by simp [maxLen]) (by simp), rfl, fun g hg => by simp only [Value.ownBlock, Option.some.injEq] at hg; subst hg; exact ⟨Nat.le_refl _, by simp⟩, fun _ _ h => h.elim, fun _ _ _ _ h => h.elim, fun k h => by simp at h⟩
theorem ei_S : EI Try.prog 79 41 (.slice none 0 0) 1 24 := ⟨Try.underlying79, by kernel_rfl, rfl, by decide⟩
theorem cl_SS (x : List (List Int)) : hSS.cnt x ≤ hSS.sz x := by
  show hS.cntL x ≤ x.length + hS.szL x
  have : hS.cntL x ≤ hS.szL x := by
    induction x with
    | nil => exact Nat.le_refl _
    | cons y ys ih =>
      rw [Hs.cntL, Hs.szL, hS_cnt, hS_sz]
      omega
  omega
def M.phases (xs : List Int) (f : Nat) : List (List Int) := (List.range f).map fun r => M.decL xs f r
theorem M.phases_len (xs : List Int) (f : Nat) : (M.phases xs f).length = f := by simp [M.phases]
theorem M.phases_at {xs : List Int} {f r : Nat} (h : r < f) : (M.phases xs f)[r]? = some (M.decL xs f r) := by simp [M.phases, h]
def M.phasesR (xs : List Int) (f : Int) : List (List Int) × Int := if M.taps xs then (if M.fac f then (M.phases xs f.toNat, 0) else ([], 2)) else ([], 1)
/-- What a function of signals and a code gives back. -/
def RetSS (w : World) (r : List (List Int) × Int) (en : Ending) (w' : World) : Prop :=
  ∃ v, en = .returned (.tuple #[v, .int .i64 r.2]) ∧ OS tS 41 w' (Iv w.heap.size w'.heap.size) v r.1 ∧ Below w.heap.size w w'
theorem retSS_nf {w w' : World} {r : List (List Int) × Int} {en : Ending} (h : RetSS w r en w') :
    ∃ A n c, en = .returned (.tuple #[.slice A n c, .int .i64 r.2]) ∧ tSS.O w' (Iv w.heap.size w'.heap.size) [.slice A n c] r.1 ∧ Below w.heap.size w w' := by
  obtain ⟨v, rfl, own, bel⟩ := h
  obtain ⟨A, c, rfl⟩ := own.shape
  exact ⟨_, _, _, rfl, sl_O.2 own, bel⟩
theorem Iv.apart {a b c d : Nat} (h : b ≤ c) : ∀ k, Iv a b k → ¬ Iv c d k := fun k h1 h2 => by have := h1.2; have := h2.1; omega
theorem Iv.grow {a b c d : Nat} (h1 : a ≤ b) (h2 : b ≤ c) (h3 : c ≤ d) : ∀ k, (Iv a b k ∨ Iv b c k ∨ c < k ∧ k < d) → Iv a d k := by
  intro k h
  unfold Iv at *
  omega
end Go.Proofs.Ytckihflfjecpbaa
namespace Go.Proofs.Ytckihflfjecpbaa
open Go.RowKit
set_option maxHeartbeats 2000000
set_option maxRecDepth 100000
/-- A drawn list of points, all before 'a'. -/
def M.drawn (xs : List (Int × Int)) (a : Int) : Prop := (∀ p ∈ xs, 0 ≤ p.1 ∧ p.1 < a ∧ -65536 ≤ p.2 ∧ p.2 ≤ 65536) ∧ xs.Pairwise (fun p q => p.1 < q.1)
theorem M.drawn_nil (a : Int) : M.drawn [] a := ⟨by simp, by simp⟩
theorem M.drawn_step {xs : List (Int × Int)} {a v b : Int} (h : M.drawn xs a) (h0 : 0 ≤ a) (hv : -65536 ≤ v ∧ v ≤ 65536) (hb : a < b) : M.drawn (xs ++ [(a, v)]) b := by
  constructor
  · intro p hp
    rcases List.mem_append.1 hp with h1 | h1
    · have := h.1 p h1
      omega
    · simp only [List.mem_singleton] at h1
      subst h1
      simp only
      omega
  · rw [List.pairwise_append]
    refine ⟨h.2, by simp, fun p hp q hq => ?_⟩
    simp only [List.mem_singleton] at hq
    subst hq
    exact (h.1 p hp).2.1
theorem M.drawn_ok {xs : List (Int × Int)} {a : Int} (h : M.drawn xs a) (hl : 1 ≤ xs.length ∧ xs.length ≤ 24) (ha : a ≤ 100) : M.curveOk xs = true ∧ ∀ p ∈ xs, p.1 ≤ 100 := by
  refine ⟨(M.curve_iff xs).2 ⟨fun p hp => ?_, h.2, hl⟩, fun p hp => by have := h.1 p hp; omega⟩
  have := h.1 p hp
  rw [M.ptOk, Bool.and_eq_true, M.inn_iff, M.inn_iff]
  omega
/-- What the drawing of a curve gives back. -/
def DrewC (b lo : Nat) (A : Option Addr) (n c : Nat) (code : List UInt8) (K : Nat) (w : World) (e : Ending) (w' : World) : Prop :=
  ∃ A1 c1 xs, e = .returned (.agg #[.slice A1 (List.length xs) c1]) ∧ OA pt 34 2 w.heap.size w'.heap.size w' (.slice A1 xs.length c1) xs ∧ Hid (M.curveOk xs = true ∧ ∀ p ∈ xs, p.1 ≤ 100) ∧ Src w' b lo A n c code K ∧ Mid b (b + 1) w w'
section
variable {lo hi g o : Nat} {w w' : World}
theorem Mid.cellK {u : Option Value} (h : Mid lo hi w w') (hg : g < w.heap.size) (hd : g < lo ∨ hi ≤ g) (hc : w.cell? ⟨g, o, none⟩ = u) : w'.cell? ⟨g, o, none⟩ = u := by rw [World.cell?_of_block (h.block g hg hd)]; exact hc
theorem Mid.thenB' {a b c : World} {B : Nat} (h : Mid lo hi a b) (k : Below B b c) (hB : a.heap.size ≤ B) : Mid lo hi a c :=
  ⟨k.os.trans h.os, k.tape.trans h.tape, k.output.trans h.output, Nat.le_trans h.size k.size, fun i hi' hm => (k.block i (by omega)).trans (h.block i hi' hm)⟩
theorem Mid.frozK {u : Bool} (h : Mid lo hi w w') (hg : g < w.heap.size) (hd : g < lo ∨ hi ≤ g) (hc : w.frozen? ⟨g, o, none⟩ = u) : w'.frozen? ⟨g, o, none⟩ = u := by rw [World.frozen?_of_block (h.block g hg hd)]; exact hc
end
theorem spec_l00Min (a b : Int) (w : World) : Calls Try.prog 133 #[.int .i64 a, .int .i64 b] w fun e w' => e = .returned (.int .i64 (min a b)) ∧ w = w' := by
  by_cases h : a < b
  all_goals
    go_enter Try.func133, Try.ntmps133
    go_wp2
    go_ret
    exact ⟨ret_int (by omega), rfl⟩
/-- How the drawing of a curve stands: a result's box, the curve's box, its row. -/
structure DC (w : World) (b lo : Nat) (A : Option Addr) (n c : Nat) (code : List UInt8) (K : Nat) (xs : List (Int × Int)) (v : Value) (wr : World) : Prop where
  c0 : wr.cell? ⟨w.heap.size, 0, none⟩ = some (.slice none 0 0)
  f0 : wr.frozen? ⟨w.heap.size, 0, none⟩ = false
  c1 : wr.cell? ⟨w.heap.size + 1, 0, none⟩ = some v
  f1 : wr.frozen? ⟨w.heap.size + 1, 0, none⟩ = false
  own : OA pt 34 2 (w.heap.size + 1 + 1) wr.heap.size wr v xs
  src : Src wr b lo A n c code K
  mid : Mid b (b + 1) w wr
  sz : w.heap.size + 1 + 1 ≤ wr.heap.size
theorem DC.step {w wr w' : World} {b lo : Nat} {A : Option Addr} {n c : Nat} {code : List UInt8} {K K' : Nat} {xs : List (Int × Int)} {v : Value} (h : DC w b lo A n c code K xs v wr) (hb : b < w.heap.size) (hs : Src w' b lo A n c code K') (hm : Mid b (b + 1) wr w') : DC w b lo A n c code K' xs v w' :=
  have hz := h.sz
  ⟨hm.cellK (by omega) (.inr (by omega)) h.c0, hm.frozK (by omega) (.inr (by omega)) h.f0, hm.cellK (by omega) (.inr (by omega)) h.c1, hm.frozK (by omega) (.inr (by omega)) h.f1,
    (h.own.mid hm (.inr (by omega)) (Nat.le_refl _)).wide (Nat.le_refl _) hm.size, hs, h.mid.trans hm, Nat.le_trans hz hm.size⟩
theorem DC.more {w wr : World} {b lo : Nat} {A : Option Addr} {n c : Nat} {code : List UInt8} {K K' : Nat} {xs : List (Int × Int)} {v : Value} (h : DC w b lo A n c code K xs v wr) (hK : K ≤ K') : DC w b lo A n c code K' xs v wr :=
  ⟨h.c0, h.f0, h.c1, h.f1, h.own, h.src.more hK, h.mid, h.sz⟩
theorem spec_l25Draw (b lo : Nat) (A : Option Addr) (n c : Nat) (code : List UInt8) (K : Nat) (w : World) (h : Src w b lo A n c code K) (hK : K ≤ 1000000) :
    Calls Try.prog 88 #[.pointer (some ⟨b, 0, none⟩)] w (DrewC b lo A n c code (K + 6 + 6 * 7) w) := by
  have hbw := h.lt
  have d0 : DC w b lo A n c code K [] (.slice none 0 0) ((w.alloc (.cells #[.slice none 0 0] 30)).alloc (.cells #[.slice none 0 0] 30)) := by
    have hB : Below w.heap.size w ((w.alloc (.cells #[.slice none 0 0] 30)).alloc (.cells #[.slice none 0 0] 30)) := ((Below.refl _ _).alloc (Nat.le_refl _) _).alloc (by simp) _
    exact ⟨by simp [go_sem], by simp [go_sem], by simp [go_sem], by simp [go_sem], OA.nil _, h.below hB hbw, Mid.of_below hB _ _, by simp⟩
  go_enter Try.func88, Try.ntmps88
  go_wp2_with fail
  refine (src_pick b lo A n c code K 5 _ d0.src (by omega) (by omega)).mono ?_
  rintro e w1 ⟨a, rfl, ⟨a0, a1⟩, s1, m1⟩
  have d1 := d0.step hbw s1 m1
  clear d0 s1 m1
  go_wp2_with fail
  refine (src_pick b lo A n c code (K + 2) 200 _ d1.src (by omega) (by omega)).mono ?_
  rintro e w2 ⟨x, rfl, ⟨x0, x1⟩, s2, m2⟩
  have d2 := d1.step hbw s2 m2
  clear d1 s2 m2
  go_wp2_with fail
  refine (src_pick b lo A n c code (K + 4) 7 _ d2.src (by omega) (by omega)).mono ?_
  rintro e w3 ⟨k, rfl, ⟨k0, k1⟩, s3, m3⟩
  have d3 := d2.step hbw s3 m3
  clear d2 s3 m3
  obtain ⟨k, rfl⟩ : ∃ j : Nat, k = j := ⟨k.toNat, by omega⟩
  have hx : x ≤ 199 ∧ a ≤ 4 ∧ k ≤ 6 := by omega
  clear x1 a1 k1
  go_wp2_with fail
  go_loopw [4, 5, 6] (fun t u i wr => ∃ (j : Nat) (xs : List (Int × Int)) (v : Value) (a y : Int), i = .int .i64 j ∧ t = .int .i64 a ∧ u = .int .i64 y ∧ j ≤ 7 ∧ xs.length + j = 1 + k ∧ 0 ≤ a ∧ a ≤ 4 + 9 * (xs.length : Int) ∧ -65536 ≤ y ∧ y ≤ 65536 ∧ Hid (M.drawn xs a) ∧ DC w b lo A n c code (K + 6 + 6 * (7 - j)) xs v wr)
    (fun _ _ i _ => (intOf i).toNat)
  case atStart => exact ⟨k + 1, [], _, a, x - 100, by go_num, rfl, rfl, by omega, by simp; omega, by omega, by simp; omega, by omega, by omega, Lib.hid (M.drawn_nil a), d3.more (by omega)⟩
  case round =>
    obtain ⟨j, xs, v, a, y, rfl, rfl, rfl, hj, hl, ha0, ha1, hy0, hy1, hdr, D⟩ := hrel
    have hsz := D.sz
    have hc0 := D.c0
    have hf0 := D.f0
    have hc1 := D.c1
    have hf1 := D.f1
    obtain ⟨A1, c1, rfl, -⟩ := D.own.shape
    by_cases hlt : 0 < j
    · go_wp2_with (at_builtin; refine wpList_push ei_pt _ rfl _ _ rfl D.own.1 rfl rfl rfl (by simp [Value.oneCell']) (by unfold maxLen; omega) (by omega) (by omega) ?_; intro v4 w4 own4 gr4 bel4; obtain ⟨A5, c5, rfl, -⟩ := own_shape own4; have e0 : w4.cell? ⟨w.heap.size + 1, 0, none⟩ = some (.slice A1 xs.length c1) := (by rw [bel4.cell (by simp)]; exact hc1); have e1 : w4.frozen? ⟨w.heap.size + 1, 0, none⟩ = false := (by rw [bel4.frozen (by simp)]; exact hf1))
      have hF := D.own
      have D4 : DC w b lo A n c code (K + 6 + 6 * (7 - j)) (xs ++ [(a, y)]) (.slice A5 (xs.length + 1) c5) (w4.setCell ⟨w.heap.size + 1, 0, none⟩ (.slice A5 (xs.length + 1) c5)) := by
        have hB : Below (w.heap.size + 1 + 1) wr w4 := bel4
        have hs4 := bel4.size
        have hm : Mid (w.heap.size + 1) (w.heap.size + 1 + 1) w4 (w4.setCell ⟨w.heap.size + 1, 0, none⟩ (.slice A5 (xs.length + 1) c5)) := Mid.of_grown (grown_setCell w4 (w.heap.size + 1) 0 _) fun k hk => by injection hk with hk; omega
        refine ⟨?_, ?_, by simp [go_sem, e0], by simp [go_sem, e1], ?_, ?_, ?_, by simpa using Nat.le_trans hsz hs4⟩
        · exact hm.cellK (by omega) (.inl (by omega)) (by rw [hB.cell (by show w.heap.size < _; omega)]; exact hc0)
        · exact hm.frozK (by omega) (.inl (by omega)) (by rw [hB.frozen (by show w.heap.size < _; omega)]; exact hf0)
        · have o5 := (OA.push (enc := pt) (x := (a, y)) own4).mid hm (.inr (Nat.le_refl _)) (Nat.le_refl _)
          exact o5.wide (Nat.le_refl _) (by simp)
        · exact (D.src.below hB (by omega)).mid hm (by omega)
        · exact D.mid.thenB' (Below.setCell (show Below (w.heap.size + 1) wr w4 from hB.mono (Nat.le_succ _)) (Nat.le_refl _) _) (Nat.le_succ _)
      generalize w4.setCell ⟨w.heap.size + 1, 0, none⟩ (.slice A5 (xs.length + 1) c5) = U at D4 ⊢
      clear own4 gr4 bel4 e0 e1 hc0 hf0 hc1 hf1 D hF hsz
      clear w4
      generalize hys : xs ++ [(a, y)] = ys at D4
      have HYS := Lib.hid hys
      clear hys
      have hl5 : ys.length = xs.length + 1 := by rw [← HYS.out]; simp
      refine (src_pick b lo A n c code _ 9 _ D4.src (by omega) (by omega)).mono ?_
      rintro e w5 ⟨z, rfl, ⟨z0, z1⟩, s5, m5⟩
      have D5 := D4.step hbw s5 m5
      clear D4 s5 m5
      have z2 : z ≤ 8 := by omega
      clear z1
      go_wp2_with fail
      refine (src_pick b lo A n c code _ 4 _ D5.src (by omega) (by omega)).mono ?_
      rintro e w6 ⟨q, rfl, ⟨q0, q1⟩, s6, m6⟩
      have D6 := D5.step hbw s6 m6
      clear D5 s6 m6
      have hdr2 : ∀ v, -65536 ≤ v ∧ v ≤ 65536 → Hid (M.drawn ys (a + (1 + z))) := fun v hv => by
        rw [← HYS.out]; exact Lib.hid (M.drawn_step hdr.out ha0 ⟨hy0, hy1⟩ (by omega))
      have hdr3 := hdr2 0 (by omega)
      clear hdr2
      have q2 : q ≤ 3 := by omega
      clear q1
      by_cases e0 : q = 0
      · subst e0
        go_wp2_with fail
        refine (src_pick b lo A n c code _ 200 _ D6.src (by omega) (by omega)).mono ?_
        rintro e w7 ⟨v, rfl, ⟨v0, v1⟩, s7, m7⟩
        have D7 := D6.step hbw s7 m7
        have v2 : v ≤ 199 := by omega
        clear v1
        go_wp2
        go_roundw
        case rel => exact ⟨j - 1, ys, _, a + (1 + z), v - 100, by go_num, by go_num, rfl, by omega, by omega, by omega, by omega, by omega, by omega, hdr3, D7.more (by omega)⟩
        case measure => simp [intOf]; omega
      · have f0 : (q == 0) = false := by simpa using e0
        by_cases e1 : q = 1
        · subst e1
          have hg := D6.src.lt
          have s7 := D6.src.below ((Below.refl w6.heap.size w6).alloc (Nat.le_refl _) (.cells #[.int .i64 65536, .int .i64 (-65536), .int .i64 0] 2)) hg
          go_wp2_with fail
          refine (src_among b lo A n c code _ w6.heap.size 3 3 [65536, -65536, 0] _ s7 (by omega) rfl (by omega) (by omega) (by simp) ?_).mono ?_
          · intro i x hx
            rw [cell_of_row _ w6.heap.size i _ 2 (0, 0) (heap_alloc_new w6 _)]
            match i, hx with
            | 0, hx => simp at hx; subst hx; rfl
            | 1, hx => simp at hx; subst hx; rfl
            | 2, hx => simp at hx; subst hx; rfl
            | i + 3, hx => simp at hx
          · rintro e w7 ⟨v, rfl, hv, s8, m8⟩
            have D7 := (D6.step hbw s7 (Mid.of_below ((Below.refl _ _).alloc (Nat.le_refl _) _) _ _)).step hbw s8 m8
            have v2 : -65536 ≤ v ∧ v ≤ 65536 := by simp at hv; omega
            clear hv
            go_wp2
            go_roundw
            case rel => exact ⟨j - 1, ys, _, a + (1 + z), v, by go_num, by go_num, rfl, by omega, by omega, by omega, by omega, by omega, by omega, hdr3, D7.more (by omega)⟩
            case measure => simp [intOf]; omega
        · have f1 : (q == 1) = false := by simpa using e1
          by_cases e2 : q = 2
          · subst e2
            go_wp2_with fail
            refine (spec_l00Min _ _ _).mono ?_
            rintro e w' ⟨rfl, rfl⟩
            go_wp2
            go_roundw
            case rel => exact ⟨j - 1, ys, _, a + (1 + z), min 65536 (y + 2), by go_num, by go_num, rfl, by omega, by omega, by omega, by omega, by omega, by omega, hdr3, D6.more (by omega)⟩
            case measure => simp [intOf]; omega
          · have f2 : (q == 2) = false := by simpa using e2
            go_wp2
            go_roundw
            case rel => exact ⟨j - 1, ys, _, a + (1 + z), y, by go_num, by go_num, rfl, by omega, by omega, by omega, by omega, by omega, by omega, hdr3, D6.more (by omega)⟩
            case measure => simp [intOf]; omega
    · obtain rfl : j = 0 := by omega
      have hok := Lib.hid (M.drawn_ok hdr.out (by omega) (by omega))
      go_wp2
      refine bodyPost_ret (v := .agg #[.slice A1 xs.length c1]) (by simp [results, Try.results88, go_sem, hc0, hf0]) rfl ?_
      have hm : Mid w.heap.size (w.heap.size + 1) wr (wr.setCell ⟨w.heap.size, 0, none⟩ (.slice A1 xs.length c1)) := Mid.cell wr w.heap.size 0 _
      refine ⟨_, _, xs, rfl, (D.own.mid hm (.inr (by omega)) (Nat.le_refl _)).wide (by omega) hm.size, hok, (D.src.mid hm hbw).more (by omega), D.mid.thenB' ((Below.refl w.heap.size _).setCell (Nat.le_refl _) _) (Nat.le_refl _)⟩
end Go.Proofs.Ytckihflfjecpbaa
namespace Go.Proofs.Ytckihflfjecpbaa
open Go.RowKit
set_option maxHeartbeats 4000000
set_option maxRecDepth 100000
theorem M.srcOk_at {src : List (List Int)} (h : M.srcOk src = true) {k : Nat} {x : List Int} (hx : src[k]? = some x) : M.sig x = true := by
  rw [M.srcOk, Bool.and_eq_true, List.all_eq_true] at h
  exact h.2 x (List.mem_of_getElem? hx)
theorem M.srcOk_len {src : List (List Int)} (h : M.srcOk src = true) : Hid (∀ x ∈ src, x.length ≤ 1000000000) := Lib.hid (by
  intro x hx
  obtain ⟨k, hk, rfl⟩ := List.getElem_of_mem hx
  have := M.srcOk_at h (List.getElem?_eq_getElem hk)
  rw [M.sig, Bool.and_eq_true, decide_eq_true_iff] at this
  omega)
theorem M.hasS_at {xs : List Clip} {m : Int} (h : M.hasS xs m = true) {k : Nat} {c : Clip} (hx : xs[k]? = some c) : c.1 < m := by
  rw [M.hasS, List.all_eq_true] at h
  simpa using h c (List.mem_of_getElem? hx)
theorem impl_renderTrack (A A' : Option Addr) (n c n' c' t : Nat) (src : List (List Int)) (xs : List Clip) (w : World) (hs : RS tS w w.heap.size (.slice A n c) src) (hx : RA cl 5 w w.heap.size A' n' xs) (hok : M.srcOk src = true) (hk : M.trackOk xs = true) (hh : M.hasS xs src.length = true) (ht : t ≤ 4000) :
    Calls Try.prog 126 #[.slice A n c, .agg #[.slice A' n' c'], .int .i64 t] w (Ret1 2 w (M.renT src xs t)) := by
  have hl := Lib.hid hx.len
  have hls := Lib.hid hs.cap.1
  have hn12 : n' ≤ 12 := by have := M.track_len hk; rw [hl.out] at this; exact this
  have OK := Lib.hid hok
  have SL := M.srcOk_len hok
  have HK := Lib.hid hk
  have HH := Lib.hid hh
  clear hok hk hh
  obtain ⟨W, hW⟩ : ∃ W, W = w.alloc (.cells #[.slice A' n' c'] 65) := ⟨_, rfl⟩
  have B0 : Below w.heap.size w W := by rw [hW]; exact (Below.refl _ _).alloc (Nat.le_refl _) _
  have z0 : W.heap.size = w.heap.size + 1 := by rw [hW]; simp
  have pv0 : W.cell? ⟨w.heap.size, 0, none⟩ = some (.slice A' n' c') := by rw [hW]; simp [go_sem]
  have l0 : w.heap.size < W.heap.size := by omega
  have HW := Lib.hid hW
  have Z0 := Lib.hid z0
  clear hW z0
  go_enter Try.func126, Try.ntmps126
  go_wp2_with fail
  rw [← HW.out]
  refine (impl_zeros _ _ (by omega) (by omega)).mono ?_
  rintro e w1 ⟨v1, rfl, own1, bel1⟩
  rw [Int.toNat_natCast, ← M.renT_nil src] at own1
  obtain ⟨A1, c1, rfl, -⟩ := own1.shape
  rw [M.renT_len] at *
  have pv1 : w1.cell? ⟨w.heap.size, 0, none⟩ = some (.slice A' n' c') := by rw [bel1.cell l0]; exact pv0
  have l1 := Nat.lt_of_lt_of_le l0 bel1.size
  have B1 := bel_trans B0 bel1
  have s1 := bel1.size
  go_wp2_with fail
  go_loopw [9, 10, 16] (fun _ _ i wr => ∃ k : Nat, i = .int .i64 k ∧ k ≤ n' ∧ OI 2 W.heap.size wr (.slice A1 t c1) (M.renT src (xs.take k) t) ∧ Below W.heap.size W wr) (fun _ _ i _ => n' - (intOf i).toNat)
  case atStart => exact ⟨0, rfl, by omega, by simpa using own1, bel1⟩
  case round =>
    obtain ⟨k, rfl, hk, own, hb⟩ := hrel
    obtain ⟨wo, rfl⟩ : ∃ wo : World, wo = wr := ⟨_, rfl⟩
    by_cases hlt : k < n'
    · obtain ⟨b, o, ⟨p0, p1, p2, p3, p4⟩, rfl, hab, X, hc⟩ := (hx.below (bel_trans B0 hb)).at cl_len (by decide) hlt
      have hc0 : wo.cell? ⟨b, o + k * 5, none⟩ = some (.int .i64 p0) := hc 0 _ rfl
      have hc1 : wo.cell? ⟨b, o + k * 5 + 1, none⟩ = some (.int .i64 p1) := hc 1 _ rfl
      have hc2 : wo.cell? ⟨b, o + k * 5 + 2, none⟩ = some (.int .i64 p2) := hc 2 _ rfl
      have hc3 : wo.cell? ⟨b, o + k * 5 + 3, none⟩ = some (.int .i64 p3) := hc 3 _ rfl
      have hc4 : wo.cell? ⟨b, o + k * 5 + 4, none⟩ = some (.int .i64 p4) := hc 4 _ rfl
      clear hc
      obtain ⟨b0, b2, b1, b3, b4⟩ := M.clip_bd (M.track_clip HK.out X.out)
      simp only at b0 b1 b2 b3 b4
      have hsl := M.hasS_at HH.out X.out
      simp only at hsl
      rw [hls.out] at hsl
      obtain ⟨s, rfl⟩ : ∃ s : Nat, p0 = s := ⟨p0.toNat, by omega⟩
      obtain ⟨a, rfl⟩ : ∃ a : Nat, p3 = a := ⟨p3.toNat, by omega⟩
      obtain ⟨f, rfl⟩ : ∃ f : Nat, p1 = f := ⟨p1.toNat, by omega⟩
      have hT := Lib.hid (M.take_at X.out)
      have hE0 := Lib.hid (M.renP_zero src (xs.take k) ((s : Int), (f : Int), p2, (a : Int), p4) t)
      obtain ⟨U, hU⟩ : ∃ U, U = wo.alloc (.cells #[.int .i64 s, .int .i64 f, .int .i64 p2, .int .i64 a, .int .i64 p4] 78) := ⟨_, rfl⟩
      have bU : Below wo.heap.size wo U := by rw [hU]; exact (Below.refl _ _).alloc (Nat.le_refl _) _
      have e0 : U.cell? ⟨wo.heap.size, 0, none⟩ = some (.int .i64 s) := by rw [hU]; simp [go_sem]
      have e1 : U.cell? ⟨wo.heap.size, 1, none⟩ = some (.int .i64 f) := by rw [hU]; simp [go_sem]
      have e2 : U.cell? ⟨wo.heap.size, 2, none⟩ = some (.int .i64 p2) := by rw [hU]; simp [go_sem]
      have e3 : U.cell? ⟨wo.heap.size, 3, none⟩ = some (.int .i64 a) := by rw [hU]; simp [go_sem]
      have e4 : U.cell? ⟨wo.heap.size, 4, none⟩ = some (.int .i64 p4) := by rw [hU]; simp [go_sem]
      have lU : wo.heap.size < U.heap.size := by rw [hU]; simp
      have HU := Lib.hid hU
      clear hU
      have ownU := own.below bU
      have hbU := hb.trans (bU.mono hb.size)
      have so := hb.size
      go_wp2_with fail
      rw [← HU.out]
      clear hc0 hc1 hc2 hc3 hc4
      go_loopw [10] (fun i wr => ∃ m : Nat, i = .int .i64 m ∧ (m : Int) ≤ p2 ∧ OI 2 W.heap.size wr (.slice A1 t c1) (M.renP src (xs.take k) ((s : Int), (f : Int), p2, (a : Int), p4) m t) ∧ Mid W.heap.size wo.heap.size U wr) (fun i _ => p2.toNat - (intOf i).toNat)
      case atStart => exact ⟨0, rfl, by omega, by rw [hE0.out]; exact ownU, Mid.refl _ _ _⟩
      case round =>
        obtain ⟨m, rfl, hm, own2, hm2⟩ := hrel
        have g0 : wr.cell? ⟨wo.heap.size, 0, none⟩ = some (.int .i64 s) := hm2.cellK lU (.inr (Nat.le_refl _)) e0
        have g1 : wr.cell? ⟨wo.heap.size, 1, none⟩ = some (.int .i64 f) := hm2.cellK lU (.inr (Nat.le_refl _)) e1
        have g2 : wr.cell? ⟨wo.heap.size, 2, none⟩ = some (.int .i64 p2) := hm2.cellK lU (.inr (Nat.le_refl _)) e2
        have g3 : wr.cell? ⟨wo.heap.size, 3, none⟩ = some (.int .i64 a) := hm2.cellK lU (.inr (Nat.le_refl _)) e3
        have g4 : wr.cell? ⟨wo.heap.size, 4, none⟩ = some (.int .i64 p4) := hm2.cellK lU (.inr (Nat.le_refl _)) e4
        have BW : Below W.heap.size W wr := hbU.trans (hm2.toBelow hbU.size)
        by_cases hml : (m : Int) < p2
        · by_cases hat : a + m < t
          · obtain ⟨g, rfl, hB, hgl⟩ := own.form' (by omega)
            obtain ⟨p, hp⟩ : ∃ p : Nat, p = a + m := ⟨_, rfl⟩
            obtain ⟨q, hq⟩ : ∃ q : Nat, q = f + m := ⟨_, rfl⟩
            have hpt : p < t := by omega
            have hpt2 : (p : Int) < (t : Int) := by omega
            have HP := Lib.hid (show (p : Int) = (a : Int) + (m : Int) by omega)
            have HQ := Lib.hid (show (q : Int) = (f : Int) + (m : Int) by omega)
            obtain ⟨z, Z, hc2, hf2, _, _⟩ := own2.at' (k := p) hpt
            obtain ⟨bb, oo, A3, c3, y, rfl, hbb, Y, hyc, hri, hyl⟩ := src_cell (hs.below (bel_trans B0 BW)) SL (k := s) (by omega)
            have hri' := hri.more (B' := wr.heap.size) (by have := B0.size; have := BW.size; omega)
            have hz : z = wrap32 (M.trackSum src (xs.take k) (p : Int)) := by
              have := Z.out
              rw [M.renP_at hpt HP.out, Option.some.injEq] at this
              exact this.symm
            have HZ := Lib.hid hz
            have hst := Lib.hid (M.renP_step (src := src) (xs := xs.take k) (c := ((s : Int), (f : Int), p2, (a : Int), p4)) hpt HP.out hml)
            have hy0 := Lib.hid (show (src[((s : Int)).toNat]?).getD [] = y by rw [Int.toNat_natCast, Y.out]; rfl)
            have hab1 : (a : Int) + (m : Int) < t := by omega
            have e5 : IntKind.i64.wrap ((a : Int) + (m : Int)) = (p : Int) := by rw [IntWalk.i64_in _ (by omega)]; exact HP.out.symm
            have e6 : IntKind.i64.wrap ((f : Int) + (m : Int)) = (q : Int) := by rw [IntWalk.i64_in _ (by omega)]; exact HQ.out.symm
            clear hz hp hq
            go_wp2
            clear hab1
            refine wp_region_still_tail 27 (by kernel_rfl) (by kernel_rfl) ?_
            simp only [List.take_succ_cons, List.take_zero, List.drop_succ_cons, List.drop_zero]
            iterate 23 still_step
            still_call (still_of (impl_at _ _ _ _ _ _ hri' hyl (by omega)))
            iterate 2 still_step
            still_call (still_of (impl_Wrap _ _))
            refine wpStill_nil ?_
            change wpList _ _ _ _ _ wr.drew
            go_wp2
            go_roundw
            case rel =>
              have h3 := OI.stored' own2 p (wrap32 (wrap64 (z + wrap64 (p4 * M.at_ y (q : Int)))))
              have he : wrap32 (wrap64 (z + wrap64 (p4 * M.at_ y (q : Int)))) = wrap32 (z + p4 * M.at_ y (q : Int)) := by rw [M.wrap32_64, ← M.wrap32_addr, M.wrap32_64, M.wrap32_addr]
              have hst2 := hst.out
              rw [hy0.out, ← HZ.out, ← HQ.out] at hst2
              rw [he, hst2] at h3
              refine ⟨m + 1, by go_num, by omega, ?_, (hm2.trans (Mid.of_grown (grown_setCell wr g p _) fun k hk => by injection hk with hk; omega)).trans ⟨rfl, rfl, rfl, Nat.le_refl _, fun _ _ _ => rfl⟩⟩
              rw [he]
              exact h3
            case measure => simp [intOf]; omega
          · have hnt : ¬ (a : Int) + (m : Int) < (t : Int) := by omega
            have hfin := Lib.hid (M.renP_end src (xs.take k) ((s : Int), (f : Int), p2, (a : Int), p4) m t (.inr (by simp only; omega)))
            go_wp2
            go_roundw
            case rel => exact ⟨k + 1, by go_num, by omega, by rw [hT.out, ← hfin.out]; exact own2, BW⟩
            case measure => simp [intOf]; omega
        · have hfin := Lib.hid (M.renP_end src (xs.take k) ((s : Int), (f : Int), p2, (a : Int), p4) m t (.inl (by simp only; omega)))
          go_wp2
          go_roundw
          case rel => exact ⟨k + 1, by go_num, by omega, by rw [hT.out, ← hfin.out]; exact own2, BW⟩
          case measure => simp [intOf]; omega
    · obtain rfl : n' = k := by omega
      rw [List.take_of_length_le (by rw [hl.out]; exact Nat.le_refl _)] at own
      go_wp2
      go_ret
      exact ⟨_, rfl, own.base (by rw [Z0.out]; omega), bel_trans B0 hb⟩
end Go.Proofs.Ytckihflfjecpbaa
namespace Go.Proofs.Ytckihflfjecpbaa
open Go.RowKit
set_option maxHeartbeats 400000
end Go.Proofs.Ytckihflfjecpbaa
namespace Go.Proofs.Ytckihflfjecpbaa
open Go.RowKit
set_option maxHeartbeats 400000
set_option maxRecDepth 100000
theorem spec_l01Add (a b : Int) (w : World) : Calls Try.prog 135 #[.int .i64 a, .int .i64 b] w fun e w' => e = .returned (.int .i64 (wrap32 (a + b))) ∧ w = w' := by
  have h1 := M.wrap32_bd a
  have h2 := M.wrap32_bd b
  go_enter Try.func135, Try.ntmps135
  go_wp2_with (go_at_call 98; refine (spec_l01Wrap _ _).mono ?_; rintro e w' ⟨rfl, rfl⟩)
  go_ret
  exact ⟨ret_int (M.wrap32_add _ _), rfl⟩
theorem spec_l01Mul (a b : Int) (w : World) : Calls Try.prog 147 #[.int .i64 a, .int .i64 b] w fun e w' => e = .returned (.int .i64 (wrap32 (a * b))) ∧ w = w' := by
  have h1 := M.wrap32_bd a
  have h2 := M.wrap32_bd b
  have h3 := M.wrap64_mul_bd _ _ h1 h2
  go_enter Try.func147, Try.ntmps147
  go_wp2_with (go_at_call 98; refine (spec_l01Wrap _ _).mono ?_; rintro e w' ⟨rfl, rfl⟩)
  go_ret
  exact ⟨ret_int (M.wrap32_mul _ _), rfl⟩
end Go.Proofs.Ytckihflfjecpbaa
namespace Go.Proofs.Ytckihflfjecpbaa
open Go.RowKit
set_option maxHeartbeats 4000000
set_option maxRecDepth 100000
theorem spec_l03ZerosN (r : Nat) (w : World) (hr : r ≤ 1000000) : Calls Try.prog 146 #[.int .i64 r] w (Ret1 2 w (List.replicate r 0)) := by
  go_enter Try.func146, Try.ntmps146
  go_wp2
  go_loopw [0, 3] (fun i v wr => ∃ k : Nat, i = .int .i64 k ∧ k ≤ r ∧ OI 2 w.heap.size wr v (List.replicate (r - k) 0) ∧ Below w.heap.size w wr) (fun i _ _ => (intOf i).toNat)
  case atStart => exact ⟨r, rfl, Nat.le_refl _, by rw [Nat.sub_self]; exact OI.made _ _, (Below.refl _ _).alloc (Nat.le_refl _) _⟩
  case round =>
    obtain ⟨k, rfl, hk, own, hb⟩ := hrel
    have hl1 : (List.replicate (r - k) (0 : Int)).length ≤ 1000000 := by rw [List.length_replicate]; omega
    by_cases hlt : 0 < k
    · have hR := Lib.hid (show List.replicate (r - k) (0 : Int) ++ [0] = List.replicate (r - (k - 1)) 0 by rw [show r - (k - 1) = r - k + 1 by omega, List.replicate_succ'])
      go_wp2_with (at_builtin; refine wpList_push1 ei_i64 rfl _ _ rfl own rfl rfl rfl (by unfold maxLen; omega) (by omega) hb.size ?_; intro v1 w1 own1 gr1 bel1)
      go_roundw
      case rel => exact ⟨k - 1, by go_num, by omega, by rw [← hR.out]; exact OI.push own1, hb.trans bel1⟩
      case measure => simp [intOf]; omega
    · obtain rfl : k = 0 := by omega
      go_wp2
      go_ret
      exact ⟨_, rfl, own, hb⟩
theorem spec_l23Render (vb : Nat) (A A' : Option Addr) (n c n' c' t : Nat) (src : List (List Int)) (xs : List Clip) (w : World) (hv0 : w.cell? ⟨vb, 0, none⟩ = some (.slice A' n' c')) (hs : RS tS w w.heap.size (.slice A n c) src) (hx : RA cl 5 w w.heap.size A' n' xs) (hok : M.srcOk src = true) (hk : M.trackOk xs = true) (hh : M.hasS xs src.length = true) (ht : t ≤ 4000) :
    Calls Try.prog 120 #[.slice A n c, .pointer (some ⟨vb, 0, none⟩), .int .i64 t] w (Ret1 2 w (M.renT src xs t)) := by
  have hl := Lib.hid hx.len
  have hls := Lib.hid hs.cap.1
  have hn12 : n' ≤ 12 := by have := M.track_len hk; rw [hl.out] at this; exact this
  have OK := Lib.hid hok
  have SL := M.srcOk_len hok
  have HK := Lib.hid hk
  have HH := Lib.hid hh
  have hvb : vb < w.heap.size := World.block_lt_of_cell? w _ hv0
  clear hok hk hh
  go_enter Try.func120, Try.ntmps120
  go_wp2_with fail
  refine (spec_l03ZerosN _ _ (by omega)).mono ?_
  rintro e w1 ⟨v1, rfl, own1, bel1⟩
  rw [← M.renT_nil src] at own1
  obtain ⟨A1, c1, rfl, -⟩ := own1.shape
  rw [M.renT_len] at *
  have s1 := bel1.size
  go_wp2_with fail
  go_loopw [8, 9, 10] (fun i _ _ wr => ∃ k : Nat, i = .int .i64 k ∧ k ≤ n' ∧ OI 2 w.heap.size wr (.slice A1 t c1) (M.renT src (xs.take k) t) ∧ Below w.heap.size w wr) (fun i _ _ _ => n' - (intOf i).toNat)
  case atStart => exact ⟨0, rfl, by omega, by simpa using own1, bel1⟩
  case round =>
    obtain ⟨k, rfl, hk, own, hb⟩ := hrel
    obtain ⟨wo, rfl⟩ : ∃ wo : World, wo = wr := ⟨_, rfl⟩
    have hv : wo.cell? ⟨vb, 0, none⟩ = some (.slice A' n' c') := by rw [hb.cell (by simpa using hvb)]; exact hv0
    by_cases hlt : k < n'
    · obtain ⟨b, o, ⟨p0, p1, p2, p3, p4⟩, rfl, hab, X, hc⟩ := (hx.below hb).at cl_len (by decide) hlt
      have hc0 : wo.cell? ⟨b, o + k * 5, none⟩ = some (.int .i64 p0) := hc 0 _ rfl
      have hc1 : wo.cell? ⟨b, o + k * 5 + 1, none⟩ = some (.int .i64 p1) := hc 1 _ rfl
      have hc2 : wo.cell? ⟨b, o + k * 5 + 2, none⟩ = some (.int .i64 p2) := hc 2 _ rfl
      have hc3 : wo.cell? ⟨b, o + k * 5 + 3, none⟩ = some (.int .i64 p3) := hc 3 _ rfl
      have hc4 : wo.cell? ⟨b, o + k * 5 + 4, none⟩ = some (.int .i64 p4) := hc 4 _ rfl
      clear hc
      obtain ⟨b0, b2, b1, b3, b4⟩ := M.clip_bd (M.track_clip HK.out X.out)
      simp only at b0 b1 b2 b3 b4
      have hsl := M.hasS_at HH.out X.out
      simp only at hsl
      rw [hls.out] at hsl
      obtain ⟨s, rfl⟩ : ∃ s : Nat, p0 = s := ⟨p0.toNat, by omega⟩
      obtain ⟨a, rfl⟩ : ∃ a : Nat, p3 = a := ⟨p3.toNat, by omega⟩
      obtain ⟨f, rfl⟩ : ∃ f : Nat, p1 = f := ⟨p1.toNat, by omega⟩
      have hT := Lib.hid (M.take_at X.out)
      have hE0 := Lib.hid (M.renP_zero src (xs.take k) ((s : Int), (f : Int), p2, (a : Int), p4) t)
      have so := hb.size
      go_wp2_with fail
      go_loopw [10] (fun i wr => ∃ m : Nat, i = .int .i64 m ∧ (m : Int) ≤ p2 ∧ OI 2 w.heap.size wr (.slice A1 t c1) (M.renP src (xs.take k) ((s : Int), (f : Int), p2, (a : Int), p4) m t) ∧ Mid w.heap.size wo.heap.size wo wr) (fun i _ => p2.toNat - (intOf i).toNat)
      case atStart => exact ⟨0, rfl, by omega, by rw [hE0.out]; exact own, Mid.refl _ _ _⟩
      case round =>
        obtain ⟨m, rfl, hm, own2, hm2⟩ := hrel
        have bm := hm2.toBelow so
        have BW : Below w.heap.size w wr := hb.trans bm
        have g0 : wr.cell? ⟨b, o + k * 5, none⟩ = some (.int .i64 s) := by rw [bm.cell (by simpa using hab)]; exact hc0
        have g1 : wr.cell? ⟨b, o + k * 5 + 1, none⟩ = some (.int .i64 f) := by rw [bm.cell (by simpa using hab)]; exact hc1
        have g2 : wr.cell? ⟨b, o + k * 5 + 2, none⟩ = some (.int .i64 p2) := by rw [bm.cell (by simpa using hab)]; exact hc2
        have g3 : wr.cell? ⟨b, o + k * 5 + 3, none⟩ = some (.int .i64 a) := by rw [bm.cell (by simpa using hab)]; exact hc3
        have g4 : wr.cell? ⟨b, o + k * 5 + 4, none⟩ = some (.int .i64 p4) := by rw [bm.cell (by simpa using hab)]; exact hc4
        by_cases hml : (m : Int) < p2
        · by_cases hat : a + m < t
          · obtain ⟨g, rfl, hB, hgl⟩ := own.form' (by omega)
            obtain ⟨p, hp⟩ : ∃ p : Nat, p = a + m := ⟨_, rfl⟩
            obtain ⟨q, hq⟩ : ∃ q : Nat, q = f + m := ⟨_, rfl⟩
            have hpt : p < t := by omega
            have hpt2 : (p : Int) < (t : Int) := by omega
            have HP := Lib.hid (show (p : Int) = (a : Int) + (m : Int) by omega)
            have HQ := Lib.hid (show (q : Int) = (f : Int) + (m : Int) by omega)
            obtain ⟨z, Z, hc2, hf2, _, _⟩ := own2.at' (k := p) hpt
            obtain ⟨bb, oo, A3, c3, y, rfl, hbb, Y, hyc, hri, hyl⟩ := src_cell (hs.below BW) SL (k := s) (by omega)
            have hri' := hri.more (B' := wr.heap.size) BW.size
            have hz : z = wrap32 (M.trackSum src (xs.take k) (p : Int)) := by
              have := Z.out
              rw [M.renP_at hpt HP.out, Option.some.injEq] at this
              exact this.symm
            have HZ := Lib.hid hz
            have hst := Lib.hid (M.renP_step (src := src) (xs := xs.take k) (c := ((s : Int), (f : Int), p2, (a : Int), p4)) hpt HP.out hml)
            have hy0 := Lib.hid (show (src[((s : Int)).toNat]?).getD [] = y by rw [Int.toNat_natCast, Y.out]; rfl)
            have hab1 : (a : Int) + (m : Int) < t := by omega
            have e5 : IntKind.i64.wrap ((a : Int) + (m : Int)) = (p : Int) := by rw [IntWalk.i64_in _ (by omega)]; exact HP.out.symm
            have e6 : IntKind.i64.wrap ((f : Int) + (m : Int)) = (q : Int) := by rw [IntWalk.i64_in _ (by omega)]; exact HQ.out.symm
            clear hz hp hq
            go_wp2
            clear hab1
            refine wp_region_still_tail 36 (by kernel_rfl) (by kernel_rfl) ?_
            simp only [List.take_succ_cons, List.take_zero, List.drop_succ_cons, List.drop_zero]
            iterate 33 still_step
            still_call (still_of (spec_l03At _ _ _ _ _ _ hri' hyl))
            still_call (still_of (spec_l01Mul _ _ _))
            still_call (still_of (spec_l01Add _ _ _))
            refine wpStill_nil ?_
            change wpList _ _ _ _ _ wr.drew
            go_wp2
            go_roundw
            case rel =>
              have h3 := OI.stored' own2 p (wrap32 (z + wrap32 (p4 * M.at_ y (q : Int))))
              have he : wrap32 (z + wrap32 (p4 * M.at_ y (q : Int))) = wrap32 (z + p4 * M.at_ y (q : Int)) := by rw [M.wrap32_addr]
              have hst2 := hst.out
              rw [hy0.out, ← HZ.out, ← HQ.out] at hst2
              rw [he, hst2] at h3
              refine ⟨m + 1, by go_num, by omega, ?_, (hm2.trans (Mid.of_grown (grown_setCell wr g p _) fun k hk => by injection hk with hk; omega)).trans ⟨rfl, rfl, rfl, Nat.le_refl _, fun _ _ _ => rfl⟩⟩
              rw [he]
              exact h3
            case measure => simp [intOf]; omega
          · have hnt : ¬ (a : Int) + (m : Int) < (t : Int) := by omega
            have hfin := Lib.hid (M.renP_end src (xs.take k) ((s : Int), (f : Int), p2, (a : Int), p4) m t (.inr (by simp only; omega)))
            go_wp2
            go_roundw
            case rel => exact ⟨k + 1, by go_num, by omega, by rw [hT.out, ← hfin.out]; exact own2, BW⟩
            case measure => simp [intOf]; omega
        · have hfin := Lib.hid (M.renP_end src (xs.take k) ((s : Int), (f : Int), p2, (a : Int), p4) m t (.inl (by simp only; omega)))
          go_wp2
          go_roundw
          case rel => exact ⟨k + 1, by go_num, by omega, by rw [hT.out, ← hfin.out]; exact own2, BW⟩
          case measure => simp [intOf]; omega
    · obtain rfl : n' = k := by omega
      rw [List.take_of_length_le (by rw [hl.out]; exact Nat.le_refl _)] at own
      go_wp2
      go_ret
      exact ⟨_, rfl, own, hb⟩
end Go.Proofs.Ytckihflfjecpbaa
namespace Go.Proofs.Ytckihflfjecpbaa
open Go.RowKit Go.Sort
set_option maxHeartbeats 4000000
set_option maxRecDepth 100000
theorem impl_RenderTrack (A A' : Option Addr) (n c n' c' : Nat) (t : Int) (src : List (List Int)) (xs : List Clip) (w : World) (hs : RS tS w w.heap.size (.slice A n c) src) (hx : RA cl 5 w w.heap.size A' n' xs) (hlen : Hid (∀ x ∈ src, x.length ≤ 1000000000)) (hn : n ≤ 1000000000) (hn' : n' ≤ 1000000000) :
    Calls Try.prog 64 #[.slice A n c, .agg #[.slice A' n' c'], .int .i64 t] w (Ret2 2 w (M.renderR src xs t)) := by
  have hls := Lib.hid hs.cap.1
  obtain ⟨W, hW⟩ : ∃ W, W = w.alloc (.cells #[.slice A' n' c'] 65) := ⟨_, rfl⟩
  have B0 : Below w.heap.size w W := by rw [hW]; exact (Below.refl _ _).alloc (Nat.le_refl _) _
  have p0 : W.cell? ⟨w.heap.size, 0, none⟩ = some (.slice A' n' c') := by rw [hW]; simp [go_sem]
  have l0 : w.heap.size < W.heap.size := by rw [hW]; simp
  have HW := Lib.hid hW
  clear hW
  have hs1 : RS tS W W.heap.size (.slice A n c) src := hs.later B0
  have hx1 := hx.later B0
  cases hok : M.srcOk src
  · have R := Lib.hid (show M.renderR src xs t = ([], 1) by rw [M.renderR, hok]; rfl)
    have OK := Lib.hid hok
    clear hok
    go_enter Try.func64, Try.ntmps64
    go_wp2_with fail
    rw [← HW.out]
    refine (impl_areSources _ _ _ _ W hs1 hlen hn).mono ?_
    rw [OK.out]
    rintro e w' ⟨rfl, rfl⟩
    go_wp2
    go_ret2
    rw [R.out]
    exact ⟨_, rfl, OI.nil _ _ _, B0⟩
  have OK := Lib.hid hok
  cases hk : M.trackOk xs
  · have R := Lib.hid (show M.renderR src xs t = ([], 1) by rw [M.renderR, hok, hk]; rfl)
    have HK := Lib.hid hk
    clear hok hk
    go_enter Try.func64, Try.ntmps64
    go_wp2_with fail
    rw [← HW.out]
    refine (impl_areSources _ _ _ _ W hs1 hlen hn).mono ?_
    rw [OK.out]
    rintro e w' ⟨rfl, rfl⟩
    go_wp2_with fail
    refine (impl_isTrack _ _ _ _ W hx1 hn').mono ?_
    rw [HK.out]
    rintro e w2 ⟨rfl, b2⟩
    go_wp2
    go_ret2
    rw [R.out]
    exact ⟨_, rfl, OI.nil _ _ _, bel_trans B0 b2⟩
  have HK := Lib.hid hk
  cases hi : M.inn t 0 4000
  · have R := Lib.hid (show M.renderR src xs t = ([], 2) by rw [M.renderR, hok, hk, hi]; rfl)
    have HI := Lib.hid hi
    clear hok hk hi
    go_enter Try.func64, Try.ntmps64
    go_wp2_with fail
    rw [← HW.out]
    refine (impl_areSources _ _ _ _ W hs1 hlen hn).mono ?_
    rw [OK.out]
    rintro e w' ⟨rfl, rfl⟩
    go_wp2_with fail
    refine (impl_isTrack _ _ _ _ W hx1 hn').mono ?_
    rw [HK.out]
    rintro e w2 ⟨rfl, b2⟩
    go_wp2_with fail
    refine (impl_isCount _ _).mono ?_
    rw [HI.out]
    rintro e w' ⟨rfl, rfl⟩
    go_wp2
    go_ret2
    rw [R.out]
    exact ⟨_, rfl, OI.nil _ _ _, bel_trans B0 b2⟩
  obtain ⟨t, rfl⟩ : ∃ q : Nat, t = q := ⟨t.toNat, by have := M.inn_iff.1 hi; omega⟩
  have ht : t ≤ 4000 := by have := M.inn_iff.1 hi; omega
  have HI := Lib.hid hi
  cases hh : M.hasS xs src.length
  · have R := Lib.hid (show M.renderR src xs t = ([], 3) by rw [M.renderR, hok, hk, hi, hh]; rfl)
    have HH := Lib.hid hh
    clear hok hk hi hh
    go_enter Try.func64, Try.ntmps64
    go_wp2_with fail
    rw [← HW.out]
    refine (impl_areSources _ _ _ _ W hs1 hlen hn).mono ?_
    rw [OK.out]
    rintro e w' ⟨rfl, rfl⟩
    go_wp2_with fail
    refine (impl_isTrack _ _ _ _ W hx1 hn').mono ?_
    rw [HK.out]
    rintro e w2 ⟨rfl, b2⟩
    have p2 : w2.cell? ⟨w.heap.size, 0, none⟩ = some (.slice A' n' c') := by rw [b2.cell l0]; exact p0
    go_wp2_with fail
    refine (impl_isCount _ _).mono ?_
    rw [HI.out]
    rintro e w' ⟨rfl, rfl⟩
    have cS : ∀ d os, Calls Try.prog 125 #[.slice A n c] (grow (redrawn w2 d) os) fun e w'' => e = .returned (.int .i64 n) ∧ ∃ p : Regrown, w'' = grow (redrawn w2 p.d) p.os := fun d os => Calls.regrown_of ((impl_size_int64S A n c (grow (redrawn w2 d) os)).mono fun e w' h => ⟨h.1, h.2 ▸ Below.refl _ _⟩)
    have cP : ∀ d os, Calls Try.prog 124 #[.agg #[.slice A' n' c'], .int .i64 n] (grow (redrawn w2 d) os) fun e w'' => e = .returned (.bool false) ∧ ∃ p : Regrown, w'' = grow (redrawn w2 p.d) p.os := fun d os => Calls.regrown_of (by have h := impl_hasSources A' n' c' xs n (grow (redrawn w2 d) os) ((hx1.later b2).later (below_regrown w2 d os)) hn'; rw [← hls.out, HH.out] at h; rw [← hls.out]; exact h)
    have k2' := cell_regrown p2
    clear p2
    go_wp2
    (refine wp_region_quiet_below (by kernel_rfl) (by kernel_rfl) ?_; (repeat (go_big_quiet_step ((first | exact cS _ _ | exact cP _ _)))); refine wpQuiet_nil ?_; intro _ hw'; obtain ⟨⟨dq, osq⟩, hw''⟩ := hw'; subst hw'')
    go_wp2
    go_ret2
    rw [R.out]
    exact ⟨_, rfl, OI.nil _ _ _, (bel_trans B0 b2).trans ((below_regrown w2 dq osq).mono (bel_trans B0 b2).size)⟩
  · have R := Lib.hid (show M.renderR src xs t = (M.renT src xs t, 0) by rw [M.renderR, hok, hk, hi, hh]; rfl)
    have HH := Lib.hid hh
    clear hok hk hi hh
    go_enter Try.func64, Try.ntmps64
    go_wp2_with fail
    rw [← HW.out]
    refine (impl_areSources _ _ _ _ W hs1 hlen hn).mono ?_
    rw [OK.out]
    rintro e w' ⟨rfl, rfl⟩
    go_wp2_with fail
    refine (impl_isTrack _ _ _ _ W hx1 hn').mono ?_
    rw [HK.out]
    rintro e w2 ⟨rfl, b2⟩
    have p2 : w2.cell? ⟨w.heap.size, 0, none⟩ = some (.slice A' n' c') := by rw [b2.cell l0]; exact p0
    go_wp2_with fail
    refine (impl_isCount _ _).mono ?_
    rw [HI.out]
    rintro e w' ⟨rfl, rfl⟩
    have cS : ∀ d os, Calls Try.prog 125 #[.slice A n c] (grow (redrawn w2 d) os) fun e w'' => e = .returned (.int .i64 n) ∧ ∃ p : Regrown, w'' = grow (redrawn w2 p.d) p.os := fun d os => Calls.regrown_of ((impl_size_int64S A n c (grow (redrawn w2 d) os)).mono fun e w' h => ⟨h.1, h.2 ▸ Below.refl _ _⟩)
    have cP : ∀ d os, Calls Try.prog 124 #[.agg #[.slice A' n' c'], .int .i64 n] (grow (redrawn w2 d) os) fun e w'' => e = .returned (.bool true) ∧ ∃ p : Regrown, w'' = grow (redrawn w2 p.d) p.os := fun d os => Calls.regrown_of (by have h := impl_hasSources A' n' c' xs n (grow (redrawn w2 d) os) ((hx1.later b2).later (below_regrown w2 d os)) hn'; rw [← hls.out, HH.out] at h; rw [← hls.out]; exact h)
    have k2' := cell_regrown p2
    clear p2
    go_wp2
    (refine wp_region_quiet_below (by kernel_rfl) (by kernel_rfl) ?_; (repeat (go_big_quiet_step ((first | exact cS _ _ | exact cP _ _)))); refine wpQuiet_nil ?_; intro _ hw'; obtain ⟨⟨dq, osq⟩, hw''⟩ := hw'; subst hw'')
    have b3 := below_regrown w2 dq osq
    have k3 := k2' dq osq
    have hs3 : RS tS (grow (redrawn w2 dq) osq) (grow (redrawn w2 dq) osq).heap.size (.slice A n c) src := (hs1.later b2).later b3
    have hx3 := (hx1.later b2).later b3
    generalize grow (redrawn w2 dq) osq = w3 at b3 k3 hs3 hx3 ⊢
    clear k2' cS cP
    go_wp2_with fail
    refine (impl_renderTrack _ _ _ _ _ _ _ _ _ w3 hs3 hx3 OK.out HK.out HH.out ht).mono ?_
    rintro e w4 ⟨v4, rfl, own4, b4⟩
    have BB := bel_trans (bel_trans B0 b2) b3
    go_wp2
    go_ret2
    rw [R.out]
    exact ⟨_, rfl, own4.base BB.size, bel_trans BB b4⟩
end Go.Proofs.Ytckihflfjecpbaa
namespace Go.Proofs.Ytckihflfjecpbaa
open Go.RowKit
set_option maxHeartbeats 4000000
set_option maxRecDepth 100000
theorem spec_RenderTrack (A A' : Option Addr) (n c n' c' : Nat) (t : Int) (src : List (List Int)) (xs : List Clip) (w : World) (hs : RS tS w w.heap.size (.slice A n c) src) (hx : RA cl 5 w w.heap.size A' n' xs) (hlen : Hid (∀ x ∈ src, x.length ≤ 1000000000)) (hn : n ≤ 1000000000) (hn' : n' ≤ 1000000000) :
    Calls Try.prog 61 #[.slice A n c, .agg #[.slice A' n' c'], .int .i64 t] w (Ret2 2 w (M.renderR src xs t)) := by
  have hls := Lib.hid hs.cap.1
  have hlx := Lib.hid hx.len
  obtain ⟨W, hW⟩ : ∃ W, W = w.alloc (.cells #[.slice A' n' c'] 65) := ⟨_, rfl⟩
  have B0 : Below w.heap.size w W := by rw [hW]; exact (Below.refl _ _).alloc (Nat.le_refl _) _
  have p0 : W.cell? ⟨w.heap.size, 0, none⟩ = some (.slice A' n' c') := by rw [hW]; simp [go_sem]
  have l0 : w.heap.size < W.heap.size := by rw [hW]; simp
  have HW := Lib.hid hW
  clear hW
  have hs1 : RS tS W W.heap.size (.slice A n c) src := hs.later B0
  have hx1 := hx.later B0
  cases hok : M.srcOk src
  · have R := Lib.hid (show M.renderR src xs t = ([], 1) by rw [M.renderR, hok]; rfl)
    have OK := Lib.hid hok
    clear hok
    go_enter Try.func61, Try.ntmps61
    go_wp2_with fail
    rw [← HW.out]
    refine (spec_l23Sources _ _ _ _ W hs1 hlen hn).mono ?_
    rw [OK.out]
    rintro e w' ⟨rfl, rfl⟩
    go_wp2
    go_ret2
    rw [R.out]
    exact ⟨_, rfl, OI.nil _ _ _, B0⟩
  have OK := Lib.hid hok
  cases hk : M.trackOk xs
  · have R := Lib.hid (show M.renderR src xs t = ([], 1) by rw [M.renderR, hok, hk]; rfl)
    have HK := Lib.hid hk
    clear hok hk
    go_enter Try.func61, Try.ntmps61
    go_wp2_with fail
    rw [← HW.out]
    refine (spec_l23Sources _ _ _ _ W hs1 hlen hn).mono ?_
    rw [OK.out]
    rintro e w' ⟨rfl, rfl⟩
    go_wp2_with fail
    refine (spec_l23Ok _ _ _ _ _ W p0 hx1 hn').mono ?_
    rw [HK.out]
    rintro e w2 ⟨rfl, b2⟩
    go_wp2
    go_ret2
    rw [R.out]
    exact ⟨_, rfl, OI.nil _ _ _, bel_trans B0 b2⟩
  have HK := Lib.hid hk
  cases hi : M.inn t 0 4000
  · have R := Lib.hid (show M.renderR src xs t = ([], 2) by rw [M.renderR, hok, hk, hi]; rfl)
    have HI := Lib.hid hi
    clear hok hk hi
    go_enter Try.func61, Try.ntmps61
    go_wp2_with fail
    rw [← HW.out]
    refine (spec_l23Sources _ _ _ _ W hs1 hlen hn).mono ?_
    rw [OK.out]
    rintro e w' ⟨rfl, rfl⟩
    go_wp2_with fail
    refine (spec_l23Ok _ _ _ _ _ W p0 hx1 hn').mono ?_
    rw [HK.out]
    rintro e w2 ⟨rfl, b2⟩
    go_wp2_with fail
    refine (spec_l00In _ _ _ _).mono ?_
    rw [HI.out]
    rintro e w' ⟨rfl, rfl⟩
    go_wp2
    go_ret2
    rw [R.out]
    exact ⟨_, rfl, OI.nil _ _ _, bel_trans B0 b2⟩
  obtain ⟨t, rfl⟩ : ∃ q : Nat, t = q := ⟨t.toNat, by have := M.inn_iff.1 hi; omega⟩
  have ht : t ≤ 4000 := by have := M.inn_iff.1 hi; omega
  have HI := Lib.hid hi
  have R := Lib.hid (show M.renderR src xs t = if M.hasS xs src.length then (M.renT src xs t, 0) else ([], 3) by rw [M.renderR, hok, hk, hi]; rfl)
  clear hok hk hi
  go_enter Try.func61, Try.ntmps61
  go_wp2_with fail
  rw [← HW.out]
  refine (spec_l23Sources _ _ _ _ W hs1 hlen hn).mono ?_
  rw [OK.out]
  rintro e w' ⟨rfl, rfl⟩
  go_wp2_with fail
  refine (spec_l23Ok _ _ _ _ _ W p0 hx1 hn').mono ?_
  rw [HK.out]
  rintro e w2 ⟨rfl, b2⟩
  have p2 : w2.cell? ⟨w.heap.size, 0, none⟩ = some (.slice A' n' c') := by rw [b2.cell l0]; exact p0
  have l2 := Nat.lt_of_lt_of_le l0 b2.size
  have B2 := bel_trans B0 b2
  have hs2 : RS tS w2 w2.heap.size (.slice A n c) src := hs1.later b2
  have hx2 := hx1.later b2
  go_wp2_with fail
  refine (spec_l00In _ _ _ _).mono ?_
  rw [HI.out]
  rintro e w' ⟨rfl, rfl⟩
  go_wp2_with fail
  go_loopw [8] (fun i wr => ∃ k : Nat, i = .int .i64 k ∧ k ≤ n' ∧ Hid (M.hasS (xs.take k) src.length = true) ∧ Below w2.heap.size w2 wr) (fun i _ => n' - (intOf i).toNat)
  case atStart => exact ⟨0, rfl, by omega, Lib.hid (by simp [M.hasS]), Below.refl _ _⟩
  case round =>
    obtain ⟨k, rfl, hk, H, hb⟩ := hrel
    have pr : wr.cell? ⟨w.heap.size, 0, none⟩ = some (.slice A' n' c') := by rw [hb.cell l2]; exact p2
    by_cases hlt : k < n'
    · obtain ⟨b, o, ⟨p0', p1, p2', p3, p4⟩, rfl, hab, X, hc⟩ := (hx2.below hb).at cl_len (by decide) hlt
      have hc0 : wr.cell? ⟨b, o + k * 5, none⟩ = some (.int .i64 p0') := hc 0 _ rfl
      clear hc
      have hT := Lib.hid (M.take_at X.out)
      by_cases hs0 : (n : Int) ≤ p0'
      · have hno := Lib.hid (show M.hasS xs src.length = false by
          rw [M.hasS, List.all_eq_false]
          exact ⟨_, List.mem_of_getElem? X.out, by simp [hls.out]; omega⟩)
        go_wp2
        go_ret2
        rw [R.out, hno.out]
        exact ⟨_, rfl, OI.nil _ _ _, bel_trans B2 hb⟩
      · go_wp2
        go_roundw
        case rel =>
          refine ⟨k + 1, by go_num, by omega, Lib.hid ?_, hb⟩
          have h1 := H.out
          rw [M.hasS] at h1 ⊢
          rw [hT.out, List.all_append, h1, Bool.true_and]
          simp [hls.out]
          omega
        case measure => simp [intOf]; omega
    · have HH : Hid (M.hasS xs src.length = true) := by
        have := H.out
        rw [List.take_of_length_le (by rw [hlx.out]; omega)] at this
        exact Lib.hid this
      go_wp2_with fail
      refine (spec_l23Render _ _ _ _ _ _ _ _ _ _ wr pr (hs2.later hb) (hx2.later hb) OK.out HK.out HH.out ht).mono ?_
      rintro e w4 ⟨v4, rfl, own4, b4⟩
      have BB := bel_trans B2 hb
      go_wp2
      go_ret2
      rw [R.out, HH.out]
      exact ⟨_, rfl, own4.base BB.size, bel_trans BB b4⟩
end Go.Proofs.Ytckihflfjecpbaa
namespace Go.Proofs.Ytckihflfjecpbaa
open Go.RowKit
set_option maxHeartbeats 2000000
set_option maxRecDepth 100000
/-- What the drawing of a signal gives back. -/
def DrewL (b lo : Nat) (A : Option Addr) (n c : Nat) (code : List UInt8) (K m : Nat) (w : World) (e : Ending) (w' : World) : Prop :=
  ∃ v xs, e = .returned v ∧ OS tI 2 w' (Iv w.heap.size w'.heap.size) v xs ∧ xs.length ≤ m ∧ Hid (∀ x ∈ xs, M.smp x = true) ∧ Src w' b lo A n c code K ∧ Mid b (b + 1) w w'
/-- How the drawing of a signal stands. -/
structure DL (w : World) (b lo : Nat) (A : Option Addr) (n c : Nat) (code : List UInt8) (K : Nat) (xs : List Int) (v : Value) (wr : World) : Prop where
  own : OS tI 2 wr (Iv w.heap.size wr.heap.size) v xs
  src : Src wr b lo A n c code K
  mid : Mid b (b + 1) w wr
  sz : w.heap.size + 1 ≤ wr.heap.size
theorem DL.step {w wr w' : World} {b lo : Nat} {A : Option Addr} {n c : Nat} {code : List UInt8} {K K' : Nat} {xs : List Int} {v : Value} (h : DL w b lo A n c code K xs v wr) (hb : b < w.heap.size) (hs : Src w' b lo A n c code K') (hm : Mid b (b + 1) wr w') : DL w b lo A n c code K' xs v w' :=
  have hz := h.sz
  ⟨(h.own.mid hm (.inr (by omega)) (Nat.le_refl _)).iv (Nat.le_refl _) hm.size, hs, h.mid.trans hm, Nat.le_trans hz hm.size⟩
theorem DL.more {w wr : World} {b lo : Nat} {A : Option Addr} {n c : Nat} {code : List UInt8} {K K' : Nat} {xs : List Int} {v : Value} (h : DL w b lo A n c code K xs v wr) (hK : K ≤ K') : DL w b lo A n c code K' xs v wr :=
  ⟨h.own, h.src.more hK, h.mid, h.sz⟩
theorem M.smp_of {x : Int} (h0 : -2147483648 ≤ x) (h1 : x ≤ 2147483647) : M.smp x = true := by simp [M.smp, M.inn]; omega
theorem spec_l29Draw (b lo : Nat) (A : Option Addr) (n c : Nat) (code : List UInt8) (K m : Nat) (w : World) (h : Src w b lo A n c code K) (hK : K ≤ 1000000) (hm : m ≤ 1000) :
    Calls Try.prog 90 #[.pointer (some ⟨b, 0, none⟩), .int .i64 m] w (DrewL b lo A n c code (K + 12 + 6 * m) m w) := by
  have hbw := h.lt
  have d0 : DL w b lo A n c code K [] (.slice (some ⟨w.heap.size, 0, none⟩) 0 0) (w.alloc (.cells #[] 2)) := by
    have hB := (Below.refl w.heap.size w).alloc (Nat.le_refl _) (.cells #[] 2)
    exact ⟨OS.made0 tI 2 w, h.below hB hbw, Mid.of_below hB _ _, by simp⟩
  go_enter Try.func90, Try.ntmps90
  go_wp2_with fail
  refine (spec_l01Draw b lo A n c code K _ d0.src (by omega)).mono ?_
  rintro e w1 ⟨x, rfl, ⟨x0, x1⟩, s1, m1⟩
  have d1 := d0.step hbw s1 m1
  clear d0 s1 m1
  go_wp2_with fail
  refine (src_pick b lo A n c code _ 200 _ d1.src (by omega) (by omega)).mono ?_
  rintro e w2 ⟨s, rfl, ⟨s0, s1⟩, s2, m2⟩
  have d2 := d1.step hbw s2 m2
  clear d1 s2 m2
  have s3 : s ≤ 199 := by omega
  clear s1
  go_wp2_with fail
  refine (src_pick b lo A n c code _ 4 _ d2.src (by omega) (by omega)).mono ?_
  rintro e w3 ⟨q, rfl, ⟨q0, q1⟩, s4, m3⟩
  have d3 := d2.step hbw s4 m3
  clear d2 s4 m3
  have q2 : q ≤ 3 := by omega
  clear q1
  go_wp2_with fail
  refine (src_pick b lo A n c code _ ((m : Int) + 1) _ d3.src (by omega) (by omega)).mono ?_
  rintro e w4 ⟨k, rfl, ⟨k0, k1⟩, s5, m4⟩
  have d4 := d3.step hbw s5 m4
  clear d3 s5 m4
  obtain ⟨k, rfl⟩ : ∃ j : Nat, k = j := ⟨k.toNat, by omega⟩
  have hkm : k ≤ m := by omega
  clear k1
  go_wp2_with fail
  go_loopw [5, 6, 7, 9] (fun v y t i wr => ∃ (j : Nat) (xs : List Int) (z u : Int), i = .int .i64 j ∧ y = .int .i64 z ∧ t = .int .i64 u ∧ j ≤ k ∧ xs.length + j ≤ k ∧ -2147483648 ≤ z ∧ z ≤ 2147483647 ∧ -200 - (xs.length : Int) ≤ u ∧ u ≤ 200 + (xs.length : Int) ∧ Hid (∀ x ∈ xs, M.smp x = true) ∧ DL w b lo A n c code (K + 12 + 6 * (k - j)) xs v wr)
    (fun _ _ _ i _ => (intOf i).toNat)
  case atStart => exact ⟨k, [], x, s - 100, rfl, rfl, rfl, by omega, by simp, by omega, by omega, by simp; omega, by simp; omega, Lib.hid (by simp), d4.more (by omega)⟩
  case round =>
    obtain ⟨j, xs, z, u, rfl, rfl, rfl, hj, hl, z0, z1, u0, u1, hsm, D⟩ := hrel
    have hsz := D.sz
    by_cases hlt : 0 < j
    · have hsm2 : Hid (∀ y ∈ xs ++ [z], M.smp y = true) := Lib.hid (by
        intro y hy
        rcases List.mem_append.1 hy with h | h
        · exact hsm.out y h
        · simp only [List.mem_singleton] at h
          subst h
          exact M.smp_of z0 z1)
      obtain ⟨A0, c0, rfl⟩ := D.own.shape
      by_cases e0 : q = 0
      · subst e0
        go_wp2_with (at_builtin; refine wpList_pushS (t := tI) ei_i64 #[.int .i64 z] rfl _ _ rfl D.own (Fe := fun _ => False) (y := z) rfl (fun _ _ h => h) rfl rfl (by unfold maxLen; omega) (by omega) ?_; intro v5 w5 own5 ch5)
        have D5 : DL w b lo A n c code (K + 12 + 6 * (k - j)) (xs ++ [z]) v5 w5 := by
          have hB5 : Below w.heap.size wr w5 := ch5.toBelow (fun b hb => hb.1) (by omega)
          refine ⟨own5.wide ?_, D.src.below hB5 hbw, D.mid.thenB' hB5 (Nat.le_refl _), by have := ch5.size; omega⟩
          intro q hq
          have h5 := ch5.size
          rcases hq with hq | hq | hq
          · unfold Iv at *; omega
          · exact hq.elim
          · unfold Iv; omega
        clear own5 ch5 D hsz
        generalize hys : xs ++ [z] = ys at D5 hsm2
        have HYS := Lib.hid hys
        clear hys
        have hl5 : ys.length = xs.length + 1 := by rw [← HYS.out]; simp
        refine (spec_l01Draw b lo A n c code _ _ D5.src (by omega)).mono ?_
        rintro e w6 ⟨x6, rfl, ⟨v0, v1⟩, s6, m6⟩
        have D6 := D5.step hbw s6 m6
        go_wp2
        go_roundw
        case rel => exact ⟨j - 1, ys, x6, u, by go_num, rfl, rfl, by omega, by omega, by omega, by omega, by omega, by omega, hsm2, D6.more (by omega)⟩
        case measure => simp [intOf]; omega
      · have f0 : (q == 0) = false := by simpa using e0
        by_cases e1 : q = 1
        · subst e1
          go_wp2_with (at_builtin; refine wpList_pushS (t := tI) ei_i64 #[.int .i64 z] rfl _ _ rfl D.own (Fe := fun _ => False) (y := z) rfl (fun _ _ h => h) rfl rfl (by unfold maxLen; omega) (by omega) ?_; intro v5 w5 own5 ch5)
          have D5 : DL w b lo A n c code (K + 12 + 6 * (k - j)) (xs ++ [z]) v5 w5 := by
            have hB5 : Below w.heap.size wr w5 := ch5.toBelow (fun b hb => hb.1) (by omega)
            refine ⟨own5.wide ?_, D.src.below hB5 hbw, D.mid.thenB' hB5 (Nat.le_refl _), by have := ch5.size; omega⟩
            intro q hq
            have h5 := ch5.size
            rcases hq with hq | hq | hq
            · unfold Iv at *; omega
            · exact hq.elim
            · unfold Iv; omega
          clear own5 ch5 D hsz
          generalize hys : xs ++ [z] = ys at D5 hsm2
          have HYS := Lib.hid hys
          clear hys
          have hl5 : ys.length = xs.length + 1 := by rw [← HYS.out]; simp
          refine (src_pick b lo A n c code _ 9 _ D5.src (by omega) (by omega)).mono ?_
          rintro e w6 ⟨x6, rfl, ⟨v0, v1⟩, s6, m6⟩
          have D6 := D5.step hbw s6 m6
          have v2 : x6 ≤ 8 := by omega
          clear v1
          go_wp2_with fail
          refine (spec_l01Add _ _ _).mono ?_
          rintro e w' ⟨rfl, rfl⟩
          have hb := M.wrap32_bd (z + (x6 - 4))
          go_wp2
          go_roundw
          case rel => exact ⟨j - 1, ys, wrap32 (z + (x6 - 4)), u, by go_num, rfl, rfl, by omega, by omega, by omega, by omega, by omega, by omega, hsm2, D6.more (by omega)⟩
          case measure => simp [intOf]; omega
        · have f1 : (q == 1) = false := by simpa using e1
          by_cases e2 : q = 2
          · subst e2
            go_wp2_with (at_builtin; refine wpList_pushS (t := tI) ei_i64 #[.int .i64 z] rfl _ _ rfl D.own (Fe := fun _ => False) (y := z) rfl (fun _ _ h => h) rfl rfl (by unfold maxLen; omega) (by omega) ?_; intro v5 w5 own5 ch5)
            have D5 : DL w b lo A n c code (K + 12 + 6 * (k - j)) (xs ++ [z]) v5 w5 := by
              have hB5 : Below w.heap.size wr w5 := ch5.toBelow (fun b hb => hb.1) (by omega)
              refine ⟨own5.wide ?_, D.src.below hB5 hbw, D.mid.thenB' hB5 (Nat.le_refl _), by have := ch5.size; omega⟩
              intro q hq
              have h5 := ch5.size
              rcases hq with hq | hq | hq
              · unfold Iv at *; omega
              · exact hq.elim
              · unfold Iv; omega
            clear own5 ch5 D hsz
            generalize hys : xs ++ [z] = ys at D5 hsm2
            have HYS := Lib.hid hys
            clear hys
            have hl5 : ys.length = xs.length + 1 := by rw [← HYS.out]; simp
            refine (spec_l01Add _ _ _).mono ?_
            rintro e w' ⟨rfl, rfl⟩
            go_wp2_with fail
            refine (src_pick b lo A n c code _ 3 _ D5.src (by omega) (by omega)).mono ?_
            rintro e w6 ⟨x6, rfl, ⟨v0, v1⟩, s6, m6⟩
            have D6 := D5.step hbw s6 m6
            have v2 : x6 ≤ 2 := by omega
            clear v1
            have hb := M.wrap32_bd (z + u)
            go_wp2
            go_roundw
            case rel => exact ⟨j - 1, ys, wrap32 (z + u), u + (x6 - 1), by go_num, rfl, rfl, by omega, by omega, by omega, by omega, by omega, by omega, hsm2, D6.more (by omega)⟩
            case measure => simp [intOf]; omega
          · have f2 : (q == 2) = false := by simpa using e2
            go_wp2_with (at_builtin; refine wpList_pushS (t := tI) ei_i64 #[.int .i64 z] rfl _ _ rfl D.own (Fe := fun _ => False) (y := z) rfl (fun _ _ h => h) rfl rfl (by unfold maxLen; omega) (by omega) ?_; intro v5 w5 own5 ch5)
            have D5 : DL w b lo A n c code (K + 12 + 6 * (k - j)) (xs ++ [z]) v5 w5 := by
              have hB5 : Below w.heap.size wr w5 := ch5.toBelow (fun b hb => hb.1) (by omega)
              refine ⟨own5.wide ?_, D.src.below hB5 hbw, D.mid.thenB' hB5 (Nat.le_refl _), by have := ch5.size; omega⟩
              intro q hq
              have h5 := ch5.size
              rcases hq with hq | hq | hq
              · unfold Iv at *; omega
              · exact hq.elim
              · unfold Iv; omega
            clear own5 ch5 D hsz
            generalize hys : xs ++ [z] = ys at D5 hsm2
            have HYS := Lib.hid hys
            clear hys
            have hl5 : ys.length = xs.length + 1 := by rw [← HYS.out]; simp
            refine (src_pick b lo A n c code _ 40 _ D5.src (by omega) (by omega)).mono ?_
            rintro e w6 ⟨x6, rfl, ⟨v0, v1⟩, s6, m6⟩
            have D6 := D5.step hbw s6 m6
            have v2 : x6 ≤ 39 := by omega
            clear v1
            go_wp2
            go_roundw
            case rel => exact ⟨j - 1, ys, x6 - 20, u, by go_num, rfl, rfl, by omega, by omega, by omega, by omega, by omega, by omega, hsm2, D6.more (by omega)⟩
            case measure => simp [intOf]; omega
    · obtain rfl : j = 0 := by omega
      go_wp2
      go_ret
      exact ⟨_, _, rfl, D.own, by omega, hsm, D.src.more (by omega), D.mid⟩
end Go.Proofs.Ytckihflfjecpbaa
namespace Go.Proofs.Ytckihflfjecpbaa
open Go.RowKit
set_option maxHeartbeats 2000000
set_option maxRecDepth 100000
theorem laws_v8Same (A A' : Option Addr) (n c n' c' : Nat) (xs ys : List Int) (w : World) (hx : RI w w.heap.size A n xs) (hy : RI w w.heap.size A' n' ys) (hn : n ≤ 1000000000) :
    Calls Try.prog 43 #[.slice A n c, .slice A' n' c'] w fun e w' => e = .returned (.bool (decide (xs = ys))) ∧ Below w.heap.size w w' := by
  have hl := Lib.hid hx.len
  have hl' := Lib.hid hy.len
  by_cases hnn : n = n'
  · subst hnn
    go_enter Try.func43, Try.ntmps43
    go_wp2
    go_loopw [5] (fun i wr => ∃ k : Nat, i = .int .i64 k ∧ k ≤ n ∧ Hid (xs.take k = ys.take k) ∧ Below w.heap.size w wr) (fun i _ => n - (intOf i).toNat)
    case atStart => exact ⟨0, rfl, by omega, Lib.hid (by simp), Below.refl _ _⟩
    case round =>
      obtain ⟨k, rfl, hk, H, hb⟩ := hrel
      by_cases hlt : k < n
      · obtain ⟨ad, x, rfl, hab, X, hc⟩ := (hx.below hb).at hlt
        obtain ⟨ad', y, rfl, hab', Y, hc'⟩ := (hy.below hb).at hlt
        by_cases hxy : x = y
        · subst hxy
          go_wp2
          go_quiet (fail)
          go_wp2
          go_roundw
          case rel => exact ⟨k + 1, by go_num, by omega, Lib.hid (by rw [M.take_at X.out, M.take_at Y.out, H.out]), hb.trans (below_drewN (Below.refl _ _) _)⟩
          case measure => simp [intOf]; omega
        · have hne := Lib.hid (show ¬ xs = ys from fun e => hxy (by have h1 := X.out; have h2 := Y.out; rw [e, h2] at h1; injection h1 with h1; exact h1.symm))
          have hxy' : (x == y) = false := by simpa using hxy
          clear hxy
          go_wp2
          go_quiet (fail)
          go_wp2
          go_ret
          exact ⟨ret_bool (by simp [hne.out]), hb.trans (below_drewN (Below.refl _ _) _)⟩
      · go_wp2
        go_ret
        have h1 : xs = ys := by have := H.out; rwa [List.take_of_length_le (by rw [hl.out]; omega), List.take_of_length_le (by rw [hl'.out]; omega)] at this
        exact ⟨ret_bool (by simp [h1]), hb⟩
  · have hne := Lib.hid (show ¬ xs = ys from fun e => hnn (by rw [← hl.out, ← hl'.out, e]))
    go_enter Try.func43, Try.ntmps43
    go_wp2
    go_ret
    exact ⟨ret_bool (by simp [hne.out]), Below.refl _ _⟩
theorem laws_v8Long (A A' : Option Addr) (n c n' c' : Nat) (w : World) :
    Calls Try.prog 32 #[.slice A n c, .slice A' n' c'] w fun e w' => e = .returned (.bool (decide (1048576 < n) || decide (1048576 < n'))) ∧ w = w' := by
  by_cases h1 : 1048576 < n
  · go_enter Try.func32, Try.ntmps32
    go_wp2
    go_ret
    exact ⟨ret_bool (by simp [h1]), rfl⟩
  · go_enter Try.func32, Try.ntmps32
    go_wp2
    go_ret
    exact ⟨ret_bool (by rw [Bool.eq_iff_iff]; simp; try omega), rfl⟩
theorem byte_cell {w : World} {A : Option Addr} {n c : Nat} {code : List UInt8} (hr : RS tU8 w w.heap.size (.slice A n c) code) {k : Nat} (hk : k < n) :
    ∃ (bb o : Nat) (x : Int), A = some ⟨bb, o, none⟩ ∧ w.cell? ⟨bb, o + k, none⟩ = some (.int .u8 x) ∧ 0 ≤ x ∧ x ≤ 255 := by
  obtain rfl : code.length = n := hr.cap.1
  obtain ⟨bb, o, c1, cs, hv, hab, -, hE, hc⟩ := hr.at (k := k) (by omega)
  simp only [Value.slice.injEq] at hv
  obtain ⟨rfl, -, rfl⟩ := hv
  generalize code[k]'(by omega) = x at hE
  obtain rfl : cs = [.int .u8 (x.toNat : Int)] := hE
  have hx : w.cell? ⟨bb, o + k * 1, none⟩ = some (.int .u8 (x.toNat : Int)) := hc 0 _ rfl
  rw [Nat.mul_one] at hx
  exact ⟨bb, o, _, rfl, hx, by omega, by have := x.toNat_lt; omega⟩
theorem laws_v8At (A : Option Addr) (n c : Nat) (code : List UInt8) (k : Nat) (m : Int) (w : World) (hr : RS tU8 w w.heap.size (.slice A n c) code) (hk : k ≤ 1000) (hm : 0 ≤ m ∧ m ≤ 1000000) :
    Calls Try.prog 34 #[.slice A n c, .int .i64 k, .int .i64 m] w fun e w' => ∃ v, e = .returned (.int .i64 v) ∧ (0 ≤ v ∧ (v < m ∨ v = 0)) ∧ Below w.heap.size w w' := by
  have hl : n ≤ 9223372036854775807 := by have h1 := hr.cap.2; unfold maxLen at h1; omega
  by_cases h1 : m ≤ 1
  · go_enter Try.func34, Try.ntmps34
    go_wp2
    go_ret
    exact ⟨_, rfl, ⟨by omega, .inr rfl⟩, Below.refl _ _⟩
  · by_cases hlt : k < n
    · obtain ⟨bb, o, x, rfl, hx, x0, x1⟩ := byte_cell hr hlt
      have hlt' : (k : Int) < (n : Int) := by omega
      have hd1 : decide ((n : Int) ≤ (k : Int)) = false := by simp; omega
      have hd2 : decide (n ≤ k) = false := by simp; omega
      have hd3 : ¬ n ≤ k := by omega
      by_cases hl2 : k + 1 < n
      · obtain ⟨bb', o', y, he, hy, y0, y1⟩ := byte_cell hr hl2
        simp only [Option.some.injEq, Addr.mk.injEq] at he
        obtain ⟨rfl, rfl, -⟩ := he
        have hl3 : (k : Int) + 1 < (n : Int) := by omega
        have hl4 : ((k : Int) + 1).toNat = k + 1 := by omega
        go_enter Try.func34, Try.ntmps34
        go_wp2
        go_ret
        exact ⟨_, rfl, ⟨Int.emod_nonneg _ (by omega), .inl (Int.emod_lt_of_pos _ (by omega))⟩, Below.refl _ _⟩
      · have hl3 : ¬ (k : Int) + 1 < (n : Int) := by omega
        go_enter Try.func34, Try.ntmps34
        go_wp2
        go_ret
        exact ⟨_, rfl, ⟨Int.emod_nonneg _ (by omega), .inl (Int.emod_lt_of_pos _ (by omega))⟩, Below.refl _ _⟩
    · have hd2 : n ≤ k := by omega
      go_enter Try.func34, Try.ntmps34
      go_wp2
      go_ret
      exact ⟨_, rfl, ⟨by omega, .inr rfl⟩, Below.refl _ _⟩
def SigL (m : Nat) (w : World) (e : Ending) (w' : World) : Prop :=
  ∃ A1 c1 xs, e = .returned (.slice A1 (List.length xs) c1) ∧ RI w' w'.heap.size A1 xs.length xs ∧ xs.length ≤ m ∧ Hid (∀ x ∈ xs, M.smp x = true) ∧ Below w.heap.size w w'
theorem spec_E8Signal (A : Option Addr) (n c m : Nat) (code : List UInt8) (w : World) (hr : RS tU8 w w.heap.size (.slice A n c) code) (hm : m ≤ 1000) :
    Calls Try.prog 37 #[.slice A n c, .int .i64 m] w (SigL m w) := by
  go_enter Try.func37, Try.ntmps37
  go_wp2_with fail
  refine (spec_l00From A n c code w hr).mono ?_
  rintro e w1 ⟨b, rfl, rfl, s1, b1, z1⟩
  have z1' := Lib.hid z1
  have lt1 : w.heap.size + 1 ≤ w1.heap.size := by omega
  clear z1
  go_wp2_with fail
  refine (spec_l29Draw _ _ A n c code 0 m w1 s1 (by omega) (by omega)).mono ?_
  rintro e w2 ⟨v, xs, rfl, o2, hl2, hs2, s2, m2⟩
  obtain ⟨A2, c2, rfl⟩ := o2.shape
  go_wp2
  go_ret
  exact ⟨A2, c2, xs, rfl, o2.read.ri, hl2, hs2, b1.trans (m2.toBelow (by omega))⟩
def CurL (w : World) (e : Ending) (w' : World) : Prop :=
  ∃ A1 c1 xs, e = .returned (.agg #[.slice A1 (List.length xs) c1]) ∧ RA pt 2 w' w'.heap.size A1 xs.length xs ∧ Hid (M.curveOk xs = true ∧ ∀ p ∈ xs, p.1 ≤ 100) ∧ xs.length ≤ 24 ∧ xs.length ≤ c1 ∧ c1 ≤ maxLen ∧ Below w.heap.size w w'
theorem OA.cap {α : Type} {enc : α → List Value} {e : TypeId} {s lo hi n c : Nat} {w : World} {A : Option Addr} {xs : List α} (h : OA enc e s lo hi w (.slice A n c) xs) : n ≤ c ∧ c ≤ maxLen := by
  obtain ⟨A', c', hv, h1, h2, _⟩ := own_shape h.1
  simp only [Value.slice.injEq] at hv
  obtain ⟨rfl, rfl, rfl⟩ := hv
  exact ⟨h1, h2⟩
theorem spec_E8Curve (A : Option Addr) (n c : Nat) (code : List UInt8) (w : World) (hr : RS tU8 w w.heap.size (.slice A n c) code) :
    Calls Try.prog 33 #[.slice A n c] w (CurL w) := by
  obtain ⟨W, hW⟩ : ∃ W, W = w.alloc (.cells #[.slice none 0 0] 30) := ⟨_, rfl⟩
  have B0 : Below w.heap.size w W := by rw [hW]; exact (Below.refl _ _).alloc (Nat.le_refl _) _
  have z0 : w.heap.size + 1 ≤ W.heap.size := by rw [hW]; simp
  have q0 : W.cell? ⟨w.heap.size, 0, none⟩ = some (.slice none 0 0) := by rw [hW]; simp [go_sem]
  have f0 : W.frozen? ⟨w.heap.size, 0, none⟩ = false := by rw [hW]; simp [go_sem]
  have HW := Lib.hid hW
  clear hW
  have hr0 := hr.later B0
  go_enter Try.func33, Try.ntmps33
  go_wp2_with fail
  rw [← HW.out]
  refine (spec_l00From A n c code W hr0).mono ?_
  rintro e w1 ⟨b, rfl, hb, s1, b1, z1⟩
  have hbl : w.heap.size + 1 ≤ b := by omega
  have lt1 : b + 1 ≤ w1.heap.size := by omega
  have hb' := Lib.hid hb
  clear z1 hb
  go_wp2_with fail
  refine (spec_l25Draw _ _ A n c code 0 w1 s1 (by omega)).mono ?_
  rintro e w2 ⟨A1, c1, xs, rfl, o2, hok, s2, m2⟩
  have lt2 := m2.size
  have q2 : w2.cell? ⟨w.heap.size, 0, none⟩ = some (.slice none 0 0) := by rw [World.cell?_of_block (m2.block w.heap.size (by omega) (.inl (by omega))), b1.cell (by show w.heap.size < _; omega)]; exact q0
  have f2 : w2.frozen? ⟨w.heap.size, 0, none⟩ = false := by rw [World.frozen?_of_block (m2.block w.heap.size (by omega) (.inl (by omega))), b1.frozen (by show w.heap.size < _; omega)]; exact f0
  go_wp2
  refine bodyPost_ret (v := .agg #[.slice A1 xs.length c1]) (by simp [results, Try.results33, go_sem, q2, f2]) rfl ?_
  have hm : Mid w.heap.size (w.heap.size + 1) w2 (w2.setCell ⟨w.heap.size, 0, none⟩ (.slice A1 xs.length c1)) := Mid.cell w2 w.heap.size 0 _
  have o3 := o2.mid hm (.inr (by omega)) (Nat.le_refl _)
  have hb1 := hb'.out
  refine ⟨A1, c1, xs, rfl, o3.ra, hok, (M.curve_len hok.out.1).2, o3.cap.1, o3.cap.2, ?_⟩
  exact ((B0.trans (b1.mono B0.size)).trans ((m2.toBelow (by omega)).mono (by omega))).setCell (Nat.le_refl _) _
end Go.Proofs.Ytckihflfjecpbaa
namespace Go.Proofs.Ytckihflfjecpbaa
open Go.RowKit
set_option maxHeartbeats 4000000
set_option maxRecDepth 100000
theorem impl_AddClip_ok (A : Option Addr) (n c : Nat) (xs : List Clip) (p0 p1 p2 p3 p4 : Int) (w : World) (hx : RA cl 5 w w.heap.size A n xs) (hok : M.trackOk xs = true) (hc : M.clipOk (p0, p1, p2, p3, p4) = true) (hn : n ≤ 11) :
    Calls Try.prog 66 #[.agg #[.slice A n c], .agg #[.int .i64 p0, .int .i64 p1, .int .i64 p2, .int .i64 p3, .int .i64 p4]] w fun e w' => ∃ A' c', e = .returned (.tuple #[.agg #[.slice A' (n + 1) c'], .int .i64 (M.putK xs p3), .int .i64 0]) ∧ RA cl 5 w' w'.heap.size A' (n + 1) (M.putP xs (p0, p1, p2, p3, p4)) ∧ n + 1 ≤ c' ∧ c' ≤ maxLen ∧ Below w.heap.size w w' := by
  have hl := Lib.hid hx.len
  have hpl := Lib.hid (show (M.putP xs (p0, p1, p2, p3, p4)).length = n + 1 by rw [M.putP_len, hl.out])
  obtain ⟨W, hW⟩ : ∃ W, W = ((w.alloc (.cells #[.slice A n c] 65)).alloc (.cells #[.int .i64 p0, .int .i64 p1, .int .i64 p2, .int .i64 p3, .int .i64 p4] 78)).alloc (.cells #[.slice none 0 0] 65) := ⟨_, rfl⟩
  have B0 : Below w.heap.size w W := by rw [hW]; exact (((Below.refl _ _).alloc (Nat.le_refl _) _).alloc (by simp) _).alloc (by simp; omega) _
  have z0 : w.heap.size + 1 + 1 < W.heap.size := by rw [hW]; simp
  have c0 : W.cell? ⟨w.heap.size, 0, none⟩ = some (.slice A n c) := by rw [hW]; simp [go_sem]
  have d0 : W.cell? ⟨w.heap.size + 1, 0, none⟩ = some (.int .i64 p0) := by rw [hW]; simp [go_sem]
  have d1 : W.cell? ⟨w.heap.size + 1, 1, none⟩ = some (.int .i64 p1) := by rw [hW]; simp [go_sem]
  have d2 : W.cell? ⟨w.heap.size + 1, 2, none⟩ = some (.int .i64 p2) := by rw [hW]; simp [go_sem]
  have d3 : W.cell? ⟨w.heap.size + 1, 3, none⟩ = some (.int .i64 p3) := by rw [hW]; simp [go_sem]
  have d4 : W.cell? ⟨w.heap.size + 1, 4, none⟩ = some (.int .i64 p4) := by rw [hW]; simp [go_sem]
  have q0 : W.cell? ⟨w.heap.size + 1 + 1, 0, none⟩ = some (.slice none 0 0) := by rw [hW]; simp [go_sem]
  have f0 : W.frozen? ⟨w.heap.size + 1 + 1, 0, none⟩ = false := by rw [hW]; simp [go_sem]
  have HW := Lib.hid hW
  have OK := Lib.hid hok
  have OC := Lib.hid hc
  clear hW hok hc
  have hx1 := hx.later B0
  go_enter Try.func66, Try.ntmps66
  go_wp2_with fail
  rw [← HW.out]
  refine (impl_isTrack _ _ _ _ W hx1 (by omega)).mono ?_
  rw [OK.out]
  rintro e w2 ⟨rfl, b2⟩
  have lk : ∀ b o u, b < W.heap.size → W.cell? ⟨b, o, none⟩ = some u → w2.cell? ⟨b, o, none⟩ = some u := fun b o u h1 h2 => by rw [b2.cell h1]; exact h2
  have LK := Lib.hid lk
  clear lk
  have g0 := LK.out _ _ _ (by omega) d0
  have g1 := LK.out _ _ _ (by omega) d1
  have g2 := LK.out _ _ _ (by omega) d2
  have g3 := LK.out _ _ _ (by omega) d3
  have g4 := LK.out _ _ _ (by omega) d4
  have gc := LK.out _ _ _ (by omega) c0
  have gq := LK.out _ _ _ (by omega) q0
  have gf : w2.frozen? ⟨w.heap.size + 1 + 1, 0, none⟩ = false := by rw [b2.frozen (by show w.heap.size + 1 + 1 < _; omega)]; exact f0
  have l2 := Nat.lt_of_lt_of_le z0 b2.size
  go_wp2_with fail
  refine (impl_isClip _ _ _ _ _ w2).mono ?_
  rw [OC.out]
  rintro e w3 ⟨rfl, b3⟩
  have lk : ∀ b o u, b < w2.heap.size → w2.cell? ⟨b, o, none⟩ = some u → w3.cell? ⟨b, o, none⟩ = some u := fun b o u h1 h2 => by rw [b3.cell h1]; exact h2
  have LK3 := Lib.hid lk
  clear lk
  have e0 := LK3.out _ _ _ (by omega) g0
  have e1 := LK3.out _ _ _ (by omega) g1
  have e2 := LK3.out _ _ _ (by omega) g2
  have e3 := LK3.out _ _ _ (by omega) g3
  have e4 := LK3.out _ _ _ (by omega) g4
  have ec := LK3.out _ _ _ (by omega) gc
  have eq := LK3.out _ _ _ (by omega) gq
  have ef : w3.frozen? ⟨w.heap.size + 1 + 1, 0, none⟩ = false := by rw [b3.frozen (by show w.heap.size + 1 + 1 < _; omega)]; exact gf
  have l3 := Nat.lt_of_lt_of_le l2 b3.size
  have B3 := bel_trans (bel_trans B0 b2) b3
  have hn12 : ((n : Int) == 12) = false := by simp; omega
  clear c0 d0 d1 d2 d3 d4 q0 f0 g0 g1 g2 g3 g4 gc gq gf
  go_wp2_with fail
  refine (impl_put _ _ _ _ p0 p1 p2 p3 p4 w3 (hx.later B3) (by omega)).mono ?_
  rintro e w4 ⟨v4, rfl, own4, b4⟩
  obtain ⟨A4, c4, rfl, -⟩ := own4.shape
  rw [hpl.out] at own4 ⊢
  have tq : w4.cell? ⟨w.heap.size + 1 + 1, 0, none⟩ = some (.slice none 0 0) := by rw [b4.cell l3]; exact eq
  have tf : w4.frozen? ⟨w.heap.size + 1 + 1, 0, none⟩ = false := by rw [b4.frozen l3]; exact ef
  have l4 := Nat.lt_of_lt_of_le l3 b4.size
  have s4 := b4.size
  have B4 := bel_trans B3 b4
  clear e0 e1 e2 e3 e4 ec eq ef
  go_wp2
  have uq : ((w4.setCell ⟨w.heap.size + 1 + 1, 0, none⟩ (.slice A4 (n + 1) c4)).alloc (.cells #[.slice A4 (n + 1) c4] 65)).cell? ⟨w.heap.size + 1 + 1, 0, none⟩ = some (.slice A4 (n + 1) c4) := by rw [World.cell?_alloc_lt _ _ _ (by simpa using l4)]; simp [go_sem, tq, tf]
  refine bodyPost_ret (v := .tuple #[.agg #[.slice A4 (n + 1) c4], .int .i64 (M.putK xs p3), .int .i64 0]) (by simp [results, Try.results66, go_sem, uq]) rfl ?_
  have hm : Mid (w.heap.size + 1 + 1) (w.heap.size + 1 + 1 + 1) w4 (w4.setCell ⟨w.heap.size + 1 + 1, 0, none⟩ (.slice A4 (n + 1) c4)) := Mid.cell w4 _ 0 _
  have o5 := (own4.mid hm (.inr (by omega)) (Nat.le_refl _)).below ((Below.refl _ _).alloc (Nat.le_refl _) (.cells #[.slice A4 (n + 1) c4] 65)) hm.size
  obtain ⟨A9, c9, hv, h9⟩ := o5.shape
  rw [hpl.out] at hv h9
  simp only [Value.slice.injEq] at hv
  obtain ⟨rfl, -, rfl⟩ := hv
  exact ⟨_, _, rfl, h9, o5.cap.1, o5.cap.2, (B4.setCell (by simp; omega) _).alloc (by simp; omega) _⟩
def M.endT (xs : List Clip) : Int := xs.foldl (fun a c => max a (c.2.2.2.1 + c.2.2.1)) 0
theorem M.endT_take {xs : List Clip} {k : Nat} {c : Clip} (h : xs[k]? = some c) : M.endT (xs.take (k + 1)) = max (M.endT (xs.take k)) (c.2.2.2.1 + c.2.2.1) := by
  rw [M.take_at h, M.endT, List.foldl_append]
  rfl
theorem M.endT_bd {xs : List Clip} (h : ∀ c ∈ xs, M.clipOk c = true) : ∀ k, 0 ≤ M.endT (xs.take k) ∧ M.endT (xs.take k) ≤ 4000 := by
  intro k
  induction k with
  | zero => simp [M.endT]
  | succ k ih =>
    by_cases hk : k < xs.length
    · have hx := List.getElem?_eq_getElem hk
      rw [M.endT_take hx]
      have := M.clip_bd (h _ (List.getElem_mem hk))
      omega
    · rw [List.take_of_length_le (by omega)] at ih ⊢
      exact ih
theorem M.endT_ge {xs : List Clip} {c : Clip} (h : c ∈ xs) : c.2.2.2.1 + c.2.2.1 ≤ M.endT xs := by
  have key : ∀ (ys : List Clip) (a : Int), a ≤ ys.foldl (fun a c => max a (c.2.2.2.1 + c.2.2.1)) a ∧ ∀ c ∈ ys, c.2.2.2.1 + c.2.2.1 ≤ ys.foldl (fun a c => max a (c.2.2.2.1 + c.2.2.1)) a := by
    intro ys
    induction ys with
    | nil => intro a; exact ⟨Int.le_refl _, by simp⟩
    | cons y ys ih =>
      intro a
      have h1 := ih (max a (y.2.2.2.1 + y.2.2.1))
      refine ⟨by simp only [List.foldl_cons]; omega, fun c hc => ?_⟩
      simp only [List.foldl_cons]
      rcases List.mem_cons.1 hc with rfl | hc
      · omega
      · exact h1.2 c hc
  exact (key xs 0).2 c h
theorem impl_TrackEnd_ok (A : Option Addr) (n c : Nat) (xs : List Clip) (w : World) (hx : RA cl 5 w w.heap.size A n xs) (hok : M.trackOk xs = true) (hn : n ≤ 1000) :
    Calls Try.prog 67 #[.agg #[.slice A n c]] w fun e w' => e = .returned (.tuple #[.int .i64 (M.endT xs), .int .i64 0]) ∧ Below w.heap.size w w' := by
  have hl := Lib.hid hx.len
  have hT : ∀ (A : Option Addr) (n c : Nat) (w : World), RA cl 5 w w.heap.size A n xs → n ≤ 1000 → Calls Try.prog 128 #[.agg #[.slice A n c]] w fun e w' => e = .returned (.int .i64 (M.endT xs)) ∧ Below w.heap.size w w' := by
    intro A n c w hx hn
    have hl := Lib.hid hx.len
    have hbd := Lib.hid (M.endT_bd (xs := xs) ((M.track_iff xs).1 hok).1)
    have HC := Lib.hid ((M.track_iff xs).1 hok).1
    have B0 : Below w.heap.size w (w.alloc (.cells #[.slice A n c] 65)) := (Below.refl _ _).alloc (Nat.le_refl _) _
    go_enter Try.func128, Try.ntmps128
    go_wp2
    go_loopw [3, 5, 9] (fun v _ i wr => ∃ (k : Nat) (q : Int), i = .int .i64 k ∧ k ≤ n ∧ v = .int .i64 q ∧ Hid (q = M.endT (xs.take k)) ∧ Below w.heap.size w wr) (fun _ _ i _ => n - (intOf i).toNat)
    case atStart => exact ⟨0, 0, rfl, by omega, rfl, Lib.hid (by simp [M.endT]), B0⟩
    case round =>
      obtain ⟨k, q, rfl, hk, rfl, H, hb⟩ := hrel
      have hq := hbd.out k
      rw [← H.out] at hq
      by_cases hlt : k < n
      · obtain ⟨b, o, ⟨p0, p1, p2, p3, p4⟩, rfl, hab, X, hc⟩ := (hx.below hb).at cl_len (by decide) hlt
        have hc0 : wr.cell? ⟨b, o + k * 5, none⟩ = some (.int .i64 p0) := hc 0 _ rfl
        have hc1 : wr.cell? ⟨b, o + k * 5 + 1, none⟩ = some (.int .i64 p1) := hc 1 _ rfl
        have hc2 : wr.cell? ⟨b, o + k * 5 + 2, none⟩ = some (.int .i64 p2) := hc 2 _ rfl
        have hc3 : wr.cell? ⟨b, o + k * 5 + 3, none⟩ = some (.int .i64 p3) := hc 3 _ rfl
        have hc4 : wr.cell? ⟨b, o + k * 5 + 4, none⟩ = some (.int .i64 p4) := hc 4 _ rfl
        clear hc
        have hcb := M.clip_bd (HC.out _ (List.mem_of_getElem? X.out))
        simp only at hcb
        have hT := Lib.hid (M.endT_take X.out)
        go_wp2
        go_roundw
        case rel => exact ⟨k + 1, max q (p3 + p2), by go_num, by omega, by first | rfl | (congr 1; (try (split <;> omega)); (try omega)), Lib.hid (by rw [hT.out, H.out]), hb.alloc hb.size _⟩
        case measure => simp [intOf]; omega
      · have he := Lib.hid (show q = M.endT xs by rw [H.out, List.take_of_length_le (by rw [hl.out]; omega)])
        go_wp2
        go_ret
        exact ⟨ret_int he.out, hb⟩
  have B0 : Below w.heap.size w (w.alloc (.cells #[.slice A n c] 65)) := (Below.refl _ _).alloc (Nat.le_refl _) _
  have hself := lay_cell w (.slice A n c) 65
  have OK := Lib.hid hok
  have HT := Lib.hid hT
  clear hok hT
  have hx1 := hx.later B0
  go_enter Try.func67, Try.ntmps67
  go_wp2_with fail
  refine (impl_isTrack _ _ _ _ _ hx1 (by omega)).mono ?_
  rw [OK.out]
  rintro e w2 ⟨rfl, b2⟩
  have c2 : w2.cell? ⟨w.heap.size, 0, none⟩ = some (.slice A n c) := by rw [b2.cell (by simp)]; exact hself
  go_wp2_with fail
  refine (HT.out _ _ _ w2 (hx1.later b2) hn).mono ?_
  rintro e w3 ⟨rfl, b3⟩
  go_wp2
  go_ret2
  exact ⟨rfl, bel_trans (bel_trans B0 b2) b3⟩
end Go.Proofs.Ytckihflfjecpbaa
