import Derived.Test.YtfkcoiefkjmdeaaGreatFnNullG2
import Derived.Lib.QuietBelow
import Derived.Test.YtfkcoiefkjmdeaaGreatFnNullG1
import Derived.StillTail
import Derived.Deep.Quiet
import Derived.BigQuiet
import Derived.Deep.DeepCutAuto
set_option linter.unusedVariables false
set_option linter.unusedSimpArgs false
set_option maxRecDepth 100000
set_option maxHeartbeats 4000000
namespace Go.Proofs.YtfkcoiefkjmdeaaGreat
section
open Go.RowKit Go.Sort
theorem zii (w : World) (e : TypeId) (xs : List Int) (cur : Array Value) (h : cur.toList = xs.map (.int .i64)) : RI (w.alloc (.cells cur e)) (w.heap.size + 1) (some ⟨w.heap.size, 0, none⟩) xs.length xs :=
 ⟨by simp, fun _ => ⟨_, rfl, by simp, fun j u hu => by
  rw [show (⟨w.heap.size, 0, none⟩ : Addr).add j = ⟨w.heap.size, j, none⟩ by simp [Addr.add]; omega, cell_of_row _ w.heap.size j cur e (0, 0) (heap_alloc_new w _), ← hu, ← h, Array.getElem?_toList]⟩⟩
theorem zfm {P : Program} {f : FuncId} {args : Array Value} {w : World} {v : Ending} (h : Calls P f args w fun e w' => e = v ∧ w = w') : Calls P f args w fun e w' => e = v ∧ Below w.heap.size w w' :=
 h.mono fun _ _ ⟨he, hw⟩ => ⟨he, hw ▸ Below.refl _ _⟩
theorem zn8 (a b : Int) (w : World) : Calls Tryz.prog 148 #[.int .i64 a, .int .i64 b] w fun e w' => e = .returned (.int .i64 (min a b)) ∧ w = w' := by
 by_cases h : a < b
 all_goals
  go_enter Tryz.func148, Tryz.ntmps148
  go_wp2
  go_ret
  exact ⟨zbv (by omega), rfl⟩
theorem zn9 (a b : Int) (w : World) : Calls Tryz.prog 59 #[.int .i64 a, .int .i64 b] w fun e w' => e = .returned (.int .i64 (max a b)) ∧ w = w' := by
 by_cases h : b < a
 all_goals
  go_enter Tryz.func59, Tryz.ntmps59
  go_wp2
  go_ret
  exact ⟨zbv (by omega), rfl⟩
theorem zeh (A : Option Addr) (n c : Nat) (xs : List Int) (m : Int) (w : World) (hx : RI w w.heap.size A n xs) (hn : n ≤ 1000000000000) :
 Calls Tryz.prog 123 #[.slice A n c, .int .i64 m] w fun e w' => e = .returned (.bool (zal xs m)) ∧ w = w' := by
 go_enter Tryz.func123, Tryz.ntmps123
 go_wp2
 go_loop [5] (fun i => ∃ k : Nat, i = .int .i64 k ∧ k ≤ n ∧ Hid (zal xs m = zal (xs.drop k) m)) (fun i => n - (intOf i).toNat)
 case atStart => exact ⟨0, rfl, by omega, Lib.hid (by simp)⟩
 case round =>
  obtain ⟨k, rfl, hk, H⟩ := hrel
  have hl := Lib.hid hx.len
  by_cases hlt : k < n
  · obtain ⟨ad, x, rfl, hab, X, hc⟩ := hx.at hlt
    have hd := Lib.hid (M.drop_at X.out)
    by_cases hs : x = m
    · have R := Lib.hid (show zal xs m = true by rw [H.out, hd.out, zg6]; simp [hs])
      have g : (x == m) = true := by simpa using hs
      subst hs
      go_wp2
      go_ret
      exact ⟨zab (by rw [R.out]), rfl⟩
    · have R := Lib.hid (show zal xs m = zal (xs.drop (k + 1)) m by rw [H.out, hd.out, zg6, decide_eq_false hs, Bool.false_or])
      have g : (x == m) = false := by simpa using hs
      clear hs
      go_wp2
      go_round
      case rel => exact ⟨k + 1, by go_num, by omega, R⟩
      case measure => simp [intOf]; omega
  · have R := Lib.hid (show zal xs m = false by rw [H.out, List.drop_eq_nil_of_le (by rw [hl.out]; omega)]; rfl)
    go_wp2
    go_ret
    exact ⟨zab (by rw [R.out]), rfl⟩
theorem zoa (k : Int) (w : World) : Calls Tryz.prog 140 #[.int .i64 k] w fun e w' => e = .returned (.bool (M.inn k 1 17)) ∧ w = w' := by
 go_enter Tryz.func140, Tryz.ntmps140
 go_wp2_with (go_at_call 25; refine (zat _ _ _ _).mono ?_; rintro e w' ⟨rfl, rfl⟩)
 go_ret
 exact ⟨rfl, rfl⟩
theorem zob (k : Int) : zal [1, 2, 5, 6, 10, 11, 12, 13, 14, 17] k = zd6 k := by
 rw [Bool.eq_iff_iff]
 simp only [zal, zd6, List.any_cons, List.any_nil, Bool.or_eq_true, decide_eq_true_eq, Bool.false_eq_true, or_false]
 omega
theorem zg7 (k : Int) (w : World) : Calls Tryz.prog 126 #[.int .i64 k] w fun e w' => e = .returned (.bool (zd6 k)) ∧ Below w.heap.size w w' := by
 obtain ⟨W, hW⟩ : ∃ W, W = w.alloc (.cells #[.int .i64 1, .int .i64 2, .int .i64 5, .int .i64 6, .int .i64 10, .int .i64 11, .int .i64 12, .int .i64 13, .int .i64 14, .int .i64 17] 2) := ⟨_, rfl⟩
 have B0 : Below w.heap.size w W := by rw [hW]; exact (Below.refl _ _).alloc (Nat.le_refl _) _
 have hr : RI W W.heap.size (some ⟨w.heap.size, 0, none⟩) 10 [1, 2, 5, 6, 10, 11, 12, 13, 14, 17] := by rw [hW]; exact (zii w 2 [1, 2, 5, 6, 10, 11, 12, 13, 14, 17] _ rfl).more (by simp)
 have HW := Lib.hid hW
 clear hW
 go_enter Tryz.func126, Tryz.ntmps126
 go_wp2_with fail
 rw [← HW.out]
 refine (zeh _ _ _ _ _ _ hr (by omega)).mono ?_
 rintro e w2 ⟨rfl, rfl⟩
 go_wp2
 go_ret
 exact ⟨zab (zob k), B0⟩
theorem zgc (k : Int) (w : World) (h : 0 ≤ k ∧ k ≤ 17) : Calls Tryz.prog 82 #[.int .i64 k] w fun e w' => e = .returned (.int .i64 (M.ar k.toNat)) ∧ Below w.heap.size w w' := by
 obtain ⟨j, rfl⟩ : ∃ j : Nat, k = j := ⟨k.toNat, by omega⟩
 obtain ⟨W, hW⟩ : ∃ W, W = w.alloc (.cells #[.int .i64 (-1), .int .i64 0, .int .i64 0, .int .i64 2, .int .i64 2, .int .i64 1, .int .i64 1, .int .i64 1, .int .i64 1, .int .i64 2, .int .i64 1, .int .i64 1, .int .i64 1, .int .i64 1, .int .i64 0, .int .i64 3, .int .i64 2, .int .i64 1] 2) := ⟨_, rfl⟩
 have B0 : Below w.heap.size w W := by rw [hW]; exact (Below.refl _ _).alloc (Nat.le_refl _) _
 have hr : RI W W.heap.size (some ⟨w.heap.size, 0, none⟩) 18 zg5 := by rw [hW]; exact (zii w 2 zg5 _ rfl).more (by simp)
 obtain ⟨ad, x, e, -, X, hc⟩ := hr.at (k := j) (by omega)
 injection e with e
 subst e
 have hR := Lib.hid (show M.ar j = x by rw [M.ar, List.getD_eq_getElem?_getD, X.out]; rfl)
 have hc2 : W.cell? ⟨w.heap.size, j, none⟩ = some (.int .i64 x) := by rw [← hc, show (⟨w.heap.size, 0, none⟩ : Addr).add j = ⟨w.heap.size, j, none⟩ by simp [Addr.add]; omega]
 rw [hW] at hc2
 have hj : j < 18 := by omega
 have hj2 : (j : Int) < 18 := by omega
 clear hc hr X
 go_enter Tryz.func82, Tryz.ntmps82
 go_wp2
 go_ret
 exact ⟨zbv (by rw [Int.toNat_natCast, hR.out]), by rw [← hW]; exact B0⟩
theorem zoc (b o : Nat) (a0 a1 tb : Int) (w : World) (p0 : w.cell? ⟨b, o, none⟩ = some (.int .i64 a0)) (p1 : w.cell? ⟨b, o + 1, none⟩ = some (.int .i64 a1)) (htb : 0 ≤ tb ∧ tb ≤ 1000000000) :
 Calls Tryz.prog 141 #[.pointer (some ⟨b, o, none⟩), .int .i64 tb] w fun e w' => e = .returned (.bool (M.aS a0 a1 tb)) ∧ Below w.heap.size w w' := by
 by_cases c1 : a0 = 1
 · have R := Lib.hid (show M.aS a0 a1 tb = M.inn a1 0 3 by rw [M.aS, if_pos c1])
   subst c1
   go_enter Tryz.func141, Tryz.ntmps141
   go_wp2_with (go_at_call 25; refine (zat _ _ _ _).mono ?_; rintro e w' ⟨rfl, rfl⟩)
   go_ret
   exact ⟨zab (by rw [R.out]), Below.refl _ _⟩
 have g1 : (a0 == 1) = false := by simpa using c1
 by_cases c2 : a0 = 6
 · have R := Lib.hid (show M.aS a0 a1 tb = M.inn a1 1 16 by rw [M.aS, if_neg c1, if_pos c2])
   subst c2
   go_enter Tryz.func141, Tryz.ntmps141
   go_wp2_with (go_at_call 25; refine (zat _ _ _ _).mono ?_; rintro e w' ⟨rfl, rfl⟩)
   go_ret
   exact ⟨zab (by rw [R.out]), Below.refl _ _⟩
 have g2 : (a0 == 6) = false := by simpa using c2
 by_cases c3 : a0 = 10
 · have R := Lib.hid (show M.aS a0 a1 tb = M.inn a1 0 31 by rw [M.aS, if_neg c1, if_neg c2, if_pos c3])
   subst c3
   go_enter Tryz.func141, Tryz.ntmps141
   go_wp2_with (go_at_call 25; refine (zat _ _ _ _).mono ?_; rintro e w' ⟨rfl, rfl⟩)
   go_ret
   exact ⟨zab (by rw [R.out]), Below.refl _ _⟩
 have g3 : (a0 == 10) = false := by simpa using c3
 by_cases c4 : a0 = 11
 · have R := Lib.hid (show M.aS a0 a1 tb = M.inn a1 0 2147483647 by rw [M.aS, if_neg c1, if_neg c2, if_neg c3, if_pos c4])
   subst c4
   go_enter Tryz.func141, Tryz.ntmps141
   go_wp2_with (go_at_call 25; refine (zat _ _ _ _).mono ?_; rintro e w' ⟨rfl, rfl⟩)
   go_ret
   exact ⟨zab (by rw [R.out]), Below.refl _ _⟩
 have g4 : (a0 == 11) = false := by simpa using c4
 by_cases c5 : a0 = 13
 · have R := Lib.hid (show M.aS a0 a1 tb = M.inn a1 0 (min (max tb 0) 4 - 1) by rw [M.aS, if_neg c1, if_neg c2, if_neg c3, if_neg c4, if_pos c5])
   have hm1 := fun m => zbd (zn9 tb 0 (w.drewN m))
   have hm2 := fun m => zbd (zn8 (max tb 0) 4 (w.drewN m))
   have hs : IntKind.i64.wrap (min (max tb 0) 4 - 1) = min (max tb 0) 4 - 1 := IntWalk.i64_in _ (by omega)
   have hm3 := fun m => zbd (zat a1 0 (min (max tb 0) 4 - 1) (w.drewN m))
   obtain ⟨q, hq⟩ : ∃ q, q = max tb 0 := ⟨_, rfl⟩
   rw [← hq] at hm1 hm2 hm3 hs R
   obtain ⟨r, hr⟩ : ∃ r, r = min q 4 := ⟨_, rfl⟩
   rw [← hr] at hm2 hm3 hs R
   clear hq hr g1 g2 g3 g4 c1 c2 c3 c4
   subst c5
   go_enter Tryz.func141, Tryz.ntmps141
   go_wp2
   go_quiet (first | exact hm1 _ | exact hm2 _ | exact hm3 _)
   go_wp2
   go_ret
   exact ⟨zab (by rw [R.out]), zac (Below.refl _ _) _⟩
 have g5 : (a0 == 13) = false := by simpa using c5
 have lb : b < w.heap.size := World.block_lt_of_cell? w _ p0
 cases hh : zd6 a0
 · have R := Lib.hid (show M.aS a0 a1 tb = decide (a1 = 0) by rw [M.aS, if_neg c1, if_neg c2, if_neg c3, if_neg c4, if_neg c5, hh]; rfl)
   have HH := Lib.hid hh
   clear c1 c2 c3 c4 c5 hh
   go_enter Tryz.func141, Tryz.ntmps141
   go_wp2_with (go_at_call 126; refine (zg7 _ _).mono ?_; rw [HH.out]; rintro e w2 ⟨rfl, bel2⟩; have q1 : w2.cell? ⟨b, o + 1, none⟩ = some (.int .i64 a1) := (by rw [bel2.cell lb]; exact p1))
   go_ret
   exact ⟨zab (by rw [R.out, Bool.eq_iff_iff]; simp), bel2⟩
 · have R := Lib.hid (show M.aS a0 a1 tb = M.smp a1 by rw [M.aS, if_neg c1, if_neg c2, if_neg c3, if_neg c4, if_neg c5, hh]; rfl)
   have HH := Lib.hid hh
   clear c1 c2 c3 c4 c5 hh
   go_enter Tryz.func141, Tryz.ntmps141
   go_wp2_with (first | (go_at_call 126; refine (zg7 _ _).mono ?_; rw [HH.out]; rintro e w2 ⟨rfl, bel2⟩; have q1 : w2.cell? ⟨b, o + 1, none⟩ = some (.int .i64 a1) := (by rw [bel2.cell lb]; exact p1)) | (go_at_call 30; refine (zdl _ _).mono ?_; rintro e w' ⟨rfl, rfl⟩))
   go_ret
   exact ⟨zab (by rw [R.out]), bel2⟩
end
section
open Go.RowKit
def tU8 : Ty UInt8 := Ty.flat 1 (by decide) 0 (fun x => [.int .u8 (x.toNat : Int)]) (fun _ => rfl) (by simp [Value.oneCell'])
structure SrcP (w : World) (b lo : Nat) (A : Option Addr) (n c : Nat) (code : List UInt8) (K : Nat) (a z : Int) : Prop where
 c0 : w.cell? ⟨b, 0, none⟩ = some (.slice A n c)
 c1 : w.cell? ⟨b, 1, none⟩ = some (.int .i64 a)
 c2 : w.cell? ⟨b, 2, none⟩ = some (.int .u64 z)
 f1 : w.frozen? ⟨b, 1, none⟩ = false
 f2 : w.frozen? ⟨b, 2, none⟩ = false
 rd : RS tU8 w lo (.slice A n c) code
 ha : 0 ≤ a
 hK : a ≤ K
 hb : lo ≤ b
def Src (w : World) (b lo : Nat) (A : Option Addr) (n c : Nat) (code : List UInt8) (K : Nat) : Prop := ∃ a z, SrcP w b lo A n c code K a z
def Drew (b lo : Nat) (A : Option Addr) (n c : Nat) (code : List UInt8) (K : Nat) (P : Int → Prop) (w : World) (e : Ending) (w' : World) : Prop :=
 ∃ v, e = .returned (.int .i64 v) ∧ P v ∧ Src w' b lo A n c code K ∧ Mid b (b + 1) w w'
section
variable {w w' : World} {b lo n c K K' : Nat} {A : Option Addr} {code : List UInt8}
theorem Src.lt (h : Src w b lo A n c code K) : b < w.heap.size := by
 obtain ⟨a, z, h⟩ := h
 exact World.block_lt_of_cell? w _ h.c0
theorem Src.keep (h : Src w b lo A n c code K) (hk : ∀ k, k < b + 1 → w'.heap[k]? = w.heap[k]?) : Src w' b lo A n c code K := by
 obtain ⟨a, z, h⟩ := h
 have hb := hk b (by omega)
 refine ⟨a, z, ?_, ?_, ?_, ?_, ?_, h.rd.keep fun p hp => World.cell?_of_block (hk p.block (by have := h.hb; omega)), h.ha, h.hK, h.hb⟩
 · rw [World.cell?_of_block hb]; exact h.c0
 · rw [World.cell?_of_block hb]; exact h.c1
 · rw [World.cell?_of_block hb]; exact h.c2
 · rw [World.frozen?_of_block hb]; exact h.f1
 · rw [World.frozen?_of_block hb]; exact h.f2
theorem Src.below {B : Nat} (h : Src w b lo A n c code K) (hb : Below B w w') (hB : b < B) : Src w' b lo A n c code K := h.keep fun k hk => hb.block k (by omega)
theorem Src.mid {l r : Nat} (h : Src w b lo A n c code K) (hm : Mid l r w w') (hd : b < l) : Src w' b lo A n c code K := by
 have hlt := h.lt
 exact h.keep fun k hk => hm.block k (by omega) (.inl (by omega))
theorem Src.more (h : Src w b lo A n c code K) (hK : K ≤ K') : Src w b lo A n c code K' := by
 obtain ⟨a, z, h⟩ := h
 exact ⟨a, z, h.c0, h.c1, h.c2, h.f1, h.f2, h.rd, h.ha, by have := h.hK; omega, h.hb⟩
end
theorem SrcP.step {w : World} {b lo n c K K' : Nat} {A : Option Addr} {code : List UInt8} {a z : Int} (h : SrcP w b lo A n c code K a z) (m m' : Nat) (a' z' : Int) (ha : 0 ≤ a') (hK : a' ≤ K') :
 SrcP ((((w.drewN m).setCell ⟨b, 1, none⟩ (.int .i64 a')).setCell ⟨b, 2, none⟩ (.int .u64 z')).drewN m') b lo A n c code K' a' z' ∧ Mid b (b + 1) w ((((w.drewN m).setCell ⟨b, 1, none⟩ (.int .i64 a')).setCell ⟨b, 2, none⟩ (.int .u64 z')).drewN m') := by
 obtain ⟨h0, h1, h2, g1, g2, hr, _, _, hb⟩ := h
 have m0 : Mid b (b + 1) w (w.drewN m) := ⟨rfl, rfl, rfl, Nat.le_refl _, fun _ _ _ => rfl⟩
 have m1 : Mid b (b + 1) (w.drewN m) ((w.drewN m).setCell ⟨b, 1, none⟩ (.int .i64 a')) := Mid.of_grown (zco _ b 1 _) fun k hk => by injection hk with hk; omega
 have m2 : Mid b (b + 1) ((w.drewN m).setCell ⟨b, 1, none⟩ (.int .i64 a')) (((w.drewN m).setCell ⟨b, 1, none⟩ (.int .i64 a')).setCell ⟨b, 2, none⟩ (.int .u64 z')) := Mid.of_grown (zco _ b 2 _) fun k hk => by injection hk with hk; omega
 have m3 : Mid b (b + 1) (((w.drewN m).setCell ⟨b, 1, none⟩ (.int .i64 a')).setCell ⟨b, 2, none⟩ (.int .u64 z')) ((((w.drewN m).setCell ⟨b, 1, none⟩ (.int .i64 a')).setCell ⟨b, 2, none⟩ (.int .u64 z')).drewN m') := ⟨rfl, rfl, rfl, Nat.le_refl _, fun _ _ _ => rfl⟩
 have M := ((m0.trans m1).trans m2).trans m3
 refine ⟨⟨?_, ?_, ?_, ?_, ?_, hr.keep fun p hp => World.cell?_of_block (M.block p.block ?_ (.inl (by omega))), ha, hK, hb⟩, M⟩
 · simp [go_sem, *]
 · simp [go_sem, *]
 · simp [go_sem, *]
 · simp [go_sem, *]
 · simp [go_sem, *]
 · have := World.block_lt_of_cell? w _ h0
   simp only at this
   omega
theorem zod (n : Int) : 0 ≤ wrap64 (bits BinOp.and IntKind.u64 n 255) ∧ wrap64 (bits BinOp.and IntKind.u64 n 255) ≤ 255 := by
 have hx : ((BitVec.ofInt 64 n &&& BitVec.ofInt 64 255).toNat : Int) ≤ 255 := by
  rw [BitVec.toNat_and, show (BitVec.ofInt 64 255).toNat = 2 ^ 8 - 1 from by decide, Nat.and_two_pow_sub_one_eq_mod]
  omega
 have h2 : bits BinOp.and IntKind.u64 n 255 = ((BitVec.ofInt 64 n &&& BitVec.ofInt 64 255).toNat : Int) := by
  show IntKind.u64.wrap ((BitVec.ofInt 64 n &&& BitVec.ofInt 64 255).toNat : Int) = _
  rw [IntKind.wrap_u64]
  omega
 rw [h2]
 unfold wrap64
 omega
theorem zgd (b lo : Nat) (A : Option Addr) (n c : Nat) (code : List UInt8) (K : Nat) (w : World) (h : Src w b lo A n c code K) (hK : K ≤ 1000000000000) :
 Calls Tryz.prog 77 #[.pointer (some ⟨b, 0, none⟩)] w (Drew b lo A n c code (K + 1) (fun v => 0 ≤ v ∧ v ≤ 255) w) := by
 obtain ⟨a, z, hP⟩ := h
 obtain ⟨hc0, hc1, hc2, hf1, hf2, hr, ha, haK, hlo⟩ := hP
 have HP := Lib.hid (SrcP.mk hc0 hc1 hc2 hf1 hf2 hr ha haK hlo)
 obtain rfl : code.length = n := hr.cap.1
 have hl : code.length ≤ 9223372036854775807 := by have h1 := hr.cap.2; unfold maxLen at h1; omega
 have hbw : b < w.heap.size := World.block_lt_of_cell? w _ hc0
 by_cases hlt : a < code.length
 · obtain ⟨k, rfl⟩ : ∃ k : Nat, a = k := ⟨a.toNat, by omega⟩
   obtain ⟨bb, o, c1, cs, hv, hab, -, hE, hc⟩ := hr.at (k := k) (by omega)
   simp only [Value.slice.injEq] at hv
   obtain ⟨rfl, -, rfl⟩ := hv
   generalize code[k]'(by omega) = x at hE
   obtain rfl : cs = [.int .u8 (x.toNat : Int)] := hE
   have hx : w.cell? ⟨bb, o + k * 1, none⟩ = some (.int .u8 (x.toNat : Int)) := hc 0 _ rfl
   have hx2 : (0 : Int) ≤ (x.toNat : Int) := by omega
   have hx3 : (x.toNat : Int) ≤ 255 := by have := x.toNat_lt; omega
   rw [Nat.mul_one] at hx
   clear hc
   have hlt' : (k : Int) < (code.length : Int) := hlt
   go_enter Tryz.func77, Tryz.ntmps77
   go_wp2
   go_quiet (fail)
   go_wp2
   go_quiet (fail)
   go_wp2
   go_quiet (fail)
   go_wp2
   go_ret
   exact ⟨_, rfl, ⟨by omega, by omega⟩, ⟨_, _, (HP.out.step _ _ ((k : Int) + 1) _ (by omega) (by omega)).1⟩, (HP.out.step _ _ ((k : Int) + 1) _ (by omega) (K' := K + 1) (by omega)).2⟩
 · have hgt : (code.length : Int) ≤ a := by omega
   have hdl : decide (a < (code.length : Int)) = false := by simp; omega
   have hd2 : decide (a + 1 ≤ (code.length : Int)) = false := by simp; omega
   go_enter Tryz.func77, Tryz.ntmps77
   go_wp2
   go_quiet (fail)
   go_wp2
   go_quiet (fail)
   go_wp2
   go_ret
   exact ⟨_, rfl, zod _, ⟨_, _, (HP.out.step _ _ (a + 1) _ (by omega) (by omega)).1⟩, (HP.out.step _ _ (a + 1) _ (by omega) (K' := K + 1) (by omega)).2⟩
theorem za4 (b lo : Nat) (A : Option Addr) (n c : Nat) (code : List UInt8) (K : Nat) (m : Int) (w : World) (h : Src w b lo A n c code K) (hK : K ≤ 100000000000) (hm : m ≤ 65536) :
 Calls Tryz.prog 40 #[.pointer (some ⟨b, 0, none⟩), .int .i64 m] w (Drew b lo A n c code (K + 2) (fun v => 0 ≤ v ∧ (v < m ∨ v = 0)) w) := by
 by_cases h1 : m ≤ 1
 · go_enter Tryz.func40, Tryz.ntmps40
   go_wp2
   go_ret
   exact ⟨0, rfl, ⟨by omega, .inr rfl⟩, h.more (by omega), Mid.refl _ _ _⟩
 · by_cases h2 : 200 < m
   · go_enter Tryz.func40, Tryz.ntmps40
     go_wp2_with fail
     refine (zgd b lo A n c code K w h (by omega)).mono ?_
     rintro e w1 ⟨x, rfl, ⟨x0, x1⟩, s1, m1⟩
     go_wp2_with fail
     refine (zgd b lo A n c code (K + 1) w1 s1 (by omega)).mono ?_
     rintro e w2 ⟨y, rfl, ⟨y0, y1⟩, s2, m2⟩
     go_wp2
     go_ret
     exact ⟨_, rfl, ⟨Int.emod_nonneg _ (by omega), .inl (Int.emod_lt_of_pos _ (by omega))⟩, s2, m1.trans m2⟩
   · go_enter Tryz.func40, Tryz.ntmps40
     go_wp2_with fail
     refine (zgd b lo A n c code K w h (by omega)).mono ?_
     rintro e w1 ⟨x, rfl, ⟨x0, x1⟩, s1, m1⟩
     go_wp2
     go_ret
     exact ⟨_, rfl, ⟨Int.emod_nonneg _ (by omega), .inl (Int.emod_lt_of_pos _ (by omega))⟩, s1.more (by omega), m1⟩
theorem zkb (A : Option Addr) (n c : Nat) (code : List UInt8) (w : World) (hr : RS tU8 w w.heap.size (.slice A n c) code) :
 Calls Tryz.prog 19 #[.slice A n c] w fun e w' => ∃ b, e = .returned (.pointer (some ⟨b, 0, none⟩)) ∧ b = w.heap.size ∧ Src w' b w.heap.size A n c code 0 ∧ Below w.heap.size w w' ∧ w'.heap.size = w.heap.size + 1 := by
 have hs : (w.alloc (.cells #[.slice A n c, .int .i64 0, .int .u64 0] 81)).heap.size = w.heap.size + 1 := by simp
 have hs' := Lib.hid hs
 have hb : Below w.heap.size w (w.alloc (.cells #[.slice A n c, .int .i64 0, .int .u64 0] 81)) := (Below.refl _ _).alloc (Nat.le_refl _) _
 clear hs
 go_enter Tryz.func19, Tryz.ntmps19
 go_wp2
 go_ret
 exact ⟨_, rfl, rfl, ⟨0, 0, by simp [go_sem], by simp [go_sem], by simp [go_sem], by simp [go_sem], by simp [go_sem], hr.keep fun p hp => hb.cell hp, by omega, by omega, Nat.le_refl _⟩, hb, hs'.out⟩
end
section
open Go.RowKit
theorem ze8 (b lo : Nat) (A : Option Addr) (n c : Nat) (code : List UInt8) (K : Nat) (g m d : Nat) (xs : List Int) (w : World) (h : Src w b lo A n c code K) (hK : K ≤ 100000000000) (hl : xs.length = m) (hm : 0 < m ∧ m ≤ 60000) (hg : g ≠ b) (hgw : g < w.heap.size)
 (hc : ∀ j x, xs[j]? = some x → w.cell? ⟨g, j, none⟩ = some (.int .i64 x)) :
 Calls Tryz.prog 39 #[.pointer (some ⟨b, 0, none⟩), .slice (some ⟨g, 0, none⟩) m d] w (Drew b lo A n c code (K + 2) (fun v => v ∈ xs) w) := by
 have HC := Lib.hid hc
 have HL := Lib.hid hl
 clear hc hl
 go_enter Tryz.func39, Tryz.ntmps39
 go_wp2_with fail
 refine (za4 b lo A n c code K m w h hK (by omega)).mono ?_
 rintro e w1 ⟨v, rfl, ⟨v0, v1⟩, s1, m1⟩
 obtain ⟨k, rfl⟩ : ∃ k : Nat, v = k := ⟨v.toNat, by omega⟩
 have hk : k < m := by omega
 have hk2 : (k : Int) < (m : Int) := by omega
 have hX := Lib.hid (List.getElem?_eq_getElem (l := xs) (i := k) (by rw [HL.out]; exact hk))
 generalize xs[k]'(by rw [HL.out]; exact hk) = x at hX
 have hx : w1.cell? ⟨g, k, none⟩ = some (.int .i64 x) := by
  rw [World.cell?_of_block (m1.block g hgw (by omega))]
  exact HC.out k x hX.out
 go_wp2
 go_ret
 exact ⟨x, rfl, List.mem_of_getElem? hX.out, s1, m1⟩
theorem zeo (b lo : Nat) (A : Option Addr) (n c : Nat) (code : List UInt8) (K : Nat) (w : World) (h : Src w b lo A n c code K) (hK : K ≤ 10000000000) :
 Calls Tryz.prog 42 #[.pointer (some ⟨b, 0, none⟩)] w (Drew b lo A n c code (K + 6) (fun v => -2147483648 ≤ v ∧ v ≤ 2147483647) w) := by
 have hbw := h.lt
 go_enter Tryz.func42, Tryz.ntmps42
 go_wp2_with fail
 refine (za4 b lo A n c code K 8 w h (by omega) (by omega)).mono ?_
 rintro e w1 ⟨v, rfl, ⟨v0, v1⟩, s1, m1⟩
 have hb1 := s1.lt
 by_cases e0 : v = 0
 · subst e0
   have s2 := s1.below ((Below.refl w1.heap.size w1).alloc (Nat.le_refl _) (.cells #[.int .i64 (-2147483648), .int .i64 2147483647, .int .i64 (-2147483647), .int .i64 65536, .int .i64 (-65536), .int .i64 1073741824] 2)) hb1
   go_wp2_with fail
   refine (ze8 b lo A n c code (K + 2) w1.heap.size 6 6 [-2147483648, 2147483647, -2147483647, 65536, -65536, 1073741824] _ s2 (by omega) rfl (by omega) (by omega) (by simp) ?_).mono ?_
   · intro j x hx
     rw [cell_of_row _ w1.heap.size j _ 2 (0, 0) (heap_alloc_new w1 _)]
     match j, hx with
     | 0, hx => simp at hx; subst hx; rfl
     | 1, hx => simp at hx; subst hx; rfl
     | 2, hx => simp at hx; subst hx; rfl
     | 3, hx => simp at hx; subst hx; rfl
     | 4, hx => simp at hx; subst hx; rfl
     | 5, hx => simp at hx; subst hx; rfl
     | j + 6, hx => simp at hx
   · rintro e w2 ⟨x, rfl, hx, s3, m3⟩
     go_wp2
     go_ret
     refine ⟨x, rfl, ?_, s3.more (by omega), m1.trans ((Mid.of_below ((Below.refl _ _).alloc (Nat.le_refl _) _) _ _).trans m3)⟩
     simp at hx
     omega
 · have f0 : (v == 0) = false := by simpa using e0
   by_cases e1 : v = 1
   · subst e1
     go_wp2_with fail
     refine (zgd b lo A n c code (K + 2) w1 s1 (by omega)).mono ?_
     rintro e w2 ⟨x, rfl, ⟨x0, x1⟩, s2, m2⟩
     go_wp2_with fail
     go_loopw [3, 4] (fun q i wr => ∃ (j : Nat) (y : Int), i = .int .i64 j ∧ j ≤ 3 ∧ q = .int .i64 y ∧ 0 ≤ y ∧ y < 256 ^ (j + 1) ∧ Src wr b lo A n c code (K + 3 + j) ∧ Mid b (b + 1) w wr) (fun _ i _ => 3 - (intOf i).toNat)
     case atStart => exact ⟨0, x, rfl, by omega, rfl, by omega, by omega, s2, m1.trans m2⟩
     case round =>
      obtain ⟨j, y, rfl, hj, rfl, y0, y1, s3, m3⟩ := hrel
      by_cases hlt : j < 3
      · have hy2 : y ≤ 16777215 ∧ 256 * y + 255 < 256 ^ (j + 1 + 1) := by
         rcases (show j = 0 ∨ j = 1 ∨ j = 2 by omega) with rfl | rfl | rfl <;> omega
        obtain ⟨hy2, hy3⟩ := hy2
        have hy3' := Lib.hid hy3
        clear y1 hy3
        go_wp2_with fail
        refine (zgd b lo A n c code (K + 3 + j) wr s3 (by omega)).mono ?_
        rintro e w4 ⟨u, rfl, ⟨u0, u1⟩, s4, m4⟩
        go_wp2
        go_roundw
        case rel => exact ⟨j + 1, 256 * y + u, by go_num, by omega, rfl, by omega, by have := hy3'.out; omega, s4.more (by omega), m3.trans m4⟩
        case measure => simp [intOf]; omega
      · clear y1
        go_wp2_with (go_at_call 78; refine (zm7 _ _).mono ?_; rintro e w' ⟨rfl, rfl⟩)
        go_ret
        have hw : -2147483648 ≤ wrap32 y ∧ wrap32 y ≤ 2147483647 := by unfold wrap32; omega
        exact ⟨_, rfl, hw, s3.more (by omega), m3⟩
   · have f1 : (v == 1) = false := by simpa using e1
     by_cases e2 : v = 2
     · subst e2
       go_wp2_with fail
       go_ret
       exact ⟨0, rfl, by omega, s1.more (by omega), m1⟩
     · have f2 : (v == 2) = false := by simpa using e2
       go_wp2_with fail
       refine (za4 b lo A n c code (K + 2) 41 w1 s1 (by omega) (by omega)).mono ?_
       rintro e w2 ⟨x, rfl, ⟨x0, x1⟩, s2, m2⟩
       go_wp2
       go_ret
       exact ⟨_, rfl, by omega, s2.more (by omega), m1.trans m2⟩
end
section
open Go.RowKit
section
variable {lo hi g o : Nat} {w w' : World}
theorem Mid.cellK {u : Option Value} (h : Mid lo hi w w') (hg : g < w.heap.size) (hd : g < lo ∨ hi ≤ g) (hc : w.cell? ⟨g, o, none⟩ = u) : w'.cell? ⟨g, o, none⟩ = u := by rw [World.cell?_of_block (h.block g hg hd)]; exact hc
theorem Mid.thenB' {a b c : World} {B : Nat} (h : Mid lo hi a b) (k : Below B b c) (hB : a.heap.size ≤ B) : Mid lo hi a c :=
 ⟨k.os.trans h.os, k.tape.trans h.tape, k.output.trans h.output, Nat.le_trans h.size k.size, fun i hi' hm => (k.block i (by omega)).trans (h.block i hi' hm)⟩
theorem Mid.frozK {u : Bool} (h : Mid lo hi w w') (hg : g < w.heap.size) (hd : g < lo ∨ hi ≤ g) (hc : w.frozen? ⟨g, o, none⟩ = u) : w'.frozen? ⟨g, o, none⟩ = u := by rw [World.frozen?_of_block (h.block g hg hd)]; exact hc
end
end
section
open Go
section
variable {P : Program} {ops : Array Oper} {md : Region.Mode} {D : World → Prop}
def noX : Exit → Act → World → Prop := fun _ _ _ => False
def zb1 (o : Oper) : Bool :=
 match o.op with
 | .move _ | .assign _ | .load .. | .fieldAddr .. | .indexAddr .. | .nilCheck _ | .binOp .. | .unOp .. | .pick .. | .slice .. | .convert .. | .extract .. => true
 | _ => false
def NE (s : Sem Next) : Prop := ∀ (P : Program) (w : World) (n : Next) (w' : World), s.run P w = .ok n w' → ∃ v, n = .value v
theorem NE.bind {α : Type} {s : Sem α} {k : α → Sem Next} (h : ∀ x, NE (k x)) : NE (s >>= k) := by
 intro P w n w' e
 rw [Sem.run_bind] at e
 cases hs : s.run P w with
 | ok x w2 => rw [hs] at e; exact h x P w2 n w' e
 | halt x w2 => rw [hs] at e; simp [Result.andThen] at e
theorem NE.value (v : Value) : NE (pure (.value v)) := by
 intro P w n w' e
 rw [Sem.run_pure] at e
 injection e with e
 exact ⟨v, e.symm⟩
theorem NE.v (s : Sem Value) : NE (do pure (Next.value (← s))) := NE.bind fun _ => NE.value _
theorem zoe {o : Oper} (h : zb1 o = true) (ρ : Operand → Value) : NE (execOp ρ o) := by
 obtain ⟨dst, op, type, pos, after, guard⟩ := o
 cases op <;> simp only [zb1, Bool.false_eq_true] at h <;> simp only [execOp]
 case nilCheck x =>
  split
  · intro P w n w' e; simp [runtimePanic, Sem.run] at e
  · intro P w n w' e; simp [runtimePanic, Sem.run] at e
  · intro P w n w' e; simp [runtimePanic, Sem.run] at e
  · split
    · intro P w n w' e; simp [runtimePanic, Sem.run] at e
    · refine NE.bind fun p => NE.bind fun y => ?_
      split
      · exact NE.bind fun _ => NE.value _
      · exact NE.value _
    · exact NE.value _
  · exact NE.value _
 case pick c x y => exact NE.bind fun _ => NE.value _
 all_goals first | exact NE.v _ | exact NE.value _
def YieldsD (P : Program) (ops : Array Oper) (D : World → Prop) (o : Oper) (v : Value) (a : Act) : Prop :=
 (Region.wanted o (yielded ops a.tmps) = true ∧ ∀ w, D w → (execOp a.eval o).run P w = .ok (.value v) w) ∨
 (Region.wanted o (yielded ops a.tmps) = false ∧ v = undef)
theorem YieldsD.of_same {o : Oper} {v : Value} {a a' : Act} (hy : YieldsD P ops D o v a) (he : execOp a'.eval o = execOp a.eval o)
 (hw : Region.wanted o (yielded ops a'.tmps) = Region.wanted o (yielded ops a.tmps)) : YieldsD P ops D o v a' := by
 unfold YieldsD at *
 rw [he, hw]
 exact hy
theorem YieldsD.of_quiet {o : Oper} {a : Act} {v : Value} (hp : zb1 o = true) (h : ∀ w, D w → o.quietAt P a D w v) (w : World) (hw : D w) : (execOp a.eval o).run P w = .ok (.value v) w := by
 have h1 := h w hw
 have h2 := zoe hp a.eval P w
 unfold Oper.quietAt at h1
 generalize (execOp a.eval o).run P w = r at h1 h2
 cases r with
 | ok n w' =>
  obtain ⟨u, rfl⟩ := h2 n w' rfl
  simp only [Oper.quietUpon] at h1
  obtain ⟨e1, e2⟩ := h1
  rw [e1, e2]
 | halt x w' => simp only [Oper.quietUpon] at h1
theorem YieldsD.wpOp {i : Nat} {o : Oper} {v : Value} {a : Act} (hi : ops[i]? = some o) (hy : YieldsD P ops D o v a) {K : Act → World → Prop} {w : World} {Q : Exit → Act → World → Prop} (hD : D w) (h : K (a.put o.dst v) w) : wpOp P ops Q i K a w := by
 unfold Go.wpOp
 simp only [hi]
 rcases hy with ⟨hw, hv⟩ | ⟨hw, rfl⟩
 · simp only [hw, if_true, Oper.wp]
   rw [hv w hD]
   exact .inl h
 · simp only [hw, Bool.false_eq_true, if_false]; exact h
theorem zkc {j : Nat} {oi oj : Oper} {v : Value} (hj : ops[j]? = some oj) (hap : oi.apart ops oj = true)
 (hsi : ∀ cs b, oi.op ≠ .select cs b) (hsj : ∀ cs b, oj.op ≠ .select cs b) {K : Act → World → Prop} {a : Act} {w : World}
 (hy : YieldsD P ops D oi v a) (h : wpOp P ops noX j K (a.put oi.dst v) w) :
 wpOp P ops noX j (fun a' w' => YieldsD P ops D oi v a' ∧ K (a'.put oi.dst v) w') a w := by
 obtain ⟨h1, h2, h3⟩ := Oper.apart_spec hap
 have keep : ∀ (a : Act), YieldsD P ops D oi v a → ∀ u, YieldsD P ops D oi v (a.put oj.dst u) := fun a hy u =>
  hy.of_same (execOp_put oi hsi a oj.dst u h3) (wanted_put oi a oj.dst u h3)
 have keepD : ∀ d, YieldsD P ops D oi v { a with defers := d :: a.defers } := fun d => hy.of_same rfl rfl
 unfold wpOp at *
 simp only [hj] at *
 rw [wanted_put oj a oi.dst v h1] at h
 split
 · rename_i hw
   simp only [hw, if_true] at h
   rcases h with h | ⟨hasks, hlets⟩
   case inr => exact .inr ⟨by unfold Oper.asks at *; rw [execOp_put oj hsj a oi.dst v h1] at hasks; exact hasks, hlets⟩
   refine .inl ?_
   unfold Oper.wp at *
   rw [execOp_put oj hsj a oi.dst v h1] at h
   generalize (execOp a.eval oj).run P w = r at *
   cases r with
   | ok n w' =>
    cases n <;> simp only [Oper.upon] at h ⊢
    case value u => exact ⟨keep a hy u, by rw [← Act.put_comm a v u h2]; exact h⟩
    case skip => exact ⟨keep a hy _, by rw [← Act.put_comm a v undef h2]; exact h⟩
    case defer d =>
     refine ⟨keep _ (keepD d) _, ?_⟩
     rw [← Act.put_comm _ v undef h2, ← Act.put_defers]
     exact h
    case enter f args =>
     refine Calls.mono h fun e w'' he => ?_
     cases e with
     | returned u => exact ⟨keep a hy u, by rw [← Act.put_comm a v u h2]; exact he⟩
     | panicked c => exact he
     | outgrown => exact he
    case row row args => exact Rows.mono h fun u w'' he => ⟨keep a hy u, by rw [← Act.put_comm a v u h2]; exact he⟩
   | halt x w' =>
    cases x <;> simp only [Oper.upon] at h ⊢
    case panic u => exact h
 · rename_i hw
   simp only [hw] at h
   exact ⟨keep a hy _, by rw [← Act.put_comm a v undef h2]; exact h⟩
def upD (P : Program) (md : Region.Mode) (ops : Array Oper) (D : World → Prop) (T : Nat → Bool) (L : Array Bool → Act → World → Prop) : Nat → Array Bool → Act → World → Prop
 | 0, listed, a, w => D w ∧ L listed a w
 | f + 1, listed, a, w => D w ∧ Region.ready md ops listed ≠ [] ∧ ∀ i ∈ Region.ready md ops listed, T i = false ∧ wpOp P ops noX i (upD P md ops D T L f (listed.setIfInBounds i true)) a w
theorem zkd {i : Nat} {K : Act → World → Prop} {a : Act} {w : World} {Q : Exit → Act → World → Prop} (h : wpOp P ops noX i K a w) : wpOp P ops Q i K a w := by
 unfold wpOp at *
 split
 · rename_i ho; simp only [ho] at h; exact h
 · rename_i o ho
   simp only [ho] at h
   split
   · rename_i hw
     simp only [hw, if_true] at h
     rcases h with h | ⟨_, a2, w2, hl⟩
     · refine .inl ?_
       unfold Oper.wp at *
       generalize (execOp a.eval o).run P w = r at *
       cases r with
       | ok n w' =>
        cases n <;> simp only [Oper.upon] at h ⊢
        case value u => exact h
        case skip => exact h
        case defer d => exact h
        case enter f args =>
         refine Calls.mono h fun e w'' he => ?_
         cases e with
         | returned u => exact he
         | panicked c => exact he.elim
         | outgrown => obtain ⟨a3, w3, hl⟩ := he; exact hl.elim
        case row row args => exact h
       | halt x w' =>
        cases x <;> simp only [Oper.upon] at h ⊢
        case panic u => exact h.elim
     · exact hl.elim
   · rename_i hw
     simp only [hw] at h
     exact h
theorem zof {T : Nat → Bool} {g : Nat} {L : Array Bool → Act → World → Prop} {Q : Exit → Act → World → Prop} (hL : ∀ listed a w, L listed a w → wpAny P md ops Q g listed a w) :
 ∀ (f : Nat) (listed : Array Bool) (a : Act) (w : World), upD P md ops D T L f listed a w → wpAny P md ops Q (f + g) listed a w := by
 intro f
 induction f with
 | zero => intro listed a w h; rw [Nat.zero_add]; exact hL _ _ _ h.2
 | succ f ih =>
  intro listed a w h
  rw [show f + 1 + g = (f + g) + 1 by omega]
  exact ⟨fun h0 => absurd h0 h.2.1, fun i hi => zkd (wpOp_mono (fun a' w' h' => ih _ a' w' h') (h.2.2 i hi).2)⟩
def zcx (md : Region.Mode) (ops : Array Oper) : Nat → Nat → Nat → Bool
 | 0, _, _ => false
 | f + 1, t, i => match ops[t]? with
  | some ot => ot.after.any fun e => Region.binds md e && (e.on == i || zcx md ops f e.on i)
  | none => false
def Closed (md : Region.Mode) (ops : Array Oper) (listed : Array Bool) : Prop :=
 ∀ j oj, ops[j]? = some oj → listed.getD j false = true → ∀ e ∈ oj.after, Region.binds md e = true → listed.getD e.on false = true
theorem Closed.set {listed : Array Bool} (h : Closed md ops listed) {i : Nat} (hi : i ∈ Region.ready md ops listed) : Closed md ops (listed.setIfInBounds i true) := by
 obtain ⟨_, oi, hoi, hall⟩ := mem_ready.1 hi
 intro j oj hj hl e he hb
 by_cases hij : i = j
 · subst hij
   have : oj = oi := Option.some.inj (hj.symm.trans hoi)
   subst this
   exact getD_set_true (hall e he hb)
 · rw [getD_set_ne false hij] at hl
   exact getD_set_true (h j oj hj hl e he hb)
theorem zke {listed : Array Bool} (hc : Closed md ops listed) : ∀ (f t i : Nat) (ot : Oper), ops[t]? = some ot → (∀ e ∈ ot.after, Region.binds md e = true → listed.getD e.on false = true) → zcx md ops f t i = true → listed.getD i false = true := by
 intro f
 induction f with
 | zero => intro t i ot _ _ h; simp [zcx] at h
 | succ f ih =>
  intro t i ot ho hall h
  simp only [zcx, ho] at h
  obtain ⟨e, he, hb⟩ := Array.any_eq_true'.1 h
  simp only [Bool.and_eq_true, Bool.or_eq_true, beq_iff_eq] at hb
  obtain ⟨hb1, hb2⟩ := hb
  have hl := hall e he hb1
  rcases hb2 with h2 | h2
  · rw [← h2]; exact hl
  · cases ho2 : ops[e.on]? with
    | none =>
     cases f with
     | zero => simp [zcx] at h2
     | succ f => simp [zcx, ho2] at h2
    | some o2 => exact ih e.on i o2 ho2 (fun e2 he2 hb2 => hc e.on o2 ho2 hl e2 he2 hb2) h2
theorem zog {T : Nat → Bool} {i : Nat} {oi : Oper} {v : Value} {L : Array Bool → Act → World → Prop} (hi : ops[i]? = some oi) (hsel : Region.noSelect ops = true)
 (hwait : ∀ t, T t = true → zcx md ops ops.size t i = true) (hTi : T i = false)
 (hdone : ∀ listed a w, L listed a w → ∀ j ∈ Region.ready md ops listed, T j = true) :
 ∀ (f : Nat) (listed : Array Bool) (a : Act) (w : World), Closed md ops listed →
  (∀ j oj, ops[j]? = some oj → j ≠ i → listed.getD j true = false → (∀ e ∈ oj.after, Region.binds md e = true → e.on ≠ i) → oi.apart ops oj = true) →
  i ∈ Region.ready md ops listed → YieldsD P ops D oi v a → D w →
  upD P md ops D T L f (listed.setIfInBounds i true) (a.put oi.dst v) w → upD P md ops D T L (f + 1) listed a w := by
 have late : ∀ (listed : Array Bool), Closed md ops listed → listed.getD i true = false → ∀ j ∈ Region.ready md ops listed, T j = false := by
  intro listed hcl hun j hj
  cases hT : T j with
  | false => rfl
  | true =>
   obtain ⟨_, oj, hoj, hall⟩ := mem_ready.1 hj
   have := zke hcl ops.size j i oj hoj hall (hwait j hT)
   rw [getD_both hun] at this
   cases this
 intro f
 induction f with
 | zero =>
  intro listed a w hcl _ hr hy hD H
  refine ⟨hD, fun h => (by rw [h] at hr; cases hr), fun j hj => ?_⟩
  have hTj := late listed hcl (mem_ready.1 hr).1 j hj
  refine ⟨hTj, ?_⟩
  by_cases hji : j = i
  · subst hji
    exact hy.wpOp hi hD H
  · have := hdone _ _ _ H.2 j (ready_mono hj hji)
    rw [hTj] at this
    cases this
 | succ f ih =>
  intro listed a w hcl hfree hr hy hD H
  refine ⟨hD, fun h => (by rw [h] at hr; cases hr), fun j hj => ?_⟩
  refine ⟨late listed hcl (mem_ready.1 hr).1 j hj, ?_⟩
  by_cases hji : j = i
  · subst hji
    exact hy.wpOp hi hD H
  obtain ⟨hjun, oj, hoj, hall⟩ := mem_ready.1 hj
  have hnot : ∀ e ∈ oj.after, Region.binds md e = true → e.on ≠ i := fun e he hb heq => by
   have h1 := hall e he hb
   rw [heq, getD_both (mem_ready.1 hr).1] at h1
   cases h1
  have h2 := zkc hoj (hfree j oj hoj hji hjun hnot) (fun cs b => Region.noSelect_spec hsel i oi cs b hi) (fun cs b => Region.noSelect_spec hsel j oj cs b hoj) hy (H.2.2 j (ready_mono hj hji)).2
  refine wpOp_mono (fun a' w' h3 => ?_) h2
  obtain ⟨h3, h4⟩ := h3
  have hD' : D w' := by
   cases f with
   | zero => exact h4.1
   | succ f => exact h4.1
  refine ih (listed.setIfInBounds j true) a' w' (hcl.set hj) (fun k ok hk hki hun hno => hfree k ok hk hki ?_ hno) (ready_mono hr (Ne.symm hji)) h3 hD' ?_
  · by_cases hjk : j = k
    · subst hjk
      exact hjun
    · rwa [getD_set_ne true hjk] at hun
  · rw [Array.setIfInBounds_comm _ _ hji]
    exact h4
def zdq (md : Region.Mode) (ops : Array Oper) : List Nat → Array Bool → Bool
 | [], listed => (Region.ready md ops listed).isEmpty
 | b :: bs, listed => decide (Region.ready md ops listed = [b]) && zdq md ops bs (listed.setIfInBounds b true)
theorem zkf {Q : Exit → Act → World → Prop} : ∀ (B : List Nat) (l : List Oper) (listed : Array Bool) (a : Act) (w : World), l.map some = B.map (ops[·]?) →
 zdq md ops B listed = true → wpList P ops Q l a w → wpAny P md ops Q B.length listed a w := by
 intro B
 induction B with
 | nil =>
  intro l listed a w hl hB h
  obtain rfl : l = [] := by cases l with | nil => rfl | cons x xs => simp at hl
  exact ⟨by simpa [zdq] using hB, h⟩
 | cons b bs ih =>
  intro l listed a w hl hB h
  cases l with
  | nil => simp at hl
  | cons o l =>
   simp only [List.map_cons, List.cons.injEq] at hl
   simp only [zdq, Bool.and_eq_true, decide_eq_true_eq] at hB
   refine ⟨fun h1 => (by rw [hB.1] at h1; cases h1), fun i hi => ?_⟩
   rw [hB.1] at hi
   obtain rfl : i = b := by simpa using hi
   have hw : wpOp P ops Q i (wpList P ops Q l) a w := by unfold wpOp; simp only [← hl.1]; exact h
   exact wpOp_mono (fun a' w' h' => ih l _ a' w' hl.2 hB.2 h') hw
inductive Tr where
 | rest
 | one (b : Nat) (t : Tr)
 | two (b : Nat) (t : Tr) (b' : Nat) (t' : Tr)
def Tr.inB (l : List Nat) : Tr → Bool
 | .rest => true
 | .one b t => !l.contains b && t.inB l
 | .two b t b' t' => !l.contains b && !l.contains b' && t.inB l && t'.inB l
def zdr (md : Region.Mode) (ops : Array Oper) (R : List Nat) : Nat → Tr → Array Bool → Bool
 | 0, .rest, listed => zdq md ops R listed
 | m + 1, .one b t, listed => decide (Region.ready md ops listed = [b]) && zdr md ops R m t (listed.setIfInBounds b true)
 | m + 1, .two b t b' t', listed => decide (Region.ready md ops listed = [b, b']) && zdr md ops R m t (listed.setIfInBounds b true) && zdr md ops R m t' (listed.setIfInBounds b' true)
 | _, _, _ => false
def seqT (P : Program) (l : List Oper) (D : World → Prop) (Q : Exit → Act → World → Prop) (lr : List Oper) : Tr → Act → World → Prop
 | .rest, a, w => wpList P l.toArray Q lr a w
 | .one b t, a, w => match l[b]? with
  | some o => wpList P l.toArray (fun x a' w' => x = .normal ∧ D w' ∧ seqT P l D Q lr t a' w') [o] a w
  | none => False
 | .two b t b' t', a, w => (match l[b]? with
  | some o => wpList P l.toArray (fun x a' w' => x = .normal ∧ D w' ∧ seqT P l D Q lr t a' w') [o] a w
  | none => False) ∧ (match l[b']? with
  | some o => wpList P l.toArray (fun x a' w' => x = .normal ∧ D w' ∧ seqT P l D Q lr t' a' w') [o] a w
  | none => False)
theorem zoh {o : Oper} {i : Nat} (hi : ops[i]? = some o) {K : Act → World → Prop} {a : Act} {w : World} (h : wpList P ops (fun x a' w' => x = .normal ∧ K a' w') [o] a w) : wpOp P ops noX i K a w := by
 unfold wpOp
 simp only [hi]
 unfold wpList at h
 split
 · rename_i hw
   simp only [hw, if_true] at h
   rcases h with h | ⟨_, a2, w2, hl, _⟩
   · refine .inl ?_
     unfold Oper.wp at *
     generalize (execOp a.eval o).run P w = r at *
     cases r with
     | ok n w' =>
      cases n <;> simp only [Oper.upon] at h ⊢
      case value u => exact h.2
      case skip => exact h.2
      case defer d => exact h.2
      case enter f args =>
       refine Calls.mono h fun e w'' he => ?_
       cases e with
       | returned u => exact he.2
       | panicked c => exact absurd he.1 (by simp)
       | outgrown => obtain ⟨a3, w3, hl, _⟩ := he; exact absurd hl (by simp)
      case row row args => exact Rows.mono h fun u w'' he => he.2
     | halt x w' =>
      cases x <;> simp only [Oper.upon] at h ⊢
      case panic u => exact absurd h.1 (by simp)
   · exact absurd hl (by simp)
 · rename_i hw
   simp only [hw] at h
   exact h.2
theorem zfn {l : List Oper} {b : Nat} {K : Act → World → Prop} {a : Act} {w : World} (h : match l[b]? with
 | some o => wpList P l.toArray (fun x a' w' => x = .normal ∧ K a' w') [o] a w
 | none => False) : wpOp P l.toArray noX b K a w := by
 cases ho : l[b]? with
 | none => rw [ho] at h; exact h.elim
 | some o => rw [ho] at h; exact zoh (ops := l.toArray) (by simpa using ho) h
theorem zoi {l : List Oper} {T : Nat → Bool} {Q : Exit → Act → World → Prop} {R : List Nat} {lr : List Oper} : ∀ (m : Nat) (t : Tr) (listed : Array Bool) (a : Act) (w : World),
 zdr md l.toArray R m t listed = true → t.inB R = true → (∀ b, T b = R.contains b) → D w → seqT P l D Q lr t a w →
 upD P md l.toArray D T (fun listed' a' w' => zdq md l.toArray R listed' = true ∧ wpList P l.toArray Q lr a' w') m listed a w := by
 intro m
 induction m with
 | zero =>
  intro t listed a w hB _ _ hD h
  cases t with
  | rest => exact ⟨hD, by simpa [zdr] using hB, h⟩
  | one b t => simp [zdr] at hB
  | two b t b' t' => simp [zdr] at hB
 | succ m ih =>
  intro t listed a w hB hI hT hD h
  cases t with
  | rest => simp [zdr] at hB
  | one b t =>
   simp only [zdr, Bool.and_eq_true, decide_eq_true_eq] at hB
   simp only [Tr.inB, Bool.and_eq_true, Bool.not_eq_true'] at hI
   refine ⟨hD, fun h1 => (by rw [hB.1] at h1; cases h1), fun i hi => ?_⟩
   rw [hB.1] at hi
   obtain rfl : i = b := by simpa using hi
   refine ⟨by rw [hT]; exact hI.1, ?_⟩
   exact wpOp_mono (fun a' w' h' => ih t _ a' w' hB.2 hI.2 hT h'.1 h'.2) (zfn (K := fun a' w' => D w' ∧ seqT P l D Q lr t a' w') h)
  | two b t b' t' =>
   simp only [zdr, Bool.and_eq_true, decide_eq_true_eq] at hB
   simp only [Tr.inB, Bool.and_eq_true, Bool.not_eq_true'] at hI
   refine ⟨hD, fun h1 => (by rw [hB.1.1] at h1; cases h1), fun i hi => ?_⟩
   rw [hB.1.1] at hi
   have hi' : i = b ∨ i = b' := by simpa using hi
   rcases hi' with rfl | rfl
   · refine ⟨by rw [hT]; exact hI.1.1.1, ?_⟩
     exact wpOp_mono (fun a' w' h' => ih t _ a' w' hB.1.2 hI.1.2 hT h'.1 h'.2) (zfn (K := fun a' w' => D w' ∧ seqT P l D Q lr t a' w') h.1)
   · refine ⟨by rw [hT]; exact hI.1.1.2, ?_⟩
     exact wpOp_mono (fun a' w' h' => ih t' _ a' w' hB.2 hI.2 hT h'.1 h'.2) (zfn (K := fun a' w' => D w' ∧ seqT P l D Q lr t' a' w') h.2)
def zg8 (md : Region.Mode) (ops : Array Oper) (R : List Nat) (m : Nat) (t : Tr) : List Nat → Array Bool → Bool
 | [], listed => zdr md ops R m t listed
 | i :: is, listed => (Region.ready md ops listed).contains i && Region.free md ops listed i && zg8 md ops R m t is (listed.setIfInBounds i true)
theorem zoj {l : List Oper} {T : Nat → Bool} {Q : Exit → Act → World → Prop} {R : List Nat} {lr : List Oper} {m : Nat} {t : Tr} (hsel : Region.noSelect l.toArray = true) (hI : t.inB R = true) (hT : ∀ b, T b = R.contains b) :
 ∀ (F : List Nat) (k : List Oper) (listed : Array Bool) (a : Act) (w : World), k.map some = F.map (l.toArray[·]?) → k.all zb1 = true → Closed md l.toArray listed → zg8 md l.toArray R m t F listed = true →
 (∀ i ∈ F, T i = false ∧ ∀ t, T t = true → zcx md l.toArray l.toArray.size t i = true) → D w → wpQuiet P l.toArray D (fun a' => seqT P l D Q lr t a' w) k a →
 upD P md l.toArray D T (fun listed' a' w' => zdq md l.toArray R listed' = true ∧ wpList P l.toArray Q lr a' w') (F.length + m) listed a w := by
 intro F
 induction F with
 | nil =>
  intro k listed a w hk _ hc hB _ hD h
  obtain rfl : k = [] := by cases k with | nil => rfl | cons x xs => simp at hk
  simp only [List.length_nil, Nat.zero_add]
  exact zoi m t listed a w hB hI hT hD h
 | cons i is ih =>
  intro k listed a w hk hp hc hB hW hD h
  cases k with
  | nil => simp at hk
  | cons o k =>
   simp only [List.map_cons, List.cons.injEq] at hk
   simp only [List.all_cons, Bool.and_eq_true] at hp
   simp only [zg8, Bool.and_eq_true] at hB
   obtain ⟨⟨hr, hf⟩, hB2⟩ := hB
   have hr' : i ∈ Region.ready md l.toArray listed := by simpa using hr
   have hq : qOp P l.toArray D i (wpQuiet P l.toArray D (fun a' => seqT P l D Q lr t a' w) k) a := by unfold qOp; simp only [← hk.1]; exact h
   obtain ⟨v, hy, hK⟩ := yieldsIn_of_qOp hk.1.symm hq
   have hy2 : YieldsD P l.toArray D o v a := by
    rcases hy with ⟨hw, h1⟩ | ⟨hw, rfl⟩
    · exact .inl ⟨hw, YieldsD.of_quiet hp.1 h1⟩
    · exact .inr ⟨hw, rfl⟩
   obtain ⟨hTi, hwait⟩ := hW i (by simp)
   rw [List.length_cons, show is.length + 1 + m = (is.length + m) + 1 by omega]
   refine zog hk.1.symm hsel hwait hTi ?_ (is.length + m) listed a w hc (Region.free_spec hk.1.symm hf) hr' hy2 hD (ih k _ _ w hk.2 hp.2 (hc.set hr') hB2 (fun j hj => hW j (by simp [hj])) hD hK)
   intro listed' a' w' hL j hj
   cases hd : R with
   | nil =>
    rw [hd] at hL
    have := hL.1
    simp only [zdq, List.isEmpty_iff] at this
    rw [this] at hj
    cases hj
   | cons b bs =>
    rw [hd] at hL
    have := hL.1
    simp only [zdq, Bool.and_eq_true, decide_eq_true_eq] at this
    rw [this.1] at hj
    obtain rfl : j = b := by simpa using hj
    rw [hT, hd]
    simp
def zg9 (md : Region.Mode) (ops : Array Oper) (F : List Nat) (m : Nat) (t : Tr) (R : List Nat) : List Nat → Array Bool → Bool
 | [], listed => zg8 md ops R m t F listed
 | i :: is, listed => (Region.ready md ops listed).contains i && Region.free md ops listed i && zg9 md ops F m t R is (listed.setIfInBounds i true)
def zij (md : Region.Mode) (ops : Array Oper) (A F : List Nat) (m : Nat) (t : Tr) (R : List Nat) : Bool :=
 Region.noSelect ops && decide (A.length + F.length + (m + R.length) = ops.size) && R.all (fun t => F.all fun i => zcx md ops ops.size t i) && F.all (fun i => !R.contains i) && t.inB R &&
  zg9 md ops F m t R A (Array.replicate ops.size false)
theorem zok {l : List Oper} {Q : Exit → Act → World → Prop} (hsel : Region.noSelect l.toArray = true) (hQ : ∀ c a w, Q (.panic c) a w → False) {F R : List Nat} {m : Nat} {t : Tr} {lf lr : List Oper} (hlr : lr.map some = R.map (l.toArray[·]?)) (hlf : lf.map some = F.map (l.toArray[·]?)) (hpf : lf.all zb1 = true)
 (hreach : ∀ t ∈ R, ∀ i ∈ F, zcx md l.toArray l.toArray.size t i = true) (hF : ∀ i ∈ F, R.contains i = false) (hI : t.inB R = true) :
 ∀ (A : List Nat) (la : List Oper) (listed : Array Bool) (a : Act) (w : World), la.map some = A.map (l.toArray[·]?) → la.all zb1 = true → Closed md l.toArray listed → zg9 md l.toArray F m t R A listed = true →
 D w → wpQuiet P l.toArray (fun _ => True) (fun a' => wpQuiet P l.toArray D (fun a' => seqT P l D Q lr t a' w) lf a') la a → wpAny P md l.toArray Q (A.length + F.length + (m + R.length)) listed a w := by
 intro A
 induction A with
 | nil =>
  intro la listed a w hla _ hc hB hD h
  obtain rfl : la = [] := by cases la with | nil => rfl | cons x xs => simp at hla
  have h2 := zoj (md := md) (T := fun t => R.contains t) (Q := Q) (lr := lr) hsel hI (fun b => rfl) F lf listed a w hlf hpf hc hB (fun i hi => ⟨hF i hi, fun t ht => hreach t (by simpa using ht) i hi⟩) hD h
  have h3 := zof (Q := Q) (g := R.length) (fun listed' a' w' hL => zkf R lr listed' a' w' hlr hL.1 hL.2) _ _ _ _ h2
  rw [List.length_nil, Nat.zero_add, show F.length + (m + R.length) = F.length + m + R.length by omega]
  exact h3
 | cons i is ih =>
  intro la listed a w hla hp hc hB hD h
  cases la with
  | nil => simp at hla
  | cons o la =>
   simp only [List.map_cons, List.cons.injEq] at hla
   simp only [List.all_cons, Bool.and_eq_true] at hp
   simp only [zg9, Bool.and_eq_true] at hB
   obtain ⟨⟨hr, hf⟩, hB2⟩ := hB
   have hr' : i ∈ Region.ready md l.toArray listed := by simpa using hr
   have hq : qOp P l.toArray (fun _ => True) i (wpQuiet P l.toArray (fun _ => True) (fun a' => wpQuiet P l.toArray D (fun a' => seqT P l D Q lr t a' w) lf a') la) a := by unfold qOp; simp only [← hla.1]; exact h
   obtain ⟨v, hy, hK⟩ := yieldsIn_of_qOp hla.1.symm hq
   rw [List.length_cons, show is.length + 1 + F.length + (m + R.length) = (is.length + F.length + (m + R.length)) + 1 by omega]
   have hy2 : Yields P l.toArray o v a := by
    rcases hy with ⟨hw, h1⟩ | ⟨hw, rfl⟩
    · exact .inl ⟨hw, fun w => YieldsD.of_quiet hp.1 h1 w trivial⟩
    · exact .inr ⟨hw, rfl⟩
   exact wpAny_first hla.1.symm (Region.noSelect_spec hsel) (fun c a w h => (hQ c _ w h).elim) _ listed a w (Region.free_spec hla.1.symm hf) hr' hy2 (ih la _ _ w hla.2 hp.2 (hc.set hr') hB2 hD hK)
theorem zol {i : Nat} {K K' : Act → World → Prop} {a : Act} {w : World} {Q Q' : Exit → Act → World → Prop} (hK : ∀ a w, K a w → K' a w) (hQ : ∀ x a w, Q x a w → Q' x a w) (h : wpOp P ops Q i K a w) : wpOp P ops Q' i K' a w := by
 unfold wpOp at *
 split
 · rename_i ho; simp only [ho] at h; exact hK _ _ h
 · rename_i o ho
   simp only [ho] at h
   split
   · rename_i hw
     simp only [hw, if_true] at h
     rcases h with h | ⟨h1, a2, w2, hl⟩
     · refine .inl ?_
       unfold Oper.wp at *
       generalize (execOp a.eval o).run P w = r at *
       cases r with
       | ok n w' =>
        cases n <;> simp only [Oper.upon] at h ⊢
        case value u => exact hK _ _ h
        case skip => exact hK _ _ h
        case defer d => exact hK _ _ h
        case enter f args =>
         refine Calls.mono h fun e w'' he => ?_
         cases e with
         | returned u => exact hK _ _ he
         | panicked c => exact hQ _ _ _ he
         | outgrown => obtain ⟨a3, w3, hl⟩ := he; exact ⟨a3, w3, hQ _ _ _ hl⟩
        case row row args => exact Rows.mono h fun u w'' he => hK _ _ he
       | halt x w' =>
        cases x <;> simp only [Oper.upon] at h ⊢
        case panic u => exact hQ _ _ _ h
     · exact .inr ⟨h1, a2, w2, hQ _ _ _ hl⟩
   · rename_i hw
     simp only [hw] at h
     exact hK _ _ h
theorem zkg {Q Q' : Exit → Act → World → Prop} (hQ : ∀ x a w, Q x a w → Q' x a w) : ∀ (f : Nat) (listed : Array Bool) (a : Act) (w : World), wpAny P md ops Q f listed a w → wpAny P md ops Q' f listed a w := by
 intro f
 induction f with
 | zero => intro listed a w h; exact ⟨h.1, hQ _ _ _ h.2⟩
 | succ f ih => intro listed a w h; exact ⟨fun h0 => hQ _ _ _ (h.1 h0), fun i hi => zol (fun a w h => ih _ a w h) hQ (h.2 i hi)⟩
def zaj (l : List Oper) (is : List Nat) : List Oper := is.filterMap (l[·]?)
theorem zfo {l : List Oper} : ∀ {is : List Nat}, is.all (fun i => decide (i < l.length)) = true → (zaj l is).map some = is.map (l.toArray[·]?) := by
 intro is
 induction is with
 | nil => intro _; rfl
 | cons i is ih =>
  intro h
  simp only [List.all_cons, Bool.and_eq_true, decide_eq_true_eq] at h
  have e : l[i]? = some l[i] := List.getElem?_eq_getElem h.1
  have e2 : zaj l (i :: is) = l[i] :: zaj l is := by simp [zaj, e]
  rw [e2, List.map_cons, List.map_cons, ih h.2]
  congr 1
  simp [e]
theorem zom {id : Nat} {Q : Exit → Act → World → Prop} {a : Act} {w : World} {l : List Oper} (A F : List Nat) (m : Nat) (t : Tr) (R : List Nat) (hm : P.follows .mixedOrders = true)
 (hB : (zij .any l.toArray A F m t R && (A ++ F ++ R).all (fun i => decide (i < l.length)) && (zaj l A).all zb1 && (zaj l F).all zb1) = true) (hD : D { w with drawn := w.drawn + 1 })
 (h : wpQuiet P l.toArray (fun _ => True) (fun a' => wpQuiet P l.toArray D (fun a' => seqT P l D (fun x a w => x = .normal ∧ Q .normal a w) (zaj l R) t a' { w with drawn := w.drawn + 1 }) (zaj l F) a') (zaj l A) a) :
 (Code.region id l.toArray true).wp P Q a w := by
 simp only [Bool.and_eq_true, List.all_append] at hB
 obtain ⟨⟨⟨hP, ⟨hA, hF⟩, hBB⟩, hpA⟩, hpF⟩ := hB
 simp only [zij, Bool.and_eq_true, decide_eq_true_eq] at hP
 obtain ⟨⟨⟨⟨⟨hsel, hsz⟩, hre⟩, hFn⟩, hI⟩, hgo⟩ := hP
 refine wp_region_any hm ?_
 have hc : Closed .any l.toArray (Array.replicate l.toArray.size false) := fun j oj _ hl => (by rw [getD_replicate_false] at hl; cases hl)
 have h2 := zok (P := P) (md := .any) (D := D) (Q := fun x a w => x = .normal ∧ Q .normal a w) hsel (fun c a w h => by cases h.1) (F := F) (R := R) (m := m) (zfo hBB) (zfo hF) hpF
  (fun t ht i hi => List.all_eq_true.1 (List.all_eq_true.1 hre t ht) i hi) (fun i hi => by simpa using List.all_eq_true.1 hFn i hi) hI
  A (zaj l A) _ a _ (zfo hA) hpA hc hgo hD h
 rw [hsz] at h2
 exact zkg (fun x a w hx => by obtain ⟨rfl, h⟩ := hx; exact h) _ _ _ _ h2
theorem zdh {id : Nat} {Q : Exit → Act → World → Prop} {a : Act} {w : World} {l : List Oper} (A F : List Nat) (m : Nat) (t : Tr) (R : List Nat) (hm : P.follows .mixedOrders = true)
 (hB : (zij .any l.toArray A F m t R && (A ++ F ++ R).all (fun i => decide (i < l.length)) && (zaj l A).all zb1 && (zaj l F).all zb1) = true)
 (h : wpQuiet P l.toArray (fun _ => True) (fun a' => wpQuiet P l.toArray (fun w' => ∃ p : Regrown, w' = Go.Sort.grow (redrawn w p.d) p.os) (fun a' => seqT P l (fun w' => ∃ p : Regrown, w' = Go.Sort.grow (redrawn w p.d) p.os) (fun x a w => x = .normal ∧ Q .normal a w) (zaj l R) t a' w.drew) (zaj l F) a') (zaj l A) a) :
 (Code.region id l.toArray true).wp P Q a w :=
 zom (D := fun w' => ∃ p : Regrown, w' = Go.Sort.grow (redrawn w p.d) p.os) A F m t R hm hB ⟨⟨w.drawn + 1, #[]⟩, by rw [Go.Sort.grow_empty]; rfl⟩ h
variable {l : List Oper} {Q : Exit → Act → World → Prop} {lr : List Oper} {t t' : Tr} {b b' : Nat} {o o' : Oper} {a : Act} {w : World}
theorem za0 (h : l[b]? = some o) (k : wpList P l.toArray (fun x a' w' => x = .normal ∧ D w' ∧ seqT P l D Q lr t a' w') [o] a w) : seqT P l D Q lr (.one b t) a w := by
 unfold seqT
 rw [h]
 exact k
theorem zds (h : l[b]? = some o) (h' : l[b']? = some o') (k : wpList P l.toArray (fun x a' w' => x = .normal ∧ D w' ∧ seqT P l D Q lr t a' w') [o] a w)
 (k' : wpList P l.toArray (fun x a' w' => x = .normal ∧ D w' ∧ seqT P l D Q lr t' a' w') [o'] a w) : seqT P l D Q lr (.two b t b' t') a w := by
 unfold seqT
 rw [h, h']
 exact ⟨k, k'⟩
theorem zbx (k : wpList P l.toArray Q lr a w) : seqT P l D Q lr .rest a w := k
end
end
section
open Go
section
variable {P : Program} {ops : Array Oper} {md : Region.Mode} {D : World → Prop}
inductive Tw where
 | rest
 | one (b : Nat) (t : Tw)
 | two (b : Nat) (t : Tw) (b' : Nat) (t' : Tw)
 | first (i : Nat) (t : Tw)
 | load (i : Nat) (t : Tw)
def anyD (P : Program) (md : Region.Mode) (ops : Array Oper) (D : World → Prop) (T : List Nat) (Q : Exit → Act → World → Prop) : Nat → Array Bool → Act → World → Prop
 | 0, listed, a, w => D w ∧ Region.ready md ops listed = [] ∧ Q .normal a w
 | f + 1, listed, a, w => D w ∧ Region.ready md ops listed ≠ [] ∧ ∀ i ∈ Region.ready md ops listed,
  (T.contains i = true → wpOp P ops Q i (wpAny P md ops Q f (listed.setIfInBounds i true)) a w) ∧ (T.contains i = false → wpOp P ops noX i (anyD P md ops D T Q f (listed.setIfInBounds i true)) a w)
theorem zon {T : List Nat} {Q : Exit → Act → World → Prop} : ∀ {f : Nat} {listed : Array Bool} {a : Act} {w : World}, anyD P md ops D T Q f listed a w → D w
 | 0, _, _, _, h => h.1
 | _ + 1, _, _, _, h => h.1
theorem zoo {T : List Nat} {Q : Exit → Act → World → Prop} : ∀ (f : Nat) (listed : Array Bool) (a : Act) (w : World), anyD P md ops D T Q f listed a w → wpAny P md ops Q f listed a w := by
 intro f
 induction f with
 | zero => intro listed a w h; exact ⟨h.2.1, h.2.2⟩
 | succ f ih =>
  intro listed a w h
  refine ⟨fun h0 => absurd h0 h.2.1, fun i hi => ?_⟩
  cases hT : T.contains i with
  | true => exact (h.2.2 i hi).1 hT
  | false => exact zkd (wpOp_mono (fun a' w' h' => ih _ a' w' h') ((h.2.2 i hi).2 hT))
theorem zkh {T : List Nat} {Q : Exit → Act → World → Prop} {i : Nat} {oi : Oper} {v : Value} (hi : ops[i]? = some oi) (hsel : Region.noSelect ops = true)
 (hwait : ∀ t, T.contains t = true → zcx md ops ops.size t i = true) (hTi : T.contains i = false) :
 ∀ (f : Nat) (listed : Array Bool) (a : Act) (w : World), Closed md ops listed →
  (∀ j oj, ops[j]? = some oj → j ≠ i → listed.getD j true = false → (∀ e ∈ oj.after, Region.binds md e = true → e.on ≠ i) → oi.apart ops oj = true) →
  i ∈ Region.ready md ops listed → YieldsD P ops D oi v a → D w →
  anyD P md ops D T Q f (listed.setIfInBounds i true) (a.put oi.dst v) w → anyD P md ops D T Q (f + 1) listed a w := by
 have late : ∀ (listed : Array Bool), Closed md ops listed → listed.getD i true = false → ∀ j ∈ Region.ready md ops listed, T.contains j = false := by
  intro listed hcl hun j hj
  cases hT : T.contains j with
  | false => rfl
  | true =>
   obtain ⟨_, oj, hoj, hall⟩ := mem_ready.1 hj
   have := zke hcl ops.size j i oj hoj hall (hwait j hT)
   rw [getD_both hun] at this
   cases this
 intro f
 induction f with
 | zero =>
  intro listed a w hcl _ hr hy hD H
  refine ⟨hD, fun h => (by rw [h] at hr; cases hr), fun j hj => ?_⟩
  have hTj := late listed hcl (mem_ready.1 hr).1 j hj
  refine ⟨fun h => (by rw [hTj] at h; cases h), fun _ => ?_⟩
  by_cases hji : j = i
  · subst hji
    exact hy.wpOp hi hD H
  · have := ready_mono hj hji
    rw [H.2.1] at this
    cases this
 | succ f ih =>
  intro listed a w hcl hfree hr hy hD H
  refine ⟨hD, fun h => (by rw [h] at hr; cases hr), fun j hj => ?_⟩
  have hTj := late listed hcl (mem_ready.1 hr).1 j hj
  refine ⟨fun h => (by rw [hTj] at h; cases h), fun _ => ?_⟩
  by_cases hji : j = i
  · subst hji
    exact hy.wpOp hi hD H
  obtain ⟨hjun, oj, hoj, hall⟩ := mem_ready.1 hj
  have hnot : ∀ e ∈ oj.after, Region.binds md e = true → e.on ≠ i := fun e he hb heq => by
   have h1 := hall e he hb
   rw [heq, getD_both (mem_ready.1 hr).1] at h1
   cases h1
  have h2 := zkc hoj (hfree j oj hoj hji hjun hnot) (fun cs b => Region.noSelect_spec hsel i oi cs b hi) (fun cs b => Region.noSelect_spec hsel j oj cs b hoj) hy ((H.2.2 j (ready_mono hj hji)).2 hTj)
  refine wpOp_mono (fun a' w' h3 => ?_) h2
  obtain ⟨h3, h4⟩ := h3
  refine ih (listed.setIfInBounds j true) a' w' (hcl.set hj) (fun k ok hk hki hun hno => hfree k ok hk hki ?_ hno) (ready_mono hr (Ne.symm hji)) h3 (zon h4) ?_
  · by_cases hjk : j = k
    · subst hjk
      exact hjun
    · rwa [getD_set_ne true hjk] at hun
  · rw [Array.setIfInBounds_comm _ _ hji]
    exact h4
theorem zki {T : List Nat} {Q : Exit → Act → World → Prop} (hQ : ∀ c a w, Q (.panic c) a w → False) {i : Nat} {oi : Oper} {v : Value} (hi : ops[i]? = some oi) (hsel : Region.noSelect ops = true) (hTi : T.contains i = false) :
 ∀ (f : Nat) (listed : Array Bool) (a : Act) (w : World),
  (∀ j oj, ops[j]? = some oj → j ≠ i → listed.getD j true = false → (∀ e ∈ oj.after, Region.binds md e = true → e.on ≠ i) → oi.apart ops oj = true) →
  i ∈ Region.ready md ops listed → Yields P ops oi v a →
  anyD P md ops D T Q f (listed.setIfInBounds i true) (a.put oi.dst v) w → anyD P md ops D T Q (f + 1) listed a w := by
 intro f
 induction f with
 | zero =>
  intro listed a w _ hr hy H
  refine ⟨H.1, fun h => (by rw [h] at hr; cases hr), fun j hj => ?_⟩
  by_cases hji : j = i
  · subst hji
    exact ⟨fun h => (by rw [hTi] at h; cases h), fun _ => hy.wpOp hi H⟩
  · have := ready_mono hj hji
    rw [H.2.1] at this
    cases this
 | succ f ih =>
  intro listed a w hfree hr hy H
  refine ⟨H.1, fun h => (by rw [h] at hr; cases hr), fun j hj => ?_⟩
  by_cases hji : j = i
  · subst hji
    exact ⟨fun h => (by rw [hTi] at h; cases h), fun _ => hy.wpOp hi H⟩
  obtain ⟨hjun, oj, hoj, hall⟩ := mem_ready.1 hj
  have hnot : ∀ e ∈ oj.after, Region.binds md e = true → e.on ≠ i := fun e he hb heq => by
   have h1 := hall e he hb
   rw [heq, getD_both (mem_ready.1 hr).1] at h1
   cases h1
  have hap := hfree j oj hoj hji hjun hnot
  have hfree2 : ∀ k ok, ops[k]? = some ok → k ≠ i → (listed.setIfInBounds j true).getD k true = false → (∀ e ∈ ok.after, Region.binds md e = true → e.on ≠ i) → oi.apart ops ok = true := fun k ok hk hki hun hno => hfree k ok hk hki (by
   by_cases hjk : j = k
   · subst hjk
     exact hjun
   · rwa [getD_set_ne true hjk] at hun) hno
  have si := fun cs b => Region.noSelect_spec hsel i oi cs b hi
  have sj := fun cs b => Region.noSelect_spec hsel j oj cs b hoj
  refine ⟨fun hTj => ?_, fun hTj => ?_⟩
  · have h2 := wpOp_put hoj hap si sj (fun c a w h => (hQ c _ w h).elim) hy ((H.2.2 j (ready_mono hj hji)).1 hTj)
    refine wpOp_mono (fun a' w' h3 => ?_) h2
    refine wpAny_first hi (Region.noSelect_spec hsel) (fun c a w h => (hQ c _ w h).elim) _ _ a' w' hfree2 (ready_mono hr (Ne.symm hji)) h3.1 ?_
    rw [Array.setIfInBounds_comm _ _ hji]
    exact h3.2
  · have h2 := wpOp_put (Q := noX) hoj hap si sj (fun c a w h => h.elim) hy ((H.2.2 j (ready_mono hj hji)).2 hTj)
    refine wpOp_mono (fun a' w' h3 => ?_) h2
    refine ih (listed.setIfInBounds j true) a' w' hfree2 (ready_mono hr (Ne.symm hji)) h3.1 ?_
    rw [Array.setIfInBounds_comm _ _ hji]
    exact h3.2
def zkj (T R : List Nat) : Bool := match R with
 | [] => true
 | r :: _ => T.contains r
def zck (md : Region.Mode) (ops : Array Oper) (T R : List Nat) : Nat → Tw → Array Bool → Bool
 | 0, .rest, listed => zdq md ops R listed && zkj T R
 | m + 1, .one b t, listed => decide (Region.ready md ops listed = [b]) && !T.contains b && zck md ops T R m t (listed.setIfInBounds b true)
 | m + 1, .two b t b' t', listed => decide (Region.ready md ops listed = [b, b']) && !T.contains b && !T.contains b' && zck md ops T R m t (listed.setIfInBounds b true) && zck md ops T R m t' (listed.setIfInBounds b' true)
 | m + 1, .first i t, listed => (Region.ready md ops listed).contains i && Region.free md ops listed i && !T.contains i && ((ops[i]?).map zb1).getD false && zck md ops T R m t (listed.setIfInBounds i true)
 | m + 1, .load i t, listed => (Region.ready md ops listed).contains i && Region.free md ops listed i && !T.contains i && T.all (fun t => zcx md ops ops.size t i) && ((ops[i]?).map zb1).getD false && zck md ops T R m t (listed.setIfInBounds i true)
 | _, _, _ => false
def seqW (P : Program) (l : List Oper) (D : World → Prop) (Q : Exit → Act → World → Prop) (lr : List Oper) : Tw → Act → World → Prop
 | .rest, a, w => wpList P l.toArray Q lr a w
 | .one b t, a, w => match l[b]? with
  | some o => wpList P l.toArray (fun x a' w' => x = .normal ∧ D w' ∧ seqW P l D Q lr t a' w') [o] a w
  | none => False
 | .two b t b' t', a, w => (match l[b]? with
  | some o => wpList P l.toArray (fun x a' w' => x = .normal ∧ D w' ∧ seqW P l D Q lr t a' w') [o] a w
  | none => False) ∧ (match l[b']? with
  | some o => wpList P l.toArray (fun x a' w' => x = .normal ∧ D w' ∧ seqW P l D Q lr t' a' w') [o] a w
  | none => False)
 | .first i t, a, w => match l[i]? with
  | some o => wpQuiet P l.toArray (fun _ => True) (fun a' => seqW P l D Q lr t a' w) [o] a
  | none => False
 | .load i t, a, w => match l[i]? with
  | some o => wpQuiet P l.toArray D (fun a' => seqW P l D Q lr t a' w) [o] a
  | none => False
theorem zop {l : List Oper} {i : Nat} {o : Oper} {a : Act} {K : Act → Prop} (hi : l[i]? = some o) (hp : zb1 o = true) (h : wpQuiet P l.toArray (fun _ => True) K [o] a) : ∃ v, Yields P l.toArray o v a ∧ K (a.put o.dst v) := by
 have hi' : l.toArray[i]? = some o := by simpa using hi
 have hq : qOp P l.toArray (fun _ => True) i (wpQuiet P l.toArray (fun _ => True) K []) a := by unfold qOp; simp only [hi']; exact h
 obtain ⟨v, hy, hK⟩ := yieldsIn_of_qOp hi' hq
 refine ⟨v, ?_, hK⟩
 rcases hy with ⟨hw, h1⟩ | ⟨hw, rfl⟩
 · exact .inl ⟨hw, fun w => YieldsD.of_quiet hp h1 w trivial⟩
 · exact .inr ⟨hw, rfl⟩
theorem zoq {l : List Oper} {T R : List Nat} {lr : List Oper} {Q : Exit → Act → World → Prop} (hsel : Region.noSelect l.toArray = true) (hQ : ∀ c a w, Q (.panic c) a w → False) (hlr : lr.map some = R.map (l.toArray[·]?)) :
 ∀ (m : Nat) (t : Tw) (listed : Array Bool) (a : Act) (w : World), Closed md l.toArray listed → zck md l.toArray T R m t listed = true → D w → seqW P l D Q lr t a w → anyD P md l.toArray D T Q (m + R.length) listed a w := by
 intro m
 induction m with
 | zero =>
  intro t listed a w hc hB hD h
  cases t with
  | rest =>
   simp only [zck, Bool.and_eq_true] at hB
   have h2 := zkf R lr listed a w hlr hB.1 h
   rw [Nat.zero_add]
   cases R with
   | nil => exact ⟨hD, h2.1, h2.2⟩
   | cons r rs =>
    have hr := hB.1
    simp only [zdq, Bool.and_eq_true, decide_eq_true_eq] at hr
    refine ⟨hD, by rw [hr.1]; simp, fun i hi => ⟨fun _ => h2.2 i hi, fun hT => ?_⟩⟩
    rw [hr.1] at hi
    obtain rfl : i = r := by simpa using hi
    have := hB.2
    simp only [zkj] at this
    rw [this] at hT
    cases hT
  | one b t => simp [zck] at hB
  | two b t b' t' => simp [zck] at hB
  | first i t => simp [zck] at hB
  | load i t => simp [zck] at hB
 | succ m ih =>
  intro t listed a w hc hB hD h
  rw [show m + 1 + R.length = (m + R.length) + 1 by omega]
  cases t with
  | rest => simp [zck] at hB
  | one b t =>
   simp only [zck, Bool.and_eq_true, decide_eq_true_eq, Bool.not_eq_true'] at hB
   refine ⟨hD, by rw [hB.1.1]; simp, fun i hi => ?_⟩
   have hi0 := hi
   rw [hB.1.1] at hi
   obtain rfl : i = b := by simpa using hi
   exact ⟨fun hT => (by rw [hB.1.2] at hT; cases hT), fun _ => wpOp_mono (fun a' w' h' => ih t _ a' w' (hc.set hi0) hB.2 h'.1 h'.2) (zfn (K := fun a' w' => D w' ∧ seqW P l D Q lr t a' w') h)⟩
  | two b t b' t' =>
   simp only [zck, Bool.and_eq_true, decide_eq_true_eq, Bool.not_eq_true'] at hB
   obtain ⟨⟨⟨⟨g1, g2⟩, g3⟩, g4⟩, g5⟩ := hB
   refine ⟨hD, by rw [g1]; simp, fun i hi => ?_⟩
   have hi0 := hi
   rw [g1] at hi
   have hi' : i = b ∨ i = b' := by simpa using hi
   rcases hi' with rfl | rfl
   · exact ⟨fun hT => (by rw [g2] at hT; cases hT), fun _ => wpOp_mono (fun a' w' h' => ih t _ a' w' (hc.set hi0) g4 h'.1 h'.2) (zfn (K := fun a' w' => D w' ∧ seqW P l D Q lr t a' w') h.1)⟩
   · exact ⟨fun hT => (by rw [g3] at hT; cases hT), fun _ => wpOp_mono (fun a' w' h' => ih t' _ a' w' (hc.set hi0) g5 h'.1 h'.2) (zfn (K := fun a' w' => D w' ∧ seqW P l D Q lr t' a' w') h.2)⟩
  | first i t =>
   simp only [zck, Bool.and_eq_true, Bool.not_eq_true'] at hB
   obtain ⟨⟨⟨⟨g1, g2⟩, g3⟩, g4⟩, g5⟩ := hB
   cases ho : l[i]? with
   | none => simp [ho] at g4
   | some o =>
    have ho' : l.toArray[i]? = some o := by simpa using ho
    simp only [ho', Option.map_some, Option.getD_some] at g4
    simp only [seqW, ho] at h
    obtain ⟨v, hy, hK⟩ := zop ho g4 h
    exact zki hQ ho' hsel g3 _ listed a w (Region.free_spec ho' g2) (by simpa using g1) hy (ih t _ _ w (hc.set (by simpa using g1)) g5 hD hK)
  | load i t =>
   simp only [zck, Bool.and_eq_true, Bool.not_eq_true'] at hB
   obtain ⟨⟨⟨⟨⟨g1, g2⟩, g3⟩, g6⟩, g4⟩, g5⟩ := hB
   cases ho : l[i]? with
   | none => simp [ho] at g4
   | some o =>
    have ho' : l.toArray[i]? = some o := by simpa using ho
    simp only [ho', Option.map_some, Option.getD_some] at g4
    simp only [seqW, ho] at h
    have hq : qOp P l.toArray D i (wpQuiet P l.toArray D (fun a' => seqW P l D Q lr t a' w) []) a := by unfold qOp; simp only [ho']; exact h
    obtain ⟨v, hy, hK⟩ := yieldsIn_of_qOp ho' hq
    have hy2 : YieldsD P l.toArray D o v a := by
     rcases hy with ⟨hw, h1⟩ | ⟨hw, rfl⟩
     · exact .inl ⟨hw, YieldsD.of_quiet g4 h1⟩
     · exact .inr ⟨hw, rfl⟩
    have g1' : i ∈ Region.ready md l.toArray listed := by simpa using g1
    exact zkh ho' hsel (fun t ht => List.all_eq_true.1 g6 t (by simpa using ht)) g3 _ listed a w hc (Region.free_spec ho' g2) g1' hy2 hD (ih t _ _ w (hc.set g1') g5 hD hK)
def zha (md : Region.Mode) (ops : Array Oper) (T R : List Nat) (m : Nat) (t : Tw) : List Nat → Array Bool → Bool
 | [], listed => zck md ops T R m t listed
 | i :: is, listed => (Region.ready md ops listed).contains i && Region.free md ops listed i && zha md ops T R m t is (listed.setIfInBounds i true)
theorem zor {l : List Oper} {T R : List Nat} {lr : List Oper} {m : Nat} {t : Tw} {Q : Exit → Act → World → Prop} (hsel : Region.noSelect l.toArray = true) (hQ : ∀ c a w, Q (.panic c) a w → False) (hlr : lr.map some = R.map (l.toArray[·]?)) :
 ∀ (F : List Nat) (k : List Oper) (listed : Array Bool) (a : Act) (w : World), k.map some = F.map (l.toArray[·]?) → k.all zb1 = true → Closed md l.toArray listed → zha md l.toArray T R m t F listed = true →
 (∀ i ∈ F, T.contains i = false ∧ ∀ t, T.contains t = true → zcx md l.toArray l.toArray.size t i = true) → D w → wpQuiet P l.toArray D (fun a' => seqW P l D Q lr t a' w) k a →
 anyD P md l.toArray D T Q (F.length + (m + R.length)) listed a w := by
 intro F
 induction F with
 | nil =>
  intro k listed a w hk _ hc hB _ hD h
  obtain rfl : k = [] := by cases k with | nil => rfl | cons x xs => simp at hk
  simp only [List.length_nil, Nat.zero_add]
  exact zoq hsel hQ hlr m t listed a w hc hB hD h
 | cons i is ih =>
  intro k listed a w hk hp hc hB hW hD h
  cases k with
  | nil => simp at hk
  | cons o k =>
   simp only [List.map_cons, List.cons.injEq] at hk
   simp only [List.all_cons, Bool.and_eq_true] at hp
   simp only [zha, Bool.and_eq_true] at hB
   obtain ⟨⟨hr, hf⟩, hB2⟩ := hB
   have hr' : i ∈ Region.ready md l.toArray listed := by simpa using hr
   have hq : qOp P l.toArray D i (wpQuiet P l.toArray D (fun a' => seqW P l D Q lr t a' w) k) a := by unfold qOp; simp only [← hk.1]; exact h
   obtain ⟨v, hy, hK⟩ := yieldsIn_of_qOp hk.1.symm hq
   have hy2 : YieldsD P l.toArray D o v a := by
    rcases hy with ⟨hw, h1⟩ | ⟨hw, rfl⟩
    · exact .inl ⟨hw, YieldsD.of_quiet hp.1 h1⟩
    · exact .inr ⟨hw, rfl⟩
   obtain ⟨hTi, hwait⟩ := hW i (by simp)
   rw [List.length_cons, show is.length + 1 + (m + R.length) = (is.length + (m + R.length)) + 1 by omega]
   exact zkh hk.1.symm hsel hwait hTi _ listed a w hc (Region.free_spec hk.1.symm hf) hr' hy2 hD (ih k _ _ w hk.2 hp.2 (hc.set hr') hB2 (fun j hj => hW j (by simp [hj])) hD hK)
def zhb (md : Region.Mode) (ops : Array Oper) (F : List Nat) (m : Nat) (t : Tw) (T R : List Nat) : List Nat → Array Bool → Bool
 | [], listed => zha md ops T R m t F listed
 | i :: is, listed => (Region.ready md ops listed).contains i && Region.free md ops listed i && !T.contains i && zhb md ops F m t T R is (listed.setIfInBounds i true)
def zhc (md : Region.Mode) (ops : Array Oper) (A F : List Nat) (m : Nat) (t : Tw) (T R : List Nat) : Bool :=
 Region.noSelect ops && decide (A.length + (F.length + (m + R.length)) = ops.size) && T.all (fun t => F.all fun i => zcx md ops ops.size t i) && F.all (fun i => !T.contains i) &&
  zhb md ops F m t T R A (Array.replicate ops.size false)
theorem zos {l : List Oper} {T R : List Nat} {lr : List Oper} {m : Nat} {t : Tw} {Q : Exit → Act → World → Prop} (hsel : Region.noSelect l.toArray = true) (hQ : ∀ c a w, Q (.panic c) a w → False) (hlr : lr.map some = R.map (l.toArray[·]?)) {F : List Nat} {lf : List Oper} (hlf : lf.map some = F.map (l.toArray[·]?)) (hpf : lf.all zb1 = true)
 (hW : ∀ i ∈ F, T.contains i = false ∧ ∀ t, T.contains t = true → zcx md l.toArray l.toArray.size t i = true) :
 ∀ (A : List Nat) (la : List Oper) (listed : Array Bool) (a : Act) (w : World), la.map some = A.map (l.toArray[·]?) → la.all zb1 = true → Closed md l.toArray listed → zhb md l.toArray F m t T R A listed = true →
 D w → wpQuiet P l.toArray (fun _ => True) (fun a' => wpQuiet P l.toArray D (fun a' => seqW P l D Q lr t a' w) lf a') la a → anyD P md l.toArray D T Q (A.length + (F.length + (m + R.length))) listed a w := by
 intro A
 induction A with
 | nil =>
  intro la listed a w hla _ hc hB hD h
  obtain rfl : la = [] := by cases la with | nil => rfl | cons x xs => simp at hla
  rw [List.length_nil, Nat.zero_add]
  exact zor hsel hQ hlr F lf listed a w hlf hpf hc hB hW hD h
 | cons i is ih =>
  intro la listed a w hla hp hc hB hD h
  cases la with
  | nil => simp at hla
  | cons o la =>
   simp only [List.map_cons, List.cons.injEq] at hla
   simp only [List.all_cons, Bool.and_eq_true] at hp
   simp only [zhb, Bool.and_eq_true, Bool.not_eq_true'] at hB
   obtain ⟨⟨⟨hr, hf⟩, hTi⟩, hB2⟩ := hB
   have hr' : i ∈ Region.ready md l.toArray listed := by simpa using hr
   have hq : qOp P l.toArray (fun _ => True) i (wpQuiet P l.toArray (fun _ => True) (fun a' => wpQuiet P l.toArray D (fun a' => seqW P l D Q lr t a' w) lf a') la) a := by unfold qOp; simp only [← hla.1]; exact h
   obtain ⟨v, hy, hK⟩ := yieldsIn_of_qOp hla.1.symm hq
   rw [List.length_cons, show is.length + 1 + (F.length + (m + R.length)) = (is.length + (F.length + (m + R.length))) + 1 by omega]
   have hy2 : Yields P l.toArray o v a := by
    rcases hy with ⟨hw, h1⟩ | ⟨hw, rfl⟩
    · exact .inl ⟨hw, fun w => YieldsD.of_quiet hp.1 h1 w trivial⟩
    · exact .inr ⟨hw, rfl⟩
   exact zki hQ hla.1.symm hsel hTi _ listed a w (Region.free_spec hla.1.symm hf) hr' hy2 (ih la _ _ w hla.2 hp.2 (hc.set hr') hB2 hD hK)
theorem zkk {id : Nat} {Q : Exit → Act → World → Prop} {a : Act} {w : World} {l : List Oper} (A F : List Nat) (m : Nat) (t : Tw) (T R : List Nat) (hm : P.follows .mixedOrders = true)
 (hB : (zhc .any l.toArray A F m t T R && (A ++ F ++ R).all (fun i => decide (i < l.length)) && (zaj l A).all zb1 && (zaj l F).all zb1) = true) (hD : D { w with drawn := w.drawn + 1 })
 (h : wpQuiet P l.toArray (fun _ => True) (fun a' => wpQuiet P l.toArray D (fun a' => seqW P l D (fun x a w => x = .normal ∧ Q .normal a w) (zaj l R) t a' { w with drawn := w.drawn + 1 }) (zaj l F) a') (zaj l A) a) :
 (Code.region id l.toArray true).wp P Q a w := by
 simp only [Bool.and_eq_true, List.all_append] at hB
 obtain ⟨⟨⟨hP, ⟨hA, hF⟩, hBB⟩, hpA⟩, hpF⟩ := hB
 simp only [zhc, Bool.and_eq_true, decide_eq_true_eq] at hP
 obtain ⟨⟨⟨⟨hsel, hsz⟩, hre⟩, hFn⟩, hgo⟩ := hP
 refine wp_region_any hm ?_
 have hc : Closed .any l.toArray (Array.replicate l.toArray.size false) := fun j oj _ hl => (by rw [getD_replicate_false] at hl; cases hl)
 have h2 := zos (P := P) (md := .any) (D := D) (T := T) (Q := fun x a w => x = .normal ∧ Q .normal a w) hsel (fun c a w h => by cases h.1) (R := R) (m := m) (F := F) (zfo hBB) (zfo hF) hpF
  (fun i hi => ⟨by have := List.all_eq_true.1 hFn i hi; rw [Bool.not_eq_true'] at this; exact this, fun t ht => List.all_eq_true.1 (List.all_eq_true.1 hre t (by simpa using ht)) i hi⟩)
  A (zaj l A) _ a _ (zfo hA) hpA hc hgo hD h
 rw [hsz] at h2
 exact zkg (fun x a w hx => by obtain ⟨rfl, h⟩ := hx; exact h) _ _ _ _ (zoo _ _ _ _ h2)
theorem zdc {id : Nat} {Q : Exit → Act → World → Prop} {a : Act} {w : World} {l : List Oper} (A F : List Nat) (m : Nat) (t : Tw) (T R : List Nat) (hm : P.follows .mixedOrders = true)
 (hB : (zhc .any l.toArray A F m t T R && (A ++ F ++ R).all (fun i => decide (i < l.length)) && (zaj l A).all zb1 && (zaj l F).all zb1) = true)
 (h : wpQuiet P l.toArray (fun _ => True) (fun a' => wpQuiet P l.toArray (fun w' => ∃ p : Regrown, w' = Go.Sort.grow (redrawn w p.d) p.os) (fun a' => seqW P l (fun w' => ∃ p : Regrown, w' = Go.Sort.grow (redrawn w p.d) p.os) (fun x a w => x = .normal ∧ Q .normal a w) (zaj l R) t a' w.drew) (zaj l F) a') (zaj l A) a) :
 (Code.region id l.toArray true).wp P Q a w :=
 zkk (D := fun w' => ∃ p : Regrown, w' = Go.Sort.grow (redrawn w p.d) p.os) A F m t T R hm hB ⟨⟨w.drawn + 1, #[]⟩, by rw [Go.Sort.grow_empty]; rfl⟩ h
variable {l : List Oper} {Q : Exit → Act → World → Prop} {lr : List Oper} {t t' : Tw} {b b' : Nat} {o o' : Oper} {a : Act} {w : World}
theorem zai (h : l[b]? = some o) (k : wpList P l.toArray (fun x a' w' => x = .normal ∧ D w' ∧ seqW P l D Q lr t a' w') [o] a w) : seqW P l D Q lr (.one b t) a w := by
 unfold seqW
 rw [h]
 exact k
theorem zot (h : l[b]? = some o) (h' : l[b']? = some o') (k : wpList P l.toArray (fun x a' w' => x = .normal ∧ D w' ∧ seqW P l D Q lr t a' w') [o] a w)
 (k' : wpList P l.toArray (fun x a' w' => x = .normal ∧ D w' ∧ seqW P l D Q lr t' a' w') [o'] a w) : seqW P l D Q lr (.two b t b' t') a w := by
 unfold seqW
 rw [h, h']
 exact ⟨k, k'⟩
theorem zbf (h : l[b]? = some o) (k : wpQuiet P l.toArray (fun _ => True) (fun a' => seqW P l D Q lr t a' w) [o] a) : seqW P l D Q lr (.first b t) a w := by
 unfold seqW
 rw [h]
 exact k
theorem zbg (k : wpList P l.toArray Q lr a w) : seqW P l D Q lr .rest a w := k
end
end
section
open Go.RowKit Go.Sort
theorem Chg.cell1 {F : Nat → Prop} {a b : World} (h : Chg F a b) {p : Addr} (hk : p.block < a.heap.size) (hn : ¬ F p.block) : b.cell? p = a.cell? p :=
 World.cell?_of_block (h.block p.block hk hn)
theorem Chg.frozen1 {F : Nat → Prop} {a b : World} (h : Chg F a b) {p : Addr} (hk : p.block < a.heap.size) (hn : ¬ F p.block) : b.frozen? p = a.frozen? p :=
 World.frozen?_of_block (h.block p.block hk hn)
structure ChgTo (F : Nat → Prop) (u : World) where
 w : World
 h : Chg F u w
instance (F : Nat → Prop) (u : World) : Nonempty (ChgTo F u) := ⟨⟨u, Chg.refl _ _⟩⟩
theorem ChgTo.cell {F : Nat → Prop} {u : World} {a : Addr} {v : Value} (h : u.cell? a = some v) (hn : ¬ F a.block) (p : ChgTo F u) : p.w.cell? a = some v := by
 rw [p.h.cell1 (World.block_lt_of_cell? _ _ h) hn]; exact h
theorem zcl {P : Program} {id : Nat} {Q : Exit → Act → World → Prop} {a : Act} {w : World} {l : List Oper} (G : Nat → Prop) (A F : List Nat) (m : Nat) (t : Tw) (T R : List Nat) (hm : P.follows .mixedOrders = true)
 (hB : (zhc .any l.toArray A F m t T R && (A ++ F ++ R).all (fun i => decide (i < l.length)) && (zaj l A).all zb1 && (zaj l F).all zb1) = true)
 (h : wpQuiet P l.toArray (fun _ => True) (fun a' => wpQuiet P l.toArray (fun w' => ∃ p : ChgTo G w, w' = p.w) (fun a' => seqW P l (fun w' => ∃ p : ChgTo G w, w' = p.w) (fun x a w => x = .normal ∧ Q .normal a w) (zaj l R) t a' w.drew) (zaj l F) a') (zaj l A) a) :
 (Code.region id l.toArray true).wp P Q a w :=
 zkk (D := fun w' => ∃ p : ChgTo G w, w' = p.w) A F m t T R hm hB ⟨⟨w.drew, Chg.of_below (zac (Below.refl _ _) 1) _⟩, rfl⟩ h
theorem OH.fill2 {α : Type} {t : Ty α} {e : TypeId} {w : World} {F : Nat → Prop} {v : Value} {xs : List α} {css : List (List Value)} {Fs : Nat → Nat → Prop} {k : Nat} (h : OH t e w F v xs css Fs k) {cs : List Value} (hcs : css[k]? = some cs) {y : α} {Fe : Nat → Prop} (hy : t.O w Fe cs y) (hd : ∀ b, Fe b → Fs k b ∨ ¬ F b) :
 OS t e w (fun b => F b ∨ Fe b) v (xs.set k y) := by
 obtain ⟨h1, h2, h3, h4, h5, h6, h7⟩ := h
 refine ⟨css, fun i => if i = k then Fe else Fs i, by rw [List.length_set]; exact h1, by rw [List.length_set]; exact h2, fun g hg => .inl (h4 g hg), fun i b hb => ?_, fun i j b hne hi hj => ?_, fun i hi hi' => ?_⟩
 · change (if i = k then Fe else Fs i) b at hb
   by_cases hik : i = k
   · rw [if_pos hik] at hb
     refine ⟨.inr hb, fun hg => ?_⟩
     rcases hd b hb with h8 | h8
     · exact (h5 k b h8).2 hg
     · exact h8 (h4 b hg)
   · rw [if_neg hik] at hb
     exact ⟨.inl (h5 i b hb).1, (h5 i b hb).2⟩
 · change (if i = k then Fe else Fs i) b at hi
   change (if j = k then Fe else Fs j) b at hj
   by_cases hik : i = k
   · rw [if_pos hik] at hi
     rw [if_neg (fun e => hne (hik.trans e.symm))] at hj
     rcases hd b hi with h8 | h8
     · exact h6 k j b (fun e => hne (hik.trans e)) h8 hj
     · exact h8 (h5 j b hj).1
   · rw [if_neg hik] at hi
     by_cases hjk : j = k
     · rw [if_pos hjk] at hj
       rcases hd b hj with h8 | h8
       · exact h6 k i b (fun e => hik e.symm) h8 hi
       · exact h8 (h5 i b hi).1
     · rw [if_neg hjk] at hj
       exact h6 i j b hne hi hj
 · by_cases hik : i = k
   · subst hik
     rw [List.getElem_set_self]
     rw [List.getElem?_eq_getElem hi', Option.some.injEq] at hcs
     rw [hcs]
     simpa using hy
   · rw [List.getElem_set_ne (fun e => hik e.symm)]
     simpa [hik] using h7 i (by rw [List.length_set] at hi; exact hi) hi' hik
def zik (Ls : List (List UInt8)) (X : List zad) : Prop := X.length = Ls.length ∧ ∀ (i : Nat) (x : zad) (L : List UInt8), X[i]? = some x → Ls[i]? = some L → x.1.size ≤ L.length ∧ x.2.2.length ≤ L.length
theorem zou : ∀ {Ls : List (List UInt8)} {X : List zad}, zik Ls X → hM.sz X ≤ Ls.length + 2 * (Ls.map List.length).sum := by
 have key : ∀ (Ls : List (List UInt8)) (X : List zad), zik Ls X → hSt.szL X ≤ 2 * (Ls.map List.length).sum := by
  intro Ls
  induction Ls with
  | nil =>
   intro X h
   have : X = [] := List.eq_nil_of_length_eq_zero (by rw [h.1]; rfl)
   rw [this]; simp [Hs.szL]
  | cons L Ls ih =>
   intro X h
   cases X with
   | nil => have := h.1; simp at this
   | cons x X =>
    have h0 := h.2 0 x L rfl rfl
    have hr := ih X ⟨by have := h.1; simpa using this, fun i y M hy hM => h.2 (i + 1) y M (by simpa using hy) (by simpa using hM)⟩
    obtain ⟨s, l, us⟩ := x
    rw [Hs.szL, zh9]
    simp only [List.map_cons, List.sum_cons]
    simp only at h0
    omega
 intro Ls X h
 show X.length + hSt.szL X ≤ _
 have := key Ls X h
 have := h.1
 omega
end
section
open Go.RowKit
theorem zd7 (b lo : Nat) (A : Option Addr) (n c : Nat) (code : List UInt8) (K : Nat) (m : Int) (w : World) (h : Src w b lo A n c code K) (hK : K ≤ 100000000000) (hm : m ≤ 65536) :
 Calls Tryz.prog 45 #[.pointer (some ⟨b, 0, none⟩), .int .i64 m] w fun e w' => ∃ r, e = .returned (.bool r) ∧ Src w' b lo A n c code (K + 2) ∧ Mid b (b + 1) w w' := by
 go_enter Tryz.func45, Tryz.ntmps45
 go_wp2_with fail
 refine (za4 b lo A n c code K m w h hK hm).mono ?_
 rintro e w1 ⟨v, rfl, -, s1, m1⟩
 go_wp2
 go_ret
 exact ⟨_, rfl, s1, m1⟩
theorem zov (b lo : Nat) (A : Option Addr) (n c : Nat) (code : List UInt8) (K : Nat) (g m d : Nat) (w : World) (h : Src w b lo A n c code K) (hK : K ≤ 100000000000) (hm : 0 < m ∧ m ≤ 60000) (hg : g ≠ b) (hgw : g < w.heap.size)
 (hc : ∀ j, j < m → ∃ s : ByteArray, s.size ≤ 6 ∧ w.cell? ⟨g, j, none⟩ = some (.string s)) :
 Calls Tryz.prog 95 #[.pointer (some ⟨b, 0, none⟩), .slice (some ⟨g, 0, none⟩) m d] w fun e w' => ∃ s : ByteArray, e = .returned (.string s) ∧ s.size ≤ 6 ∧ Src w' b lo A n c code (K + 2) ∧ Mid b (b + 1) w w' := by
 have HC := Lib.hid hc
 clear hc
 go_enter Tryz.func95, Tryz.ntmps95
 go_wp2_with fail
 refine (za4 b lo A n c code K m w h hK (by omega)).mono ?_
 rintro e w1 ⟨v, rfl, ⟨v0, v1⟩, s1, m1⟩
 obtain ⟨k, rfl⟩ : ∃ k : Nat, v = k := ⟨v.toNat, by omega⟩
 have hk : k < m := by omega
 have hk2 : (k : Int) < (m : Int) := by omega
 obtain ⟨s, hs, hx0⟩ := HC.out k hk
 have hx : w1.cell? ⟨g, k, none⟩ = some (.string s) := by
  rw [World.cell?_of_block (m1.block g hgw (by omega))]
  exact hx0
 clear hx0
 go_wp2
 go_ret
 exact ⟨s, rfl, hs, s1, m1⟩
def M.tiny (m : Nat) (xs : List zad) : Prop := ∀ x ∈ xs, x.1.size ≤ 6 ∧ x.2.2.length ≤ m
theorem zow {m : Nat} {xs : List zad} {y : zad} (h : M.tiny m xs) (hy : y.1.size ≤ 6 ∧ y.2.2.length ≤ m) : M.tiny m (xs ++ [y]) := fun x hx => by
 rcases List.mem_append.1 hx with hx | hx
 · exact h x hx
 · rw [List.mem_singleton.1 hx]; exact hy
theorem zge {m : Nat} {xs : List zad} {k : Nat} {y : zad} (h : M.tiny m xs) (hy : y.1.size ≤ 6 ∧ y.2.2.length ≤ m) : M.tiny m (xs.set k y) := fun x hx => by
 rcases List.mem_or_eq_of_mem_set hx with hx | hx
 · exact h x hx
 · rw [hx]; exact hy
end
section
open Go.RowKit Go.Sort
def zox : List ByteArray := [⟨#[100, 114, 117, 109, 115]⟩, ⟨#[98, 97, 115, 115]⟩, ⟨#[98, 117, 115]⟩, ⟨#[101, 99, 104, 111]⟩, ⟨#[107, 101, 121, 115]⟩, ⟨#[99, 104, 111, 105, 114]⟩]
def zch (j : Nat) : ByteArray := (zox[j]?).getD ⟨#[]⟩
def zep : ByteArray := ⟨#[109, 97, 115, 116, 101, 114]⟩
theorem zfp {P : Nat → Prop} (h0 : P 0) (h1 : P 1) (h2 : P 2) (h3 : P 3) (h4 : P 4) (h5 : P 5) : ∀ j, j < 6 → P j := by
 intro j hj
 match j, hj with
 | 0, _ => exact h0
 | 1, _ => exact h1
 | 2, _ => exact h2
 | 3, _ => exact h3
 | 4, _ => exact h4
 | 5, _ => exact h5
 | j + 6, hj => omega
theorem zoy (j : Nat) (hj : j < 6) : (zch j).size ≤ 6 := by
 refine zfp (P := fun j => (zch j).size ≤ 6) ?_ ?_ ?_ ?_ ?_ ?_ j hj <;> decide
theorem zoz (j : Nat) (hj : j < 6) : zc0 (zch j) = true := by
 refine zfp (P := fun j => zc0 (zch j) = true) ?_ ?_ ?_ ?_ ?_ ?_ j hj <;> rfl
theorem zo0 (i j : Nat) (hi : i < 6) (hj : j < 6) (h : zch i = zch j) : i = j := by
 have key : ∀ i, i < 6 → ∀ j, j < 6 → (zch i).data.toList = (zch j).data.toList → i = j := by
  refine zfp ?_ ?_ ?_ ?_ ?_ ?_ <;> (refine zfp ?_ ?_ ?_ ?_ ?_ ?_ <;> decide)
 exact key i hi j hj (by rw [h])
theorem zo1 (i : Nat) (hi : i < 6) : zch i ≠ zep := by
 have key : ∀ i, i < 6 → (zch i).data.toList ≠ zep.data.toList := by
  refine zfp ?_ ?_ ?_ ?_ ?_ ?_ <;> decide
 exact fun e => key i hi (by rw [e])
def M.usOk (N j t : Nat) (us : List (Int × Int)) : Prop := zbo N j us = true ∧ (∀ u ∈ us, u.1 < ((j + 1 + t : Nat) : Int)) ∧ (j + 1 + t = N → us.length ≠ 0)
theorem zo2 {m : Int} : ∀ {us : List (Int × Int)} {last : Int} {p g : Int}, zbo m last us = true → (∀ u ∈ us, u.1 < p) → last < p → p ≤ m - 1 → M.smp g = true → zbo m last (us ++ [(p, g)]) = true := by
 intro us
 induction us with
 | nil =>
  intro last p g _ _ h1 h2 h3
  rw [List.nil_append, zbo, zbo, Bool.and_true, Bool.and_eq_true]
  exact ⟨zc1.2 ⟨by show last + 1 ≤ p; omega, h2⟩, h3⟩
 | cons u us ih =>
  intro last p g h0 hu h1 h2 h3
  rw [zbo, Bool.and_eq_true] at h0
  rw [List.cons_append, zbo, Bool.and_eq_true]
  exact ⟨h0.1, ih h0.2 (fun v hv => hu v (by simp [hv])) (hu u (by simp)) h2 h3⟩
theorem M.usOk.zero {N j : Nat} (h : j + 1 < N) : M.usOk N j 0 [] := ⟨rfl, fun u hu => by simp at hu, fun e => absurd e (by omega)⟩
theorem M.usOk.skip {N j t : Nat} {us : List (Int × Int)} (h : M.usOk N j t us) (h2 : j + 1 + t + 1 < N ∨ us.length ≠ 0) : M.usOk N j (t + 1) us :=
 ⟨h.1, fun u hu => by have := h.2.1 u hu; omega, fun e => by omega⟩
theorem M.usOk.push {N j t : Nat} {us : List (Int × Int)} (h : M.usOk N j t us) {TT : Nat} (h1 : TT = j + 1 + t) (h2 : TT < N) {g : Int} (h3 : -2147483648 ≤ g ∧ g ≤ 2147483647) : M.usOk N j (t + 1) (us ++ [((TT : Int), g)]) := by
 refine ⟨zo2 h.1 (fun u hu => by have := h.2.1 u hu; omega) (by omega) (by omega) (zc1.2 h3), fun u hu => ?_, fun _ => by simp⟩
 rcases List.mem_append.1 hu with hu | hu
 · have := h.2.1 u hu; omega
 · rw [List.mem_singleton.1 hu]; show (TT : Int) < _; omega
def M.drawOk (N : Nat) (ms : List zad) : Prop := ∀ k x, ms[k]? = some x → k + 1 < N ∧ x.1 = zch k ∧ M.inn x.2.1 0 32 = true ∧ zbp x.2.2 k N = true
theorem M.drawOk.nil (N : Nat) : M.drawOk N [] := fun k x hx => by simp at hx
theorem M.drawOk.push {N j t : Nat} {ms : List zad} (h : M.drawOk N ms) (hl : ms.length = j) (hj : j + 1 < N) {s : ByteArray} (hs : s = zch j) {l : Int} (hlt : 0 ≤ l ∧ l ≤ 32) {us : List (Int × Int)} (hus : M.usOk N j t us) (hu4 : us.length ≤ 4) (he : N = j + 1 + t ∨ 4 ≤ us.length) : M.drawOk N (ms ++ [(s, l, us)]) := by
 intro k x hx
 rcases Nat.lt_or_ge k ms.length with h1 | h1
 · rw [List.getElem?_append_left h1] at hx
   exact h k x hx
 · rw [List.getElem?_append_right h1] at hx
   have h2 := (List.getElem?_eq_some_iff.1 hx).1
   simp only [List.length_singleton] at h2
   obtain rfl : k = j := by omega
   rw [show k - ms.length = 0 by omega] at hx
   simp only [List.getElem?_cons_zero, Option.some.injEq] at hx
   subst hx
   refine ⟨hj, hs, zc1.2 hlt, ?_⟩
   have h0 : 1 ≤ us.length := by
    rcases he with he | he
    · have := hus.2.2 he.symm; omega
    · omega
   show zbp us k N = true
   rw [zbp, hus.1, if_neg (by omega), Bool.true_and]
   exact zc1.2 (by omega)
theorem M.drawOk.mix {N : Nat} {ms : List zad} (h : M.drawOk N ms) (hl : ms.length + 1 = N) (hN : N ≤ 7) {l : Int} (hlt : 0 ≤ l ∧ l ≤ 32) : zas (ms ++ [(zep, l, [])]) = true := by
 have hlen : (ms ++ [(zep, l, ([] : List (Int × Int)))]).length = N := by simp; omega
 rw [zas, hlen, Bool.and_eq_true, List.all_eq_true]
 refine ⟨zc1.2 (by omega), fun k hk => ?_⟩
 have hk := List.mem_range.1 hk
 have htk : (ms ++ [(zep, l, ([] : List (Int × Int)))]).take k = ms.take k := by rw [List.take_append_of_le_length (by omega)]
 have hno : ∀ s : ByteArray, (∀ i, i < k → s ≠ zch i) → zdg s ((ms.take k).map (·.1)) = false := by
  intro s hs
  rw [zdg, List.any_eq_false]
  intro t ht
  obtain ⟨y, hy, rfl⟩ := List.mem_map.1 ht
  obtain ⟨i, hi⟩ := List.getElem?_of_mem hy
  have hi2 : i < k := by
   have := (List.getElem?_eq_some_iff.1 hi).1
   rw [List.length_take] at this
   omega
  rw [List.getElem?_take, if_pos hi2] at hi
  have := (h i y hi).2.1
  simp only [decide_eq_true_eq]
  intro e
  exact hs i hi2 (e.symm.trans this)
 rcases Nat.lt_or_ge k ms.length with h1 | h1
 · have hx : ms[k]? = some ms[k] := List.getElem?_eq_getElem h1
   generalize ms[k] = x at hx
   obtain ⟨s, l', us⟩ := x
   have h2 := h k _ hx
   simp only at h2
   rw [zf9 (x := (s, l', us)) (by rw [List.getElem?_append_left h1]; exact hx), hlen, htk, Bool.and_eq_true, zbi]
   simp only
   rw [h2.2.1, zoz k (by omega), h2.2.2.1, h2.2.2.2, hno (zch k) (fun i hi e => by have := zo0 k i (by omega) (by omega) e; omega)]
   exact ⟨rfl, rfl⟩
 · have e : k = ms.length := by omega
   rw [zf9 (x := (zep, l, [])) (by rw [List.getElem?_append_right h1, e, Nat.sub_self]; rfl), hlen, htk, Bool.and_eq_true, zbi]
   simp only
   rw [show zc0 zep = true from rfl, zc1.2 hlt, hno zep (fun i hi e => zo1 i (by omega) e.symm), zbp, zbo, if_pos (by omega)]
   exact ⟨rfl, rfl⟩
theorem zo3 (w : World) (us : Array Value) (e : TypeId) (m : Nat) (hm : ∀ j, j < m → ∃ s : ByteArray, s.size ≤ 6 ∧ us[j]? = some (.string s)) : ∀ j, j < m → ∃ s : ByteArray, s.size ≤ 6 ∧ (w.alloc (.cells us e)).cell? ⟨w.heap.size, j, none⟩ = some (.string s) := fun j hj => by
 obtain ⟨s, h1, h2⟩ := hm j hj
 refine ⟨s, h1, ?_⟩
 rw [cell_of_row _ w.heap.size j _ e (0, 0) (heap_alloc_new w _)]
 simpa using h2
theorem zo4 (w : World) (us : Array Value) (e : TypeId) (hm : ∀ j, j < 6 → us[j]? = some (.string (zch j))) : ∀ j, j < 6 → (w.alloc (.cells us e)).cell? ⟨w.heap.size, j, none⟩ = some (.string (zch j)) := fun j hj => by
 rw [cell_of_row _ w.heap.size j _ e (0, 0) (heap_alloc_new w _)]
 exact hm j hj
theorem zae (w : World) (g : Nat) (v : Value) {i j : Nat} (h : i ≠ j) : (w.setCell ⟨g, i, none⟩ v).cell? ⟨g, j, none⟩ = w.cell? ⟨g, j, none⟩ := World.cell?_setCell_other w ⟨g, i, none⟩ ⟨g, j, none⟩ v (fun e => h (Addr.mk.inj e).2.1)
structure DM (w : World) (b lo : Nat) (A : Option Addr) (n c : Nat) (code : List UInt8) (NB K : Nat) (ms : List zad) (v : Value) (wr : World) : Prop where
 c0 : wr.cell? ⟨w.heap.size, 0, none⟩ = some (.slice none 0 0)
 f0 : wr.frozen? ⟨w.heap.size, 0, none⟩ = false
 c1 : wr.cell? ⟨w.heap.size + 1, 0, none⟩ = some v
 f1 : wr.frozen? ⟨w.heap.size + 1, 0, none⟩ = false
 nm : Hid (∀ j, j < 6 → wr.cell? ⟨NB, j, none⟩ = some (.string (zch j)))
 own : OS tSt 100 wr (Iv (NB + 1) wr.heap.size) v ms
 tiny : Hid (M.tiny 4 ms)
 src : Src wr b lo A n c code K
 mid : Mid b (b + 1) w wr
 sz : NB + 1 ≤ wr.heap.size
 lo : w.heap.size + 2 ≤ NB
theorem DM.step {w wr w' : World} {b lo : Nat} {A : Option Addr} {n c : Nat} {code : List UInt8} {NB K K' : Nat} {ms : List zad} {v : Value} (h : DM w b lo A n c code NB K ms v wr) (hb : b < w.heap.size) (hs : Src w' b lo A n c code K') (hm : Mid b (b + 1) wr w') : DM w b lo A n c code NB K' ms v w' := by
 have hz := h.sz
 have hl := h.lo
 exact ⟨hm.cellK (by omega) (.inr (by omega)) h.c0, hm.frozK (by omega) (.inr (by omega)) h.f0, hm.cellK (by omega) (.inr (by omega)) h.c1, hm.frozK (by omega) (.inr (by omega)) h.f1,
  Lib.hid (fun j hj => hm.cellK (by omega) (.inr (by omega)) (h.nm.out j hj)),
  (h.own.mid hm (.inr (by omega)) (Nat.le_refl _)).iv (Nat.le_refl _) hm.size, h.tiny, hs, h.mid.trans hm, Nat.le_trans hz hm.size, hl⟩
theorem DM.more {w wr : World} {b lo : Nat} {A : Option Addr} {n c : Nat} {code : List UInt8} {NB K K' : Nat} {ms : List zad} {v : Value} (h : DM w b lo A n c code NB K ms v wr) (hK : K ≤ K') : DM w b lo A n c code NB K' ms v wr :=
 ⟨h.c0, h.f0, h.c1, h.f1, h.nm, h.own, h.tiny, h.src.more hK, h.mid, h.sz, h.lo⟩
theorem DM.push {w wr w4 : World} {b lo : Nat} {A : Option Addr} {n c : Nat} {code : List UInt8} {NB K : Nat} {ms : List zad} {v v4 : Value} {y : zad} {X : Nat} (h : DM w b lo A n c code NB K ms v wr) (hb : b < w.heap.size)
 (own : OS tSt 100 w4 (fun z => Iv (NB + 1) wr.heap.size z ∨ Iv X wr.heap.size z ∨ wr.heap.size < z ∧ z < w4.heap.size) v4 (ms ++ [y])) (hX : NB + 1 ≤ X) (hc : Chg (Iv (NB + 1) wr.heap.size) wr w4) (hy : y.1.size ≤ 6 ∧ y.2.2.length ≤ 4) :
 DM w b lo A n c code NB K (ms ++ [y]) v4 (w4.setCell ⟨w.heap.size + 1, 0, none⟩ v4) := by
 have hz := h.sz
 have hl := h.lo
 have hbw := h.src.lt
 have hs4 : wr.heap.size ≤ w4.heap.size := hc.size
 have hn : ∀ k, k < NB + 1 → ¬ Iv (NB + 1) wr.heap.size k := fun k hk hi => by have h1 : NB + 1 ≤ k := hi.1; omega
 have C1 : ∀ (k o : Nat) (u : Option Value), k < NB + 1 → k ≠ w.heap.size + 1 → wr.cell? ⟨k, o, none⟩ = u → (w4.setCell ⟨w.heap.size + 1, 0, none⟩ v4).cell? ⟨k, o, none⟩ = u := fun k o u hk hk2 hu => by
  rw [World.cell?_of_block (heap_setCell_other w4 ⟨w.heap.size + 1, 0, none⟩ k v4 hk2), hc.cell1 (show k < _ by omega) (hn k hk)]; exact hu
 have v0 : w4.cell? ⟨w.heap.size + 1, 0, none⟩ = some v := by rw [hc.cell1 (show w.heap.size + 1 < _ by omega) (hn _ (by show w.heap.size + 1 < _; omega))]; exact h.c1
 have CB : Chg (fun b => b = w.heap.size + 1) w4 (w4.setCell ⟨w.heap.size + 1, 0, none⟩ v4) := Chg.set w4 (w.heap.size + 1) 0 _ rfl
 have e95 : (w4.setCell ⟨w.heap.size + 1, 0, none⟩ v4).heap.size = w4.heap.size := by simp
 have CG : Chg (fun z => Iv (NB + 1) wr.heap.size z ∨ z = w.heap.size + 1) wr (w4.setCell ⟨w.heap.size + 1, 0, none⟩ v4) := (hc.wide (fun _ h => .inl h)).trans (CB.wide (fun _ h => .inr h))
 have MB : Below w.heap.size wr (w4.setCell ⟨w.heap.size + 1, 0, none⟩ v4) := CG.toBelow (fun z h => by
  rcases h with h | h
  · have h1 : NB + 1 ≤ z := h.1; omega
  · omega) (by omega)
 refine ⟨C1 _ _ _ (by omega) (by omega) h.c0, ?_, World.cell?_setCell_same _ _ _ v0, ?_, Lib.hid (fun j hj => ?_), ?_, Lib.hid (zow h.tiny.out hy), h.src.below MB hb, ?_, by rw [e95]; omega, hl⟩
 · rw [World.frozen?_setCell, hc.frozen1 (by show w.heap.size < _; omega) (hn _ (by show w.heap.size < _; omega))]; exact h.f0
 · rw [World.frozen?_setCell, hc.frozen1 (by show w.heap.size + 1 < _; omega) (hn _ (by show w.heap.size + 1 < _; omega))]; exact h.f1
 · exact C1 _ _ _ (by omega) (by omega) (h.nm.out j hj)
 · rw [e95]
   refine (own.chg CB (fun z hz' (h' : z = w.heap.size + 1) => ?_)).wide (fun z hz' => ?_)
   · rcases hz' with h1 | h1 | h1
     · have h2 : NB + 1 ≤ z := h1.1; omega
     · have h2 : X ≤ z := h1.1; omega
     · omega
   · rcases hz' with h1 | h1 | h1
     · exact ⟨h1.1, by have h2 : z < wr.heap.size := h1.2; omega⟩
     · exact ⟨by have h2 : X ≤ z := h1.1; omega, by have h2 : z < wr.heap.size := h1.2; omega⟩
     · exact ⟨by omega, by omega⟩
 · exact ⟨MB.os.trans h.mid.os, MB.tape.trans h.mid.tape, MB.output.trans h.mid.output, Nat.le_trans h.mid.size MB.size, fun i hi' hm => (MB.block i (by omega)).trans (h.mid.block i hi' hm)⟩
structure DX (w1 : World) (b lo : Nat) (A : Option Addr) (n c : Nat) (code : List UInt8) (K : Nat) (s : ByteArray) (l : Int) (us : List (Int × Int)) (v : Value) (wr : World) : Prop where
 p0 : wr.cell? ⟨w1.heap.size, 0, none⟩ = some (.string s)
 p1 : wr.cell? ⟨w1.heap.size, 1, none⟩ = some (.int .i64 l)
 p2 : wr.cell? ⟨w1.heap.size, 2, none⟩ = some v
 f1 : wr.frozen? ⟨w1.heap.size, 1, none⟩ = false
 f2 : wr.frozen? ⟨w1.heap.size, 2, none⟩ = false
 own : OS tSd 68 wr (Iv (w1.heap.size + 1) wr.heap.size) v us
 src : Src wr b lo A n c code K
 mid : Mid b (b + 1) w1 wr
 sz : w1.heap.size + 1 ≤ wr.heap.size
theorem DX.step {w1 wr w' : World} {b lo : Nat} {A : Option Addr} {n c : Nat} {code : List UInt8} {K K' : Nat} {s : ByteArray} {l : Int} {us : List (Int × Int)} {v : Value} (h : DX w1 b lo A n c code K s l us v wr) (hb : b < w1.heap.size) (hs : Src w' b lo A n c code K') (hm : Mid b (b + 1) wr w') : DX w1 b lo A n c code K' s l us v w' := by
 have hz := h.sz
 exact ⟨hm.cellK (by omega) (.inr (by omega)) h.p0, hm.cellK (by omega) (.inr (by omega)) h.p1, hm.cellK (by omega) (.inr (by omega)) h.p2, hm.frozK (by omega) (.inr (by omega)) h.f1, hm.frozK (by omega) (.inr (by omega)) h.f2,
  (h.own.mid hm (.inr (by omega)) (Nat.le_refl _)).iv (Nat.le_refl _) hm.size, hs, h.mid.trans hm, Nat.le_trans hz hm.size⟩
theorem DX.more {w1 wr : World} {b lo : Nat} {A : Option Addr} {n c : Nat} {code : List UInt8} {K K' : Nat} {s : ByteArray} {l : Int} {us : List (Int × Int)} {v : Value} (h : DX w1 b lo A n c code K s l us v wr) (hK : K ≤ K') : DX w1 b lo A n c code K' s l us v wr :=
 ⟨h.p0, h.p1, h.p2, h.f1, h.f2, h.own, h.src.more hK, h.mid, h.sz⟩
theorem DX.start {w1 : World} {b lo : Nat} {A : Option Addr} {n c : Nat} {code : List UInt8} {K : Nat} (s : ByteArray) (h : Src w1 b lo A n c code K) :
 DX w1 b lo A n c code K s 0 [] (.slice none 0 0) (w1.alloc (.cells #[.string s, .int .i64 0, .slice none 0 0] 100)) := by
 have hB : Below w1.heap.size w1 (w1.alloc (.cells #[.string s, .int .i64 0, .slice none 0 0] 100)) := (Below.refl _ _).alloc (Nat.le_refl _) _
 exact ⟨by simp [go_sem], by simp [go_sem], by simp [go_sem], by simp [go_sem], by simp [go_sem], OS.nil _ _ _ _, h.below hB h.lt, Mid.of_below hB _ _, by simp⟩
theorem DX.lat {w1 wr : World} {b lo : Nat} {A : Option Addr} {n c : Nat} {code : List UInt8} {K : Nat} {s : ByteArray} {l : Int} {us : List (Int × Int)} {v : Value} (h : DX w1 b lo A n c code K s l us v wr) (hb : b < w1.heap.size) (l' : Int) : DX w1 b lo A n c code K s l' us v (wr.setCell ⟨w1.heap.size, 1, none⟩ (.int .i64 l')) := by
 have hz := h.sz
 have MB : Below w1.heap.size wr (wr.setCell ⟨w1.heap.size, 1, none⟩ (.int .i64 l')) := (Below.refl w1.heap.size wr).setCell (p := ⟨w1.heap.size, 1, none⟩) (Nat.le_refl _) _
 refine ⟨?_, World.cell?_setCell_same _ _ _ h.p1, ?_, (World.frozen?_setCell _ _ _ _).trans h.f1, ?_, ?_, h.src.below MB hb, h.mid.thenB' MB (Nat.le_refl _), by simpa using hz⟩
 · exact (zae wr _ _ (by decide)).trans h.p0
 · exact (zae wr _ _ (by decide)).trans h.p2
 · rw [World.frozen?_setCell]; exact h.f2
 · have hm : Mid w1.heap.size (w1.heap.size + 1) wr (wr.setCell ⟨w1.heap.size, 1, none⟩ (.int .i64 l')) := Mid.cell wr w1.heap.size 1 _
   exact (h.own.mid hm (.inr (Nat.le_refl _)) (Nat.le_refl _)).iv (Nat.le_refl _) hm.size
theorem DX.push {w1 wr w4 : World} {b lo : Nat} {A : Option Addr} {n c : Nat} {code : List UInt8} {K : Nat} {s : ByteArray} {l : Int} {us : List (Int × Int)} {v v4 : Value} {y : Int × Int} (h : DX w1 b lo A n c code K s l us v wr) (hb : b < w1.heap.size)
 (own : OS tSd 68 w4 (fun z => Iv (w1.heap.size + 1) wr.heap.size z ∨ False ∨ wr.heap.size < z ∧ z < w4.heap.size) v4 (us ++ [y])) (hc : Chg (Iv (w1.heap.size + 1) wr.heap.size) wr w4) :
 DX w1 b lo A n c code K s l (us ++ [y]) v4 (w4.setCell ⟨w1.heap.size, 2, none⟩ v4) := by
 have hz := h.sz
 have hs4 : wr.heap.size ≤ w4.heap.size := hc.size
 have hn : ¬ Iv (w1.heap.size + 1) wr.heap.size w1.heap.size := fun hi => by have h1 : w1.heap.size + 1 ≤ w1.heap.size := hi.1; omega
 have q0 : ∀ o u, wr.cell? ⟨w1.heap.size, o, none⟩ = u → w4.cell? ⟨w1.heap.size, o, none⟩ = u := fun o u hu => by rw [hc.cell1 (show w1.heap.size < _ by omega) hn]; exact hu
 have CB : Chg (fun b => b = w1.heap.size) w4 (w4.setCell ⟨w1.heap.size, 2, none⟩ v4) := Chg.set w4 w1.heap.size 2 _ rfl
 have e95 : (w4.setCell ⟨w1.heap.size, 2, none⟩ v4).heap.size = w4.heap.size := by simp
 have CG : Chg (fun z => Iv (w1.heap.size + 1) wr.heap.size z ∨ z = w1.heap.size) wr (w4.setCell ⟨w1.heap.size, 2, none⟩ v4) := (hc.wide (fun _ h => .inl h)).trans (CB.wide (fun _ h => .inr h))
 have MB : Below w1.heap.size wr (w4.setCell ⟨w1.heap.size, 2, none⟩ v4) := CG.toBelow (fun z h => by
  rcases h with h | h
  · have h1 : w1.heap.size + 1 ≤ z := h.1; omega
  · omega) (by omega)
 refine ⟨?_, ?_, World.cell?_setCell_same _ _ _ (q0 _ _ h.p2), (World.frozen?_setCell _ _ _ _).trans ((hc.frozen1 (by show w1.heap.size < _; omega) hn).trans h.f1), ?_, ?_, h.src.below MB hb, h.mid.thenB' MB (Nat.le_refl _), by rw [e95]; omega⟩
 · exact (zae w4 _ _ (by decide)).trans (q0 _ _ h.p0)
 · exact (zae w4 _ _ (by decide)).trans (q0 _ _ h.p1)
 · rw [World.frozen?_setCell, hc.frozen1 (by show w1.heap.size < _; omega) hn]; exact h.f2
 · rw [e95]
   refine (own.chg CB (fun z hz' (h' : z = w1.heap.size) => ?_)).wide (fun z hz' => ?_)
   · rcases hz' with h1 | h1 | h1
     · have h2 : w1.heap.size + 1 ≤ z := h1.1; omega
     · exact h1
     · omega
   · rcases hz' with h1 | h1 | h1
     · exact ⟨h1.1, by have h2 : z < wr.heap.size := h1.2; omega⟩
     · exact h1.elim
     · exact ⟨by omega, by omega⟩
def zo5 (b lo : Nat) (A : Option Addr) (n c : Nat) (code : List UInt8) (K : Nat) (w : World) (e : Ending) (w' : World) : Prop :=
 ∃ A1 c1 ms, e = .returned (.agg #[.slice A1 (List.length ms) c1]) ∧ OS tSt 100 w' (Iv w.heap.size w'.heap.size) (.slice A1 ms.length c1) ms ∧ ms.length ≤ 6 ∧ 1 ≤ ms.length ∧ Hid (M.tiny 4 ms) ∧ Hid (zas ms = true) ∧ Src w' b lo A n c code K ∧ Mid b (b + 1) w w'
end
end Go.Proofs.YtfkcoiefkjmdeaaGreat
