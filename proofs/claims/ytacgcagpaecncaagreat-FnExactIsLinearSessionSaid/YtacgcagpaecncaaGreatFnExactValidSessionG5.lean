import Derived.Test.YtacgcagpaecncaaGreatFnExactValidSessionG4
import Derived.Test.YtacgcagpaecncaaGreatFnExactValidSessionG2
import Derived.Test.YtacgcagpaecncaaGreatFnExactValidSessionG3
import Derived.Lib.QuietBelow
set_option linter.unusedVariables false
set_option linter.unusedSimpArgs false
namespace Go.Proofs.YtacgcagpaecncaaGreat
open Go.RowKit
set_option maxHeartbeats 4000000
set_option maxRecDepth 100000
abbrev Sess := Int × (List (List Int)) × (List (List Clip_)) × (List Int) × (List Patch) × (List Strip)
abbrev tZ : Ty Sess := tI.prod (tSS.prod (tTS.prod (tS.prod (tPS.prod tM))))
abbrev hZ : Hs Sess := hU.prod (hSS.prod (hTS.prod (hS.prod (hPS.prod hM))))
theorem tZ_R {w : World} {B : Nat} {cs : List Value} {a0 : Int} {x1 : List (List Int)} {x2 : List (List Clip_)} {x3 : List Int} {x4 : List Patch} {x5 : List Strip} : tZ.R w B cs (a0, x1, x2, x3, x4, x5) ↔ ∃ A1 n1 c1 A2 n2 c2 A3 n3 c3 A4 n4 c4 A5 n5 c5, cs = [.int .i64 a0, .slice A1 n1 c1, .slice A2 n2 c2, .slice A3 n3 c3, .slice A4 n4 c4, .slice A5 n5 c5] ∧ tSS.R w B [.slice A1 n1 c1] x1 ∧ tTS.R w B [.slice A2 n2 c2] x2 ∧ tS.R w B [.slice A3 n3 c3] x3 ∧ tPS.R w B [.slice A4 n4 c4] x4 ∧ tM.R w B [.slice A5 n5 c5] x5 := by
  constructor
  · rintro ⟨u0, d0, rfl, g0, ⟨u1, d1, rfl, g1, ⟨u2, d2, rfl, g2, ⟨u3, d3, rfl, g3, ⟨u4, d4, rfl, g4, g5⟩⟩⟩⟩⟩
    obtain rfl : u0 = [.int .i64 a0] := g0
    obtain ⟨A1, n1, c1, rfl⟩ := open_sl g1
    obtain ⟨A2, n2, c2, rfl⟩ := open_sl g2
    obtain ⟨A3, n3, c3, rfl⟩ := open_sl g3
    obtain ⟨A4, n4, c4, rfl⟩ := open_sl g4
    obtain ⟨A5, n5, c5, rfl⟩ := open_sl g5
    exact ⟨A1, n1, c1, A2, n2, c2, A3, n3, c3, A4, n4, c4, A5, n5, c5, rfl, g1, g2, g3, g4, g5⟩
  · rintro ⟨A1, n1, c1, A2, n2, c2, A3, n3, c3, A4, n4, c4, A5, n5, c5, rfl, g1, g2, g3, g4, g5⟩
    exact ⟨[.int .i64 a0], _, rfl, rfl, ⟨[.slice A1 n1 c1], _, rfl, g1, ⟨[.slice A2 n2 c2], _, rfl, g2, ⟨[.slice A3 n3 c3], _, rfl, g3, ⟨[.slice A4 n4 c4], _, rfl, g4, g5⟩⟩⟩⟩⟩
theorem tZ_O {w : World} {F : Nat → Prop} {cs : List Value} {a0 : Int} {x1 : List (List Int)} {x2 : List (List Clip_)} {x3 : List Int} {x4 : List Patch} {x5 : List Strip} : tZ.O w F cs (a0, x1, x2, x3, x4, x5) ↔ ∃ A1 n1 c1 A2 n2 c2 A3 n3 c3 A4 n4 c4 A5 n5 c5, ∃ F1 F2 F3 F4 F5 : Nat → Prop, cs = [.int .i64 a0, .slice A1 n1 c1, .slice A2 n2 c2, .slice A3 n3 c3, .slice A4 n4 c4, .slice A5 n5 c5] ∧ tSS.O w F1 [.slice A1 n1 c1] x1 ∧ tTS.O w F2 [.slice A2 n2 c2] x2 ∧ tS.O w F3 [.slice A3 n3 c3] x3 ∧ tPS.O w F4 [.slice A4 n4 c4] x4 ∧ tM.O w F5 [.slice A5 n5 c5] x5 ∧ (∀ b, F1 b → F b) ∧ (∀ b, F2 b → F b) ∧ (∀ b, F3 b → F b) ∧ (∀ b, F4 b → F b) ∧ (∀ b, F5 b → F b) ∧ (∀ b, F1 b → ¬ F2 b) ∧ (∀ b, F1 b → ¬ F3 b) ∧ (∀ b, F1 b → ¬ F4 b) ∧ (∀ b, F1 b → ¬ F5 b) ∧ (∀ b, F2 b → ¬ F3 b) ∧ (∀ b, F2 b → ¬ F4 b) ∧ (∀ b, F2 b → ¬ F5 b) ∧ (∀ b, F3 b → ¬ F4 b) ∧ (∀ b, F3 b → ¬ F5 b) ∧ (∀ b, F4 b → ¬ F5 b) := by
  constructor
  · rintro ⟨u0, d0, F0, G0, rfl, g0, ⟨u1, d1, F1, G1, rfl, g1, ⟨u2, d2, F2, G2, rfl, g2, ⟨u3, d3, F3, G3, rfl, g3, ⟨u4, d4, F4, G4, rfl, g4, g5, p4, q4, r4⟩, p3, q3, r3⟩, p2, q2, r2⟩, p1, q1, r1⟩, p0, q0, r0⟩
    obtain rfl : u0 = [.int .i64 a0] := g0
    obtain ⟨A1, n1, c1, rfl⟩ := open_sl (tSS.read g1)
    obtain ⟨A2, n2, c2, rfl⟩ := open_sl (tTS.read g2)
    obtain ⟨A3, n3, c3, rfl⟩ := open_sl (tS.read g3)
    obtain ⟨A4, n4, c4, rfl⟩ := open_sl (tPS.read g4)
    obtain ⟨A5, n5, c5, rfl⟩ := open_sl (tM.read g5)
    exact ⟨A1, n1, c1, A2, n2, c2, A3, n3, c3, A4, n4, c4, A5, n5, c5, F1, F2, F3, F4, G4, rfl, g1, g2, g3, g4, g5, fun b h => q0 _ (p1 _ h), fun b h => q0 _ (q1 _ (p2 _ h)), fun b h => q0 _ (q1 _ (q2 _ (p3 _ h))), fun b h => q0 _ (q1 _ (q2 _ (q3 _ (p4 _ h)))), fun b h => q0 _ (q1 _ (q2 _ (q3 _ (q4 _ (h))))), fun b h h2 => r1 b h (p2 _ h2), fun b h h2 => r1 b h (q2 _ (p3 _ h2)), fun b h h2 => r1 b h (q2 _ (q3 _ (p4 _ h2))), fun b h h2 => r1 b h (q2 _ (q3 _ (q4 _ (h2)))), fun b h h2 => r2 b h (p3 _ h2), fun b h h2 => r2 b h (q3 _ (p4 _ h2)), fun b h h2 => r2 b h (q3 _ (q4 _ (h2))), fun b h h2 => r3 b h (p4 _ h2), fun b h h2 => r3 b h (q4 _ (h2)), fun b h h2 => r4 b h (h2)⟩
  · rintro ⟨A1, n1, c1, A2, n2, c2, A3, n3, c3, A4, n4, c4, A5, n5, c5, F1, F2, F3, F4, F5, rfl, g1, g2, g3, g4, g5, p1, p2, p3, p4, p5, r1_2, r1_3, r1_4, r1_5, r2_3, r2_4, r2_5, r3_4, r3_5, r4_5⟩
    exact ⟨[.int .i64 a0], _, (fun _ => False), (fun b => F1 b ∨ F2 b ∨ F3 b ∨ F4 b ∨ F5 b), rfl, rfl, ⟨[.slice A1 n1 c1], _, F1, (fun b => F2 b ∨ F3 b ∨ F4 b ∨ F5 b), rfl, g1, ⟨[.slice A2 n2 c2], _, F2, (fun b => F3 b ∨ F4 b ∨ F5 b), rfl, g2, ⟨[.slice A3 n3 c3], _, F3, (fun b => F4 b ∨ F5 b), rfl, g3, ⟨[.slice A4 n4 c4], _, F4, F5, rfl, g4, g5, fun b h => by first | exact h | (simp only [*, true_or, or_true]), fun b h => by first | exact h | exact Or.inr h | (rcases h with h <;> simp only [*, true_or, or_true]), r4_5⟩, fun b h => by first | exact h | (simp only [*, true_or, or_true]), fun b h => by first | exact h | exact Or.inr h | (rcases h with h | h <;> simp only [*, true_or, or_true]), fun b h h2 => by rcases h2 with h2 | h2 <;> first | exact r3_4 b h h2 | exact r3_5 b h h2⟩, fun b h => by first | exact h | (simp only [*, true_or, or_true]), fun b h => by first | exact h | exact Or.inr h | (rcases h with h | h | h <;> simp only [*, true_or, or_true]), fun b h h2 => by rcases h2 with h2 | h2 | h2 <;> first | exact r2_3 b h h2 | exact r2_4 b h h2 | exact r2_5 b h h2⟩, fun b h => by first | exact h | (simp only [*, true_or, or_true]), fun b h => by first | exact h | exact Or.inr h | (rcases h with h | h | h | h <;> simp only [*, true_or, or_true]), fun b h h2 => by rcases h2 with h2 | h2 | h2 | h2 <;> first | exact r1_2 b h h2 | exact r1_3 b h h2 | exact r1_4 b h h2 | exact r1_5 b h h2⟩, fun _ h => h.elim, fun b h => by rcases h with h | h | h | h | h <;> first | exact p1 b h | exact p2 b h | exact p3 b h | exact p4 b h | exact p5 b h, fun _ h => h.elim⟩
theorem hZ_sz (a0 : Int) (x1 : List (List Int)) (x2 : List (List Clip_)) (x3 : List Int) (x4 : List Patch) (x5 : List Strip) : hZ.sz (a0, x1, x2, x3, x4, x5) = hSS.sz x1 + hTS.sz x2 + hS.sz x3 + hPS.sz x4 + hM.sz x5 := by
  show 0 + (hSS.sz x1 + (hTS.sz x2 + (hS.sz x3 + (hPS.sz x4 + (hM.sz x5))))) = _
  omega
theorem hZ_cnt (a0 : Int) (x1 : List (List Int)) (x2 : List (List Clip_)) (x3 : List Int) (x4 : List Patch) (x5 : List Strip) : hZ.cnt (a0, x1, x2, x3, x4, x5) = hSS.cnt x1 + hTS.cnt x2 + hS.cnt x3 + hPS.cnt x4 + hM.cnt x5 := by
  show 0 + (hSS.cnt x1 + (hTS.cnt x2 + (hS.cnt x3 + (hPS.cnt x4 + (hM.cnt x5))))) = _
  omega
theorem nf_sz_Z (a0 : Int) (A1 : Option Addr) (n1 c1 : Nat) (A2 : Option Addr) (n2 c2 : Nat) (A3 : Option Addr) (n3 c3 : Nat) (A4 : Option Addr) (n4 c4 : Nat) (A5 : Option Addr) (n5 c5 : Nat) (x1 : List (List Int)) (x2 : List (List Clip_)) (x3 : List Int) (x4 : List Patch) (x5 : List Strip) (l : Int) (w : World) (h1 : tSS.R w w.heap.size [.slice A1 n1 c1] x1) (h2 : tTS.R w w.heap.size [.slice A2 n2 c2] x2) (h3 : tS.R w w.heap.size [.slice A3 n3 c3] x3) (h4 : tPS.R w w.heap.size [.slice A4 n4 c4] x4) (h5 : tM.R w w.heap.size [.slice A5 n5 c5] x5) (hl : 0 ≤ l ∧ l ≤ 1000000000) :
    Calls Tryz.prog 6 #[.agg #[.int .i64 a0, .slice A1 n1 c1, .slice A2 n2 c2, .slice A3 n3 c3, .slice A4 n4 c4, .slice A5 n5 c5], .int .i64 l] w fun e w' => e = .returned (.int .i64 (if (hZ.sz ((a0, x1, x2, x3, x4, x5) : Sess) : Int) ≤ l then l - hZ.sz ((a0, x1, x2, x3, x4, x5) : Sess) else -1)) ∧ Below w.heap.size w w' := by
  obtain ⟨W, hW⟩ : ∃ W, W = w.alloc (.cells #[.int .i64 a0, .slice A1 n1 c1, .slice A2 n2 c2, .slice A3 n3 c3, .slice A4 n4 c4, .slice A5 n5 c5] 30) := ⟨_, rfl⟩
  have B0 : Below w.heap.size w W := by rw [hW]; exact (Below.refl _ _).alloc (Nat.le_refl _) _
  have p1 : W.cell? ⟨w.heap.size, 1, none⟩ = some (.slice A1 n1 c1) := by rw [hW]; simp [go_sem]
  have p2 : W.cell? ⟨w.heap.size, 2, none⟩ = some (.slice A2 n2 c2) := by rw [hW]; simp [go_sem]
  have p3 : W.cell? ⟨w.heap.size, 3, none⟩ = some (.slice A3 n3 c3) := by rw [hW]; simp [go_sem]
  have p4 : W.cell? ⟨w.heap.size, 4, none⟩ = some (.slice A4 n4 c4) := by rw [hW]; simp [go_sem]
  have p5 : W.cell? ⟨w.heap.size, 5, none⟩ = some (.slice A5 n5 c5) := by rw [hW]; simp [go_sem]
  have l0 : w.heap.size < W.heap.size := by rw [hW]; simp
  have y1_0 := tSS.later h1 B0
  have y2_0 := tTS.later h2 B0
  have y3_0 := tS.later h3 B0
  have y4_0 := tPS.later h4 B0
  have y5_0 := tM.later h5 B0
  have HW := Lib.hid hW
  clear hW
  rw [hZ_sz]
  have z1 : 0 ≤ (hSS.sz x1 : Int) := Int.natCast_nonneg _
  have z2 : 0 ≤ (hTS.sz x2 : Int) := Int.natCast_nonneg _
  have z3 : 0 ≤ (hS.sz x3 : Int) := Int.natCast_nonneg _
  have z4 : 0 ≤ (hPS.sz x4 : Int) := Int.natCast_nonneg _
  have z5 : 0 ≤ (hM.sz x5 : Int) := Int.natCast_nonneg _
  by_cases g0 : (hSS.sz x1 : Int) ≤ l
  · have i0 := Lib.hid (show (if (hSS.sz x1 : Int) ≤ l then l - hSS.sz x1 else -1) = l - hSS.sz x1 by rw [if_pos g0])
    by_cases g1 : (hTS.sz x2 : Int) ≤ l - hSS.sz x1
    · have i1 := Lib.hid (show (if (hTS.sz x2 : Int) ≤ l - hSS.sz x1 then l - hSS.sz x1 - hTS.sz x2 else -1) = l - hSS.sz x1 - hTS.sz x2 by rw [if_pos g1])
      by_cases g2 : (hS.sz x3 : Int) ≤ l - hSS.sz x1 - hTS.sz x2
      · have i2 := Lib.hid (show (if (hS.sz x3 : Int) ≤ l - hSS.sz x1 - hTS.sz x2 then l - hSS.sz x1 - hTS.sz x2 - hS.sz x3 else -1) = l - hSS.sz x1 - hTS.sz x2 - hS.sz x3 by rw [if_pos g2])
        by_cases g3 : (hPS.sz x4 : Int) ≤ l - hSS.sz x1 - hTS.sz x2 - hS.sz x3
        · have i3 := Lib.hid (show (if (hPS.sz x4 : Int) ≤ l - hSS.sz x1 - hTS.sz x2 - hS.sz x3 then l - hSS.sz x1 - hTS.sz x2 - hS.sz x3 - hPS.sz x4 else -1) = l - hSS.sz x1 - hTS.sz x2 - hS.sz x3 - hPS.sz x4 by rw [if_pos g3])
          by_cases g4 : (hM.sz x5 : Int) ≤ l - hSS.sz x1 - hTS.sz x2 - hS.sz x3 - hPS.sz x4
          · have i4 := Lib.hid (show (if (hM.sz x5 : Int) ≤ l - hSS.sz x1 - hTS.sz x2 - hS.sz x3 - hPS.sz x4 then l - hSS.sz x1 - hTS.sz x2 - hS.sz x3 - hPS.sz x4 - hM.sz x5 else -1) = l - hSS.sz x1 - hTS.sz x2 - hS.sz x3 - hPS.sz x4 - hM.sz x5 by rw [if_pos g4])
            have hj := Lib.hid (show (if ((hSS.sz x1 + hTS.sz x2 + hS.sz x3 + hPS.sz x4 + hM.sz x5 : Nat) : Int) ≤ l then l - ((hSS.sz x1 + hTS.sz x2 + hS.sz x3 + hPS.sz x4 + hM.sz x5 : Nat) : Int) else -1) = l - hSS.sz x1 - hTS.sz x2 - hS.sz x3 - hPS.sz x4 - hM.sz x5 by rw [if_pos (by omega)]; first | done | omega)
            rw [hj.out]
            clear z1 z2 z3 z4 z5
            go_enter Tryz.func6, Tryz.ntmps6
            go_wp2_with fail
            rw [← HW.out]
            refine (nf_sz_SS _ _ _ _ _ _ y1_0 (by omega)).mono ?_
            rw [i0.out]
            rintro e w1 ⟨rfl, b1⟩
            obtain ⟨hc1, -⟩ := bcell b1
            have l1 := Nat.lt_of_lt_of_le l0 b1.size
            have B1 := bel_trans B0 b1
            have y2_1 := tTS.later y2_0 b1
            have y3_1 := tS.later y3_0 b1
            have y4_1 := tPS.later y4_0 b1
            have y5_1 := tM.later y5_0 b1
            go_wp2_with fail
            refine (nf_sz_TS _ _ _ _ _ _ y2_1 (by omega)).mono ?_
            rw [i1.out]
            rintro e w2 ⟨rfl, b2⟩
            obtain ⟨hc2, -⟩ := bcell b2
            have l2 := Nat.lt_of_lt_of_le l1 b2.size
            have B2 := bel_trans B1 b2
            have y3_2 := tS.later y3_1 b2
            have y4_2 := tPS.later y4_1 b2
            have y5_2 := tM.later y5_1 b2
            go_wp2_with fail
            refine (nf_sz_S _ _ _ _ _ _ y3_2 (by omega)).mono ?_
            rw [i2.out]
            rintro e w3 ⟨rfl, b3⟩
            obtain ⟨hc3, -⟩ := bcell b3
            have l3 := Nat.lt_of_lt_of_le l2 b3.size
            have B3 := bel_trans B2 b3
            have y4_3 := tPS.later y4_2 b3
            have y5_3 := tM.later y5_2 b3
            go_wp2_with fail
            refine (nf_sz_PS _ _ _ _ _ _ y4_3 (by omega)).mono ?_
            rw [i3.out]
            rintro e w4 ⟨rfl, b4⟩
            obtain ⟨hc4, -⟩ := bcell b4
            have l4 := Nat.lt_of_lt_of_le l3 b4.size
            have B4 := bel_trans B3 b4
            have y5_4 := tM.later y5_3 b4
            go_wp2_with fail
            refine (nf_sz_M _ _ _ _ _ _ y5_4 (by omega)).mono ?_
            rw [i4.out]
            rintro e w5 ⟨rfl, b5⟩
            obtain ⟨hc5, -⟩ := bcell b5
            have l5 := Nat.lt_of_lt_of_le l4 b5.size
            have B5 := bel_trans B4 b5
            go_wp2
            go_ret
            exact ⟨rfl, B5⟩
          · have i4 := Lib.hid (show (if (hM.sz x5 : Int) ≤ l - hSS.sz x1 - hTS.sz x2 - hS.sz x3 - hPS.sz x4 then l - hSS.sz x1 - hTS.sz x2 - hS.sz x3 - hPS.sz x4 - hM.sz x5 else -1) = -1 by rw [if_neg g4])
            have hj := Lib.hid (show (if ((hSS.sz x1 + hTS.sz x2 + hS.sz x3 + hPS.sz x4 + hM.sz x5 : Nat) : Int) ≤ l then l - ((hSS.sz x1 + hTS.sz x2 + hS.sz x3 + hPS.sz x4 + hM.sz x5 : Nat) : Int) else -1) = -1 by rw [if_neg (by omega)])
            rw [hj.out]
            clear z1 z2 z3 z4 z5
            go_enter Tryz.func6, Tryz.ntmps6
            go_wp2_with fail
            rw [← HW.out]
            refine (nf_sz_SS _ _ _ _ _ _ y1_0 (by omega)).mono ?_
            rw [i0.out]
            rintro e w1 ⟨rfl, b1⟩
            obtain ⟨hc1, -⟩ := bcell b1
            have l1 := Nat.lt_of_lt_of_le l0 b1.size
            have B1 := bel_trans B0 b1
            have y2_1 := tTS.later y2_0 b1
            have y3_1 := tS.later y3_0 b1
            have y4_1 := tPS.later y4_0 b1
            have y5_1 := tM.later y5_0 b1
            go_wp2_with fail
            refine (nf_sz_TS _ _ _ _ _ _ y2_1 (by omega)).mono ?_
            rw [i1.out]
            rintro e w2 ⟨rfl, b2⟩
            obtain ⟨hc2, -⟩ := bcell b2
            have l2 := Nat.lt_of_lt_of_le l1 b2.size
            have B2 := bel_trans B1 b2
            have y3_2 := tS.later y3_1 b2
            have y4_2 := tPS.later y4_1 b2
            have y5_2 := tM.later y5_1 b2
            go_wp2_with fail
            refine (nf_sz_S _ _ _ _ _ _ y3_2 (by omega)).mono ?_
            rw [i2.out]
            rintro e w3 ⟨rfl, b3⟩
            obtain ⟨hc3, -⟩ := bcell b3
            have l3 := Nat.lt_of_lt_of_le l2 b3.size
            have B3 := bel_trans B2 b3
            have y4_3 := tPS.later y4_2 b3
            have y5_3 := tM.later y5_2 b3
            go_wp2_with fail
            refine (nf_sz_PS _ _ _ _ _ _ y4_3 (by omega)).mono ?_
            rw [i3.out]
            rintro e w4 ⟨rfl, b4⟩
            obtain ⟨hc4, -⟩ := bcell b4
            have l4 := Nat.lt_of_lt_of_le l3 b4.size
            have B4 := bel_trans B3 b4
            have y5_4 := tM.later y5_3 b4
            go_wp2_with fail
            refine (nf_sz_M _ _ _ _ _ _ y5_4 (by omega)).mono ?_
            rw [i4.out]
            rintro e w5 ⟨rfl, b5⟩
            obtain ⟨hc5, -⟩ := bcell b5
            have l5 := Nat.lt_of_lt_of_le l4 b5.size
            have B5 := bel_trans B4 b5
            go_wp2
            go_ret
            exact ⟨rfl, B5⟩
        · have i3 := Lib.hid (show (if (hPS.sz x4 : Int) ≤ l - hSS.sz x1 - hTS.sz x2 - hS.sz x3 then l - hSS.sz x1 - hTS.sz x2 - hS.sz x3 - hPS.sz x4 else -1) = -1 by rw [if_neg g3])
          have hj := Lib.hid (show (if ((hSS.sz x1 + hTS.sz x2 + hS.sz x3 + hPS.sz x4 + hM.sz x5 : Nat) : Int) ≤ l then l - ((hSS.sz x1 + hTS.sz x2 + hS.sz x3 + hPS.sz x4 + hM.sz x5 : Nat) : Int) else -1) = -1 by rw [if_neg (by omega)])
          rw [hj.out]
          clear z1 z2 z3 z4 z5
          go_enter Tryz.func6, Tryz.ntmps6
          go_wp2_with fail
          rw [← HW.out]
          refine (nf_sz_SS _ _ _ _ _ _ y1_0 (by omega)).mono ?_
          rw [i0.out]
          rintro e w1 ⟨rfl, b1⟩
          obtain ⟨hc1, -⟩ := bcell b1
          have l1 := Nat.lt_of_lt_of_le l0 b1.size
          have B1 := bel_trans B0 b1
          have y2_1 := tTS.later y2_0 b1
          have y3_1 := tS.later y3_0 b1
          have y4_1 := tPS.later y4_0 b1
          have y5_1 := tM.later y5_0 b1
          go_wp2_with fail
          refine (nf_sz_TS _ _ _ _ _ _ y2_1 (by omega)).mono ?_
          rw [i1.out]
          rintro e w2 ⟨rfl, b2⟩
          obtain ⟨hc2, -⟩ := bcell b2
          have l2 := Nat.lt_of_lt_of_le l1 b2.size
          have B2 := bel_trans B1 b2
          have y3_2 := tS.later y3_1 b2
          have y4_2 := tPS.later y4_1 b2
          have y5_2 := tM.later y5_1 b2
          go_wp2_with fail
          refine (nf_sz_S _ _ _ _ _ _ y3_2 (by omega)).mono ?_
          rw [i2.out]
          rintro e w3 ⟨rfl, b3⟩
          obtain ⟨hc3, -⟩ := bcell b3
          have l3 := Nat.lt_of_lt_of_le l2 b3.size
          have B3 := bel_trans B2 b3
          have y4_3 := tPS.later y4_2 b3
          have y5_3 := tM.later y5_2 b3
          go_wp2_with fail
          refine (nf_sz_PS _ _ _ _ _ _ y4_3 (by omega)).mono ?_
          rw [i3.out]
          rintro e w4 ⟨rfl, b4⟩
          obtain ⟨hc4, -⟩ := bcell b4
          have l4 := Nat.lt_of_lt_of_le l3 b4.size
          have B4 := bel_trans B3 b4
          have y5_4 := tM.later y5_3 b4
          go_wp2
          go_ret
          exact ⟨rfl, B4⟩
      · have i2 := Lib.hid (show (if (hS.sz x3 : Int) ≤ l - hSS.sz x1 - hTS.sz x2 then l - hSS.sz x1 - hTS.sz x2 - hS.sz x3 else -1) = -1 by rw [if_neg g2])
        have hj := Lib.hid (show (if ((hSS.sz x1 + hTS.sz x2 + hS.sz x3 + hPS.sz x4 + hM.sz x5 : Nat) : Int) ≤ l then l - ((hSS.sz x1 + hTS.sz x2 + hS.sz x3 + hPS.sz x4 + hM.sz x5 : Nat) : Int) else -1) = -1 by rw [if_neg (by omega)])
        rw [hj.out]
        clear z1 z2 z3 z4 z5
        go_enter Tryz.func6, Tryz.ntmps6
        go_wp2_with fail
        rw [← HW.out]
        refine (nf_sz_SS _ _ _ _ _ _ y1_0 (by omega)).mono ?_
        rw [i0.out]
        rintro e w1 ⟨rfl, b1⟩
        obtain ⟨hc1, -⟩ := bcell b1
        have l1 := Nat.lt_of_lt_of_le l0 b1.size
        have B1 := bel_trans B0 b1
        have y2_1 := tTS.later y2_0 b1
        have y3_1 := tS.later y3_0 b1
        have y4_1 := tPS.later y4_0 b1
        have y5_1 := tM.later y5_0 b1
        go_wp2_with fail
        refine (nf_sz_TS _ _ _ _ _ _ y2_1 (by omega)).mono ?_
        rw [i1.out]
        rintro e w2 ⟨rfl, b2⟩
        obtain ⟨hc2, -⟩ := bcell b2
        have l2 := Nat.lt_of_lt_of_le l1 b2.size
        have B2 := bel_trans B1 b2
        have y3_2 := tS.later y3_1 b2
        have y4_2 := tPS.later y4_1 b2
        have y5_2 := tM.later y5_1 b2
        go_wp2_with fail
        refine (nf_sz_S _ _ _ _ _ _ y3_2 (by omega)).mono ?_
        rw [i2.out]
        rintro e w3 ⟨rfl, b3⟩
        obtain ⟨hc3, -⟩ := bcell b3
        have l3 := Nat.lt_of_lt_of_le l2 b3.size
        have B3 := bel_trans B2 b3
        have y4_3 := tPS.later y4_2 b3
        have y5_3 := tM.later y5_2 b3
        go_wp2
        go_ret
        exact ⟨rfl, B3⟩
    · have i1 := Lib.hid (show (if (hTS.sz x2 : Int) ≤ l - hSS.sz x1 then l - hSS.sz x1 - hTS.sz x2 else -1) = -1 by rw [if_neg g1])
      have hj := Lib.hid (show (if ((hSS.sz x1 + hTS.sz x2 + hS.sz x3 + hPS.sz x4 + hM.sz x5 : Nat) : Int) ≤ l then l - ((hSS.sz x1 + hTS.sz x2 + hS.sz x3 + hPS.sz x4 + hM.sz x5 : Nat) : Int) else -1) = -1 by rw [if_neg (by omega)])
      rw [hj.out]
      clear z1 z2 z3 z4 z5
      go_enter Tryz.func6, Tryz.ntmps6
      go_wp2_with fail
      rw [← HW.out]
      refine (nf_sz_SS _ _ _ _ _ _ y1_0 (by omega)).mono ?_
      rw [i0.out]
      rintro e w1 ⟨rfl, b1⟩
      obtain ⟨hc1, -⟩ := bcell b1
      have l1 := Nat.lt_of_lt_of_le l0 b1.size
      have B1 := bel_trans B0 b1
      have y2_1 := tTS.later y2_0 b1
      have y3_1 := tS.later y3_0 b1
      have y4_1 := tPS.later y4_0 b1
      have y5_1 := tM.later y5_0 b1
      go_wp2_with fail
      refine (nf_sz_TS _ _ _ _ _ _ y2_1 (by omega)).mono ?_
      rw [i1.out]
      rintro e w2 ⟨rfl, b2⟩
      obtain ⟨hc2, -⟩ := bcell b2
      have l2 := Nat.lt_of_lt_of_le l1 b2.size
      have B2 := bel_trans B1 b2
      have y3_2 := tS.later y3_1 b2
      have y4_2 := tPS.later y4_1 b2
      have y5_2 := tM.later y5_1 b2
      go_wp2
      go_ret
      exact ⟨rfl, B2⟩
  · have i0 := Lib.hid (show (if (hSS.sz x1 : Int) ≤ l then l - hSS.sz x1 else -1) = -1 by rw [if_neg g0])
    have hj := Lib.hid (show (if ((hSS.sz x1 + hTS.sz x2 + hS.sz x3 + hPS.sz x4 + hM.sz x5 : Nat) : Int) ≤ l then l - ((hSS.sz x1 + hTS.sz x2 + hS.sz x3 + hPS.sz x4 + hM.sz x5 : Nat) : Int) else -1) = -1 by rw [if_neg (by omega)])
    rw [hj.out]
    clear z1 z2 z3 z4 z5
    go_enter Tryz.func6, Tryz.ntmps6
    go_wp2_with fail
    rw [← HW.out]
    refine (nf_sz_SS _ _ _ _ _ _ y1_0 (by omega)).mono ?_
    rw [i0.out]
    rintro e w1 ⟨rfl, b1⟩
    obtain ⟨hc1, -⟩ := bcell b1
    have l1 := Nat.lt_of_lt_of_le l0 b1.size
    have B1 := bel_trans B0 b1
    have y2_1 := tTS.later y2_0 b1
    have y3_1 := tS.later y3_0 b1
    have y4_1 := tPS.later y4_0 b1
    have y5_1 := tM.later y5_0 b1
    go_wp2
    go_ret
    exact ⟨rfl, B1⟩
theorem nf_eq_Z (a0 : Int) (A1 : Option Addr) (n1 c1 : Nat) (A2 : Option Addr) (n2 c2 : Nat) (A3 : Option Addr) (n3 c3 : Nat) (A4 : Option Addr) (n4 c4 : Nat) (A5 : Option Addr) (n5 c5 : Nat) (A1' : Option Addr) (n1' c1' : Nat) (A2' : Option Addr) (n2' c2' : Nat) (A3' : Option Addr) (n3' c3' : Nat) (A4' : Option Addr) (n4' c4' : Nat) (A5' : Option Addr) (n5' c5' : Nat) (x1 : List (List Int)) (x2 : List (List Clip_)) (x3 : List Int) (x4 : List Patch) (x5 : List Strip) (w : World) (h1 : tSS.R w w.heap.size [.slice A1 n1 c1] x1) (h2 : tTS.R w w.heap.size [.slice A2 n2 c2] x2) (h3 : tS.R w w.heap.size [.slice A3 n3 c3] x3) (h4 : tPS.R w w.heap.size [.slice A4 n4 c4] x4) (h5 : tM.R w w.heap.size [.slice A5 n5 c5] x5) (k1 : tSS.R w w.heap.size [.slice A1' n1' c1'] x1) (k2 : tTS.R w w.heap.size [.slice A2' n2' c2'] x2) (k3 : tS.R w w.heap.size [.slice A3' n3' c3'] x3) (k4 : tPS.R w w.heap.size [.slice A4' n4' c4'] x4) (k5 : tM.R w w.heap.size [.slice A5' n5' c5'] x5) (hn : hZ.sz ((a0, x1, x2, x3, x4, x5) : Sess) ≤ 100000000) :
    Calls Tryz.prog 10 #[.agg #[.int .i64 a0, .slice A1 n1 c1, .slice A2 n2 c2, .slice A3 n3 c3, .slice A4 n4 c4, .slice A5 n5 c5], .agg #[.int .i64 a0, .slice A1' n1' c1', .slice A2' n2' c2', .slice A3' n3' c3', .slice A4' n4' c4', .slice A5' n5' c5']] w fun e w' => e = .returned (.bool true) ∧ Below w.heap.size w w' := by
  obtain ⟨W, hW⟩ : ∃ W, W = (w.alloc (.cells #[.int .i64 a0, .slice A1 n1 c1, .slice A2 n2 c2, .slice A3 n3 c3, .slice A4 n4 c4, .slice A5 n5 c5] 39)).alloc (.cells #[.int .i64 a0, .slice A1' n1' c1', .slice A2' n2' c2', .slice A3' n3' c3', .slice A4' n4' c4', .slice A5' n5' c5'] 39) := ⟨_, rfl⟩
  have B0 : Below w.heap.size w W := by rw [hW]; exact ((Below.refl _ _).alloc (Nat.le_refl _) _).alloc (by simp) _
  have p0 : W.cell? ⟨w.heap.size, 0, none⟩ = some (.int .i64 a0) := by rw [hW]; simp [go_sem]
  have q0 : W.cell? ⟨w.heap.size + 1, 0, none⟩ = some (.int .i64 a0) := by rw [hW]; simp [go_sem]
  have p1 : W.cell? ⟨w.heap.size, 1, none⟩ = some (.slice A1 n1 c1) := by rw [hW]; simp [go_sem]
  have q1 : W.cell? ⟨w.heap.size + 1, 1, none⟩ = some (.slice A1' n1' c1') := by rw [hW]; simp [go_sem]
  have p2 : W.cell? ⟨w.heap.size, 2, none⟩ = some (.slice A2 n2 c2) := by rw [hW]; simp [go_sem]
  have q2 : W.cell? ⟨w.heap.size + 1, 2, none⟩ = some (.slice A2' n2' c2') := by rw [hW]; simp [go_sem]
  have p3 : W.cell? ⟨w.heap.size, 3, none⟩ = some (.slice A3 n3 c3) := by rw [hW]; simp [go_sem]
  have q3 : W.cell? ⟨w.heap.size + 1, 3, none⟩ = some (.slice A3' n3' c3') := by rw [hW]; simp [go_sem]
  have p4 : W.cell? ⟨w.heap.size, 4, none⟩ = some (.slice A4 n4 c4) := by rw [hW]; simp [go_sem]
  have q4 : W.cell? ⟨w.heap.size + 1, 4, none⟩ = some (.slice A4' n4' c4') := by rw [hW]; simp [go_sem]
  have p5 : W.cell? ⟨w.heap.size, 5, none⟩ = some (.slice A5 n5 c5) := by rw [hW]; simp [go_sem]
  have q5 : W.cell? ⟨w.heap.size + 1, 5, none⟩ = some (.slice A5' n5' c5') := by rw [hW]; simp [go_sem]
  have l0 : w.heap.size + 1 < W.heap.size := by rw [hW]; simp
  have l0' : w.heap.size < W.heap.size := by omega
  have y1_0 := tSS.later h1 B0
  have v1_0 := tSS.later k1 B0
  have y2_0 := tTS.later h2 B0
  have v2_0 := tTS.later k2 B0
  have y3_0 := tS.later h3 B0
  have v3_0 := tS.later k3 B0
  have y4_0 := tPS.later h4 B0
  have v4_0 := tPS.later k4 B0
  have y5_0 := tM.later h5 B0
  have v5_0 := tM.later k5 B0
  have HW := Lib.hid hW
  clear hW
  rw [hZ_sz] at hn
  go_enter Tryz.func10, Tryz.ntmps10
  go_wp2_with fail
  rw [← HW.out]
  refine (nf_eq_SS _ _ _ _ _ _ _ _ y1_0 v1_0 (by omega)).mono ?_
  rintro e w1 ⟨rfl, b1⟩
  obtain ⟨hc1, -⟩ := bcell b1
  have l1 := Nat.lt_of_lt_of_le l0 b1.size
  have l1' := Nat.lt_of_lt_of_le l0' b1.size
  have B1 := bel_trans B0 b1
  have y2_1 := tTS.later y2_0 b1
  have v2_1 := tTS.later v2_0 b1
  have y3_1 := tS.later y3_0 b1
  have v3_1 := tS.later v3_0 b1
  have y4_1 := tPS.later y4_0 b1
  have v4_1 := tPS.later v4_0 b1
  have y5_1 := tM.later y5_0 b1
  have v5_1 := tM.later v5_0 b1
  go_wp2_with fail
  refine (nf_eq_TS _ _ _ _ _ _ _ _ y2_1 v2_1 (by omega)).mono ?_
  rintro e w2 ⟨rfl, b2⟩
  obtain ⟨hc2, -⟩ := bcell b2
  have l2 := Nat.lt_of_lt_of_le l1 b2.size
  have l2' := Nat.lt_of_lt_of_le l1' b2.size
  have B2 := bel_trans B1 b2
  have y3_2 := tS.later y3_1 b2
  have v3_2 := tS.later v3_1 b2
  have y4_2 := tPS.later y4_1 b2
  have v4_2 := tPS.later v4_1 b2
  have y5_2 := tM.later y5_1 b2
  have v5_2 := tM.later v5_1 b2
  go_wp2_with fail
  refine (nf_eq_S _ _ _ _ _ _ _ _ y3_2 v3_2 (by omega)).mono ?_
  rintro e w3 ⟨rfl, b3⟩
  obtain ⟨hc3, -⟩ := bcell b3
  have l3 := Nat.lt_of_lt_of_le l2 b3.size
  have l3' := Nat.lt_of_lt_of_le l2' b3.size
  have B3 := bel_trans B2 b3
  have y4_3 := tPS.later y4_2 b3
  have v4_3 := tPS.later v4_2 b3
  have y5_3 := tM.later y5_2 b3
  have v5_3 := tM.later v5_2 b3
  go_wp2_with fail
  refine (nf_eq_PS _ _ _ _ _ _ _ _ y4_3 v4_3 (by omega)).mono ?_
  rintro e w4 ⟨rfl, b4⟩
  obtain ⟨hc4, -⟩ := bcell b4
  have l4 := Nat.lt_of_lt_of_le l3 b4.size
  have l4' := Nat.lt_of_lt_of_le l3' b4.size
  have B4 := bel_trans B3 b4
  have y5_4 := tM.later y5_3 b4
  have v5_4 := tM.later v5_3 b4
  go_wp2_with fail
  refine (nf_eq_M _ _ _ _ _ _ _ _ y5_4 v5_4 (by omega)).mono ?_
  rintro e w5 ⟨rfl, b5⟩
  obtain ⟨hc5, -⟩ := bcell b5
  have l5 := Nat.lt_of_lt_of_le l4 b5.size
  have l5' := Nat.lt_of_lt_of_le l4' b5.size
  have B5 := bel_trans B4 b5
  go_wp2
  go_ret
  exact ⟨rfl, B5⟩
theorem nf_to_Z (a0 : Int) (A1 : Option Addr) (n1 c1 : Nat) (A2 : Option Addr) (n2 c2 : Nat) (A3 : Option Addr) (n3 c3 : Nat) (A4 : Option Addr) (n4 c4 : Nat) (A5 : Option Addr) (n5 c5 : Nat) (x1 : List (List Int)) (x2 : List (List Clip_)) (x3 : List Int) (x4 : List Patch) (x5 : List Strip) (w : World) (h1 : tSS.R w w.heap.size [.slice A1 n1 c1] x1) (h2 : tTS.R w w.heap.size [.slice A2 n2 c2] x2) (h3 : tS.R w w.heap.size [.slice A3 n3 c3] x3) (h4 : tPS.R w w.heap.size [.slice A4 n4 c4] x4) (h5 : tM.R w w.heap.size [.slice A5 n5 c5] x5) (hn : hZ.sz ((a0, x1, x2, x3, x4, x5) : Sess) ≤ 100000000) :
    Calls Tryz.prog 8 #[.agg #[.int .i64 a0, .slice A1 n1 c1, .slice A2 n2 c2, .slice A3 n3 c3, .slice A4 n4 c4, .slice A5 n5 c5]] w fun e w' => ∃ A1' n1' c1' A2' n2' c2' A3' n3' c3' A4' n4' c4' A5' n5' c5', e = .returned (.agg #[.int .i64 a0, .slice A1' n1' c1', .slice A2' n2' c2', .slice A3' n3' c3', .slice A4' n4' c4', .slice A5' n5' c5']) ∧ tZ.O w' (Iv w.heap.size w'.heap.size) [.int .i64 a0, .slice A1' n1' c1', .slice A2' n2' c2', .slice A3' n3' c3', .slice A4' n4' c4', .slice A5' n5' c5'] (a0, x1, x2, x3, x4, x5) ∧ Below w.heap.size w w' := by
  obtain ⟨W, hW⟩ : ∃ W, W = ((w.alloc (.cells #[.int .i64 a0, .slice A1 n1 c1, .slice A2 n2 c2, .slice A3 n3 c3, .slice A4 n4 c4, .slice A5 n5 c5] 30)).alloc (.cells #[.int .i64 0, .slice none 0 0, .slice none 0 0, .slice none 0 0, .slice none 0 0, .slice none 0 0] 39)).alloc (.cells #[.int .i64 a0, .slice none 0 0, .slice none 0 0, .slice none 0 0, .slice none 0 0, .slice none 0 0] 39) := ⟨_, rfl⟩
  have B0 : Below w.heap.size w W := by rw [hW]; exact (((Below.refl _ _).alloc (Nat.le_refl _) _).alloc (by simp) _).alloc (by simp; omega) _
  have z0 : W.heap.size = w.heap.size + 1 + 1 + 1 := by rw [hW]; simp
  have p0 : W.cell? ⟨w.heap.size, 0, none⟩ = some (.int .i64 a0) := by rw [hW]; simp [go_sem]
  have q0 : W.cell? ⟨w.heap.size + 1, 0, none⟩ = some (.int .i64 0) := by rw [hW]; simp [go_sem]
  have r0 : W.cell? ⟨w.heap.size + 1 + 1, 0, none⟩ = some (.int .i64 a0) := by rw [hW]; simp [go_sem]
  have s0 : W.frozen? ⟨w.heap.size + 1, 0, none⟩ = false := by rw [hW]; simp [go_sem]
  have t0 : W.frozen? ⟨w.heap.size + 1 + 1, 0, none⟩ = false := by rw [hW]; simp [go_sem]
  have p1 : W.cell? ⟨w.heap.size, 1, none⟩ = some (.slice A1 n1 c1) := by rw [hW]; simp [go_sem]
  have q1 : W.cell? ⟨w.heap.size + 1, 1, none⟩ = some (.slice none 0 0) := by rw [hW]; simp [go_sem]
  have r1 : W.cell? ⟨w.heap.size + 1 + 1, 1, none⟩ = some (.slice none 0 0) := by rw [hW]; simp [go_sem]
  have s1 : W.frozen? ⟨w.heap.size + 1, 1, none⟩ = false := by rw [hW]; simp [go_sem]
  have t1 : W.frozen? ⟨w.heap.size + 1 + 1, 1, none⟩ = false := by rw [hW]; simp [go_sem]
  have p2 : W.cell? ⟨w.heap.size, 2, none⟩ = some (.slice A2 n2 c2) := by rw [hW]; simp [go_sem]
  have q2 : W.cell? ⟨w.heap.size + 1, 2, none⟩ = some (.slice none 0 0) := by rw [hW]; simp [go_sem]
  have r2 : W.cell? ⟨w.heap.size + 1 + 1, 2, none⟩ = some (.slice none 0 0) := by rw [hW]; simp [go_sem]
  have s2 : W.frozen? ⟨w.heap.size + 1, 2, none⟩ = false := by rw [hW]; simp [go_sem]
  have t2 : W.frozen? ⟨w.heap.size + 1 + 1, 2, none⟩ = false := by rw [hW]; simp [go_sem]
  have p3 : W.cell? ⟨w.heap.size, 3, none⟩ = some (.slice A3 n3 c3) := by rw [hW]; simp [go_sem]
  have q3 : W.cell? ⟨w.heap.size + 1, 3, none⟩ = some (.slice none 0 0) := by rw [hW]; simp [go_sem]
  have r3 : W.cell? ⟨w.heap.size + 1 + 1, 3, none⟩ = some (.slice none 0 0) := by rw [hW]; simp [go_sem]
  have s3 : W.frozen? ⟨w.heap.size + 1, 3, none⟩ = false := by rw [hW]; simp [go_sem]
  have t3 : W.frozen? ⟨w.heap.size + 1 + 1, 3, none⟩ = false := by rw [hW]; simp [go_sem]
  have p4 : W.cell? ⟨w.heap.size, 4, none⟩ = some (.slice A4 n4 c4) := by rw [hW]; simp [go_sem]
  have q4 : W.cell? ⟨w.heap.size + 1, 4, none⟩ = some (.slice none 0 0) := by rw [hW]; simp [go_sem]
  have r4 : W.cell? ⟨w.heap.size + 1 + 1, 4, none⟩ = some (.slice none 0 0) := by rw [hW]; simp [go_sem]
  have s4 : W.frozen? ⟨w.heap.size + 1, 4, none⟩ = false := by rw [hW]; simp [go_sem]
  have t4 : W.frozen? ⟨w.heap.size + 1 + 1, 4, none⟩ = false := by rw [hW]; simp [go_sem]
  have p5 : W.cell? ⟨w.heap.size, 5, none⟩ = some (.slice A5 n5 c5) := by rw [hW]; simp [go_sem]
  have q5 : W.cell? ⟨w.heap.size + 1, 5, none⟩ = some (.slice none 0 0) := by rw [hW]; simp [go_sem]
  have r5 : W.cell? ⟨w.heap.size + 1 + 1, 5, none⟩ = some (.slice none 0 0) := by rw [hW]; simp [go_sem]
  have s5 : W.frozen? ⟨w.heap.size + 1, 5, none⟩ = false := by rw [hW]; simp [go_sem]
  have t5 : W.frozen? ⟨w.heap.size + 1 + 1, 5, none⟩ = false := by rw [hW]; simp [go_sem]
  have l0 : w.heap.size < W.heap.size := by omega
  have l0' : w.heap.size + 1 < W.heap.size := by omega
  have l0'' : w.heap.size + 1 + 1 < W.heap.size := by omega
  have Z0 : w.heap.size + 1 + 1 + 1 ≤ W.heap.size := by omega
  clear z0
  have y1_0 := tSS.later h1 B0
  have y2_0 := tTS.later h2 B0
  have y3_0 := tS.later h3 B0
  have y4_0 := tPS.later h4 B0
  have y5_0 := tM.later h5 B0
  have HW := Lib.hid hW
  clear hW
  rw [hZ_sz] at hn
  go_enter Tryz.func8, Tryz.ntmps8
  go_wp2_with fail
  rw [← HW.out]
  refine (nf_to_SS _ _ _ _ _ y1_0 (by omega)).mono ?_
  rintro e w1 ⟨A1', n1', c1', rfl, o1_0, b1⟩
  obtain ⟨hc1, hf1⟩ := bcell b1
  obtain ⟨U1, hU1⟩ : ∃ U, U = w1.setCell ⟨w.heap.size + 1 + 1, 1, none⟩ (.slice A1' n1' c1') := ⟨_, rfl⟩
  have m1 : Mid (w.heap.size + 1 + 1) (w.heap.size + 1 + 1 + 1) w1 U1 := by rw [hU1]; exact Mid.of_grown (grown_setCell w1 (w.heap.size + 1 + 1) 1 _) fun k hk => by injection hk with hk; omega
  have e1 : U1.heap.size = w1.heap.size := by rw [hU1]; simp
  have E1 := Lib.hid e1
  have sz1 : W.heap.size ≤ U1.heap.size := by rw [e1]; exact b1.size
  have BU1 : Below (w.heap.size + 1 + 1) w1 U1 := m1.toBelow (by omega)
  have B1 : Below w.heap.size w U1 := (bel_trans B0 b1).trans (BU1.mono (by omega))
  have l1 := Nat.lt_of_lt_of_le l0 sz1
  have l1' := Nat.lt_of_lt_of_le l0' sz1
  have l1'' := Nat.lt_of_lt_of_le l0'' sz1
  have Z1 := Nat.le_trans Z0 sz1
  have o1_1 : tSS.O U1 (Iv W.heap.size U1.heap.size) [.slice A1' n1' c1'] x1 := tSS.oiv (tSS.omid o1_0 m1 (.inr (by omega)) (Nat.le_refl _)) (Nat.le_refl _) (by omega)
  have y2_1 : tTS.R U1 U1.heap.size [.slice A2 n2 c2] x2 := tTS.later h2 B1
  have y3_1 : tS.R U1 U1.heap.size [.slice A3 n3 c3] x3 := tS.later h3 B1
  have y4_1 : tPS.R U1 U1.heap.size [.slice A4 n4 c4] x4 := tPS.later h4 B1
  have y5_1 : tM.R U1 U1.heap.size [.slice A5 n5 c5] x5 := tM.later h5 B1
  have q0_1 : U1.cell? ⟨w.heap.size + 1, 0, none⟩ = some (.int .i64 0) := by rw [BU1.cell (by show w.heap.size + 1 < _; omega), b1.cell (by show w.heap.size + 1 < _; omega)]; exact q0
  have s0_1 : U1.frozen? ⟨w.heap.size + 1, 0, none⟩ = false := by rw [BU1.frozen (by show w.heap.size + 1 < _; omega), b1.frozen (by show w.heap.size + 1 < _; omega)]; exact s0
  have r0_1 : U1.cell? ⟨w.heap.size + 1 + 1, 0, none⟩ = some (.int .i64 a0) := by rw [hU1]; simp [go_sem, hc1, l0'', r0]
  have t0_1 : U1.frozen? ⟨w.heap.size + 1 + 1, 0, none⟩ = false := by rw [hU1]; simp [go_sem, hf1, l0'', t0]
  have q1_1 : U1.cell? ⟨w.heap.size + 1, 1, none⟩ = some (.slice none 0 0) := by rw [BU1.cell (by show w.heap.size + 1 < _; omega), b1.cell (by show w.heap.size + 1 < _; omega)]; exact q1
  have s1_1 : U1.frozen? ⟨w.heap.size + 1, 1, none⟩ = false := by rw [BU1.frozen (by show w.heap.size + 1 < _; omega), b1.frozen (by show w.heap.size + 1 < _; omega)]; exact s1
  have r1_1 : U1.cell? ⟨w.heap.size + 1 + 1, 1, none⟩ = some (.slice A1' n1' c1') := by rw [hU1]; simp [go_sem, hc1, l0'', r1]
  have t1_1 : U1.frozen? ⟨w.heap.size + 1 + 1, 1, none⟩ = false := by rw [hU1]; simp [go_sem, hf1, l0'', t1]
  have p2_1 : U1.cell? ⟨w.heap.size, 2, none⟩ = some (.slice A2 n2 c2) := by rw [BU1.cell (by show w.heap.size < _; omega), b1.cell (by show w.heap.size < _; omega)]; exact p2
  have q2_1 : U1.cell? ⟨w.heap.size + 1, 2, none⟩ = some (.slice none 0 0) := by rw [BU1.cell (by show w.heap.size + 1 < _; omega), b1.cell (by show w.heap.size + 1 < _; omega)]; exact q2
  have s2_1 : U1.frozen? ⟨w.heap.size + 1, 2, none⟩ = false := by rw [BU1.frozen (by show w.heap.size + 1 < _; omega), b1.frozen (by show w.heap.size + 1 < _; omega)]; exact s2
  have r2_1 : U1.cell? ⟨w.heap.size + 1 + 1, 2, none⟩ = some (.slice none 0 0) := by rw [hU1]; simp [go_sem, hc1, l0'', r2]
  have t2_1 : U1.frozen? ⟨w.heap.size + 1 + 1, 2, none⟩ = false := by rw [hU1]; simp [go_sem, hf1, l0'', t2]
  have p3_1 : U1.cell? ⟨w.heap.size, 3, none⟩ = some (.slice A3 n3 c3) := by rw [BU1.cell (by show w.heap.size < _; omega), b1.cell (by show w.heap.size < _; omega)]; exact p3
  have q3_1 : U1.cell? ⟨w.heap.size + 1, 3, none⟩ = some (.slice none 0 0) := by rw [BU1.cell (by show w.heap.size + 1 < _; omega), b1.cell (by show w.heap.size + 1 < _; omega)]; exact q3
  have s3_1 : U1.frozen? ⟨w.heap.size + 1, 3, none⟩ = false := by rw [BU1.frozen (by show w.heap.size + 1 < _; omega), b1.frozen (by show w.heap.size + 1 < _; omega)]; exact s3
  have r3_1 : U1.cell? ⟨w.heap.size + 1 + 1, 3, none⟩ = some (.slice none 0 0) := by rw [hU1]; simp [go_sem, hc1, l0'', r3]
  have t3_1 : U1.frozen? ⟨w.heap.size + 1 + 1, 3, none⟩ = false := by rw [hU1]; simp [go_sem, hf1, l0'', t3]
  have p4_1 : U1.cell? ⟨w.heap.size, 4, none⟩ = some (.slice A4 n4 c4) := by rw [BU1.cell (by show w.heap.size < _; omega), b1.cell (by show w.heap.size < _; omega)]; exact p4
  have q4_1 : U1.cell? ⟨w.heap.size + 1, 4, none⟩ = some (.slice none 0 0) := by rw [BU1.cell (by show w.heap.size + 1 < _; omega), b1.cell (by show w.heap.size + 1 < _; omega)]; exact q4
  have s4_1 : U1.frozen? ⟨w.heap.size + 1, 4, none⟩ = false := by rw [BU1.frozen (by show w.heap.size + 1 < _; omega), b1.frozen (by show w.heap.size + 1 < _; omega)]; exact s4
  have r4_1 : U1.cell? ⟨w.heap.size + 1 + 1, 4, none⟩ = some (.slice none 0 0) := by rw [hU1]; simp [go_sem, hc1, l0'', r4]
  have t4_1 : U1.frozen? ⟨w.heap.size + 1 + 1, 4, none⟩ = false := by rw [hU1]; simp [go_sem, hf1, l0'', t4]
  have p5_1 : U1.cell? ⟨w.heap.size, 5, none⟩ = some (.slice A5 n5 c5) := by rw [BU1.cell (by show w.heap.size < _; omega), b1.cell (by show w.heap.size < _; omega)]; exact p5
  have q5_1 : U1.cell? ⟨w.heap.size + 1, 5, none⟩ = some (.slice none 0 0) := by rw [BU1.cell (by show w.heap.size + 1 < _; omega), b1.cell (by show w.heap.size + 1 < _; omega)]; exact q5
  have s5_1 : U1.frozen? ⟨w.heap.size + 1, 5, none⟩ = false := by rw [BU1.frozen (by show w.heap.size + 1 < _; omega), b1.frozen (by show w.heap.size + 1 < _; omega)]; exact s5
  have r5_1 : U1.cell? ⟨w.heap.size + 1 + 1, 5, none⟩ = some (.slice none 0 0) := by rw [hU1]; simp [go_sem, hc1, l0'', r5]
  have t5_1 : U1.frozen? ⟨w.heap.size + 1 + 1, 5, none⟩ = false := by rw [hU1]; simp [go_sem, hf1, l0'', t5]
  have t1_w : w1.frozen? ⟨w.heap.size + 1 + 1, 1, none⟩ = false := by rw [hf1 _ _ l0'']; exact t1
  have r1_w : w1.cell? ⟨w.heap.size + 1 + 1, 1, none⟩ = some (.slice none 0 0) := by rw [hc1 _ _ l0'']; exact r1
  have p2_w : w1.cell? ⟨w.heap.size, 2, none⟩ = some (.slice A2 n2 c2) := by rw [hc1 _ _ l0]; exact p2
  have p3_w : w1.cell? ⟨w.heap.size, 3, none⟩ = some (.slice A3 n3 c3) := by rw [hc1 _ _ l0]; exact p3
  have p4_w : w1.cell? ⟨w.heap.size, 4, none⟩ = some (.slice A4 n4 c4) := by rw [hc1 _ _ l0]; exact p4
  have p5_w : w1.cell? ⟨w.heap.size, 5, none⟩ = some (.slice A5 n5 c5) := by rw [hc1 _ _ l0]; exact p5
  have HU1 := Lib.hid hU1
  clear hU1 e1 hc1 hf1 q0 s0 r0 t0 q1 s1 r1 t1 q2 s2 r2 t2 q3 s3 r3 t3 q4 s4 r4 t4 q5 s5 r5 t5
  go_wp2_with fail
  rw [← HU1.out]
  clear t1_w r1_w p2_w p3_w p4_w p5_w
  refine (nf_to_TS _ _ _ _ _ y2_1 (by omega)).mono ?_
  rintro e w2 ⟨A2', n2', c2', rfl, o2_1, b2⟩
  obtain ⟨hc2, hf2⟩ := bcell b2
  obtain ⟨U2, hU2⟩ : ∃ U, U = w2.setCell ⟨w.heap.size + 1 + 1, 2, none⟩ (.slice A2' n2' c2') := ⟨_, rfl⟩
  have m2 : Mid (w.heap.size + 1 + 1) (w.heap.size + 1 + 1 + 1) w2 U2 := by rw [hU2]; exact Mid.of_grown (grown_setCell w2 (w.heap.size + 1 + 1) 2 _) fun k hk => by injection hk with hk; omega
  have e2 : U2.heap.size = w2.heap.size := by rw [hU2]; simp
  have E2 := Lib.hid e2
  have sz2 : U1.heap.size ≤ U2.heap.size := by rw [e2]; exact b2.size
  have BU2 : Below (w.heap.size + 1 + 1) w2 U2 := m2.toBelow (by omega)
  have B2 : Below w.heap.size w U2 := (bel_trans B1 b2).trans (BU2.mono (by omega))
  have l2 := Nat.lt_of_lt_of_le l1 sz2
  have l2' := Nat.lt_of_lt_of_le l1' sz2
  have l2'' := Nat.lt_of_lt_of_le l1'' sz2
  have Z2 := Nat.le_trans Z1 sz2
  have o2_2 : tTS.O U2 (Iv U1.heap.size U2.heap.size) [.slice A2' n2' c2'] x2 := tTS.oiv (tTS.omid o2_1 m2 (.inr (by omega)) (Nat.le_refl _)) (Nat.le_refl _) (by omega)
  have o1_2 := tSS.omid (tSS.obelow o1_1 b2 (by omega)) m2 (.inr (by omega)) (by omega)
  have y3_2 : tS.R U2 U2.heap.size [.slice A3 n3 c3] x3 := tS.later h3 B2
  have y4_2 : tPS.R U2 U2.heap.size [.slice A4 n4 c4] x4 := tPS.later h4 B2
  have y5_2 : tM.R U2 U2.heap.size [.slice A5 n5 c5] x5 := tM.later h5 B2
  have q0_2 : U2.cell? ⟨w.heap.size + 1, 0, none⟩ = some (.int .i64 0) := by rw [BU2.cell (by show w.heap.size + 1 < _; omega), b2.cell (by show w.heap.size + 1 < _; omega)]; exact q0_1
  have s0_2 : U2.frozen? ⟨w.heap.size + 1, 0, none⟩ = false := by rw [BU2.frozen (by show w.heap.size + 1 < _; omega), b2.frozen (by show w.heap.size + 1 < _; omega)]; exact s0_1
  have r0_2 : U2.cell? ⟨w.heap.size + 1 + 1, 0, none⟩ = some (.int .i64 a0) := by rw [hU2]; simp [go_sem, hc2, l1'', r0_1]
  have t0_2 : U2.frozen? ⟨w.heap.size + 1 + 1, 0, none⟩ = false := by rw [hU2]; simp [go_sem, hf2, l1'', t0_1]
  have q1_2 : U2.cell? ⟨w.heap.size + 1, 1, none⟩ = some (.slice none 0 0) := by rw [BU2.cell (by show w.heap.size + 1 < _; omega), b2.cell (by show w.heap.size + 1 < _; omega)]; exact q1_1
  have s1_2 : U2.frozen? ⟨w.heap.size + 1, 1, none⟩ = false := by rw [BU2.frozen (by show w.heap.size + 1 < _; omega), b2.frozen (by show w.heap.size + 1 < _; omega)]; exact s1_1
  have r1_2 : U2.cell? ⟨w.heap.size + 1 + 1, 1, none⟩ = some (.slice A1' n1' c1') := by rw [hU2]; simp [go_sem, hc2, l1'', r1_1]
  have t1_2 : U2.frozen? ⟨w.heap.size + 1 + 1, 1, none⟩ = false := by rw [hU2]; simp [go_sem, hf2, l1'', t1_1]
  have q2_2 : U2.cell? ⟨w.heap.size + 1, 2, none⟩ = some (.slice none 0 0) := by rw [BU2.cell (by show w.heap.size + 1 < _; omega), b2.cell (by show w.heap.size + 1 < _; omega)]; exact q2_1
  have s2_2 : U2.frozen? ⟨w.heap.size + 1, 2, none⟩ = false := by rw [BU2.frozen (by show w.heap.size + 1 < _; omega), b2.frozen (by show w.heap.size + 1 < _; omega)]; exact s2_1
  have r2_2 : U2.cell? ⟨w.heap.size + 1 + 1, 2, none⟩ = some (.slice A2' n2' c2') := by rw [hU2]; simp [go_sem, hc2, l1'', r2_1]
  have t2_2 : U2.frozen? ⟨w.heap.size + 1 + 1, 2, none⟩ = false := by rw [hU2]; simp [go_sem, hf2, l1'', t2_1]
  have p3_2 : U2.cell? ⟨w.heap.size, 3, none⟩ = some (.slice A3 n3 c3) := by rw [BU2.cell (by show w.heap.size < _; omega), b2.cell (by show w.heap.size < _; omega)]; exact p3_1
  have q3_2 : U2.cell? ⟨w.heap.size + 1, 3, none⟩ = some (.slice none 0 0) := by rw [BU2.cell (by show w.heap.size + 1 < _; omega), b2.cell (by show w.heap.size + 1 < _; omega)]; exact q3_1
  have s3_2 : U2.frozen? ⟨w.heap.size + 1, 3, none⟩ = false := by rw [BU2.frozen (by show w.heap.size + 1 < _; omega), b2.frozen (by show w.heap.size + 1 < _; omega)]; exact s3_1
  have r3_2 : U2.cell? ⟨w.heap.size + 1 + 1, 3, none⟩ = some (.slice none 0 0) := by rw [hU2]; simp [go_sem, hc2, l1'', r3_1]
  have t3_2 : U2.frozen? ⟨w.heap.size + 1 + 1, 3, none⟩ = false := by rw [hU2]; simp [go_sem, hf2, l1'', t3_1]
  have p4_2 : U2.cell? ⟨w.heap.size, 4, none⟩ = some (.slice A4 n4 c4) := by rw [BU2.cell (by show w.heap.size < _; omega), b2.cell (by show w.heap.size < _; omega)]; exact p4_1
  have q4_2 : U2.cell? ⟨w.heap.size + 1, 4, none⟩ = some (.slice none 0 0) := by rw [BU2.cell (by show w.heap.size + 1 < _; omega), b2.cell (by show w.heap.size + 1 < _; omega)]; exact q4_1
  have s4_2 : U2.frozen? ⟨w.heap.size + 1, 4, none⟩ = false := by rw [BU2.frozen (by show w.heap.size + 1 < _; omega), b2.frozen (by show w.heap.size + 1 < _; omega)]; exact s4_1
  have r4_2 : U2.cell? ⟨w.heap.size + 1 + 1, 4, none⟩ = some (.slice none 0 0) := by rw [hU2]; simp [go_sem, hc2, l1'', r4_1]
  have t4_2 : U2.frozen? ⟨w.heap.size + 1 + 1, 4, none⟩ = false := by rw [hU2]; simp [go_sem, hf2, l1'', t4_1]
  have p5_2 : U2.cell? ⟨w.heap.size, 5, none⟩ = some (.slice A5 n5 c5) := by rw [BU2.cell (by show w.heap.size < _; omega), b2.cell (by show w.heap.size < _; omega)]; exact p5_1
  have q5_2 : U2.cell? ⟨w.heap.size + 1, 5, none⟩ = some (.slice none 0 0) := by rw [BU2.cell (by show w.heap.size + 1 < _; omega), b2.cell (by show w.heap.size + 1 < _; omega)]; exact q5_1
  have s5_2 : U2.frozen? ⟨w.heap.size + 1, 5, none⟩ = false := by rw [BU2.frozen (by show w.heap.size + 1 < _; omega), b2.frozen (by show w.heap.size + 1 < _; omega)]; exact s5_1
  have r5_2 : U2.cell? ⟨w.heap.size + 1 + 1, 5, none⟩ = some (.slice none 0 0) := by rw [hU2]; simp [go_sem, hc2, l1'', r5_1]
  have t5_2 : U2.frozen? ⟨w.heap.size + 1 + 1, 5, none⟩ = false := by rw [hU2]; simp [go_sem, hf2, l1'', t5_1]
  have t2_w : w2.frozen? ⟨w.heap.size + 1 + 1, 2, none⟩ = false := by rw [hf2 _ _ l1'']; exact t2_1
  have r2_w : w2.cell? ⟨w.heap.size + 1 + 1, 2, none⟩ = some (.slice none 0 0) := by rw [hc2 _ _ l1'']; exact r2_1
  have p3_w : w2.cell? ⟨w.heap.size, 3, none⟩ = some (.slice A3 n3 c3) := by rw [hc2 _ _ l1]; exact p3_1
  have p4_w : w2.cell? ⟨w.heap.size, 4, none⟩ = some (.slice A4 n4 c4) := by rw [hc2 _ _ l1]; exact p4_1
  have p5_w : w2.cell? ⟨w.heap.size, 5, none⟩ = some (.slice A5 n5 c5) := by rw [hc2 _ _ l1]; exact p5_1
  have HU2 := Lib.hid hU2
  clear hU2 e2 hc2 hf2 q0_1 s0_1 r0_1 t0_1 q1_1 s1_1 r1_1 t1_1 q2_1 s2_1 r2_1 t2_1 q3_1 s3_1 r3_1 t3_1 q4_1 s4_1 r4_1 t4_1 q5_1 s5_1 r5_1 t5_1
  go_wp2_with fail
  rw [← HU2.out]
  clear t2_w r2_w p3_w p4_w p5_w
  refine (nf_to_S _ _ _ _ _ y3_2 (by omega)).mono ?_
  rintro e w3 ⟨A3', n3', c3', rfl, o3_2, b3⟩
  obtain ⟨hc3, hf3⟩ := bcell b3
  obtain ⟨U3, hU3⟩ : ∃ U, U = w3.setCell ⟨w.heap.size + 1 + 1, 3, none⟩ (.slice A3' n3' c3') := ⟨_, rfl⟩
  have m3 : Mid (w.heap.size + 1 + 1) (w.heap.size + 1 + 1 + 1) w3 U3 := by rw [hU3]; exact Mid.of_grown (grown_setCell w3 (w.heap.size + 1 + 1) 3 _) fun k hk => by injection hk with hk; omega
  have e3 : U3.heap.size = w3.heap.size := by rw [hU3]; simp
  have E3 := Lib.hid e3
  have sz3 : U2.heap.size ≤ U3.heap.size := by rw [e3]; exact b3.size
  have BU3 : Below (w.heap.size + 1 + 1) w3 U3 := m3.toBelow (by omega)
  have B3 : Below w.heap.size w U3 := (bel_trans B2 b3).trans (BU3.mono (by omega))
  have l3 := Nat.lt_of_lt_of_le l2 sz3
  have l3' := Nat.lt_of_lt_of_le l2' sz3
  have l3'' := Nat.lt_of_lt_of_le l2'' sz3
  have Z3 := Nat.le_trans Z2 sz3
  have o3_3 : tS.O U3 (Iv U2.heap.size U3.heap.size) [.slice A3' n3' c3'] x3 := tS.oiv (tS.omid o3_2 m3 (.inr (by omega)) (Nat.le_refl _)) (Nat.le_refl _) (by omega)
  have o1_3 := tSS.omid (tSS.obelow o1_2 b3 (by omega)) m3 (.inr (by omega)) (by omega)
  have o2_3 := tTS.omid (tTS.obelow o2_2 b3 (by omega)) m3 (.inr (by omega)) (by omega)
  have y4_3 : tPS.R U3 U3.heap.size [.slice A4 n4 c4] x4 := tPS.later h4 B3
  have y5_3 : tM.R U3 U3.heap.size [.slice A5 n5 c5] x5 := tM.later h5 B3
  have q0_3 : U3.cell? ⟨w.heap.size + 1, 0, none⟩ = some (.int .i64 0) := by rw [BU3.cell (by show w.heap.size + 1 < _; omega), b3.cell (by show w.heap.size + 1 < _; omega)]; exact q0_2
  have s0_3 : U3.frozen? ⟨w.heap.size + 1, 0, none⟩ = false := by rw [BU3.frozen (by show w.heap.size + 1 < _; omega), b3.frozen (by show w.heap.size + 1 < _; omega)]; exact s0_2
  have r0_3 : U3.cell? ⟨w.heap.size + 1 + 1, 0, none⟩ = some (.int .i64 a0) := by rw [hU3]; simp [go_sem, hc3, l2'', r0_2]
  have t0_3 : U3.frozen? ⟨w.heap.size + 1 + 1, 0, none⟩ = false := by rw [hU3]; simp [go_sem, hf3, l2'', t0_2]
  have q1_3 : U3.cell? ⟨w.heap.size + 1, 1, none⟩ = some (.slice none 0 0) := by rw [BU3.cell (by show w.heap.size + 1 < _; omega), b3.cell (by show w.heap.size + 1 < _; omega)]; exact q1_2
  have s1_3 : U3.frozen? ⟨w.heap.size + 1, 1, none⟩ = false := by rw [BU3.frozen (by show w.heap.size + 1 < _; omega), b3.frozen (by show w.heap.size + 1 < _; omega)]; exact s1_2
  have r1_3 : U3.cell? ⟨w.heap.size + 1 + 1, 1, none⟩ = some (.slice A1' n1' c1') := by rw [hU3]; simp [go_sem, hc3, l2'', r1_2]
  have t1_3 : U3.frozen? ⟨w.heap.size + 1 + 1, 1, none⟩ = false := by rw [hU3]; simp [go_sem, hf3, l2'', t1_2]
  have q2_3 : U3.cell? ⟨w.heap.size + 1, 2, none⟩ = some (.slice none 0 0) := by rw [BU3.cell (by show w.heap.size + 1 < _; omega), b3.cell (by show w.heap.size + 1 < _; omega)]; exact q2_2
  have s2_3 : U3.frozen? ⟨w.heap.size + 1, 2, none⟩ = false := by rw [BU3.frozen (by show w.heap.size + 1 < _; omega), b3.frozen (by show w.heap.size + 1 < _; omega)]; exact s2_2
  have r2_3 : U3.cell? ⟨w.heap.size + 1 + 1, 2, none⟩ = some (.slice A2' n2' c2') := by rw [hU3]; simp [go_sem, hc3, l2'', r2_2]
  have t2_3 : U3.frozen? ⟨w.heap.size + 1 + 1, 2, none⟩ = false := by rw [hU3]; simp [go_sem, hf3, l2'', t2_2]
  have q3_3 : U3.cell? ⟨w.heap.size + 1, 3, none⟩ = some (.slice none 0 0) := by rw [BU3.cell (by show w.heap.size + 1 < _; omega), b3.cell (by show w.heap.size + 1 < _; omega)]; exact q3_2
  have s3_3 : U3.frozen? ⟨w.heap.size + 1, 3, none⟩ = false := by rw [BU3.frozen (by show w.heap.size + 1 < _; omega), b3.frozen (by show w.heap.size + 1 < _; omega)]; exact s3_2
  have r3_3 : U3.cell? ⟨w.heap.size + 1 + 1, 3, none⟩ = some (.slice A3' n3' c3') := by rw [hU3]; simp [go_sem, hc3, l2'', r3_2]
  have t3_3 : U3.frozen? ⟨w.heap.size + 1 + 1, 3, none⟩ = false := by rw [hU3]; simp [go_sem, hf3, l2'', t3_2]
  have p4_3 : U3.cell? ⟨w.heap.size, 4, none⟩ = some (.slice A4 n4 c4) := by rw [BU3.cell (by show w.heap.size < _; omega), b3.cell (by show w.heap.size < _; omega)]; exact p4_2
  have q4_3 : U3.cell? ⟨w.heap.size + 1, 4, none⟩ = some (.slice none 0 0) := by rw [BU3.cell (by show w.heap.size + 1 < _; omega), b3.cell (by show w.heap.size + 1 < _; omega)]; exact q4_2
  have s4_3 : U3.frozen? ⟨w.heap.size + 1, 4, none⟩ = false := by rw [BU3.frozen (by show w.heap.size + 1 < _; omega), b3.frozen (by show w.heap.size + 1 < _; omega)]; exact s4_2
  have r4_3 : U3.cell? ⟨w.heap.size + 1 + 1, 4, none⟩ = some (.slice none 0 0) := by rw [hU3]; simp [go_sem, hc3, l2'', r4_2]
  have t4_3 : U3.frozen? ⟨w.heap.size + 1 + 1, 4, none⟩ = false := by rw [hU3]; simp [go_sem, hf3, l2'', t4_2]
  have p5_3 : U3.cell? ⟨w.heap.size, 5, none⟩ = some (.slice A5 n5 c5) := by rw [BU3.cell (by show w.heap.size < _; omega), b3.cell (by show w.heap.size < _; omega)]; exact p5_2
  have q5_3 : U3.cell? ⟨w.heap.size + 1, 5, none⟩ = some (.slice none 0 0) := by rw [BU3.cell (by show w.heap.size + 1 < _; omega), b3.cell (by show w.heap.size + 1 < _; omega)]; exact q5_2
  have s5_3 : U3.frozen? ⟨w.heap.size + 1, 5, none⟩ = false := by rw [BU3.frozen (by show w.heap.size + 1 < _; omega), b3.frozen (by show w.heap.size + 1 < _; omega)]; exact s5_2
  have r5_3 : U3.cell? ⟨w.heap.size + 1 + 1, 5, none⟩ = some (.slice none 0 0) := by rw [hU3]; simp [go_sem, hc3, l2'', r5_2]
  have t5_3 : U3.frozen? ⟨w.heap.size + 1 + 1, 5, none⟩ = false := by rw [hU3]; simp [go_sem, hf3, l2'', t5_2]
  have t3_w : w3.frozen? ⟨w.heap.size + 1 + 1, 3, none⟩ = false := by rw [hf3 _ _ l2'']; exact t3_2
  have r3_w : w3.cell? ⟨w.heap.size + 1 + 1, 3, none⟩ = some (.slice none 0 0) := by rw [hc3 _ _ l2'']; exact r3_2
  have p4_w : w3.cell? ⟨w.heap.size, 4, none⟩ = some (.slice A4 n4 c4) := by rw [hc3 _ _ l2]; exact p4_2
  have p5_w : w3.cell? ⟨w.heap.size, 5, none⟩ = some (.slice A5 n5 c5) := by rw [hc3 _ _ l2]; exact p5_2
  have HU3 := Lib.hid hU3
  clear hU3 e3 hc3 hf3 q0_2 s0_2 r0_2 t0_2 q1_2 s1_2 r1_2 t1_2 q2_2 s2_2 r2_2 t2_2 q3_2 s3_2 r3_2 t3_2 q4_2 s4_2 r4_2 t4_2 q5_2 s5_2 r5_2 t5_2
  go_wp2_with fail
  rw [← HU3.out]
  clear t3_w r3_w p4_w p5_w
  refine (nf_to_PS _ _ _ _ _ y4_3 (by omega)).mono ?_
  rintro e w4 ⟨A4', n4', c4', rfl, o4_3, b4⟩
  obtain ⟨hc4, hf4⟩ := bcell b4
  obtain ⟨U4, hU4⟩ : ∃ U, U = w4.setCell ⟨w.heap.size + 1 + 1, 4, none⟩ (.slice A4' n4' c4') := ⟨_, rfl⟩
  have m4 : Mid (w.heap.size + 1 + 1) (w.heap.size + 1 + 1 + 1) w4 U4 := by rw [hU4]; exact Mid.of_grown (grown_setCell w4 (w.heap.size + 1 + 1) 4 _) fun k hk => by injection hk with hk; omega
  have e4 : U4.heap.size = w4.heap.size := by rw [hU4]; simp
  have E4 := Lib.hid e4
  have sz4 : U3.heap.size ≤ U4.heap.size := by rw [e4]; exact b4.size
  have BU4 : Below (w.heap.size + 1 + 1) w4 U4 := m4.toBelow (by omega)
  have B4 : Below w.heap.size w U4 := (bel_trans B3 b4).trans (BU4.mono (by omega))
  have l4 := Nat.lt_of_lt_of_le l3 sz4
  have l4' := Nat.lt_of_lt_of_le l3' sz4
  have l4'' := Nat.lt_of_lt_of_le l3'' sz4
  have Z4 := Nat.le_trans Z3 sz4
  have o4_4 : tPS.O U4 (Iv U3.heap.size U4.heap.size) [.slice A4' n4' c4'] x4 := tPS.oiv (tPS.omid o4_3 m4 (.inr (by omega)) (Nat.le_refl _)) (Nat.le_refl _) (by omega)
  have o1_4 := tSS.omid (tSS.obelow o1_3 b4 (by omega)) m4 (.inr (by omega)) (by omega)
  have o2_4 := tTS.omid (tTS.obelow o2_3 b4 (by omega)) m4 (.inr (by omega)) (by omega)
  have o3_4 := tS.omid (tS.obelow o3_3 b4 (by omega)) m4 (.inr (by omega)) (by omega)
  have y5_4 : tM.R U4 U4.heap.size [.slice A5 n5 c5] x5 := tM.later h5 B4
  have q0_4 : U4.cell? ⟨w.heap.size + 1, 0, none⟩ = some (.int .i64 0) := by rw [BU4.cell (by show w.heap.size + 1 < _; omega), b4.cell (by show w.heap.size + 1 < _; omega)]; exact q0_3
  have s0_4 : U4.frozen? ⟨w.heap.size + 1, 0, none⟩ = false := by rw [BU4.frozen (by show w.heap.size + 1 < _; omega), b4.frozen (by show w.heap.size + 1 < _; omega)]; exact s0_3
  have r0_4 : U4.cell? ⟨w.heap.size + 1 + 1, 0, none⟩ = some (.int .i64 a0) := by rw [hU4]; simp [go_sem, hc4, l3'', r0_3]
  have t0_4 : U4.frozen? ⟨w.heap.size + 1 + 1, 0, none⟩ = false := by rw [hU4]; simp [go_sem, hf4, l3'', t0_3]
  have q1_4 : U4.cell? ⟨w.heap.size + 1, 1, none⟩ = some (.slice none 0 0) := by rw [BU4.cell (by show w.heap.size + 1 < _; omega), b4.cell (by show w.heap.size + 1 < _; omega)]; exact q1_3
  have s1_4 : U4.frozen? ⟨w.heap.size + 1, 1, none⟩ = false := by rw [BU4.frozen (by show w.heap.size + 1 < _; omega), b4.frozen (by show w.heap.size + 1 < _; omega)]; exact s1_3
  have r1_4 : U4.cell? ⟨w.heap.size + 1 + 1, 1, none⟩ = some (.slice A1' n1' c1') := by rw [hU4]; simp [go_sem, hc4, l3'', r1_3]
  have t1_4 : U4.frozen? ⟨w.heap.size + 1 + 1, 1, none⟩ = false := by rw [hU4]; simp [go_sem, hf4, l3'', t1_3]
  have q2_4 : U4.cell? ⟨w.heap.size + 1, 2, none⟩ = some (.slice none 0 0) := by rw [BU4.cell (by show w.heap.size + 1 < _; omega), b4.cell (by show w.heap.size + 1 < _; omega)]; exact q2_3
  have s2_4 : U4.frozen? ⟨w.heap.size + 1, 2, none⟩ = false := by rw [BU4.frozen (by show w.heap.size + 1 < _; omega), b4.frozen (by show w.heap.size + 1 < _; omega)]; exact s2_3
  have r2_4 : U4.cell? ⟨w.heap.size + 1 + 1, 2, none⟩ = some (.slice A2' n2' c2') := by rw [hU4]; simp [go_sem, hc4, l3'', r2_3]
  have t2_4 : U4.frozen? ⟨w.heap.size + 1 + 1, 2, none⟩ = false := by rw [hU4]; simp [go_sem, hf4, l3'', t2_3]
  have q3_4 : U4.cell? ⟨w.heap.size + 1, 3, none⟩ = some (.slice none 0 0) := by rw [BU4.cell (by show w.heap.size + 1 < _; omega), b4.cell (by show w.heap.size + 1 < _; omega)]; exact q3_3
  have s3_4 : U4.frozen? ⟨w.heap.size + 1, 3, none⟩ = false := by rw [BU4.frozen (by show w.heap.size + 1 < _; omega), b4.frozen (by show w.heap.size + 1 < _; omega)]; exact s3_3
  have r3_4 : U4.cell? ⟨w.heap.size + 1 + 1, 3, none⟩ = some (.slice A3' n3' c3') := by rw [hU4]; simp [go_sem, hc4, l3'', r3_3]
  have t3_4 : U4.frozen? ⟨w.heap.size + 1 + 1, 3, none⟩ = false := by rw [hU4]; simp [go_sem, hf4, l3'', t3_3]
  have q4_4 : U4.cell? ⟨w.heap.size + 1, 4, none⟩ = some (.slice none 0 0) := by rw [BU4.cell (by show w.heap.size + 1 < _; omega), b4.cell (by show w.heap.size + 1 < _; omega)]; exact q4_3
  have s4_4 : U4.frozen? ⟨w.heap.size + 1, 4, none⟩ = false := by rw [BU4.frozen (by show w.heap.size + 1 < _; omega), b4.frozen (by show w.heap.size + 1 < _; omega)]; exact s4_3
  have r4_4 : U4.cell? ⟨w.heap.size + 1 + 1, 4, none⟩ = some (.slice A4' n4' c4') := by rw [hU4]; simp [go_sem, hc4, l3'', r4_3]
  have t4_4 : U4.frozen? ⟨w.heap.size + 1 + 1, 4, none⟩ = false := by rw [hU4]; simp [go_sem, hf4, l3'', t4_3]
  have p5_4 : U4.cell? ⟨w.heap.size, 5, none⟩ = some (.slice A5 n5 c5) := by rw [BU4.cell (by show w.heap.size < _; omega), b4.cell (by show w.heap.size < _; omega)]; exact p5_3
  have q5_4 : U4.cell? ⟨w.heap.size + 1, 5, none⟩ = some (.slice none 0 0) := by rw [BU4.cell (by show w.heap.size + 1 < _; omega), b4.cell (by show w.heap.size + 1 < _; omega)]; exact q5_3
  have s5_4 : U4.frozen? ⟨w.heap.size + 1, 5, none⟩ = false := by rw [BU4.frozen (by show w.heap.size + 1 < _; omega), b4.frozen (by show w.heap.size + 1 < _; omega)]; exact s5_3
  have r5_4 : U4.cell? ⟨w.heap.size + 1 + 1, 5, none⟩ = some (.slice none 0 0) := by rw [hU4]; simp [go_sem, hc4, l3'', r5_3]
  have t5_4 : U4.frozen? ⟨w.heap.size + 1 + 1, 5, none⟩ = false := by rw [hU4]; simp [go_sem, hf4, l3'', t5_3]
  have t4_w : w4.frozen? ⟨w.heap.size + 1 + 1, 4, none⟩ = false := by rw [hf4 _ _ l3'']; exact t4_3
  have r4_w : w4.cell? ⟨w.heap.size + 1 + 1, 4, none⟩ = some (.slice none 0 0) := by rw [hc4 _ _ l3'']; exact r4_3
  have p5_w : w4.cell? ⟨w.heap.size, 5, none⟩ = some (.slice A5 n5 c5) := by rw [hc4 _ _ l3]; exact p5_3
  have HU4 := Lib.hid hU4
  clear hU4 e4 hc4 hf4 q0_3 s0_3 r0_3 t0_3 q1_3 s1_3 r1_3 t1_3 q2_3 s2_3 r2_3 t2_3 q3_3 s3_3 r3_3 t3_3 q4_3 s4_3 r4_3 t4_3 q5_3 s5_3 r5_3 t5_3
  go_wp2_with fail
  rw [← HU4.out]
  clear t4_w r4_w p5_w
  refine (nf_to_M _ _ _ _ _ y5_4 (by omega)).mono ?_
  rintro e w5 ⟨A5', n5', c5', rfl, o5_4, b5⟩
  obtain ⟨hc5, hf5⟩ := bcell b5
  obtain ⟨U5, hU5⟩ : ∃ U, U = w5.setCell ⟨w.heap.size + 1 + 1, 5, none⟩ (.slice A5' n5' c5') := ⟨_, rfl⟩
  have m5 : Mid (w.heap.size + 1 + 1) (w.heap.size + 1 + 1 + 1) w5 U5 := by rw [hU5]; exact Mid.of_grown (grown_setCell w5 (w.heap.size + 1 + 1) 5 _) fun k hk => by injection hk with hk; omega
  have e5 : U5.heap.size = w5.heap.size := by rw [hU5]; simp
  have E5 := Lib.hid e5
  have sz5 : U4.heap.size ≤ U5.heap.size := by rw [e5]; exact b5.size
  have BU5 : Below (w.heap.size + 1 + 1) w5 U5 := m5.toBelow (by omega)
  have B5 : Below w.heap.size w U5 := (bel_trans B4 b5).trans (BU5.mono (by omega))
  have l5 := Nat.lt_of_lt_of_le l4 sz5
  have l5' := Nat.lt_of_lt_of_le l4' sz5
  have l5'' := Nat.lt_of_lt_of_le l4'' sz5
  have Z5 := Nat.le_trans Z4 sz5
  have o5_5 : tM.O U5 (Iv U4.heap.size U5.heap.size) [.slice A5' n5' c5'] x5 := tM.oiv (tM.omid o5_4 m5 (.inr (by omega)) (Nat.le_refl _)) (Nat.le_refl _) (by omega)
  have o1_5 := tSS.omid (tSS.obelow o1_4 b5 (by omega)) m5 (.inr (by omega)) (by omega)
  have o2_5 := tTS.omid (tTS.obelow o2_4 b5 (by omega)) m5 (.inr (by omega)) (by omega)
  have o3_5 := tS.omid (tS.obelow o3_4 b5 (by omega)) m5 (.inr (by omega)) (by omega)
  have o4_5 := tPS.omid (tPS.obelow o4_4 b5 (by omega)) m5 (.inr (by omega)) (by omega)
  have q0_5 : U5.cell? ⟨w.heap.size + 1, 0, none⟩ = some (.int .i64 0) := by rw [BU5.cell (by show w.heap.size + 1 < _; omega), b5.cell (by show w.heap.size + 1 < _; omega)]; exact q0_4
  have s0_5 : U5.frozen? ⟨w.heap.size + 1, 0, none⟩ = false := by rw [BU5.frozen (by show w.heap.size + 1 < _; omega), b5.frozen (by show w.heap.size + 1 < _; omega)]; exact s0_4
  have r0_5 : U5.cell? ⟨w.heap.size + 1 + 1, 0, none⟩ = some (.int .i64 a0) := by rw [hU5]; simp [go_sem, hc5, l4'', r0_4]
  have t0_5 : U5.frozen? ⟨w.heap.size + 1 + 1, 0, none⟩ = false := by rw [hU5]; simp [go_sem, hf5, l4'', t0_4]
  have q1_5 : U5.cell? ⟨w.heap.size + 1, 1, none⟩ = some (.slice none 0 0) := by rw [BU5.cell (by show w.heap.size + 1 < _; omega), b5.cell (by show w.heap.size + 1 < _; omega)]; exact q1_4
  have s1_5 : U5.frozen? ⟨w.heap.size + 1, 1, none⟩ = false := by rw [BU5.frozen (by show w.heap.size + 1 < _; omega), b5.frozen (by show w.heap.size + 1 < _; omega)]; exact s1_4
  have r1_5 : U5.cell? ⟨w.heap.size + 1 + 1, 1, none⟩ = some (.slice A1' n1' c1') := by rw [hU5]; simp [go_sem, hc5, l4'', r1_4]
  have t1_5 : U5.frozen? ⟨w.heap.size + 1 + 1, 1, none⟩ = false := by rw [hU5]; simp [go_sem, hf5, l4'', t1_4]
  have q2_5 : U5.cell? ⟨w.heap.size + 1, 2, none⟩ = some (.slice none 0 0) := by rw [BU5.cell (by show w.heap.size + 1 < _; omega), b5.cell (by show w.heap.size + 1 < _; omega)]; exact q2_4
  have s2_5 : U5.frozen? ⟨w.heap.size + 1, 2, none⟩ = false := by rw [BU5.frozen (by show w.heap.size + 1 < _; omega), b5.frozen (by show w.heap.size + 1 < _; omega)]; exact s2_4
  have r2_5 : U5.cell? ⟨w.heap.size + 1 + 1, 2, none⟩ = some (.slice A2' n2' c2') := by rw [hU5]; simp [go_sem, hc5, l4'', r2_4]
  have t2_5 : U5.frozen? ⟨w.heap.size + 1 + 1, 2, none⟩ = false := by rw [hU5]; simp [go_sem, hf5, l4'', t2_4]
  have q3_5 : U5.cell? ⟨w.heap.size + 1, 3, none⟩ = some (.slice none 0 0) := by rw [BU5.cell (by show w.heap.size + 1 < _; omega), b5.cell (by show w.heap.size + 1 < _; omega)]; exact q3_4
  have s3_5 : U5.frozen? ⟨w.heap.size + 1, 3, none⟩ = false := by rw [BU5.frozen (by show w.heap.size + 1 < _; omega), b5.frozen (by show w.heap.size + 1 < _; omega)]; exact s3_4
  have r3_5 : U5.cell? ⟨w.heap.size + 1 + 1, 3, none⟩ = some (.slice A3' n3' c3') := by rw [hU5]; simp [go_sem, hc5, l4'', r3_4]
  have t3_5 : U5.frozen? ⟨w.heap.size + 1 + 1, 3, none⟩ = false := by rw [hU5]; simp [go_sem, hf5, l4'', t3_4]
  have q4_5 : U5.cell? ⟨w.heap.size + 1, 4, none⟩ = some (.slice none 0 0) := by rw [BU5.cell (by show w.heap.size + 1 < _; omega), b5.cell (by show w.heap.size + 1 < _; omega)]; exact q4_4
  have s4_5 : U5.frozen? ⟨w.heap.size + 1, 4, none⟩ = false := by rw [BU5.frozen (by show w.heap.size + 1 < _; omega), b5.frozen (by show w.heap.size + 1 < _; omega)]; exact s4_4
  have r4_5 : U5.cell? ⟨w.heap.size + 1 + 1, 4, none⟩ = some (.slice A4' n4' c4') := by rw [hU5]; simp [go_sem, hc5, l4'', r4_4]
  have t4_5 : U5.frozen? ⟨w.heap.size + 1 + 1, 4, none⟩ = false := by rw [hU5]; simp [go_sem, hf5, l4'', t4_4]
  have q5_5 : U5.cell? ⟨w.heap.size + 1, 5, none⟩ = some (.slice none 0 0) := by rw [BU5.cell (by show w.heap.size + 1 < _; omega), b5.cell (by show w.heap.size + 1 < _; omega)]; exact q5_4
  have s5_5 : U5.frozen? ⟨w.heap.size + 1, 5, none⟩ = false := by rw [BU5.frozen (by show w.heap.size + 1 < _; omega), b5.frozen (by show w.heap.size + 1 < _; omega)]; exact s5_4
  have r5_5 : U5.cell? ⟨w.heap.size + 1 + 1, 5, none⟩ = some (.slice A5' n5' c5') := by rw [hU5]; simp [go_sem, hc5, l4'', r5_4]
  have t5_5 : U5.frozen? ⟨w.heap.size + 1 + 1, 5, none⟩ = false := by rw [hU5]; simp [go_sem, hf5, l4'', t5_4]
  have t0_w : w5.frozen? ⟨w.heap.size + 1 + 1, 0, none⟩ = false := by rw [hf5 _ _ l4'']; exact t0_4
  have s0_w : w5.frozen? ⟨w.heap.size + 1, 0, none⟩ = false := by rw [hf5 _ _ l4']; exact s0_4
  have q0_w : w5.cell? ⟨w.heap.size + 1, 0, none⟩ = some (.int .i64 0) := by rw [hc5 _ _ l4']; exact q0_4
  have r0_w : w5.cell? ⟨w.heap.size + 1 + 1, 0, none⟩ = some (.int .i64 a0) := by rw [hc5 _ _ l4'']; exact r0_4
  have t1_w : w5.frozen? ⟨w.heap.size + 1 + 1, 1, none⟩ = false := by rw [hf5 _ _ l4'']; exact t1_4
  have s1_w : w5.frozen? ⟨w.heap.size + 1, 1, none⟩ = false := by rw [hf5 _ _ l4']; exact s1_4
  have q1_w : w5.cell? ⟨w.heap.size + 1, 1, none⟩ = some (.slice none 0 0) := by rw [hc5 _ _ l4']; exact q1_4
  have r1_w : w5.cell? ⟨w.heap.size + 1 + 1, 1, none⟩ = some (.slice A1' n1' c1') := by rw [hc5 _ _ l4'']; exact r1_4
  have t2_w : w5.frozen? ⟨w.heap.size + 1 + 1, 2, none⟩ = false := by rw [hf5 _ _ l4'']; exact t2_4
  have s2_w : w5.frozen? ⟨w.heap.size + 1, 2, none⟩ = false := by rw [hf5 _ _ l4']; exact s2_4
  have q2_w : w5.cell? ⟨w.heap.size + 1, 2, none⟩ = some (.slice none 0 0) := by rw [hc5 _ _ l4']; exact q2_4
  have r2_w : w5.cell? ⟨w.heap.size + 1 + 1, 2, none⟩ = some (.slice A2' n2' c2') := by rw [hc5 _ _ l4'']; exact r2_4
  have t3_w : w5.frozen? ⟨w.heap.size + 1 + 1, 3, none⟩ = false := by rw [hf5 _ _ l4'']; exact t3_4
  have s3_w : w5.frozen? ⟨w.heap.size + 1, 3, none⟩ = false := by rw [hf5 _ _ l4']; exact s3_4
  have q3_w : w5.cell? ⟨w.heap.size + 1, 3, none⟩ = some (.slice none 0 0) := by rw [hc5 _ _ l4']; exact q3_4
  have r3_w : w5.cell? ⟨w.heap.size + 1 + 1, 3, none⟩ = some (.slice A3' n3' c3') := by rw [hc5 _ _ l4'']; exact r3_4
  have t4_w : w5.frozen? ⟨w.heap.size + 1 + 1, 4, none⟩ = false := by rw [hf5 _ _ l4'']; exact t4_4
  have s4_w : w5.frozen? ⟨w.heap.size + 1, 4, none⟩ = false := by rw [hf5 _ _ l4']; exact s4_4
  have q4_w : w5.cell? ⟨w.heap.size + 1, 4, none⟩ = some (.slice none 0 0) := by rw [hc5 _ _ l4']; exact q4_4
  have r4_w : w5.cell? ⟨w.heap.size + 1 + 1, 4, none⟩ = some (.slice A4' n4' c4') := by rw [hc5 _ _ l4'']; exact r4_4
  have t5_w : w5.frozen? ⟨w.heap.size + 1 + 1, 5, none⟩ = false := by rw [hf5 _ _ l4'']; exact t5_4
  have s5_w : w5.frozen? ⟨w.heap.size + 1, 5, none⟩ = false := by rw [hf5 _ _ l4']; exact s5_4
  have q5_w : w5.cell? ⟨w.heap.size + 1, 5, none⟩ = some (.slice none 0 0) := by rw [hc5 _ _ l4']; exact q5_4
  have r5_w : w5.cell? ⟨w.heap.size + 1 + 1, 5, none⟩ = some (.slice none 0 0) := by rw [hc5 _ _ l4'']; exact r5_4
  have HU5 := Lib.hid hU5
  clear hU5 e5 hc5 hf5 q0_4 s0_4 r0_4 t0_4 q1_4 s1_4 r1_4 t1_4 q2_4 s2_4 r2_4 t2_4 q3_4 s3_4 r3_4 t3_4 q4_4 s4_4 r4_4 t4_4 q5_4 s5_4 r5_4 t5_4
  go_wp2
  rw [← HU5.out]
  clear t0_w r0_w s0_w q0_w t1_w r1_w s1_w q1_w t2_w r2_w s2_w q2_w t3_w r3_w s3_w q3_w t4_w r4_w s4_w q4_w t5_w r5_w s5_w q5_w
  have mm : Mid (w.heap.size + 1) (w.heap.size + 1 + 1) U5 ((((((U5.setCell ⟨w.heap.size + 1, 0, none⟩ (.int .i64 a0)).setCell ⟨w.heap.size + 1, 1, none⟩ (.slice A1' n1' c1')).setCell ⟨w.heap.size + 1, 2, none⟩ (.slice A2' n2' c2')).setCell ⟨w.heap.size + 1, 3, none⟩ (.slice A3' n3' c3')).setCell ⟨w.heap.size + 1, 4, none⟩ (.slice A4' n4' c4')).setCell ⟨w.heap.size + 1, 5, none⟩ (.slice A5' n5' c5')) := ((((((Mid.of_grown (grown_setCell _ (w.heap.size + 1) 0 _) fun k hk => by injection hk with hk; omega).trans (Mid.of_grown (grown_setCell _ (w.heap.size + 1) 1 _) fun k hk => by injection hk with hk; omega)).trans (Mid.of_grown (grown_setCell _ (w.heap.size + 1) 2 _) fun k hk => by injection hk with hk; omega)).trans (Mid.of_grown (grown_setCell _ (w.heap.size + 1) 3 _) fun k hk => by injection hk with hk; omega)).trans (Mid.of_grown (grown_setCell _ (w.heap.size + 1) 4 _) fun k hk => by injection hk with hk; omega)).trans (Mid.of_grown (grown_setCell _ (w.heap.size + 1) 5 _) fun k hk => by injection hk with hk; omega))
  refine bodyPost_ret (v := .agg #[.int .i64 a0, .slice A1' n1' c1', .slice A2' n2' c2', .slice A3' n3' c3', .slice A4' n4' c4', .slice A5' n5' c5']) (by simp [results, Tryz.results8, go_sem, q0_5, s0_5, r0_5, q1_5, s1_5, r1_5, q2_5, s2_5, r2_5, q3_5, s3_5, r3_5, q4_5, s4_5, r4_5, q5_5, s5_5, r5_5]) rfl ?_
  refine ⟨A1', n1', c1', A2', n2', c2', A3', n3', c3', A4', n4', c4', A5', n5', c5', rfl, tZ_O.2 ⟨A1', n1', c1', A2', n2', c2', A3', n3', c3', A4', n4', c4', A5', n5', c5', Iv W.heap.size U1.heap.size, Iv U1.heap.size U2.heap.size, Iv U2.heap.size U3.heap.size, Iv U3.heap.size U4.heap.size, Iv U4.heap.size U5.heap.size, rfl, tSS.omid o1_5 mm (.inr (by omega)) (by omega), tTS.omid o2_5 mm (.inr (by omega)) (by omega), tS.omid o3_5 mm (.inr (by omega)) (by omega), tPS.omid o4_5 mm (.inr (by omega)) (by omega), tM.omid o5_5 mm (.inr (by omega)) (by omega), fun b h => ⟨by have := h.1; omega, Nat.lt_of_lt_of_le (Nat.lt_of_lt_of_le h.2 (by omega)) mm.size⟩, fun b h => ⟨by have := h.1; omega, Nat.lt_of_lt_of_le (Nat.lt_of_lt_of_le h.2 (by omega)) mm.size⟩, fun b h => ⟨by have := h.1; omega, Nat.lt_of_lt_of_le (Nat.lt_of_lt_of_le h.2 (by omega)) mm.size⟩, fun b h => ⟨by have := h.1; omega, Nat.lt_of_lt_of_le (Nat.lt_of_lt_of_le h.2 (by omega)) mm.size⟩, fun b h => ⟨by have := h.1; omega, Nat.lt_of_lt_of_le (Nat.lt_of_lt_of_le h.2 (by omega)) mm.size⟩, fun b h h2 => by have := h.2; have := h2.1; omega, fun b h h2 => by have := h.2; have := h2.1; omega, fun b h h2 => by have := h.2; have := h2.1; omega, fun b h h2 => by have := h.2; have := h2.1; omega, fun b h h2 => by have := h.2; have := h2.1; omega, fun b h h2 => by have := h.2; have := h2.1; omega, fun b h h2 => by have := h.2; have := h2.1; omega, fun b h h2 => by have := h.2; have := h2.1; omega, fun b h h2 => by have := h.2; have := h2.1; omega, fun b h h2 => by have := h.2; have := h2.1; omega⟩, ?_⟩
  exact B5.trans ((mm.toBelow (by omega)).mono (by omega))
end Go.Proofs.YtacgcagpaecncaaGreat
namespace Go.Proofs.YtacgcagpaecncaaGreat
open Go.RowKit Go.Sort
set_option maxHeartbeats 4000000
set_option maxRecDepth 100000
set_option linter.unusedVariables false
set_option linter.unusedSimpArgs false
set_option synthInstance.maxSize 2000
set_option synthInstance.maxHeartbeats 400000
/-- What is known of a kind: inputs, low, high, linear, hasB. -/
abbrev KD := Int × Int × Int × Bool × Bool
def M.kds : List KD := [(0, 0, 3, true, false), (0, -2147483648, 2147483647, false, false), (2, 1, 0, true, false), (2, 1, 0, true, false), (1, -2147483648, 2147483647, true, false), (1, 1, 16, true, false), (1, 1, 0, true, false), (1, 1, 0, true, false), (2, 1, 0, false, false), (1, 0, 31, false, false), (1, 0, 2147483647, false, false), (1, -2147483648, 2147483647, false, false), (1, 0, 3, false, false), (0, -2147483648, 2147483647, false, false), (3, 1, 0, false, false), (2, 1, 0, false, false), (1, -2147483648, 2147483647, true, true)]
def M.kd (j : Nat) : KD := M.kds.getD j (0, 0, 0, false, false)
def M.aI (k : KD) (a : Int) : Bool := if k.2.1 ≤ k.2.2.1 then M.inn a k.2.1 k.2.2.1 else decide (a = 0)
def M.bI (k : KD) (b : Int) : Bool := if k.2.2.2.2 then M.inn b 1 16 else decide (b = 0)
def M.from_ (f : Int) : Bool := M.inn f 0 23
/-- A node is valid for a number of tables. -/
def M.nodeOk (x : Node) (tb : Int) : Bool :=
  M.inn x.1 1 17 && (M.aI (M.kd (x.1.toNat - 1)) x.2.1 && M.bI (M.kd (x.1.toNat - 1)) x.2.2.1 && x.2.2.2.all M.from_ && decide ((x.2.2.2.length : Int) = (M.kd (x.1.toNat - 1)).1) && (decide (¬ x.1 = 13) || decide (x.2.1 < tb)))
/-- A of a node, as the reference has it. -/
def M.hasA (k : Int) : Bool := decide (k = 1) || decide (k = 2) || decide (k = 5) || decide (k = 6) || decide (k = 10) || decide (k = 11) || decide (k = 12) || decide (k = 13) || decide (k = 14) || decide (k = 17)
def M.aS (k a tb : Int) : Bool :=
  if k = 1 then M.inn a 0 3 else if k = 6 then M.inn a 1 16 else if k = 10 then M.inn a 0 31 else if k = 11 then M.inn a 0 2147483647 else if k = 13 then M.inn a 0 (min (max tb 0) 4 - 1) else if M.hasA k then M.smp a else decide (a = 0)
def M.ars : List Int := [-1, 0, 0, 2, 2, 1, 1, 1, 1, 2, 1, 1, 1, 1, 0, 3, 2, 1]
def M.ar (k : Nat) : Int := M.ars.getD k 0
def M.nodeS (x : Node) (tb : Int) : Bool :=
  M.inn x.1 1 17 && (M.aS x.1 x.2.1 tb && decide ((x.2.2.2.length : Int) = M.ar x.1.toNat) && x.2.2.2.all M.from_ && (if x.1 = 17 then M.inn x.2.2.1 1 16 else decide (x.2.2.1 = 0)))
def M.lin (k : Int) : Bool := M.inn k 1 17 && (M.kd (k.toNat - 1)).2.2.2.1
def M.linS (k : Int) : Bool := decide (k = 1) || decide (k = 3) || decide (k = 4) || decide (k = 5) || decide (k = 6) || decide (k = 7) || decide (k = 8) || decide (k = 17)
theorem M.kind_cases {k : Int} (h : M.inn k 1 17 = true) : k = 1 ∨ k = 2 ∨ k = 3 ∨ k = 4 ∨ k = 5 ∨ k = 6 ∨ k = 7 ∨ k = 8 ∨ k = 9 ∨ k = 10 ∨ k = 11 ∨ k = 12 ∨ k = 13 ∨ k = 14 ∨ k = 15 ∨ k = 16 ∨ k = 17 := by
  have := M.inn_iff.1 h
  omega
theorem M.lin_eq (k : Int) : M.linS k = M.lin k := by
  cases h : M.inn k 1 17
  · have h1 : ¬ (1 ≤ k ∧ k ≤ 17) := fun e => by rw [M.inn_iff.2 e] at h; cases h
    rw [M.lin, h, Bool.false_and, M.linS]
    simp
    omega
  · rcases M.kind_cases h with rfl | rfl | rfl | rfl | rfl | rfl | rfl | rfl | rfl | rfl | rfl | rfl | rfl | rfl | rfl | rfl | rfl <;> rfl
theorem M.node_eq (x : Node) (tb : Int) : M.nodeS x tb = M.nodeOk x tb := by
  obtain ⟨k, a, b, l⟩ := x
  cases h : M.inn k 1 17
  · rw [M.nodeS, M.nodeOk, h, Bool.false_and, Bool.false_and]
  · rw [M.nodeS, M.nodeOk]
    simp only [h, Bool.true_and]
    have key : ∀ A B C D E F : Bool, A = (F && E) → (A && C && B && D) = (F && D && B && C && E) := by decide
    rcases M.kind_cases h with rfl | rfl | rfl | rfl | rfl | rfl | rfl | rfl | rfl | rfl | rfl | rfl | rfl | rfl | rfl | rfl | rfl
    all_goals
      refine key _ _ _ _ _ _ ?_
      rw [Bool.eq_iff_iff]
      simp [M.aS, M.aI, M.kd, M.kds, M.hasA, M.smp, M.inn, List.getD]
      try omega
/-- Tables. -/
def M.tabOk (t : List Int) : Bool := (decide (t.length = 2) || decide (t.length = 4) || decide (t.length = 8) || decide (t.length = 16)) && t.all M.smp
def M.tabsOk (ts : List (List Int)) : Bool := ts.all M.tabOk && decide (ts.length ≤ 4)
theorem M.tab_sig (t : List Int) : (decide (t.length = 2) || decide (t.length = 4) || decide (t.length = 8) || decide (t.length = 16)) = true → M.sig t = t.all M.smp := by
  intro h
  rw [M.sig, show decide (t.length ≤ 4000) = true by simp at h ⊢; omega, Bool.true_and]
def M.idx (n : Int) (f : Int) : Bool := M.inn f 0 (n - 1)
/-- A node of a patch is well formed. -/
def M.nodeF (tb n inp : Int) (x : Node) : Bool := M.nodeOk x tb && x.2.2.2.all (M.idx n) && !(decide (x.1 = 1) && decide (inp ≤ x.2.1))
def M.formed (p : Patch) : Bool :=
  M.inn p.1 0 4 && M.tabsOk p.2.1 && decide (p.2.2.1.length ≤ 24) && decide (p.2.2.2.length ≤ 4) && p.2.2.2.all (M.idx p.2.2.1.length) && p.2.2.1.all (M.nodeF p.2.1.length p.2.2.1.length p.1)
def M.waits (x : Node) : List Int := if x.1 = 6 then [] else x.2.2.2
def M.mem (xs : List Int) (m : Int) : Bool := xs.any fun x => decide (x = m)
theorem M.mem_cons (x m : Int) (xs : List Int) : M.mem (x :: xs) m = (decide (x = m) || M.mem xs m) := rfl
theorem M.mem_nil (m : Int) : M.mem [] m = false := rfl
theorem M.mem_app (xs : List Int) (x m : Int) : M.mem (xs ++ [x]) m = (M.mem xs m || decide (x = m)) := by
  rw [M.mem, List.any_append]
  simp [M.mem]
def M.rdy (ns : List Node) (out : List Int) (i : Nat) : Bool := !M.mem out i && (M.waits ((ns[i]?).getD (0, 0, 0, []))).all (M.mem out)
def M.next (ns : List Node) (out : List Int) : Option Nat := (List.range ns.length).find? (M.rdy ns out)
def M.ordN (ns : List Node) : Nat → List Int
  | 0 => []
  | t + 1 => match M.next ns (M.ordN ns t) with
    | none => M.ordN ns t
    | some i => M.ordN ns t ++ [(i : Int)]
def M.ord (ns : List Node) : List Int := M.ordN ns ns.length
def M.patchOk (p : Patch) : Bool := M.formed p && decide ((M.ord p.2.2.1).length = p.2.2.1.length)
theorem M.next_some {ns : List Node} {out : List Int} {i : Nat} (hi : i < ns.length) (h : M.rdy ns out i = true) (hb : ∀ j, j < i → M.rdy ns out j = false) : M.next ns out = some i := by
  rw [M.next, List.find?_range_eq_some]
  exact ⟨h, List.mem_range.2 hi, fun j hj => by rw [hb j hj]; rfl⟩
theorem M.next_none {ns : List Node} {out : List Int} (hb : ∀ j, j < ns.length → M.rdy ns out j = false) : M.next ns out = none := by
  rw [M.next, List.find?_eq_none]
  intro j hj
  rw [hb j (List.mem_range.1 hj)]
  simp
theorem M.ordN_some {ns : List Node} {t i : Nat} (h : M.next ns (M.ordN ns t) = some i) : M.ordN ns (t + 1) = M.ordN ns t ++ [(i : Int)] := by rw [M.ordN, h]
theorem M.ordN_stay {ns : List Node} {t : Nat} (h : M.next ns (M.ordN ns t) = none) (d : Nat) : M.ordN ns (t + d) = M.ordN ns t := by
  induction d with
  | zero => rfl
  | succ d ih => rw [show t + (d + 1) = (t + d) + 1 from rfl, M.ordN, ih, h]
theorem M.ord_end {ns : List Node} {t : Nat} (ht : t ≤ ns.length) (h : M.next ns (M.ordN ns t) = none) : M.ord ns = M.ordN ns t := by
  rw [M.ord, show ns.length = t + (ns.length - t) by omega, M.ordN_stay h]
theorem M.rdy_at {ns : List Node} {out : List Int} {i : Nat} {x : Node} (h : ns[i]? = some x) : M.rdy ns out i = (!M.mem out i && (M.waits x).all (M.mem out)) := by
  rw [M.rdy, h]; rfl
/-- The zero Patch. -/
def M.p0 : Patch := (0, [], [], [])
def M.effOk (p : Patch) : Bool := decide (p = M.p0) || (M.patchOk p && decide (p.1 = 1) && decide (p.2.2.2.length = 1))
/-- A session is valid. -/
def M.sessOk (s : Sess) : Bool :=
  M.inn s.1 0 1000 && M.srcOk s.2.1 && decide (s.2.2.1.length ≤ 6) && M.mixOk s.2.2.2.2.2 && decide (s.2.2.2.1.length = s.2.2.1.length) && s.2.2.2.1.all (M.idx s.2.2.2.2.2.length) && decide (s.2.2.2.2.1.length = s.2.2.2.2.2.length) && s.2.2.1.all (fun t => M.trackOk t && M.hasS t s.2.1.length) && s.2.2.2.2.1.all M.effOk
def M.linSess (s : Sess) : Bool := M.sessOk s && s.2.2.2.2.1.all (fun p => p.2.2.1.all fun x => M.lin x.1)
end Go.Proofs.YtacgcagpaecncaaGreat
namespace Go.Proofs.YtacgcagpaecncaaGreat
open Go.RowKit
set_option maxHeartbeats 2000000
set_option maxRecDepth 100000
theorem src_cell {w : World} {B : Nat} {A : Option Addr} {n c : Nat} {src : List (List Int)} (hr : RS tS w B (.slice A n c) src) (hb : Hid (∀ x ∈ src, x.length ≤ 1000000000)) {k : Nat} (hk : k < n) :
    ∃ (bb o : Nat) (A1 : Option Addr) (c1 : Nat) (x : List Int), A = some ⟨bb, o, none⟩ ∧ bb < B ∧ Hid (src[k]? = some x) ∧ w.cell? ⟨bb, o + k, none⟩ = some (.slice A1 x.length c1) ∧ RI w B A1 x.length x ∧ x.length ≤ 1000000000000 := by
  obtain rfl : src.length = n := hr.cap.1
  have hX := List.getElem?_eq_getElem hk
  obtain ⟨bb, o, c1, cs, hv, hab, -, hE, hc⟩ := hr.atX hX
  simp only [Value.slice.injEq] at hv
  obtain ⟨rfl, -, rfl⟩ := hv
  obtain ⟨A1, n1, c2, rfl⟩ := open_S hE
  have hR := tS_R.1 hE
  have hcap := hR.cap
  obtain rfl : (src[k]).length = n1 := hcap.1
  have h0 : w.cell? ⟨bb, o + k * 1, none⟩ = some (.slice A1 (src[k]).length c2) := hc 0 _ rfl
  rw [Nat.mul_one] at h0
  exact ⟨bb, o, A1, c2, src[k], rfl, hab, Lib.hid hX, h0, hR.ri, by have := hb.out _ (List.getElem_mem hk); omega⟩
theorem impl_areSignals (A : Option Addr) (n c : Nat) (src : List (List Int)) (w : World) (hx : RS tS w w.heap.size (.slice A n c) src) (hb : Hid (∀ x ∈ src, x.length ≤ 1000000000)) (hn : n ≤ 1000000000) :
    Calls Tryz.prog 99 #[.slice A n c] w fun e w' => e = .returned (.bool (src.all M.sig)) ∧ w = w' := by
  have hl := Lib.hid hx.cap.1
  go_enter Tryz.func99, Tryz.ntmps99
  go_wp2
  go_loop [4, 7] (fun _ i => ∃ k : Nat, i = .int .i64 k ∧ k ≤ n ∧ Hid (src.all M.sig = (src.drop k).all M.sig)) (fun _ i => n - (intOf i).toNat)
  case atStart => exact ⟨0, rfl, by omega, Lib.hid (by simp)⟩
  case round =>
    obtain ⟨k, rfl, hk, H⟩ := hrel
    by_cases hlt : k < n
    · obtain ⟨bb, o, A1, c1, x, rfl, hbb, X, hc, hri, hxl⟩ := src_cell hx hb hlt
      have hd := Lib.hid (M.drop_at X.out)
      cases hs : M.sig x
      · have HS := Lib.hid hs
        clear hs
        go_wp2_with fail
        refine (impl_isSignal _ _ _ _ _ hri hxl).mono ?_
        rw [HS.out]
        rintro e w' ⟨rfl, rfl⟩
        go_wp2
        go_ret
        exact ⟨by rw [H.out, hd.out, List.all_cons, HS.out]; rfl, rfl⟩
      · have HS := Lib.hid hs
        clear hs
        go_wp2_with fail
        refine (impl_isSignal _ _ _ _ _ hri hxl).mono ?_
        rw [HS.out]
        rintro e w' ⟨rfl, rfl⟩
        go_wp2
        go_round
        case rel => exact ⟨k + 1, by go_num, by omega, Lib.hid (by rw [H.out, hd.out, List.all_cons, HS.out, Bool.true_and])⟩
        case measure => simp [intOf]; omega
    · have h9 := Lib.hid (show src.all M.sig = true by rw [H.out, List.drop_eq_nil_of_le (by rw [hl.out]; omega)]; rfl)
      go_wp2
      go_ret
      exact ⟨ret_bool h9.out.symm, rfl⟩
theorem impl_areSources (A : Option Addr) (n c : Nat) (src : List (List Int)) (w : World) (hx : RS tS w w.heap.size (.slice A n c) src) (hb : Hid (∀ x ∈ src, x.length ≤ 1000000000)) (hn : n ≤ 1000000000) :
    Calls Tryz.prog 63 #[.slice A n c] w fun e w' => e = .returned (.bool (M.srcOk src)) ∧ w = w' := by
  have hl := Lib.hid hx.cap.1
  by_cases h : n ≤ 6
  · go_enter Tryz.func63, Tryz.ntmps63
    go_wp2_with fail
    refine (impl_areSignals _ _ _ _ _ hx hb hn).mono ?_
    rintro e w' ⟨rfl, rfl⟩
    go_wp2
    go_ret
    exact ⟨ret_bool (by simp [M.srcOk, hl.out, h]), rfl⟩
  · go_enter Tryz.func63, Tryz.ntmps63
    go_wp2
    go_ret
    exact ⟨ret_bool (by simp [M.srcOk, hl.out, h]), rfl⟩
theorem impl_size_int64S (A : Option Addr) (n c : Nat) (w : World) : Calls Tryz.prog 69 #[.slice A n c] w fun e w' => e = .returned (.int .i64 n) ∧ w = w' := by
  go_enter Tryz.func69, Tryz.ntmps69
  go_wp2
  go_ret
  exact ⟨rfl, rfl⟩
theorem impl_hasSources_1 (b : Nat) (m d0 d1 d2 d3 d4 : Int) (w : World) (g0 : w.cell? ⟨b, 0, none⟩ = some (.int .i64 m)) :
    Calls Tryz.prog 104 #[.agg #[.int .i64 d0, .int .i64 d1, .int .i64 d2, .int .i64 d3, .int .i64 d4], .pointer (some ⟨b, 0, none⟩)] w fun e w' => e = .returned (.bool (decide (m ≤ d0))) ∧ Below w.heap.size w w' := by
  have hb : b < w.heap.size := World.block_lt_of_cell? w _ g0
  have fin : Below w.heap.size w (w.alloc (.cells #[.int .i64 d0, .int .i64 d1, .int .i64 d2, .int .i64 d3, .int .i64 d4] 133)) := (Below.refl _ _).alloc (Nat.le_refl _) _
  go_enter Tryz.func104, Tryz.ntmps104
  go_wp2
  go_ret
  exact ⟨rfl, fin⟩
theorem IndexFunc_has (bb : Nat) (m : Int) (A : Option Addr) (n cap : Nat) (xs : List Clip) (w : World) (hx : RA cl 5 w w.heap.size A n xs) (hn : n ≤ 1000000000) (hg : w.cell? ⟨bb, 0, none⟩ = some (.int .i64 m)) :
    Calls Tryz.prog 132 #[.slice A n cap, .func (.func 104) #[] #[.pointer (some ⟨bb, 0, none⟩)]] w fun e w' => e = .returned (.int .i64 (idxInt (xs.findIdx? fun c => decide (m ≤ c.1)))) ∧ Below w.heap.size w w' := by
  have hl := Lib.hid hx.len
  have hbb : bb < w.heap.size := World.block_lt_of_cell? w _ hg
  go_enter Tryz.func132, Tryz.ntmps132
  go_wp2
  go_loopw [5, 8] (fun _ i wr => ∃ k : Nat, i = .int .i64 k ∧ k ≤ n ∧ Hid (∀ j, j < k → ∀ y : Clip, xs[j]? = some y → decide (m ≤ y.1) = false) ∧ Below w.heap.size w wr) (fun _ i _ => n - (intOf i).toNat)
  case atStart => exact ⟨0, rfl, by omega, Lib.hid (by omega), Below.refl _ _⟩
  case round =>
    obtain ⟨k, rfl, hk, H, hb⟩ := hrel
    by_cases hlt : k < n
    · obtain ⟨b, o, ⟨p0, p1, p2, p3, p4⟩, rfl, hab, X, hc⟩ := (hx.below hb).at cl_len (by decide) hlt
      have hc0 : wr.cell? ⟨b, o + k * 5, none⟩ = some (.int .i64 p0) := hc 0 _ rfl
      have hc1 : wr.cell? ⟨b, o + k * 5 + 1, none⟩ = some (.int .i64 p1) := hc 1 _ rfl
      have hc2 : wr.cell? ⟨b, o + k * 5 + 2, none⟩ = some (.int .i64 p2) := hc 2 _ rfl
      have hc3 : wr.cell? ⟨b, o + k * 5 + 3, none⟩ = some (.int .i64 p3) := hc 3 _ rfl
      have hc4 : wr.cell? ⟨b, o + k * 5 + 4, none⟩ = some (.int .i64 p4) := hc 4 _ rfl
      clear hc
      have hgr : wr.cell? ⟨bb, 0, none⟩ = some (.int .i64 m) := by rw [hb.cell (by simpa using hbb)]; exact hg
      have cP := Lib.hid (impl_hasSources_1 bb m p0 p1 p2 p3 p4 wr hgr)
      cases hj : decide (m ≤ p0)
      · have hj' := Lib.hid hj
        clear hj
        go_wp2_with (go_at_call 104; refine (cP.out).mono ?_; rw [hj'.out]; rintro e w2 ⟨rfl, bel2⟩)
        go_roundw
        case rel => exact ⟨k + 1, by go_num, by omega, Lib.hid (fun j hj y hy => by rcases Nat.lt_succ_iff_lt_or_eq.1 hj with h | h; exact H.out j h y hy; subst h; rw [X.out] at hy; injection hy with hy; rw [← hy]; exact hj'.out), hb.trans (bel2.mono hb.size)⟩
        case measure => simp [intOf]; omega
      · have hf := Lib.hid (M.find_some (p := fun c : Clip => decide (m ≤ c.1)) X.out hj H.out)
        have hj' := Lib.hid hj
        clear hj
        go_wp2_with (go_at_call 104; refine (cP.out).mono ?_; rw [hj'.out]; rintro e w2 ⟨rfl, bel2⟩)
        go_ret
        exact ⟨by rw [hf.out]; rfl, hb.trans (bel2.mono hb.size)⟩
    · have hf := Lib.hid (M.find_none (xs := xs) (p := fun c : Clip => decide (m ≤ c.1)) (fun j hj y hy => H.out j (by rw [hl.out] at hj; omega) y hy))
      go_wp2
      go_ret
      exact ⟨by rw [hf.out]; rfl, hb⟩
theorem M.hasS_find (xs : List Clip) (m : Int) : (idxInt (xs.findIdx? fun c => decide (m ≤ c.1)) ≥ 0 ↔ M.hasS xs m = false) := by
  unfold M.hasS
  cases h : xs.findIdx? fun c => decide (m ≤ c.1) with
  | none =>
    rw [List.findIdx?_eq_none_iff] at h
    simp only [idxInt]
    constructor
    · intro h2; omega
    · intro h2
      rw [List.all_eq_false] at h2
      obtain ⟨x, hx, h3⟩ := h2
      have := h x hx
      simp at this h3
      omega
  | some i =>
    rw [List.findIdx?_eq_some_iff_getElem] at h
    obtain ⟨hi, h2, _⟩ := h
    simp only [idxInt]
    constructor
    · intro _
      rw [List.all_eq_false]
      exact ⟨_, List.getElem_mem hi, by simp at h2 ⊢; omega⟩
    · intro _; omega
theorem ContainsFunc_has (bb : Nat) (m : Int) (A : Option Addr) (n cap : Nat) (xs : List Clip) (w : World) (hx : RA cl 5 w w.heap.size A n xs) (hn : n ≤ 1000000000) (hg : w.cell? ⟨bb, 0, none⟩ = some (.int .i64 m)) :
    Calls Tryz.prog 103 #[.slice A n cap, .func (.func 104) #[] #[.pointer (some ⟨bb, 0, none⟩)]] w fun e w' => e = .returned (.bool (!M.hasS xs m)) ∧ Below w.heap.size w w' := by
  have hF := Lib.hid (M.hasS_find xs m)
  have hI := Lib.hid (IndexFunc_has bb m A n cap xs w hx hn hg)
  generalize idxInt (xs.findIdx? fun c => decide (m ≤ c.1)) = q at hF hI
  by_cases h : 0 ≤ q
  · have R := Lib.hid (hF.out.1 h)
    go_enter Tryz.func103, Tryz.ntmps103
    go_wp2_with fail
    refine hI.out.mono ?_
    rintro e w2 ⟨rfl, bel2⟩
    go_wp2
    go_ret
    exact ⟨ret_bool (by rw [R.out]; simp), bel2⟩
  · have R := Lib.hid (show M.hasS xs m = true by
      cases h2 : M.hasS xs m
      · exact absurd (hF.out.2 h2) h
      · rfl)
    go_enter Tryz.func103, Tryz.ntmps103
    go_wp2_with fail
    refine hI.out.mono ?_
    rintro e w2 ⟨rfl, bel2⟩
    go_wp2
    go_ret
    exact ⟨ret_bool (by rw [R.out]; simpa using h), bel2⟩
theorem impl_hasSources (A : Option Addr) (n c : Nat) (xs : List Clip) (m : Int) (w : World) (hx : RA cl 5 w w.heap.size A n xs) (hn : n ≤ 1000000000) :
    Calls Tryz.prog 68 #[.agg #[.slice A n c], .int .i64 m] w fun e w' => e = .returned (.bool (M.hasS xs m)) ∧ Below w.heap.size w w' := by
  obtain ⟨W, hW⟩ : ∃ W, W = (w.alloc (.cells #[.slice A n c] 95)).alloc (.cells #[.int .i64 m] 2) := ⟨_, rfl⟩
  have B0 : Below w.heap.size w W := by rw [hW]; exact ((Below.refl _ _).alloc (Nat.le_refl _) _).alloc (by simp) _
  have g0 : W.cell? ⟨w.heap.size + 1, 0, none⟩ = some (.int .i64 m) := by rw [hW]; simp [go_sem]
  have HW := Lib.hid hW
  clear hW
  have hx1 := hx.later B0
  go_enter Tryz.func68, Tryz.ntmps68
  go_wp2_with fail
  rw [← HW.out]
  refine (ContainsFunc_has (w.heap.size + 1) m _ _ _ _ _ hx1 hn g0).mono ?_
  rintro e w2 ⟨rfl, bel2⟩
  go_wp2
  go_ret
  exact ⟨ret_bool (by simp), bel_trans B0 bel2⟩
end Go.Proofs.YtacgcagpaecncaaGreat
namespace Go.Proofs.YtacgcagpaecncaaGreat
open Go.RowKit Go.Sort
set_option maxHeartbeats 4000000
set_option maxRecDepth 100000
set_option linter.unusedVariables false
set_option linter.unusedSimpArgs false
theorem RI_lit (w : World) (e : TypeId) (xs : List Int) (cur : Array Value) (h : cur.toList = xs.map (.int .i64)) : RI (w.alloc (.cells cur e)) (w.heap.size + 1) (some ⟨w.heap.size, 0, none⟩) xs.length xs :=
  ⟨by simp, fun _ => ⟨_, rfl, by simp, fun j u hu => by
    rw [show (⟨w.heap.size, 0, none⟩ : Addr).add j = ⟨w.heap.size, j, none⟩ by simp [Addr.add]; omega, cell_of_row _ w.heap.size j cur e (0, 0) (heap_alloc_new w _), ← hu, ← h, Array.getElem?_toList]⟩⟩
theorem to_bel {P : Program} {f : FuncId} {args : Array Value} {w : World} {v : Ending} (h : Calls P f args w fun e w' => e = v ∧ w = w') : Calls P f args w fun e w' => e = v ∧ Below w.heap.size w w' :=
  h.mono fun _ _ ⟨he, hw⟩ => ⟨he, hw ▸ Below.refl _ _⟩
theorem spec_l00MinX (a b : Int) (w : World) : Calls Tryz.prog 157 #[.int .i64 a, .int .i64 b] w fun e w' => e = .returned (.int .i64 (min a b)) ∧ w = w' := by
  by_cases h : a < b
  all_goals
    go_enter Tryz.func157, Tryz.ntmps157
    go_wp2
    go_ret
    exact ⟨ret_int (by omega), rfl⟩
theorem spec_l00MaxX (a b : Int) (w : World) : Calls Tryz.prog 158 #[.int .i64 a, .int .i64 b] w fun e w' => e = .returned (.int .i64 (max a b)) ∧ w = w' := by
  by_cases h : b < a
  all_goals
    go_enter Tryz.func158, Tryz.ntmps158
    go_wp2
    go_ret
    exact ⟨ret_int (by omega), rfl⟩
theorem spec_l00Has (A : Option Addr) (n c : Nat) (xs : List Int) (m : Int) (w : World) (hx : RI w w.heap.size A n xs) (hn : n ≤ 1000000000000) :
    Calls Tryz.prog 78 #[.slice A n c, .int .i64 m] w fun e w' => e = .returned (.bool (M.mem xs m)) ∧ w = w' := by
  go_enter Tryz.func78, Tryz.ntmps78
  go_wp2
  go_loop [5] (fun i => ∃ k : Nat, i = .int .i64 k ∧ k ≤ n ∧ Hid (M.mem xs m = M.mem (xs.drop k) m)) (fun i => n - (intOf i).toNat)
  case atStart => exact ⟨0, rfl, by omega, Lib.hid (by simp)⟩
  case round =>
    obtain ⟨k, rfl, hk, H⟩ := hrel
    have hl := Lib.hid hx.len
    by_cases hlt : k < n
    · obtain ⟨ad, x, rfl, hab, X, hc⟩ := hx.at hlt
      have hd := Lib.hid (M.drop_at X.out)
      by_cases hs : x = m
      · have R := Lib.hid (show M.mem xs m = true by rw [H.out, hd.out, M.mem_cons]; simp [hs])
        have g : (x == m) = true := by simpa using hs
        subst hs
        go_wp2
        go_ret
        exact ⟨ret_bool (by rw [R.out]), rfl⟩
      · have R := Lib.hid (show M.mem xs m = M.mem (xs.drop (k + 1)) m by rw [H.out, hd.out, M.mem_cons, decide_eq_false hs, Bool.false_or])
        have g : (x == m) = false := by simpa using hs
        clear hs
        go_wp2
        go_round
        case rel => exact ⟨k + 1, by go_num, by omega, R⟩
        case measure => simp [intOf]; omega
    · have R := Lib.hid (show M.mem xs m = false by rw [H.out, List.drop_eq_nil_of_le (by rw [hl.out]; omega)]; rfl)
      go_wp2
      go_ret
      exact ⟨ret_bool (by rw [R.out]), rfl⟩
theorem spec_l06Kind (k : Int) (w : World) : Calls Tryz.prog 143 #[.int .i64 k] w fun e w' => e = .returned (.bool (M.inn k 1 17)) ∧ w = w' := by
  go_enter Tryz.func143, Tryz.ntmps143
  go_wp2_with (go_at_call 37; refine (spec_l00In _ _ _ _).mono ?_; rintro e w' ⟨rfl, rfl⟩)
  go_ret
  exact ⟨rfl, rfl⟩
theorem M.hasA_eq (k : Int) : M.mem [1, 2, 5, 6, 10, 11, 12, 13, 14, 17] k = M.hasA k := by
  rw [Bool.eq_iff_iff]
  simp only [M.mem, M.hasA, List.any_cons, List.any_nil, Bool.or_eq_true, decide_eq_true_eq, Bool.false_eq_true, or_false]
  omega
theorem M.linS_eq (k : Int) : M.mem [1, 3, 4, 5, 6, 7, 8, 17] k = M.linS k := by
  rw [Bool.eq_iff_iff]
  simp only [M.mem, M.linS, List.any_cons, List.any_nil, Bool.or_eq_true, decide_eq_true_eq, Bool.false_eq_true, or_false]
  omega
theorem spec_l06HasA (k : Int) (w : World) : Calls Tryz.prog 159 #[.int .i64 k] w fun e w' => e = .returned (.bool (M.hasA k)) ∧ Below w.heap.size w w' := by
  obtain ⟨W, hW⟩ : ∃ W, W = w.alloc (.cells #[.int .i64 1, .int .i64 2, .int .i64 5, .int .i64 6, .int .i64 10, .int .i64 11, .int .i64 12, .int .i64 13, .int .i64 14, .int .i64 17] 2) := ⟨_, rfl⟩
  have B0 : Below w.heap.size w W := by rw [hW]; exact (Below.refl _ _).alloc (Nat.le_refl _) _
  have hr : RI W W.heap.size (some ⟨w.heap.size, 0, none⟩) 10 [1, 2, 5, 6, 10, 11, 12, 13, 14, 17] := by rw [hW]; exact (RI_lit w 2 [1, 2, 5, 6, 10, 11, 12, 13, 14, 17] _ rfl).more (by simp)
  have HW := Lib.hid hW
  clear hW
  go_enter Tryz.func159, Tryz.ntmps159
  go_wp2_with fail
  rw [← HW.out]
  refine (spec_l00Has _ _ _ _ _ _ hr (by omega)).mono ?_
  rintro e w2 ⟨rfl, rfl⟩
  go_wp2
  go_ret
  exact ⟨ret_bool (M.hasA_eq k), B0⟩
theorem spec_l06Linear (k : Int) (w : World) : Calls Tryz.prog 74 #[.int .i64 k] w fun e w' => e = .returned (.bool (M.linS k)) ∧ Below w.heap.size w w' := by
  obtain ⟨W, hW⟩ : ∃ W, W = w.alloc (.cells #[.int .i64 1, .int .i64 3, .int .i64 4, .int .i64 5, .int .i64 6, .int .i64 7, .int .i64 8, .int .i64 17] 2) := ⟨_, rfl⟩
  have B0 : Below w.heap.size w W := by rw [hW]; exact (Below.refl _ _).alloc (Nat.le_refl _) _
  have hr : RI W W.heap.size (some ⟨w.heap.size, 0, none⟩) 8 [1, 3, 4, 5, 6, 7, 8, 17] := by rw [hW]; exact (RI_lit w 2 [1, 3, 4, 5, 6, 7, 8, 17] _ rfl).more (by simp)
  have HW := Lib.hid hW
  clear hW
  go_enter Tryz.func74, Tryz.ntmps74
  go_wp2_with fail
  rw [← HW.out]
  refine (spec_l00Has _ _ _ _ _ _ hr (by omega)).mono ?_
  rintro e w2 ⟨rfl, rfl⟩
  go_wp2
  go_ret
  exact ⟨ret_bool (M.linS_eq k), B0⟩
theorem spec_l06Arity (k : Int) (w : World) (h : 0 ≤ k ∧ k ≤ 17) : Calls Tryz.prog 145 #[.int .i64 k] w fun e w' => e = .returned (.int .i64 (M.ar k.toNat)) ∧ Below w.heap.size w w' := by
  obtain ⟨j, rfl⟩ : ∃ j : Nat, k = j := ⟨k.toNat, by omega⟩
  obtain ⟨W, hW⟩ : ∃ W, W = w.alloc (.cells #[.int .i64 (-1), .int .i64 0, .int .i64 0, .int .i64 2, .int .i64 2, .int .i64 1, .int .i64 1, .int .i64 1, .int .i64 1, .int .i64 2, .int .i64 1, .int .i64 1, .int .i64 1, .int .i64 1, .int .i64 0, .int .i64 3, .int .i64 2, .int .i64 1] 2) := ⟨_, rfl⟩
  have B0 : Below w.heap.size w W := by rw [hW]; exact (Below.refl _ _).alloc (Nat.le_refl _) _
  have hr : RI W W.heap.size (some ⟨w.heap.size, 0, none⟩) 18 M.ars := by rw [hW]; exact (RI_lit w 2 M.ars _ rfl).more (by simp)
  obtain ⟨ad, x, e, -, X, hc⟩ := hr.at (k := j) (by omega)
  injection e with e
  subst e
  have hR := Lib.hid (show M.ar j = x by rw [M.ar, List.getD_eq_getElem?_getD, X.out]; rfl)
  have hc2 : W.cell? ⟨w.heap.size, j, none⟩ = some (.int .i64 x) := by rw [← hc, show (⟨w.heap.size, 0, none⟩ : Addr).add j = ⟨w.heap.size, j, none⟩ by simp [Addr.add]; omega]
  rw [hW] at hc2
  have hj : j < 18 := by omega
  have hj2 : (j : Int) < 18 := by omega
  clear hc hr X
  go_enter Tryz.func145, Tryz.ntmps145
  go_wp2
  go_ret
  exact ⟨ret_int (by rw [Int.toNat_natCast, hR.out]), by rw [← hW]; exact B0⟩
theorem spec_l06A (b o : Nat) (a0 a1 tb : Int) (w : World) (p0 : w.cell? ⟨b, o, none⟩ = some (.int .i64 a0)) (p1 : w.cell? ⟨b, o + 1, none⟩ = some (.int .i64 a1)) (htb : 0 ≤ tb ∧ tb ≤ 1000000000) :
    Calls Tryz.prog 144 #[.pointer (some ⟨b, o, none⟩), .int .i64 tb] w fun e w' => e = .returned (.bool (M.aS a0 a1 tb)) ∧ Below w.heap.size w w' := by
  by_cases c1 : a0 = 1
  · have R := Lib.hid (show M.aS a0 a1 tb = M.inn a1 0 3 by rw [M.aS, if_pos c1])
    subst c1
    go_enter Tryz.func144, Tryz.ntmps144
    go_wp2_with (go_at_call 37; refine (spec_l00In _ _ _ _).mono ?_; rintro e w' ⟨rfl, rfl⟩)
    go_ret
    exact ⟨ret_bool (by rw [R.out]), Below.refl _ _⟩
  have g1 : (a0 == 1) = false := by simpa using c1
  by_cases c2 : a0 = 6
  · have R := Lib.hid (show M.aS a0 a1 tb = M.inn a1 1 16 by rw [M.aS, if_neg c1, if_pos c2])
    subst c2
    go_enter Tryz.func144, Tryz.ntmps144
    go_wp2_with (go_at_call 37; refine (spec_l00In _ _ _ _).mono ?_; rintro e w' ⟨rfl, rfl⟩)
    go_ret
    exact ⟨ret_bool (by rw [R.out]), Below.refl _ _⟩
  have g2 : (a0 == 6) = false := by simpa using c2
  by_cases c3 : a0 = 10
  · have R := Lib.hid (show M.aS a0 a1 tb = M.inn a1 0 31 by rw [M.aS, if_neg c1, if_neg c2, if_pos c3])
    subst c3
    go_enter Tryz.func144, Tryz.ntmps144
    go_wp2_with (go_at_call 37; refine (spec_l00In _ _ _ _).mono ?_; rintro e w' ⟨rfl, rfl⟩)
    go_ret
    exact ⟨ret_bool (by rw [R.out]), Below.refl _ _⟩
  have g3 : (a0 == 10) = false := by simpa using c3
  by_cases c4 : a0 = 11
  · have R := Lib.hid (show M.aS a0 a1 tb = M.inn a1 0 2147483647 by rw [M.aS, if_neg c1, if_neg c2, if_neg c3, if_pos c4])
    subst c4
    go_enter Tryz.func144, Tryz.ntmps144
    go_wp2_with (go_at_call 37; refine (spec_l00In _ _ _ _).mono ?_; rintro e w' ⟨rfl, rfl⟩)
    go_ret
    exact ⟨ret_bool (by rw [R.out]), Below.refl _ _⟩
  have g4 : (a0 == 11) = false := by simpa using c4
  by_cases c5 : a0 = 13
  · have R := Lib.hid (show M.aS a0 a1 tb = M.inn a1 0 (min (max tb 0) 4 - 1) by rw [M.aS, if_neg c1, if_neg c2, if_neg c3, if_neg c4, if_pos c5])
    have hm1 := fun m => quiet_left (spec_l00MaxX tb 0 (w.drewN m))
    have hm2 := fun m => quiet_left (spec_l00MinX (max tb 0) 4 (w.drewN m))
    have hs : IntKind.i64.wrap (min (max tb 0) 4 - 1) = min (max tb 0) 4 - 1 := IntWalk.i64_in _ (by omega)
    have hm3 := fun m => quiet_left (spec_l00In a1 0 (min (max tb 0) 4 - 1) (w.drewN m))
    obtain ⟨q, hq⟩ : ∃ q, q = max tb 0 := ⟨_, rfl⟩
    rw [← hq] at hm1 hm2 hm3 hs R
    obtain ⟨r, hr⟩ : ∃ r, r = min q 4 := ⟨_, rfl⟩
    rw [← hr] at hm2 hm3 hs R
    clear hq hr g1 g2 g3 g4 c1 c2 c3 c4
    subst c5
    go_enter Tryz.func144, Tryz.ntmps144
    go_wp2
    go_quiet (first | exact hm1 _ | exact hm2 _ | exact hm3 _)
    go_wp2
    go_ret
    exact ⟨ret_bool (by rw [R.out]), below_drewN (Below.refl _ _) _⟩
  have g5 : (a0 == 13) = false := by simpa using c5
  have lb : b < w.heap.size := World.block_lt_of_cell? w _ p0
  cases hh : M.hasA a0
  · have R := Lib.hid (show M.aS a0 a1 tb = decide (a1 = 0) by rw [M.aS, if_neg c1, if_neg c2, if_neg c3, if_neg c4, if_neg c5, hh]; rfl)
    have HH := Lib.hid hh
    clear c1 c2 c3 c4 c5 hh
    go_enter Tryz.func144, Tryz.ntmps144
    go_wp2_with (go_at_call 159; refine (spec_l06HasA _ _).mono ?_; rw [HH.out]; rintro e w2 ⟨rfl, bel2⟩; have q1 : w2.cell? ⟨b, o + 1, none⟩ = some (.int .i64 a1) := (by rw [bel2.cell lb]; exact p1))
    go_ret
    exact ⟨ret_bool (by rw [R.out, Bool.eq_iff_iff]; simp), bel2⟩
  · have R := Lib.hid (show M.aS a0 a1 tb = M.smp a1 by rw [M.aS, if_neg c1, if_neg c2, if_neg c3, if_neg c4, if_neg c5, hh]; rfl)
    have HH := Lib.hid hh
    clear c1 c2 c3 c4 c5 hh
    go_enter Tryz.func144, Tryz.ntmps144
    go_wp2_with (first | (go_at_call 159; refine (spec_l06HasA _ _).mono ?_; rw [HH.out]; rintro e w2 ⟨rfl, bel2⟩; have q1 : w2.cell? ⟨b, o + 1, none⟩ = some (.int .i64 a1) := (by rw [bel2.cell lb]; exact p1)) | (go_at_call 92; refine (spec_l01Sample _ _).mono ?_; rintro e w' ⟨rfl, rfl⟩))
    go_ret
    exact ⟨ret_bool (by rw [R.out]), bel2⟩
end Go.Proofs.YtacgcagpaecncaaGreat
namespace Go.Proofs.YtacgcagpaecncaaGreat
open Go.RowKit
set_option maxHeartbeats 400000
set_option maxRecDepth 100000
end Go.Proofs.YtacgcagpaecncaaGreat
namespace Go.Proofs.YtacgcagpaecncaaGreat
open Go.RowKit
set_option maxHeartbeats 400000
theorem M.curve_iff (xs : List (Int × Int)) : M.curveOk xs = true ↔ (∀ p ∈ xs, M.ptOk p = true) ∧ xs.Pairwise (fun p q => p.1 < q.1) ∧ 1 ≤ xs.length ∧ xs.length ≤ 24 := by
  constructor
  · intro h
    have hl := M.curve_len h
    refine ⟨fun p hp => ?_, ?_, hl⟩
    · obtain ⟨i, hi, rfl⟩ := List.getElem_of_mem hp
      have h1 := M.curve_step h hi
      rw [M.stepOk, Bool.and_eq_true, List.getElem?_eq_getElem hi] at h1
      exact h1.1
    · rw [List.pairwise_iff_getElem]
      have key : ∀ d i (hi : i < xs.length) (hj : i + d + 1 < xs.length), (xs[i]).1 < (xs[i + d + 1]).1 := by
        intro d
        induction d with
        | zero => intro i hi hj; exact M.curve_lt h (k := i + 1) (by omega) (by simp [hi]) (List.getElem?_eq_getElem hj)
        | succ d ih =>
          intro i hi hj
          have h1 := ih i hi (by omega)
          have h2 := M.curve_lt h (k := i + d + 1 + 1) (by omega) (by rw [Nat.add_sub_cancel]; exact List.getElem?_eq_getElem (by omega)) (List.getElem?_eq_getElem (i := i + d + 1 + 1) (by omega))
          have e : i + (d + 1) + 1 = i + d + 1 + 1 := by omega
          simp only [e]
          omega
      intro i j hi hj hij
      have := key (j - i - 1) i hi (by omega)
      have e : i + (j - i - 1) + 1 = j := by omega
      simpa only [e] using this
  · rintro ⟨h1, h2, h3, h4⟩
    rw [M.curveOk, Bool.and_eq_true, M.inn_iff, List.all_eq_true]
    refine ⟨fun k hk => ?_, by omega⟩
    have hk := List.mem_range.1 hk
    rw [M.stepOk, Bool.and_eq_true, List.getElem?_eq_getElem hk]
    refine ⟨h1 _ (List.getElem_mem hk), ?_⟩
    rw [M.after, Bool.or_eq_true]
    by_cases h0 : k = 0
    · left; simp [h0]
    · right
      rw [List.getElem?_eq_getElem hk, List.getElem?_eq_getElem (by omega)]
      have := List.pairwise_iff_getElem.1 h2 (k - 1) k (by omega) hk (by omega)
      simpa using this
theorem M.dropP_split {α : Type} {xs : List α} {k : Nat} (hk : k < xs.length) : xs = xs.take k ++ xs[k] :: xs.drop (k + 1) := by
  rw [← List.drop_eq_getElem_cons hk, List.take_append_drop]
theorem M.dropP_sub {α : Type} (xs : List α) (k : Nat) : (M.dropP xs k).Sublist xs := by
  by_cases hk : k < xs.length
  · conv => rhs; rw [M.dropP_split hk]
    exact List.Sublist.append (List.Sublist.refl _) (List.sublist_cons_self _ _)
  · rw [M.dropP, List.drop_eq_nil_of_le (by omega), List.append_nil, List.take_of_length_le (by omega)]
    exact List.Sublist.refl _
theorem M.dropP_ok {xs : List (Int × Int)} {k : Nat} (h : M.curveOk xs = true) (hk : k < xs.length) (h1 : 1 < xs.length) : M.curveOk (M.dropP xs k) = true := by
  rw [M.curve_iff] at h ⊢
  have hs := M.dropP_sub xs k
  rw [M.dropP_len xs hk]
  exact ⟨fun p hp => h.1 p (hs.subset hp), List.Pairwise.sublist hs h.2.1, by omega, by omega⟩
/-- Before the last point of 'a' nothing behind it counts. -/
theorem M.atGo_front (a : List (Int × Int)) (bs cs : List (Int × Int)) (t : Int) (h : ∃ q ∈ a, t < q.1) : ∀ p, M.atGo p (a ++ bs) t = M.atGo p (a ++ cs) t := by
  induction a with
  | nil => obtain ⟨q, hq, _⟩ := h; simp at hq
  | cons x a ih =>
    intro p
    simp only [List.cons_append, M.atGo]
    by_cases hx : t < x.1
    · rw [if_pos hx, if_pos hx]
    · rw [if_neg hx, if_neg hx]
      refine ih ?_ x
      obtain ⟨q, hq, hlt⟩ := h
      rcases List.mem_cons.1 hq with rfl | hq
      · exact absurd hlt hx
      · exact ⟨q, hq, hlt⟩
theorem M.atC_front (a : List (Int × Int)) (bs cs : List (Int × Int)) (t : Int) (h : ∃ q ∈ a, t < q.1) : M.atC (a ++ bs) t = M.atC (a ++ cs) t := by
  cases a with
  | nil => obtain ⟨q, hq, _⟩ := h; simp at hq
  | cons x a =>
    simp only [List.cons_append, M.atC]
    by_cases hx : t < x.1
    · rw [if_pos hx, if_pos hx]
    · rw [if_neg hx, if_neg hx]
      refine M.atGo_front a bs cs t ?_ x
      obtain ⟨q, hq, hlt⟩ := h
      rcases List.mem_cons.1 hq with rfl | hq
      · exact absurd hlt hx
      · exact ⟨q, hq, hlt⟩
/-- From b on nothing before it counts. -/
theorem M.atGo_back (a : List (Int × Int)) (b : Int × Int) (bs : List (Int × Int)) (t : Int) (ha : ∀ q ∈ a, ¬ t < q.1) (hb : ¬ t < b.1) : ∀ p, M.atGo p (a ++ b :: bs) t = M.atGo b bs t := by
  induction a with
  | nil => intro p; rw [List.nil_append, M.atGo, if_neg hb]
  | cons x a ih =>
    intro p
    rw [List.cons_append, M.atGo, if_neg (ha x (by simp))]
    exact ih (fun q hq => ha q (by simp [hq])) x
theorem M.atC_back (a : List (Int × Int)) (b : Int × Int) (bs : List (Int × Int)) (t : Int) (ha : ∀ q ∈ a, ¬ t < q.1) (hb : ¬ t < b.1) : M.atC (a ++ b :: bs) t = M.atGo b bs t := by
  cases a with
  | nil => rw [List.nil_append, M.atC, if_neg hb]
  | cons x a =>
    rw [List.cons_append, M.atC, if_neg (ha x (by simp))]
    exact M.atGo_back a b bs t (fun q hq => ha q (by simp [hq])) hb x
def M.from (xs : List (Int × Int)) (k : Nat) : Int := if 0 < k then ((xs[k - 1]?).getD (0, 0)).1 else 0
def M.to (xs : List (Int × Int)) (k : Nat) : Int := if k + 1 < xs.length then ((xs[k + 1]?).getD (0, 0)).1 else 4000
theorem M.from_bd {xs : List (Int × Int)} {k : Nat} (h : M.curveOk xs = true) (hk : k < xs.length) : 0 ≤ M.from xs k ∧ M.from xs k ≤ 4000 := by
  unfold M.from
  split
  · rw [List.getElem?_eq_getElem (by omega)]
    have := (M.curve_pt h (List.getElem?_eq_getElem (l := xs) (i := k - 1) (by omega))).1
    exact this
  · omega
theorem M.to_bd {xs : List (Int × Int)} {k : Nat} (h : M.curveOk xs = true) : 0 ≤ M.to xs k ∧ M.to xs k ≤ 4000 := by
  unfold M.to
  split
  · rename_i hk
    rw [List.getElem?_eq_getElem hk]
    exact (M.curve_pt h (List.getElem?_eq_getElem hk)).1
  · omega
/-- Outside of the neighbours nothing changes. -/
theorem M.drop_out {xs : List (Int × Int)} {k : Nat} (h : M.curveOk xs = true) (hk : k < xs.length) {t : Int} (h0 : 0 ≤ t) (h4 : t ≤ 4000) (ht : t < M.from xs k ∨ M.to xs k < t) : M.atC xs t = M.atC (M.dropP xs k) t := by
  have hs := M.dropP_split hk
  have hp := ((M.curve_iff xs).1 h).2.1
  rcases ht with ht | ht
  · unfold M.from at ht
    split at ht
    · rename_i hk0
      rw [List.getElem?_eq_getElem (by omega)] at ht
      conv => lhs; rw [hs]
      exact M.atC_front _ _ _ t ⟨xs[k - 1]'(by omega), by rw [List.mem_take_iff_getElem]; exact ⟨k - 1, by omega, rfl⟩, ht⟩
    · omega
  · unfold M.to at ht
    split at ht
    · rename_i hk1
      rw [List.getElem?_eq_getElem hk1] at ht
      have hd : xs.drop (k + 1) = xs[k + 1] :: xs.drop (k + 1 + 1) := List.drop_eq_getElem_cons hk1
      have hb : ¬ t < (xs[k + 1]).1 := by simp at ht; omega
      have hle : ∀ q ∈ xs.take (k + 1), ¬ t < q.1 := by
        intro q hq
        obtain ⟨i, hi, rfl⟩ := List.mem_take_iff_getElem.1 hq
        have := List.pairwise_iff_getElem.1 hp i (k + 1) (by omega) hk1 (by omega)
        omega
      have e1 : M.atC xs t = M.atGo xs[k + 1] (xs.drop (k + 1 + 1)) t := by
        conv => lhs; rw [show xs = xs.take (k + 1) ++ xs[k + 1] :: xs.drop (k + 1 + 1) from M.dropP_split hk1]
        exact M.atC_back _ _ _ t hle hb
      rw [e1, M.dropP, hd, M.atC_back _ _ _ t (fun q hq => hle q ((List.take_subset_take_left xs (by omega)) hq)) hb]
    · omega
def M.idle (xs : List (Int × Int)) (k : Nat) : Bool := decide (1 < xs.length) && decide (M.rend (M.dropP xs k) 4001 = M.rend xs 4001)
theorem M.rend_eq {xs ys : List (Int × Int)} {m : Nat} : M.rend xs m = M.rend ys m ↔ ∀ i : Nat, i < m → M.atC xs (i : Int) = M.atC ys (i : Int) := by
  constructor
  · intro h i hi
    have h1 := M.rend_at (xs := xs) hi
    rw [h, M.rend_at hi] at h1
    injection h1 with h1
    exact h1.symm
  · intro h
    apply List.ext_getElem?
    intro i
    by_cases hi : i < m
    · rw [M.rend_at hi, M.rend_at hi, h i hi]
    · rw [List.getElem?_eq_none (by rw [M.rend_len]; omega), List.getElem?_eq_none (by rw [M.rend_len]; omega)]
theorem M.idle_iff {xs : List (Int × Int)} {k : Nat} (h : M.curveOk xs = true) (hk : k < xs.length) (h1 : 1 < xs.length) : M.idle xs k = true ↔ ∀ t : Int, M.from xs k ≤ t → t ≤ M.to xs k → M.atC xs t = M.atC (M.dropP xs k) t := by
  have hf := M.from_bd h hk
  have ht := M.to_bd (k := k) h
  rw [M.idle, decide_eq_true h1, Bool.true_and, decide_eq_true_iff, M.rend_eq]
  constructor
  · intro g t h2 h3
    have := g t.toNat (by omega)
    rw [Int.toNat_of_nonneg (by omega)] at this
    exact this.symm
  · intro g i hi
    by_cases h2 : (i : Int) < M.from xs k ∨ M.to xs k < i
    · exact (M.drop_out h hk (by omega) (by omega) h2).symm
    · exact (g i (by omega) (by omega)).symm
end Go.Proofs.YtacgcagpaecncaaGreat
namespace Go.Proofs.YtacgcagpaecncaaGreat
open Go.RowKit
set_option maxHeartbeats 1000000
set_option maxRecDepth 100000
end Go.Proofs.YtacgcagpaecncaaGreat
