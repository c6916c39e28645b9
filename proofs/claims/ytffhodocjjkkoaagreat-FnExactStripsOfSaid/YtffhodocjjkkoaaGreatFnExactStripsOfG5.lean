import Derived.Test.YtffhodocjjkkoaaGreatFnExactStripsOfG4
import Derived.Test.YtffhodocjjkkoaaGreatFnExactStripsOfG2
import Derived.Test.YtffhodocjjkkoaaGreatFnExactStripsOfG3
set_option linter.unusedVariables false
set_option linter.unusedSimpArgs false
namespace Go.Proofs.YtffhodocjjkkoaaGreat
open Go.RowKit
set_option maxHeartbeats 4000000
set_option maxRecDepth 100000
abbrev Sess := Int × (List (List Int)) × (List (List Clip_)) × (List Int) × (List Patch) × (List Strip)
abbrev tZ : Ty Sess := tI.prod (tSS.prod (tTS.prod (tS.prod (tPS.prod tM))))
abbrev hZ : Hs Sess := hU.prod (hSS.prod (hTS.prod (hS.prod (hPS.prod hM))))
theorem tZ_R {w : World} {B : Nat} {cs : List Value} {a0 : Int} {x1 : List (List Int)} {x2 : List (List Clip_)} {x3 : List Int} {x4 : List Patch} {x5 : List Strip} : tZ.R w B cs (a0, x1, x2, x3, x4, x5) ↔ ∃ A1 n1 c1 A2 n2 c2 A3 n3 c3 A4 n4 c4 A5 n5 c5, cs = [.int .i64 a0, .slice A1 n1 c1, .slice A2 n2 c2, .slice A3 n3 c3, .slice A4 n4 c4, .slice A5 n5 c5] ∧ tSS.R w B [.slice A1 n1 c1] x1 ∧ tTS.R w B [.slice A2 n2 c2] x2 ∧ tS.R w B [.slice A3 n3 c3] x3 ∧ tPS.R w B [.slice A4 n4 c4] x4 ∧ tM.R w B [.slice A5 n5 c5] x5 := by
  constructor
  · rintro ⟨u0, d0, rfl, g0, ⟨u1, d1, rfl, g1, ⟨u2, d2, rfl, g2, ⟨u3, d3, rfl, g3, ⟨u4, d4, rfl, g4, g5⟩⟩⟩⟩⟩
    obtain rfl : u0 = [.int .i64 a0] := g0
    obtain ⟨A1, n1, c1, rfl⟩ := open_sl g1
    obtain ⟨A2, n2, c2, rfl⟩ := open_sl g2
    obtain ⟨A3, n3, c3, rfl⟩ := open_sl g3
    obtain ⟨A4, n4, c4, rfl⟩ := open_sl g4
    obtain ⟨A5, n5, c5, rfl⟩ := open_sl g5
    exact ⟨A1, n1, c1, A2, n2, c2, A3, n3, c3, A4, n4, c4, A5, n5, c5, rfl, g1, g2, g3, g4, g5⟩
  · rintro ⟨A1, n1, c1, A2, n2, c2, A3, n3, c3, A4, n4, c4, A5, n5, c5, rfl, g1, g2, g3, g4, g5⟩
    exact ⟨[.int .i64 a0], _, rfl, rfl, ⟨[.slice A1 n1 c1], _, rfl, g1, ⟨[.slice A2 n2 c2], _, rfl, g2, ⟨[.slice A3 n3 c3], _, rfl, g3, ⟨[.slice A4 n4 c4], _, rfl, g4, g5⟩⟩⟩⟩⟩
theorem tZ_O {w : World} {F : Nat → Prop} {cs : List Value} {a0 : Int} {x1 : List (List Int)} {x2 : List (List Clip_)} {x3 : List Int} {x4 : List Patch} {x5 : List Strip} : tZ.O w F cs (a0, x1, x2, x3, x4, x5) ↔ ∃ A1 n1 c1 A2 n2 c2 A3 n3 c3 A4 n4 c4 A5 n5 c5, ∃ F1 F2 F3 F4 F5 : Nat → Prop, cs = [.int .i64 a0, .slice A1 n1 c1, .slice A2 n2 c2, .slice A3 n3 c3, .slice A4 n4 c4, .slice A5 n5 c5] ∧ tSS.O w F1 [.slice A1 n1 c1] x1 ∧ tTS.O w F2 [.slice A2 n2 c2] x2 ∧ tS.O w F3 [.slice A3 n3 c3] x3 ∧ tPS.O w F4 [.slice A4 n4 c4] x4 ∧ tM.O w F5 [.slice A5 n5 c5] x5 ∧ (∀ b, F1 b → F b) ∧ (∀ b, F2 b → F b) ∧ (∀ b, F3 b → F b) ∧ (∀ b, F4 b → F b) ∧ (∀ b, F5 b → F b) ∧ (∀ b, F1 b → ¬ F2 b) ∧ (∀ b, F1 b → ¬ F3 b) ∧ (∀ b, F1 b → ¬ F4 b) ∧ (∀ b, F1 b → ¬ F5 b) ∧ (∀ b, F2 b → ¬ F3 b) ∧ (∀ b, F2 b → ¬ F4 b) ∧ (∀ b, F2 b → ¬ F5 b) ∧ (∀ b, F3 b → ¬ F4 b) ∧ (∀ b, F3 b → ¬ F5 b) ∧ (∀ b, F4 b → ¬ F5 b) := by
  constructor
  · rintro ⟨u0, d0, F0, G0, rfl, g0, ⟨u1, d1, F1, G1, rfl, g1, ⟨u2, d2, F2, G2, rfl, g2, ⟨u3, d3, F3, G3, rfl, g3, ⟨u4, d4, F4, G4, rfl, g4, g5, p4, q4, r4⟩, p3, q3, r3⟩, p2, q2, r2⟩, p1, q1, r1⟩, p0, q0, r0⟩
    obtain rfl : u0 = [.int .i64 a0] := g0
    obtain ⟨A1, n1, c1, rfl⟩ := open_sl (tSS.read g1)
    obtain ⟨A2, n2, c2, rfl⟩ := open_sl (tTS.read g2)
    obtain ⟨A3, n3, c3, rfl⟩ := open_sl (tS.read g3)
    obtain ⟨A4, n4, c4, rfl⟩ := open_sl (tPS.read g4)
    obtain ⟨A5, n5, c5, rfl⟩ := open_sl (tM.read g5)
    exact ⟨A1, n1, c1, A2, n2, c2, A3, n3, c3, A4, n4, c4, A5, n5, c5, F1, F2, F3, F4, G4, rfl, g1, g2, g3, g4, g5, fun b h => q0 _ (p1 _ h), fun b h => q0 _ (q1 _ (p2 _ h)), fun b h => q0 _ (q1 _ (q2 _ (p3 _ h))), fun b h => q0 _ (q1 _ (q2 _ (q3 _ (p4 _ h)))), fun b h => q0 _ (q1 _ (q2 _ (q3 _ (q4 _ (h))))), fun b h h2 => r1 b h (p2 _ h2), fun b h h2 => r1 b h (q2 _ (p3 _ h2)), fun b h h2 => r1 b h (q2 _ (q3 _ (p4 _ h2))), fun b h h2 => r1 b h (q2 _ (q3 _ (q4 _ (h2)))), fun b h h2 => r2 b h (p3 _ h2), fun b h h2 => r2 b h (q3 _ (p4 _ h2)), fun b h h2 => r2 b h (q3 _ (q4 _ (h2))), fun b h h2 => r3 b h (p4 _ h2), fun b h h2 => r3 b h (q4 _ (h2)), fun b h h2 => r4 b h (h2)⟩
  · rintro ⟨A1, n1, c1, A2, n2, c2, A3, n3, c3, A4, n4, c4, A5, n5, c5, F1, F2, F3, F4, F5, rfl, g1, g2, g3, g4, g5, p1, p2, p3, p4, p5, r1_2, r1_3, r1_4, r1_5, r2_3, r2_4, r2_5, r3_4, r3_5, r4_5⟩
    exact ⟨[.int .i64 a0], _, (fun _ => False), (fun b => F1 b ∨ F2 b ∨ F3 b ∨ F4 b ∨ F5 b), rfl, rfl, ⟨[.slice A1 n1 c1], _, F1, (fun b => F2 b ∨ F3 b ∨ F4 b ∨ F5 b), rfl, g1, ⟨[.slice A2 n2 c2], _, F2, (fun b => F3 b ∨ F4 b ∨ F5 b), rfl, g2, ⟨[.slice A3 n3 c3], _, F3, (fun b => F4 b ∨ F5 b), rfl, g3, ⟨[.slice A4 n4 c4], _, F4, F5, rfl, g4, g5, fun b h => by first | exact h | (simp only [*, true_or, or_true]), fun b h => by first | exact h | exact Or.inr h | (rcases h with h <;> simp only [*, true_or, or_true]), r4_5⟩, fun b h => by first | exact h | (simp only [*, true_or, or_true]), fun b h => by first | exact h | exact Or.inr h | (rcases h with h | h <;> simp only [*, true_or, or_true]), fun b h h2 => by rcases h2 with h2 | h2 <;> first | exact r3_4 b h h2 | exact r3_5 b h h2⟩, fun b h => by first | exact h | (simp only [*, true_or, or_true]), fun b h => by first | exact h | exact Or.inr h | (rcases h with h | h | h <;> simp only [*, true_or, or_true]), fun b h h2 => by rcases h2 with h2 | h2 | h2 <;> first | exact r2_3 b h h2 | exact r2_4 b h h2 | exact r2_5 b h h2⟩, fun b h => by first | exact h | (simp only [*, true_or, or_true]), fun b h => by first | exact h | exact Or.inr h | (rcases h with h | h | h | h <;> simp only [*, true_or, or_true]), fun b h h2 => by rcases h2 with h2 | h2 | h2 | h2 <;> first | exact r1_2 b h h2 | exact r1_3 b h h2 | exact r1_4 b h h2 | exact r1_5 b h h2⟩, fun _ h => h.elim, fun b h => by rcases h with h | h | h | h | h <;> first | exact p1 b h | exact p2 b h | exact p3 b h | exact p4 b h | exact p5 b h, fun _ h => h.elim⟩
theorem hZ_sz (a0 : Int) (x1 : List (List Int)) (x2 : List (List Clip_)) (x3 : List Int) (x4 : List Patch) (x5 : List Strip) : hZ.sz (a0, x1, x2, x3, x4, x5) = hSS.sz x1 + hTS.sz x2 + hS.sz x3 + hPS.sz x4 + hM.sz x5 := by
  show 0 + (hSS.sz x1 + (hTS.sz x2 + (hS.sz x3 + (hPS.sz x4 + (hM.sz x5))))) = _
  omega
theorem hZ_cnt (a0 : Int) (x1 : List (List Int)) (x2 : List (List Clip_)) (x3 : List Int) (x4 : List Patch) (x5 : List Strip) : hZ.cnt (a0, x1, x2, x3, x4, x5) = hSS.cnt x1 + hTS.cnt x2 + hS.cnt x3 + hPS.cnt x4 + hM.cnt x5 := by
  show 0 + (hSS.cnt x1 + (hTS.cnt x2 + (hS.cnt x3 + (hPS.cnt x4 + (hM.cnt x5))))) = _
  omega
theorem nf_sz_Z (a0 : Int) (A1 : Option Addr) (n1 c1 : Nat) (A2 : Option Addr) (n2 c2 : Nat) (A3 : Option Addr) (n3 c3 : Nat) (A4 : Option Addr) (n4 c4 : Nat) (A5 : Option Addr) (n5 c5 : Nat) (x1 : List (List Int)) (x2 : List (List Clip_)) (x3 : List Int) (x4 : List Patch) (x5 : List Strip) (l : Int) (w : World) (h1 : tSS.R w w.heap.size [.slice A1 n1 c1] x1) (h2 : tTS.R w w.heap.size [.slice A2 n2 c2] x2) (h3 : tS.R w w.heap.size [.slice A3 n3 c3] x3) (h4 : tPS.R w w.heap.size [.slice A4 n4 c4] x4) (h5 : tM.R w w.heap.size [.slice A5 n5 c5] x5) (hl : 0 ≤ l ∧ l ≤ 1000000000) :
    Calls Tryz.prog 8 #[.agg #[.int .i64 a0, .slice A1 n1 c1, .slice A2 n2 c2, .slice A3 n3 c3, .slice A4 n4 c4, .slice A5 n5 c5], .int .i64 l] w fun e w' => e = .returned (.int .i64 (if (hZ.sz ((a0, x1, x2, x3, x4, x5) : Sess) : Int) ≤ l then l - hZ.sz ((a0, x1, x2, x3, x4, x5) : Sess) else -1)) ∧ Below w.heap.size w w' := by
  obtain ⟨W, hW⟩ : ∃ W, W = w.alloc (.cells #[.int .i64 a0, .slice A1 n1 c1, .slice A2 n2 c2, .slice A3 n3 c3, .slice A4 n4 c4, .slice A5 n5 c5] 30) := ⟨_, rfl⟩
  have B0 : Below w.heap.size w W := by rw [hW]; exact (Below.refl _ _).alloc (Nat.le_refl _) _
  have p1 : W.cell? ⟨w.heap.size, 1, none⟩ = some (.slice A1 n1 c1) := by rw [hW]; simp [go_sem]
  have p2 : W.cell? ⟨w.heap.size, 2, none⟩ = some (.slice A2 n2 c2) := by rw [hW]; simp [go_sem]
  have p3 : W.cell? ⟨w.heap.size, 3, none⟩ = some (.slice A3 n3 c3) := by rw [hW]; simp [go_sem]
  have p4 : W.cell? ⟨w.heap.size, 4, none⟩ = some (.slice A4 n4 c4) := by rw [hW]; simp [go_sem]
  have p5 : W.cell? ⟨w.heap.size, 5, none⟩ = some (.slice A5 n5 c5) := by rw [hW]; simp [go_sem]
  have l0 : w.heap.size < W.heap.size := by rw [hW]; simp
  have y1_0 := tSS.later h1 B0
  have y2_0 := tTS.later h2 B0
  have y3_0 := tS.later h3 B0
  have y4_0 := tPS.later h4 B0
  have y5_0 := tM.later h5 B0
  have HW := Lib.hid hW
  clear hW
  rw [hZ_sz]
  have z1 : 0 ≤ (hSS.sz x1 : Int) := Int.natCast_nonneg _
  have z2 : 0 ≤ (hTS.sz x2 : Int) := Int.natCast_nonneg _
  have z3 : 0 ≤ (hS.sz x3 : Int) := Int.natCast_nonneg _
  have z4 : 0 ≤ (hPS.sz x4 : Int) := Int.natCast_nonneg _
  have z5 : 0 ≤ (hM.sz x5 : Int) := Int.natCast_nonneg _
  by_cases g0 : (hSS.sz x1 : Int) ≤ l
  · have i0 := Lib.hid (show (if (hSS.sz x1 : Int) ≤ l then l - hSS.sz x1 else -1) = l - hSS.sz x1 by rw [if_pos g0])
    by_cases g1 : (hTS.sz x2 : Int) ≤ l - hSS.sz x1
    · have i1 := Lib.hid (show (if (hTS.sz x2 : Int) ≤ l - hSS.sz x1 then l - hSS.sz x1 - hTS.sz x2 else -1) = l - hSS.sz x1 - hTS.sz x2 by rw [if_pos g1])
      by_cases g2 : (hS.sz x3 : Int) ≤ l - hSS.sz x1 - hTS.sz x2
      · have i2 := Lib.hid (show (if (hS.sz x3 : Int) ≤ l - hSS.sz x1 - hTS.sz x2 then l - hSS.sz x1 - hTS.sz x2 - hS.sz x3 else -1) = l - hSS.sz x1 - hTS.sz x2 - hS.sz x3 by rw [if_pos g2])
        by_cases g3 : (hPS.sz x4 : Int) ≤ l - hSS.sz x1 - hTS.sz x2 - hS.sz x3
        · have i3 := Lib.hid (show (if (hPS.sz x4 : Int) ≤ l - hSS.sz x1 - hTS.sz x2 - hS.sz x3 then l - hSS.sz x1 - hTS.sz x2 - hS.sz x3 - hPS.sz x4 else -1) = l - hSS.sz x1 - hTS.sz x2 - hS.sz x3 - hPS.sz x4 by rw [if_pos g3])
          by_cases g4 : (hM.sz x5 : Int) ≤ l - hSS.sz x1 - hTS.sz x2 - hS.sz x3 - hPS.sz x4
          · have i4 := Lib.hid (show (if (hM.sz x5 : Int) ≤ l - hSS.sz x1 - hTS.sz x2 - hS.sz x3 - hPS.sz x4 then l - hSS.sz x1 - hTS.sz x2 - hS.sz x3 - hPS.sz x4 - hM.sz x5 else -1) = l - hSS.sz x1 - hTS.sz x2 - hS.sz x3 - hPS.sz x4 - hM.sz x5 by rw [if_pos g4])
            have hj := Lib.hid (show (if ((hSS.sz x1 + hTS.sz x2 + hS.sz x3 + hPS.sz x4 + hM.sz x5 : Nat) : Int) ≤ l then l - ((hSS.sz x1 + hTS.sz x2 + hS.sz x3 + hPS.sz x4 + hM.sz x5 : Nat) : Int) else -1) = l - hSS.sz x1 - hTS.sz x2 - hS.sz x3 - hPS.sz x4 - hM.sz x5 by rw [if_pos (by omega)]; first | done | omega)
            rw [hj.out]
            clear z1 z2 z3 z4 z5
            go_enter Tryz.func8, Tryz.ntmps8
            go_wp2_with fail
            rw [← HW.out]
            refine (nf_sz_SS _ _ _ _ _ _ y1_0 (by omega)).mono ?_
            rw [i0.out]
            rintro e w1 ⟨rfl, b1⟩
            obtain ⟨hc1, -⟩ := bcell b1
            have l1 := Nat.lt_of_lt_of_le l0 b1.size
            have B1 := bel_trans B0 b1
            have y2_1 := tTS.later y2_0 b1
            have y3_1 := tS.later y3_0 b1
            have y4_1 := tPS.later y4_0 b1
            have y5_1 := tM.later y5_0 b1
            go_wp2_with fail
            refine (nf_sz_TS _ _ _ _ _ _ y2_1 (by omega)).mono ?_
            rw [i1.out]
            rintro e w2 ⟨rfl, b2⟩
            obtain ⟨hc2, -⟩ := bcell b2
            have l2 := Nat.lt_of_lt_of_le l1 b2.size
            have B2 := bel_trans B1 b2
            have y3_2 := tS.later y3_1 b2
            have y4_2 := tPS.later y4_1 b2
            have y5_2 := tM.later y5_1 b2
            go_wp2_with fail
            refine (nf_sz_S _ _ _ _ _ _ y3_2 (by omega)).mono ?_
            rw [i2.out]
            rintro e w3 ⟨rfl, b3⟩
            obtain ⟨hc3, -⟩ := bcell b3
            have l3 := Nat.lt_of_lt_of_le l2 b3.size
            have B3 := bel_trans B2 b3
            have y4_3 := tPS.later y4_2 b3
            have y5_3 := tM.later y5_2 b3
            go_wp2_with fail
            refine (nf_sz_PS _ _ _ _ _ _ y4_3 (by omega)).mono ?_
            rw [i3.out]
            rintro e w4 ⟨rfl, b4⟩
            obtain ⟨hc4, -⟩ := bcell b4
            have l4 := Nat.lt_of_lt_of_le l3 b4.size
            have B4 := bel_trans B3 b4
            have y5_4 := tM.later y5_3 b4
            go_wp2_with fail
            refine (nf_sz_M _ _ _ _ _ _ y5_4 (by omega)).mono ?_
            rw [i4.out]
            rintro e w5 ⟨rfl, b5⟩
            obtain ⟨hc5, -⟩ := bcell b5
            have l5 := Nat.lt_of_lt_of_le l4 b5.size
            have B5 := bel_trans B4 b5
            go_wp2
            go_ret
            exact ⟨rfl, B5⟩
          · have i4 := Lib.hid (show (if (hM.sz x5 : Int) ≤ l - hSS.sz x1 - hTS.sz x2 - hS.sz x3 - hPS.sz x4 then l - hSS.sz x1 - hTS.sz x2 - hS.sz x3 - hPS.sz x4 - hM.sz x5 else -1) = -1 by rw [if_neg g4])
            have hj := Lib.hid (show (if ((hSS.sz x1 + hTS.sz x2 + hS.sz x3 + hPS.sz x4 + hM.sz x5 : Nat) : Int) ≤ l then l - ((hSS.sz x1 + hTS.sz x2 + hS.sz x3 + hPS.sz x4 + hM.sz x5 : Nat) : Int) else -1) = -1 by rw [if_neg (by omega)])
            rw [hj.out]
            clear z1 z2 z3 z4 z5
            go_enter Tryz.func8, Tryz.ntmps8
            go_wp2_with fail
            rw [← HW.out]
            refine (nf_sz_SS _ _ _ _ _ _ y1_0 (by omega)).mono ?_
            rw [i0.out]
            rintro e w1 ⟨rfl, b1⟩
            obtain ⟨hc1, -⟩ := bcell b1
            have l1 := Nat.lt_of_lt_of_le l0 b1.size
            have B1 := bel_trans B0 b1
            have y2_1 := tTS.later y2_0 b1
            have y3_1 := tS.later y3_0 b1
            have y4_1 := tPS.later y4_0 b1
            have y5_1 := tM.later y5_0 b1
            go_wp2_with fail
            refine (nf_sz_TS _ _ _ _ _ _ y2_1 (by omega)).mono ?_
            rw [i1.out]
            rintro e w2 ⟨rfl, b2⟩
            obtain ⟨hc2, -⟩ := bcell b2
            have l2 := Nat.lt_of_lt_of_le l1 b2.size
            have B2 := bel_trans B1 b2
            have y3_2 := tS.later y3_1 b2
            have y4_2 := tPS.later y4_1 b2
            have y5_2 := tM.later y5_1 b2
            go_wp2_with fail
            refine (nf_sz_S _ _ _ _ _ _ y3_2 (by omega)).mono ?_
            rw [i2.out]
            rintro e w3 ⟨rfl, b3⟩
            obtain ⟨hc3, -⟩ := bcell b3
            have l3 := Nat.lt_of_lt_of_le l2 b3.size
            have B3 := bel_trans B2 b3
            have y4_3 := tPS.later y4_2 b3
            have y5_3 := tM.later y5_2 b3
            go_wp2_with fail
            refine (nf_sz_PS _ _ _ _ _ _ y4_3 (by omega)).mono ?_
            rw [i3.out]
            rintro e w4 ⟨rfl, b4⟩
            obtain ⟨hc4, -⟩ := bcell b4
            have l4 := Nat.lt_of_lt_of_le l3 b4.size
            have B4 := bel_trans B3 b4
            have y5_4 := tM.later y5_3 b4
            go_wp2_with fail
            refine (nf_sz_M _ _ _ _ _ _ y5_4 (by omega)).mono ?_
            rw [i4.out]
            rintro e w5 ⟨rfl, b5⟩
            obtain ⟨hc5, -⟩ := bcell b5
            have l5 := Nat.lt_of_lt_of_le l4 b5.size
            have B5 := bel_trans B4 b5
            go_wp2
            go_ret
            exact ⟨rfl, B5⟩
        · have i3 := Lib.hid (show (if (hPS.sz x4 : Int) ≤ l - hSS.sz x1 - hTS.sz x2 - hS.sz x3 then l - hSS.sz x1 - hTS.sz x2 - hS.sz x3 - hPS.sz x4 else -1) = -1 by rw [if_neg g3])
          have hj := Lib.hid (show (if ((hSS.sz x1 + hTS.sz x2 + hS.sz x3 + hPS.sz x4 + hM.sz x5 : Nat) : Int) ≤ l then l - ((hSS.sz x1 + hTS.sz x2 + hS.sz x3 + hPS.sz x4 + hM.sz x5 : Nat) : Int) else -1) = -1 by rw [if_neg (by omega)])
          rw [hj.out]
          clear z1 z2 z3 z4 z5
          go_enter Tryz.func8, Tryz.ntmps8
          go_wp2_with fail
          rw [← HW.out]
          refine (nf_sz_SS _ _ _ _ _ _ y1_0 (by omega)).mono ?_
          rw [i0.out]
          rintro e w1 ⟨rfl, b1⟩
          obtain ⟨hc1, -⟩ := bcell b1
          have l1 := Nat.lt_of_lt_of_le l0 b1.size
          have B1 := bel_trans B0 b1
          have y2_1 := tTS.later y2_0 b1
          have y3_1 := tS.later y3_0 b1
          have y4_1 := tPS.later y4_0 b1
          have y5_1 := tM.later y5_0 b1
          go_wp2_with fail
          refine (nf_sz_TS _ _ _ _ _ _ y2_1 (by omega)).mono ?_
          rw [i1.out]
          rintro e w2 ⟨rfl, b2⟩
          obtain ⟨hc2, -⟩ := bcell b2
          have l2 := Nat.lt_of_lt_of_le l1 b2.size
          have B2 := bel_trans B1 b2
          have y3_2 := tS.later y3_1 b2
          have y4_2 := tPS.later y4_1 b2
          have y5_2 := tM.later y5_1 b2
          go_wp2_with fail
          refine (nf_sz_S _ _ _ _ _ _ y3_2 (by omega)).mono ?_
          rw [i2.out]
          rintro e w3 ⟨rfl, b3⟩
          obtain ⟨hc3, -⟩ := bcell b3
          have l3 := Nat.lt_of_lt_of_le l2 b3.size
          have B3 := bel_trans B2 b3
          have y4_3 := tPS.later y4_2 b3
          have y5_3 := tM.later y5_2 b3
          go_wp2_with fail
          refine (nf_sz_PS _ _ _ _ _ _ y4_3 (by omega)).mono ?_
          rw [i3.out]
          rintro e w4 ⟨rfl, b4⟩
          obtain ⟨hc4, -⟩ := bcell b4
          have l4 := Nat.lt_of_lt_of_le l3 b4.size
          have B4 := bel_trans B3 b4
          have y5_4 := tM.later y5_3 b4
          go_wp2
          go_ret
          exact ⟨rfl, B4⟩
      · have i2 := Lib.hid (show (if (hS.sz x3 : Int) ≤ l - hSS.sz x1 - hTS.sz x2 then l - hSS.sz x1 - hTS.sz x2 - hS.sz x3 else -1) = -1 by rw [if_neg g2])
        have hj := Lib.hid (show (if ((hSS.sz x1 + hTS.sz x2 + hS.sz x3 + hPS.sz x4 + hM.sz x5 : Nat) : Int) ≤ l then l - ((hSS.sz x1 + hTS.sz x2 + hS.sz x3 + hPS.sz x4 + hM.sz x5 : Nat) : Int) else -1) = -1 by rw [if_neg (by omega)])
        rw [hj.out]
        clear z1 z2 z3 z4 z5
        go_enter Tryz.func8, Tryz.ntmps8
        go_wp2_with fail
        rw [← HW.out]
        refine (nf_sz_SS _ _ _ _ _ _ y1_0 (by omega)).mono ?_
        rw [i0.out]
        rintro e w1 ⟨rfl, b1⟩
        obtain ⟨hc1, -⟩ := bcell b1
        have l1 := Nat.lt_of_lt_of_le l0 b1.size
        have B1 := bel_trans B0 b1
        have y2_1 := tTS.later y2_0 b1
        have y3_1 := tS.later y3_0 b1
        have y4_1 := tPS.later y4_0 b1
        have y5_1 := tM.later y5_0 b1
        go_wp2_with fail
        refine (nf_sz_TS _ _ _ _ _ _ y2_1 (by omega)).mono ?_
        rw [i1.out]
        rintro e w2 ⟨rfl, b2⟩
        obtain ⟨hc2, -⟩ := bcell b2
        have l2 := Nat.lt_of_lt_of_le l1 b2.size
        have B2 := bel_trans B1 b2
        have y3_2 := tS.later y3_1 b2
        have y4_2 := tPS.later y4_1 b2
        have y5_2 := tM.later y5_1 b2
        go_wp2_with fail
        refine (nf_sz_S _ _ _ _ _ _ y3_2 (by omega)).mono ?_
        rw [i2.out]
        rintro e w3 ⟨rfl, b3⟩
        obtain ⟨hc3, -⟩ := bcell b3
        have l3 := Nat.lt_of_lt_of_le l2 b3.size
        have B3 := bel_trans B2 b3
        have y4_3 := tPS.later y4_2 b3
        have y5_3 := tM.later y5_2 b3
        go_wp2
        go_ret
        exact ⟨rfl, B3⟩
    · have i1 := Lib.hid (show (if (hTS.sz x2 : Int) ≤ l - hSS.sz x1 then l - hSS.sz x1 - hTS.sz x2 else -1) = -1 by rw [if_neg g1])
      have hj := Lib.hid (show (if ((hSS.sz x1 + hTS.sz x2 + hS.sz x3 + hPS.sz x4 + hM.sz x5 : Nat) : Int) ≤ l then l - ((hSS.sz x1 + hTS.sz x2 + hS.sz x3 + hPS.sz x4 + hM.sz x5 : Nat) : Int) else -1) = -1 by rw [if_neg (by omega)])
      rw [hj.out]
      clear z1 z2 z3 z4 z5
      go_enter Tryz.func8, Tryz.ntmps8
      go_wp2_with fail
      rw [← HW.out]
      refine (nf_sz_SS _ _ _ _ _ _ y1_0 (by omega)).mono ?_
      rw [i0.out]
      rintro e w1 ⟨rfl, b1⟩
      obtain ⟨hc1, -⟩ := bcell b1
      have l1 := Nat.lt_of_lt_of_le l0 b1.size
      have B1 := bel_trans B0 b1
      have y2_1 := tTS.later y2_0 b1
      have y3_1 := tS.later y3_0 b1
      have y4_1 := tPS.later y4_0 b1
      have y5_1 := tM.later y5_0 b1
      go_wp2_with fail
      refine (nf_sz_TS _ _ _ _ _ _ y2_1 (by omega)).mono ?_
      rw [i1.out]
      rintro e w2 ⟨rfl, b2⟩
      obtain ⟨hc2, -⟩ := bcell b2
      have l2 := Nat.lt_of_lt_of_le l1 b2.size
      have B2 := bel_trans B1 b2
      have y3_2 := tS.later y3_1 b2
      have y4_2 := tPS.later y4_1 b2
      have y5_2 := tM.later y5_1 b2
      go_wp2
      go_ret
      exact ⟨rfl, B2⟩
  · have i0 := Lib.hid (show (if (hSS.sz x1 : Int) ≤ l then l - hSS.sz x1 else -1) = -1 by rw [if_neg g0])
    have hj := Lib.hid (show (if ((hSS.sz x1 + hTS.sz x2 + hS.sz x3 + hPS.sz x4 + hM.sz x5 : Nat) : Int) ≤ l then l - ((hSS.sz x1 + hTS.sz x2 + hS.sz x3 + hPS.sz x4 + hM.sz x5 : Nat) : Int) else -1) = -1 by rw [if_neg (by omega)])
    rw [hj.out]
    clear z1 z2 z3 z4 z5
    go_enter Tryz.func8, Tryz.ntmps8
    go_wp2_with fail
    rw [← HW.out]
    refine (nf_sz_SS _ _ _ _ _ _ y1_0 (by omega)).mono ?_
    rw [i0.out]
    rintro e w1 ⟨rfl, b1⟩
    obtain ⟨hc1, -⟩ := bcell b1
    have l1 := Nat.lt_of_lt_of_le l0 b1.size
    have B1 := bel_trans B0 b1
    have y2_1 := tTS.later y2_0 b1
    have y3_1 := tS.later y3_0 b1
    have y4_1 := tPS.later y4_0 b1
    have y5_1 := tM.later y5_0 b1
    go_wp2
    go_ret
    exact ⟨rfl, B1⟩
theorem nf_eq_Z (a0 : Int) (A1 : Option Addr) (n1 c1 : Nat) (A2 : Option Addr) (n2 c2 : Nat) (A3 : Option Addr) (n3 c3 : Nat) (A4 : Option Addr) (n4 c4 : Nat) (A5 : Option Addr) (n5 c5 : Nat) (A1' : Option Addr) (n1' c1' : Nat) (A2' : Option Addr) (n2' c2' : Nat) (A3' : Option Addr) (n3' c3' : Nat) (A4' : Option Addr) (n4' c4' : Nat) (A5' : Option Addr) (n5' c5' : Nat) (x1 : List (List Int)) (x2 : List (List Clip_)) (x3 : List Int) (x4 : List Patch) (x5 : List Strip) (w : World) (h1 : tSS.R w w.heap.size [.slice A1 n1 c1] x1) (h2 : tTS.R w w.heap.size [.slice A2 n2 c2] x2) (h3 : tS.R w w.heap.size [.slice A3 n3 c3] x3) (h4 : tPS.R w w.heap.size [.slice A4 n4 c4] x4) (h5 : tM.R w w.heap.size [.slice A5 n5 c5] x5) (k1 : tSS.R w w.heap.size [.slice A1' n1' c1'] x1) (k2 : tTS.R w w.heap.size [.slice A2' n2' c2'] x2) (k3 : tS.R w w.heap.size [.slice A3' n3' c3'] x3) (k4 : tPS.R w w.heap.size [.slice A4' n4' c4'] x4) (k5 : tM.R w w.heap.size [.slice A5' n5' c5'] x5) (hn : hZ.sz ((a0, x1, x2, x3, x4, x5) : Sess) ≤ 100000000) :
    Calls Tryz.prog 13 #[.agg #[.int .i64 a0, .slice A1 n1 c1, .slice A2 n2 c2, .slice A3 n3 c3, .slice A4 n4 c4, .slice A5 n5 c5], .agg #[.int .i64 a0, .slice A1' n1' c1', .slice A2' n2' c2', .slice A3' n3' c3', .slice A4' n4' c4', .slice A5' n5' c5']] w fun e w' => e = .returned (.bool true) ∧ Below w.heap.size w w' := by
  obtain ⟨W, hW⟩ : ∃ W, W = (w.alloc (.cells #[.int .i64 a0, .slice A1 n1 c1, .slice A2 n2 c2, .slice A3 n3 c3, .slice A4 n4 c4, .slice A5 n5 c5] 40)).alloc (.cells #[.int .i64 a0, .slice A1' n1' c1', .slice A2' n2' c2', .slice A3' n3' c3', .slice A4' n4' c4', .slice A5' n5' c5'] 40) := ⟨_, rfl⟩
  have B0 : Below w.heap.size w W := by rw [hW]; exact ((Below.refl _ _).alloc (Nat.le_refl _) _).alloc (by simp) _
  have p0 : W.cell? ⟨w.heap.size, 0, none⟩ = some (.int .i64 a0) := by rw [hW]; simp [go_sem]
  have q0 : W.cell? ⟨w.heap.size + 1, 0, none⟩ = some (.int .i64 a0) := by rw [hW]; simp [go_sem]
  have p1 : W.cell? ⟨w.heap.size, 1, none⟩ = some (.slice A1 n1 c1) := by rw [hW]; simp [go_sem]
  have q1 : W.cell? ⟨w.heap.size + 1, 1, none⟩ = some (.slice A1' n1' c1') := by rw [hW]; simp [go_sem]
  have p2 : W.cell? ⟨w.heap.size, 2, none⟩ = some (.slice A2 n2 c2) := by rw [hW]; simp [go_sem]
  have q2 : W.cell? ⟨w.heap.size + 1, 2, none⟩ = some (.slice A2' n2' c2') := by rw [hW]; simp [go_sem]
  have p3 : W.cell? ⟨w.heap.size, 3, none⟩ = some (.slice A3 n3 c3) := by rw [hW]; simp [go_sem]
  have q3 : W.cell? ⟨w.heap.size + 1, 3, none⟩ = some (.slice A3' n3' c3') := by rw [hW]; simp [go_sem]
  have p4 : W.cell? ⟨w.heap.size, 4, none⟩ = some (.slice A4 n4 c4) := by rw [hW]; simp [go_sem]
  have q4 : W.cell? ⟨w.heap.size + 1, 4, none⟩ = some (.slice A4' n4' c4') := by rw [hW]; simp [go_sem]
  have p5 : W.cell? ⟨w.heap.size, 5, none⟩ = some (.slice A5 n5 c5) := by rw [hW]; simp [go_sem]
  have q5 : W.cell? ⟨w.heap.size + 1, 5, none⟩ = some (.slice A5' n5' c5') := by rw [hW]; simp [go_sem]
  have l0 : w.heap.size + 1 < W.heap.size := by rw [hW]; simp
  have l0' : w.heap.size < W.heap.size := by omega
  have y1_0 := tSS.later h1 B0
  have v1_0 := tSS.later k1 B0
  have y2_0 := tTS.later h2 B0
  have v2_0 := tTS.later k2 B0
  have y3_0 := tS.later h3 B0
  have v3_0 := tS.later k3 B0
  have y4_0 := tPS.later h4 B0
  have v4_0 := tPS.later k4 B0
  have y5_0 := tM.later h5 B0
  have v5_0 := tM.later k5 B0
  have HW := Lib.hid hW
  clear hW
  rw [hZ_sz] at hn
  go_enter Tryz.func13, Tryz.ntmps13
  go_wp2_with fail
  rw [← HW.out]
  refine (nf_eq_SS _ _ _ _ _ _ _ _ y1_0 v1_0 (by omega)).mono ?_
  rintro e w1 ⟨rfl, b1⟩
  obtain ⟨hc1, -⟩ := bcell b1
  have l1 := Nat.lt_of_lt_of_le l0 b1.size
  have l1' := Nat.lt_of_lt_of_le l0' b1.size
  have B1 := bel_trans B0 b1
  have y2_1 := tTS.later y2_0 b1
  have v2_1 := tTS.later v2_0 b1
  have y3_1 := tS.later y3_0 b1
  have v3_1 := tS.later v3_0 b1
  have y4_1 := tPS.later y4_0 b1
  have v4_1 := tPS.later v4_0 b1
  have y5_1 := tM.later y5_0 b1
  have v5_1 := tM.later v5_0 b1
  go_wp2_with fail
  refine (nf_eq_TS _ _ _ _ _ _ _ _ y2_1 v2_1 (by omega)).mono ?_
  rintro e w2 ⟨rfl, b2⟩
  obtain ⟨hc2, -⟩ := bcell b2
  have l2 := Nat.lt_of_lt_of_le l1 b2.size
  have l2' := Nat.lt_of_lt_of_le l1' b2.size
  have B2 := bel_trans B1 b2
  have y3_2 := tS.later y3_1 b2
  have v3_2 := tS.later v3_1 b2
  have y4_2 := tPS.later y4_1 b2
  have v4_2 := tPS.later v4_1 b2
  have y5_2 := tM.later y5_1 b2
  have v5_2 := tM.later v5_1 b2
  go_wp2_with fail
  refine (nf_eq_S _ _ _ _ _ _ _ _ y3_2 v3_2 (by omega)).mono ?_
  rintro e w3 ⟨rfl, b3⟩
  obtain ⟨hc3, -⟩ := bcell b3
  have l3 := Nat.lt_of_lt_of_le l2 b3.size
  have l3' := Nat.lt_of_lt_of_le l2' b3.size
  have B3 := bel_trans B2 b3
  have y4_3 := tPS.later y4_2 b3
  have v4_3 := tPS.later v4_2 b3
  have y5_3 := tM.later y5_2 b3
  have v5_3 := tM.later v5_2 b3
  go_wp2_with fail
  refine (nf_eq_PS _ _ _ _ _ _ _ _ y4_3 v4_3 (by omega)).mono ?_
  rintro e w4 ⟨rfl, b4⟩
  obtain ⟨hc4, -⟩ := bcell b4
  have l4 := Nat.lt_of_lt_of_le l3 b4.size
  have l4' := Nat.lt_of_lt_of_le l3' b4.size
  have B4 := bel_trans B3 b4
  have y5_4 := tM.later y5_3 b4
  have v5_4 := tM.later v5_3 b4
  go_wp2_with fail
  refine (nf_eq_M _ _ _ _ _ _ _ _ y5_4 v5_4 (by omega)).mono ?_
  rintro e w5 ⟨rfl, b5⟩
  obtain ⟨hc5, -⟩ := bcell b5
  have l5 := Nat.lt_of_lt_of_le l4 b5.size
  have l5' := Nat.lt_of_lt_of_le l4' b5.size
  have B5 := bel_trans B4 b5
  go_wp2
  go_ret
  exact ⟨rfl, B5⟩
theorem nf_to_Z (a0 : Int) (A1 : Option Addr) (n1 c1 : Nat) (A2 : Option Addr) (n2 c2 : Nat) (A3 : Option Addr) (n3 c3 : Nat) (A4 : Option Addr) (n4 c4 : Nat) (A5 : Option Addr) (n5 c5 : Nat) (x1 : List (List Int)) (x2 : List (List Clip_)) (x3 : List Int) (x4 : List Patch) (x5 : List Strip) (w : World) (h1 : tSS.R w w.heap.size [.slice A1 n1 c1] x1) (h2 : tTS.R w w.heap.size [.slice A2 n2 c2] x2) (h3 : tS.R w w.heap.size [.slice A3 n3 c3] x3) (h4 : tPS.R w w.heap.size [.slice A4 n4 c4] x4) (h5 : tM.R w w.heap.size [.slice A5 n5 c5] x5) (hn : hZ.sz ((a0, x1, x2, x3, x4, x5) : Sess) ≤ 100000000) :
    Calls Tryz.prog 10 #[.agg #[.int .i64 a0, .slice A1 n1 c1, .slice A2 n2 c2, .slice A3 n3 c3, .slice A4 n4 c4, .slice A5 n5 c5]] w fun e w' => ∃ A1' n1' c1' A2' n2' c2' A3' n3' c3' A4' n4' c4' A5' n5' c5', e = .returned (.agg #[.int .i64 a0, .slice A1' n1' c1', .slice A2' n2' c2', .slice A3' n3' c3', .slice A4' n4' c4', .slice A5' n5' c5']) ∧ tZ.O w' (Iv w.heap.size w'.heap.size) [.int .i64 a0, .slice A1' n1' c1', .slice A2' n2' c2', .slice A3' n3' c3', .slice A4' n4' c4', .slice A5' n5' c5'] (a0, x1, x2, x3, x4, x5) ∧ Below w.heap.size w w' := by
  obtain ⟨W, hW⟩ : ∃ W, W = ((w.alloc (.cells #[.int .i64 a0, .slice A1 n1 c1, .slice A2 n2 c2, .slice A3 n3 c3, .slice A4 n4 c4, .slice A5 n5 c5] 30)).alloc (.cells #[.int .i64 0, .slice none 0 0, .slice none 0 0, .slice none 0 0, .slice none 0 0, .slice none 0 0] 40)).alloc (.cells #[.int .i64 a0, .slice none 0 0, .slice none 0 0, .slice none 0 0, .slice none 0 0, .slice none 0 0] 40) := ⟨_, rfl⟩
  have B0 : Below w.heap.size w W := by rw [hW]; exact (((Below.refl _ _).alloc (Nat.le_refl _) _).alloc (by simp) _).alloc (by simp; omega) _
  have z0 : W.heap.size = w.heap.size + 1 + 1 + 1 := by rw [hW]; simp
  have p0 : W.cell? ⟨w.heap.size, 0, none⟩ = some (.int .i64 a0) := by rw [hW]; simp [go_sem]
  have q0 : W.cell? ⟨w.heap.size + 1, 0, none⟩ = some (.int .i64 0) := by rw [hW]; simp [go_sem]
  have r0 : W.cell? ⟨w.heap.size + 1 + 1, 0, none⟩ = some (.int .i64 a0) := by rw [hW]; simp [go_sem]
  have s0 : W.frozen? ⟨w.heap.size + 1, 0, none⟩ = false := by rw [hW]; simp [go_sem]
  have t0 : W.frozen? ⟨w.heap.size + 1 + 1, 0, none⟩ = false := by rw [hW]; simp [go_sem]
  have p1 : W.cell? ⟨w.heap.size, 1, none⟩ = some (.slice A1 n1 c1) := by rw [hW]; simp [go_sem]
  have q1 : W.cell? ⟨w.heap.size + 1, 1, none⟩ = some (.slice none 0 0) := by rw [hW]; simp [go_sem]
  have r1 : W.cell? ⟨w.heap.size + 1 + 1, 1, none⟩ = some (.slice none 0 0) := by rw [hW]; simp [go_sem]
  have s1 : W.frozen? ⟨w.heap.size + 1, 1, none⟩ = false := by rw [hW]; simp [go_sem]
  have t1 : W.frozen? ⟨w.heap.size + 1 + 1, 1, none⟩ = false := by rw [hW]; simp [go_sem]
  have p2 : W.cell? ⟨w.heap.size, 2, none⟩ = some (.slice A2 n2 c2) := by rw [hW]; simp [go_sem]
  have q2 : W.cell? ⟨w.heap.size + 1, 2, none⟩ = some (.slice none 0 0) := by rw [hW]; simp [go_sem]
  have r2 : W.cell? ⟨w.heap.size + 1 + 1, 2, none⟩ = some (.slice none 0 0) := by rw [hW]; simp [go_sem]
  have s2 : W.frozen? ⟨w.heap.size + 1, 2, none⟩ = false := by rw [hW]; simp [go_sem]
  have t2 : W.frozen? ⟨w.heap.size + 1 + 1, 2, none⟩ = false := by rw [hW]; simp [go_sem]
  have p3 : W.cell? ⟨w.heap.size, 3, none⟩ = some (.slice A3 n3 c3) := by rw [hW]; simp [go_sem]
  have q3 : W.cell? ⟨w.heap.size + 1, 3, none⟩ = some (.slice none 0 0) := by rw [hW]; simp [go_sem]
  have r3 : W.cell? ⟨w.heap.size + 1 + 1, 3, none⟩ = some (.slice none 0 0) := by rw [hW]; simp [go_sem]
  have s3 : W.frozen? ⟨w.heap.size + 1, 3, none⟩ = false := by rw [hW]; simp [go_sem]
  have t3 : W.frozen? ⟨w.heap.size + 1 + 1, 3, none⟩ = false := by rw [hW]; simp [go_sem]
  have p4 : W.cell? ⟨w.heap.size, 4, none⟩ = some (.slice A4 n4 c4) := by rw [hW]; simp [go_sem]
  have q4 : W.cell? ⟨w.heap.size + 1, 4, none⟩ = some (.slice none 0 0) := by rw [hW]; simp [go_sem]
  have r4 : W.cell? ⟨w.heap.size + 1 + 1, 4, none⟩ = some (.slice none 0 0) := by rw [hW]; simp [go_sem]
  have s4 : W.frozen? ⟨w.heap.size + 1, 4, none⟩ = false := by rw [hW]; simp [go_sem]
  have t4 : W.frozen? ⟨w.heap.size + 1 + 1, 4, none⟩ = false := by rw [hW]; simp [go_sem]
  have p5 : W.cell? ⟨w.heap.size, 5, none⟩ = some (.slice A5 n5 c5) := by rw [hW]; simp [go_sem]
  have q5 : W.cell? ⟨w.heap.size + 1, 5, none⟩ = some (.slice none 0 0) := by rw [hW]; simp [go_sem]
  have r5 : W.cell? ⟨w.heap.size + 1 + 1, 5, none⟩ = some (.slice none 0 0) := by rw [hW]; simp [go_sem]
  have s5 : W.frozen? ⟨w.heap.size + 1, 5, none⟩ = false := by rw [hW]; simp [go_sem]
  have t5 : W.frozen? ⟨w.heap.size + 1 + 1, 5, none⟩ = false := by rw [hW]; simp [go_sem]
  have l0 : w.heap.size < W.heap.size := by omega
  have l0' : w.heap.size + 1 < W.heap.size := by omega
  have l0'' : w.heap.size + 1 + 1 < W.heap.size := by omega
  have Z0 : w.heap.size + 1 + 1 + 1 ≤ W.heap.size := by omega
  clear z0
  have y1_0 := tSS.later h1 B0
  have y2_0 := tTS.later h2 B0
  have y3_0 := tS.later h3 B0
  have y4_0 := tPS.later h4 B0
  have y5_0 := tM.later h5 B0
  have HW := Lib.hid hW
  clear hW
  rw [hZ_sz] at hn
  go_enter Tryz.func10, Tryz.ntmps10
  go_wp2_with fail
  rw [← HW.out]
  refine (nf_to_SS _ _ _ _ _ y1_0 (by omega)).mono ?_
  rintro e w1 ⟨A1', n1', c1', rfl, o1_0, b1⟩
  obtain ⟨hc1, hf1⟩ := bcell b1
  obtain ⟨U1, hU1⟩ : ∃ U, U = w1.setCell ⟨w.heap.size + 1 + 1, 1, none⟩ (.slice A1' n1' c1') := ⟨_, rfl⟩
  have m1 : Mid (w.heap.size + 1 + 1) (w.heap.size + 1 + 1 + 1) w1 U1 := by rw [hU1]; exact Mid.of_grown (grown_setCell w1 (w.heap.size + 1 + 1) 1 _) fun k hk => by injection hk with hk; omega
  have e1 : U1.heap.size = w1.heap.size := by rw [hU1]; simp
  have E1 := Lib.hid e1
  have sz1 : W.heap.size ≤ U1.heap.size := by rw [e1]; exact b1.size
  have BU1 : Below (w.heap.size + 1 + 1) w1 U1 := m1.toBelow (by omega)
  have B1 : Below w.heap.size w U1 := (bel_trans B0 b1).trans (BU1.mono (by omega))
  have l1 := Nat.lt_of_lt_of_le l0 sz1
  have l1' := Nat.lt_of_lt_of_le l0' sz1
  have l1'' := Nat.lt_of_lt_of_le l0'' sz1
  have Z1 := Nat.le_trans Z0 sz1
  have o1_1 : tSS.O U1 (Iv W.heap.size U1.heap.size) [.slice A1' n1' c1'] x1 := tSS.oiv (tSS.omid o1_0 m1 (.inr (by omega)) (Nat.le_refl _)) (Nat.le_refl _) (by omega)
  have y2_1 : tTS.R U1 U1.heap.size [.slice A2 n2 c2] x2 := tTS.later h2 B1
  have y3_1 : tS.R U1 U1.heap.size [.slice A3 n3 c3] x3 := tS.later h3 B1
  have y4_1 : tPS.R U1 U1.heap.size [.slice A4 n4 c4] x4 := tPS.later h4 B1
  have y5_1 : tM.R U1 U1.heap.size [.slice A5 n5 c5] x5 := tM.later h5 B1
  have q0_1 : U1.cell? ⟨w.heap.size + 1, 0, none⟩ = some (.int .i64 0) := by rw [BU1.cell (by show w.heap.size + 1 < _; omega), b1.cell (by show w.heap.size + 1 < _; omega)]; exact q0
  have s0_1 : U1.frozen? ⟨w.heap.size + 1, 0, none⟩ = false := by rw [BU1.frozen (by show w.heap.size + 1 < _; omega), b1.frozen (by show w.heap.size + 1 < _; omega)]; exact s0
  have r0_1 : U1.cell? ⟨w.heap.size + 1 + 1, 0, none⟩ = some (.int .i64 a0) := by rw [hU1]; simp [go_sem, hc1, l0'', r0]
  have t0_1 : U1.frozen? ⟨w.heap.size + 1 + 1, 0, none⟩ = false := by rw [hU1]; simp [go_sem, hf1, l0'', t0]
  have q1_1 : U1.cell? ⟨w.heap.size + 1, 1, none⟩ = some (.slice none 0 0) := by rw [BU1.cell (by show w.heap.size + 1 < _; omega), b1.cell (by show w.heap.size + 1 < _; omega)]; exact q1
  have s1_1 : U1.frozen? ⟨w.heap.size + 1, 1, none⟩ = false := by rw [BU1.frozen (by show w.heap.size + 1 < _; omega), b1.frozen (by show w.heap.size + 1 < _; omega)]; exact s1
  have r1_1 : U1.cell? ⟨w.heap.size + 1 + 1, 1, none⟩ = some (.slice A1' n1' c1') := by rw [hU1]; simp [go_sem, hc1, l0'', r1]
  have t1_1 : U1.frozen? ⟨w.heap.size + 1 + 1, 1, none⟩ = false := by rw [hU1]; simp [go_sem, hf1, l0'', t1]
  have p2_1 : U1.cell? ⟨w.heap.size, 2, none⟩ = some (.slice A2 n2 c2) := by rw [BU1.cell (by show w.heap.size < _; omega), b1.cell (by show w.heap.size < _; omega)]; exact p2
  have q2_1 : U1.cell? ⟨w.heap.size + 1, 2, none⟩ = some (.slice none 0 0) := by rw [BU1.cell (by show w.heap.size + 1 < _; omega), b1.cell (by show w.heap.size + 1 < _; omega)]; exact q2
  have s2_1 : U1.frozen? ⟨w.heap.size + 1, 2, none⟩ = false := by rw [BU1.frozen (by show w.heap.size + 1 < _; omega), b1.frozen (by show w.heap.size + 1 < _; omega)]; exact s2
  have r2_1 : U1.cell? ⟨w.heap.size + 1 + 1, 2, none⟩ = some (.slice none 0 0) := by rw [hU1]; simp [go_sem, hc1, l0'', r2]
  have t2_1 : U1.frozen? ⟨w.heap.size + 1 + 1, 2, none⟩ = false := by rw [hU1]; simp [go_sem, hf1, l0'', t2]
  have p3_1 : U1.cell? ⟨w.heap.size, 3, none⟩ = some (.slice A3 n3 c3) := by rw [BU1.cell (by show w.heap.size < _; omega), b1.cell (by show w.heap.size < _; omega)]; exact p3
  have q3_1 : U1.cell? ⟨w.heap.size + 1, 3, none⟩ = some (.slice none 0 0) := by rw [BU1.cell (by show w.heap.size + 1 < _; omega), b1.cell (by show w.heap.size + 1 < _; omega)]; exact q3
  have s3_1 : U1.frozen? ⟨w.heap.size + 1, 3, none⟩ = false := by rw [BU1.frozen (by show w.heap.size + 1 < _; omega), b1.frozen (by show w.heap.size + 1 < _; omega)]; exact s3
  have r3_1 : U1.cell? ⟨w.heap.size + 1 + 1, 3, none⟩ = some (.slice none 0 0) := by rw [hU1]; simp [go_sem, hc1, l0'', r3]
  have t3_1 : U1.frozen? ⟨w.heap.size + 1 + 1, 3, none⟩ = false := by rw [hU1]; simp [go_sem, hf1, l0'', t3]
  have p4_1 : U1.cell? ⟨w.heap.size, 4, none⟩ = some (.slice A4 n4 c4) := by rw [BU1.cell (by show w.heap.size < _; omega), b1.cell (by show w.heap.size < _; omega)]; exact p4
  have q4_1 : U1.cell? ⟨w.heap.size + 1, 4, none⟩ = some (.slice none 0 0) := by rw [BU1.cell (by show w.heap.size + 1 < _; omega), b1.cell (by show w.heap.size + 1 < _; omega)]; exact q4
  have s4_1 : U1.frozen? ⟨w.heap.size + 1, 4, none⟩ = false := by rw [BU1.frozen (by show w.heap.size + 1 < _; omega), b1.frozen (by show w.heap.size + 1 < _; omega)]; exact s4
  have r4_1 : U1.cell? ⟨w.heap.size + 1 + 1, 4, none⟩ = some (.slice none 0 0) := by rw [hU1]; simp [go_sem, hc1, l0'', r4]
  have t4_1 : U1.frozen? ⟨w.heap.size + 1 + 1, 4, none⟩ = false := by rw [hU1]; simp [go_sem, hf1, l0'', t4]
  have p5_1 : U1.cell? ⟨w.heap.size, 5, none⟩ = some (.slice A5 n5 c5) := by rw [BU1.cell (by show w.heap.size < _; omega), b1.cell (by show w.heap.size < _; omega)]; exact p5
  have q5_1 : U1.cell? ⟨w.heap.size + 1, 5, none⟩ = some (.slice none 0 0) := by rw [BU1.cell (by show w.heap.size + 1 < _; omega), b1.cell (by show w.heap.size + 1 < _; omega)]; exact q5
  have s5_1 : U1.frozen? ⟨w.heap.size + 1, 5, none⟩ = false := by rw [BU1.frozen (by show w.heap.size + 1 < _; omega), b1.frozen (by show w.heap.size + 1 < _; omega)]; exact s5
  have r5_1 : U1.cell? ⟨w.heap.size + 1 + 1, 5, none⟩ = some (.slice none 0 0) := by rw [hU1]; simp [go_sem, hc1, l0'', r5]
  have t5_1 : U1.frozen? ⟨w.heap.size + 1 + 1, 5, none⟩ = false := by rw [hU1]; simp [go_sem, hf1, l0'', t5]
  have t1_w : w1.frozen? ⟨w.heap.size + 1 + 1, 1, none⟩ = false := by rw [hf1 _ _ l0'']; exact t1
  have r1_w : w1.cell? ⟨w.heap.size + 1 + 1, 1, none⟩ = some (.slice none 0 0) := by rw [hc1 _ _ l0'']; exact r1
  have p2_w : w1.cell? ⟨w.heap.size, 2, none⟩ = some (.slice A2 n2 c2) := by rw [hc1 _ _ l0]; exact p2
  have p3_w : w1.cell? ⟨w.heap.size, 3, none⟩ = some (.slice A3 n3 c3) := by rw [hc1 _ _ l0]; exact p3
  have p4_w : w1.cell? ⟨w.heap.size, 4, none⟩ = some (.slice A4 n4 c4) := by rw [hc1 _ _ l0]; exact p4
  have p5_w : w1.cell? ⟨w.heap.size, 5, none⟩ = some (.slice A5 n5 c5) := by rw [hc1 _ _ l0]; exact p5
  have HU1 := Lib.hid hU1
  clear hU1 e1 hc1 hf1 q0 s0 r0 t0 q1 s1 r1 t1 q2 s2 r2 t2 q3 s3 r3 t3 q4 s4 r4 t4 q5 s5 r5 t5
  go_wp2_with fail
  rw [← HU1.out]
  clear t1_w r1_w p2_w p3_w p4_w p5_w
  refine (nf_to_TS _ _ _ _ _ y2_1 (by omega)).mono ?_
  rintro e w2 ⟨A2', n2', c2', rfl, o2_1, b2⟩
  obtain ⟨hc2, hf2⟩ := bcell b2
  obtain ⟨U2, hU2⟩ : ∃ U, U = w2.setCell ⟨w.heap.size + 1 + 1, 2, none⟩ (.slice A2' n2' c2') := ⟨_, rfl⟩
  have m2 : Mid (w.heap.size + 1 + 1) (w.heap.size + 1 + 1 + 1) w2 U2 := by rw [hU2]; exact Mid.of_grown (grown_setCell w2 (w.heap.size + 1 + 1) 2 _) fun k hk => by injection hk with hk; omega
  have e2 : U2.heap.size = w2.heap.size := by rw [hU2]; simp
  have E2 := Lib.hid e2
  have sz2 : U1.heap.size ≤ U2.heap.size := by rw [e2]; exact b2.size
  have BU2 : Below (w.heap.size + 1 + 1) w2 U2 := m2.toBelow (by omega)
  have B2 : Below w.heap.size w U2 := (bel_trans B1 b2).trans (BU2.mono (by omega))
  have l2 := Nat.lt_of_lt_of_le l1 sz2
  have l2' := Nat.lt_of_lt_of_le l1' sz2
  have l2'' := Nat.lt_of_lt_of_le l1'' sz2
  have Z2 := Nat.le_trans Z1 sz2
  have o2_2 : tTS.O U2 (Iv U1.heap.size U2.heap.size) [.slice A2' n2' c2'] x2 := tTS.oiv (tTS.omid o2_1 m2 (.inr (by omega)) (Nat.le_refl _)) (Nat.le_refl _) (by omega)
  have o1_2 := tSS.omid (tSS.obelow o1_1 b2 (by omega)) m2 (.inr (by omega)) (by omega)
  have y3_2 : tS.R U2 U2.heap.size [.slice A3 n3 c3] x3 := tS.later h3 B2
  have y4_2 : tPS.R U2 U2.heap.size [.slice A4 n4 c4] x4 := tPS.later h4 B2
  have y5_2 : tM.R U2 U2.heap.size [.slice A5 n5 c5] x5 := tM.later h5 B2
  have q0_2 : U2.cell? ⟨w.heap.size + 1, 0, none⟩ = some (.int .i64 0) := by rw [BU2.cell (by show w.heap.size + 1 < _; omega), b2.cell (by show w.heap.size + 1 < _; omega)]; exact q0_1
  have s0_2 : U2.frozen? ⟨w.heap.size + 1, 0, none⟩ = false := by rw [BU2.frozen (by show w.heap.size + 1 < _; omega), b2.frozen (by show w.heap.size + 1 < _; omega)]; exact s0_1
  have r0_2 : U2.cell? ⟨w.heap.size + 1 + 1, 0, none⟩ = some (.int .i64 a0) := by rw [hU2]; simp [go_sem, hc2, l1'', r0_1]
  have t0_2 : U2.frozen? ⟨w.heap.size + 1 + 1, 0, none⟩ = false := by rw [hU2]; simp [go_sem, hf2, l1'', t0_1]
  have q1_2 : U2.cell? ⟨w.heap.size + 1, 1, none⟩ = some (.slice none 0 0) := by rw [BU2.cell (by show w.heap.size + 1 < _; omega), b2.cell (by show w.heap.size + 1 < _; omega)]; exact q1_1
  have s1_2 : U2.frozen? ⟨w.heap.size + 1, 1, none⟩ = false := by rw [BU2.frozen (by show w.heap.size + 1 < _; omega), b2.frozen (by show w.heap.size + 1 < _; omega)]; exact s1_1
  have r1_2 : U2.cell? ⟨w.heap.size + 1 + 1, 1, none⟩ = some (.slice A1' n1' c1') := by rw [hU2]; simp [go_sem, hc2, l1'', r1_1]
  have t1_2 : U2.frozen? ⟨w.heap.size + 1 + 1, 1, none⟩ = false := by rw [hU2]; simp [go_sem, hf2, l1'', t1_1]
  have q2_2 : U2.cell? ⟨w.heap.size + 1, 2, none⟩ = some (.slice none 0 0) := by rw [BU2.cell (by show w.heap.size + 1 < _; omega), b2.cell (by show w.heap.size + 1 < _; omega)]; exact q2_1
  have s2_2 : U2.frozen? ⟨w.heap.size + 1, 2, none⟩ = false := by rw [BU2.frozen (by show w.heap.size + 1 < _; omega), b2.frozen (by show w.heap.size + 1 < _; omega)]; exact s2_1
  have r2_2 : U2.cell? ⟨w.heap.size + 1 + 1, 2, none⟩ = some (.slice A2' n2' c2') := by rw [hU2]; simp [go_sem, hc2, l1'', r2_1]
  have t2_2 : U2.frozen? ⟨w.heap.size + 1 + 1, 2, none⟩ = false := by rw [hU2]; simp [go_sem, hf2, l1'', t2_1]
  have p3_2 : U2.cell? ⟨w.heap.size, 3, none⟩ = some (.slice A3 n3 c3) := by rw [BU2.cell (by show w.heap.size < _; omega), b2.cell (by show w.heap.size < _; omega)]; exact p3_1
  have q3_2 : U2.cell? ⟨w.heap.size + 1, 3, none⟩ = some (.slice none 0 0) := by rw [BU2.cell (by show w.heap.size + 1 < _; omega), b2.cell (by show w.heap.size + 1 < _; omega)]; exact q3_1
  have s3_2 : U2.frozen? ⟨w.heap.size + 1, 3, none⟩ = false := by rw [BU2.frozen (by show w.heap.size + 1 < _; omega), b2.frozen (by show w.heap.size + 1 < _; omega)]; exact s3_1
  have r3_2 : U2.cell? ⟨w.heap.size + 1 + 1, 3, none⟩ = some (.slice none 0 0) := by rw [hU2]; simp [go_sem, hc2, l1'', r3_1]
  have t3_2 : U2.frozen? ⟨w.heap.size + 1 + 1, 3, none⟩ = false := by rw [hU2]; simp [go_sem, hf2, l1'', t3_1]
  have p4_2 : U2.cell? ⟨w.heap.size, 4, none⟩ = some (.slice A4 n4 c4) := by rw [BU2.cell (by show w.heap.size < _; omega), b2.cell (by show w.heap.size < _; omega)]; exact p4_1
  have q4_2 : U2.cell? ⟨w.heap.size + 1, 4, none⟩ = some (.slice none 0 0) := by rw [BU2.cell (by show w.heap.size + 1 < _; omega), b2.cell (by show w.heap.size + 1 < _; omega)]; exact q4_1
  have s4_2 : U2.frozen? ⟨w.heap.size + 1, 4, none⟩ = false := by rw [BU2.frozen (by show w.heap.size + 1 < _; omega), b2.frozen (by show w.heap.size + 1 < _; omega)]; exact s4_1
  have r4_2 : U2.cell? ⟨w.heap.size + 1 + 1, 4, none⟩ = some (.slice none 0 0) := by rw [hU2]; simp [go_sem, hc2, l1'', r4_1]
  have t4_2 : U2.frozen? ⟨w.heap.size + 1 + 1, 4, none⟩ = false := by rw [hU2]; simp [go_sem, hf2, l1'', t4_1]
  have p5_2 : U2.cell? ⟨w.heap.size, 5, none⟩ = some (.slice A5 n5 c5) := by rw [BU2.cell (by show w.heap.size < _; omega), b2.cell (by show w.heap.size < _; omega)]; exact p5_1
  have q5_2 : U2.cell? ⟨w.heap.size + 1, 5, none⟩ = some (.slice none 0 0) := by rw [BU2.cell (by show w.heap.size + 1 < _; omega), b2.cell (by show w.heap.size + 1 < _; omega)]; exact q5_1
  have s5_2 : U2.frozen? ⟨w.heap.size + 1, 5, none⟩ = false := by rw [BU2.frozen (by show w.heap.size + 1 < _; omega), b2.frozen (by show w.heap.size + 1 < _; omega)]; exact s5_1
  have r5_2 : U2.cell? ⟨w.heap.size + 1 + 1, 5, none⟩ = some (.slice none 0 0) := by rw [hU2]; simp [go_sem, hc2, l1'', r5_1]
  have t5_2 : U2.frozen? ⟨w.heap.size + 1 + 1, 5, none⟩ = false := by rw [hU2]; simp [go_sem, hf2, l1'', t5_1]
  have t2_w : w2.frozen? ⟨w.heap.size + 1 + 1, 2, none⟩ = false := by rw [hf2 _ _ l1'']; exact t2_1
  have r2_w : w2.cell? ⟨w.heap.size + 1 + 1, 2, none⟩ = some (.slice none 0 0) := by rw [hc2 _ _ l1'']; exact r2_1
  have p3_w : w2.cell? ⟨w.heap.size, 3, none⟩ = some (.slice A3 n3 c3) := by rw [hc2 _ _ l1]; exact p3_1
  have p4_w : w2.cell? ⟨w.heap.size, 4, none⟩ = some (.slice A4 n4 c4) := by rw [hc2 _ _ l1]; exact p4_1
  have p5_w : w2.cell? ⟨w.heap.size, 5, none⟩ = some (.slice A5 n5 c5) := by rw [hc2 _ _ l1]; exact p5_1
  have HU2 := Lib.hid hU2
  clear hU2 e2 hc2 hf2 q0_1 s0_1 r0_1 t0_1 q1_1 s1_1 r1_1 t1_1 q2_1 s2_1 r2_1 t2_1 q3_1 s3_1 r3_1 t3_1 q4_1 s4_1 r4_1 t4_1 q5_1 s5_1 r5_1 t5_1
  go_wp2_with fail
  rw [← HU2.out]
  clear t2_w r2_w p3_w p4_w p5_w
  refine (nf_to_S _ _ _ _ _ y3_2 (by omega)).mono ?_
  rintro e w3 ⟨A3', n3', c3', rfl, o3_2, b3⟩
  obtain ⟨hc3, hf3⟩ := bcell b3
  obtain ⟨U3, hU3⟩ : ∃ U, U = w3.setCell ⟨w.heap.size + 1 + 1, 3, none⟩ (.slice A3' n3' c3') := ⟨_, rfl⟩
  have m3 : Mid (w.heap.size + 1 + 1) (w.heap.size + 1 + 1 + 1) w3 U3 := by rw [hU3]; exact Mid.of_grown (grown_setCell w3 (w.heap.size + 1 + 1) 3 _) fun k hk => by injection hk with hk; omega
  have e3 : U3.heap.size = w3.heap.size := by rw [hU3]; simp
  have E3 := Lib.hid e3
  have sz3 : U2.heap.size ≤ U3.heap.size := by rw [e3]; exact b3.size
  have BU3 : Below (w.heap.size + 1 + 1) w3 U3 := m3.toBelow (by omega)
  have B3 : Below w.heap.size w U3 := (bel_trans B2 b3).trans (BU3.mono (by omega))
  have l3 := Nat.lt_of_lt_of_le l2 sz3
  have l3' := Nat.lt_of_lt_of_le l2' sz3
  have l3'' := Nat.lt_of_lt_of_le l2'' sz3
  have Z3 := Nat.le_trans Z2 sz3
  have o3_3 : tS.O U3 (Iv U2.heap.size U3.heap.size) [.slice A3' n3' c3'] x3 := tS.oiv (tS.omid o3_2 m3 (.inr (by omega)) (Nat.le_refl _)) (Nat.le_refl _) (by omega)
  have o1_3 := tSS.omid (tSS.obelow o1_2 b3 (by omega)) m3 (.inr (by omega)) (by omega)
  have o2_3 := tTS.omid (tTS.obelow o2_2 b3 (by omega)) m3 (.inr (by omega)) (by omega)
  have y4_3 : tPS.R U3 U3.heap.size [.slice A4 n4 c4] x4 := tPS.later h4 B3
  have y5_3 : tM.R U3 U3.heap.size [.slice A5 n5 c5] x5 := tM.later h5 B3
  have q0_3 : U3.cell? ⟨w.heap.size + 1, 0, none⟩ = some (.int .i64 0) := by rw [BU3.cell (by show w.heap.size + 1 < _; omega), b3.cell (by show w.heap.size + 1 < _; omega)]; exact q0_2
  have s0_3 : U3.frozen? ⟨w.heap.size + 1, 0, none⟩ = false := by rw [BU3.frozen (by show w.heap.size + 1 < _; omega), b3.frozen (by show w.heap.size + 1 < _; omega)]; exact s0_2
  have r0_3 : U3.cell? ⟨w.heap.size + 1 + 1, 0, none⟩ = some (.int .i64 a0) := by rw [hU3]; simp [go_sem, hc3, l2'', r0_2]
  have t0_3 : U3.frozen? ⟨w.heap.size + 1 + 1, 0, none⟩ = false := by rw [hU3]; simp [go_sem, hf3, l2'', t0_2]
  have q1_3 : U3.cell? ⟨w.heap.size + 1, 1, none⟩ = some (.slice none 0 0) := by rw [BU3.cell (by show w.heap.size + 1 < _; omega), b3.cell (by show w.heap.size + 1 < _; omega)]; exact q1_2
  have s1_3 : U3.frozen? ⟨w.heap.size + 1, 1, none⟩ = false := by rw [BU3.frozen (by show w.heap.size + 1 < _; omega), b3.frozen (by show w.heap.size + 1 < _; omega)]; exact s1_2
  have r1_3 : U3.cell? ⟨w.heap.size + 1 + 1, 1, none⟩ = some (.slice A1' n1' c1') := by rw [hU3]; simp [go_sem, hc3, l2'', r1_2]
  have t1_3 : U3.frozen? ⟨w.heap.size + 1 + 1, 1, none⟩ = false := by rw [hU3]; simp [go_sem, hf3, l2'', t1_2]
  have q2_3 : U3.cell? ⟨w.heap.size + 1, 2, none⟩ = some (.slice none 0 0) := by rw [BU3.cell (by show w.heap.size + 1 < _; omega), b3.cell (by show w.heap.size + 1 < _; omega)]; exact q2_2
  have s2_3 : U3.frozen? ⟨w.heap.size + 1, 2, none⟩ = false := by rw [BU3.frozen (by show w.heap.size + 1 < _; omega), b3.frozen (by show w.heap.size + 1 < _; omega)]; exact s2_2
  have r2_3 : U3.cell? ⟨w.heap.size + 1 + 1, 2, none⟩ = some (.slice A2' n2' c2') := by rw [hU3]; simp [go_sem, hc3, l2'', r2_2]
  have t2_3 : U3.frozen? ⟨w.heap.size + 1 + 1, 2, none⟩ = false := by rw [hU3]; simp [go_sem, hf3, l2'', t2_2]
  have q3_3 : U3.cell? ⟨w.heap.size + 1, 3, none⟩ = some (.slice none 0 0) := by rw [BU3.cell (by show w.heap.size + 1 < _; omega), b3.cell (by show w.heap.size + 1 < _; omega)]; exact q3_2
  have s3_3 : U3.frozen? ⟨w.heap.size + 1, 3, none⟩ = false := by rw [BU3.frozen (by show w.heap.size + 1 < _; omega), b3.frozen (by show w.heap.size + 1 < _; omega)]; exact s3_2
  have r3_3 : U3.cell? ⟨w.heap.size + 1 + 1, 3, none⟩ = some (.slice A3' n3' c3') := by rw [hU3]; simp [go_sem, hc3, l2'', r3_2]
  have t3_3 : U3.frozen? ⟨w.heap.size + 1 + 1, 3, none⟩ = false := by rw [hU3]; simp [go_sem, hf3, l2'', t3_2]
  have p4_3 : U3.cell? ⟨w.heap.size, 4, none⟩ = some (.slice A4 n4 c4) := by rw [BU3.cell (by show w.heap.size < _; omega), b3.cell (by show w.heap.size < _; omega)]; exact p4_2
  have q4_3 : U3.cell? ⟨w.heap.size + 1, 4, none⟩ = some (.slice none 0 0) := by rw [BU3.cell (by show w.heap.size + 1 < _; omega), b3.cell (by show w.heap.size + 1 < _; omega)]; exact q4_2
  have s4_3 : U3.frozen? ⟨w.heap.size + 1, 4, none⟩ = false := by rw [BU3.frozen (by show w.heap.size + 1 < _; omega), b3.frozen (by show w.heap.size + 1 < _; omega)]; exact s4_2
  have r4_3 : U3.cell? ⟨w.heap.size + 1 + 1, 4, none⟩ = some (.slice none 0 0) := by rw [hU3]; simp [go_sem, hc3, l2'', r4_2]
  have t4_3 : U3.frozen? ⟨w.heap.size + 1 + 1, 4, none⟩ = false := by rw [hU3]; simp [go_sem, hf3, l2'', t4_2]
  have p5_3 : U3.cell? ⟨w.heap.size, 5, none⟩ = some (.slice A5 n5 c5) := by rw [BU3.cell (by show w.heap.size < _; omega), b3.cell (by show w.heap.size < _; omega)]; exact p5_2
  have q5_3 : U3.cell? ⟨w.heap.size + 1, 5, none⟩ = some (.slice none 0 0) := by rw [BU3.cell (by show w.heap.size + 1 < _; omega), b3.cell (by show w.heap.size + 1 < _; omega)]; exact q5_2
  have s5_3 : U3.frozen? ⟨w.heap.size + 1, 5, none⟩ = false := by rw [BU3.frozen (by show w.heap.size + 1 < _; omega), b3.frozen (by show w.heap.size + 1 < _; omega)]; exact s5_2
  have r5_3 : U3.cell? ⟨w.heap.size + 1 + 1, 5, none⟩ = some (.slice none 0 0) := by rw [hU3]; simp [go_sem, hc3, l2'', r5_2]
  have t5_3 : U3.frozen? ⟨w.heap.size + 1 + 1, 5, none⟩ = false := by rw [hU3]; simp [go_sem, hf3, l2'', t5_2]
  have t3_w : w3.frozen? ⟨w.heap.size + 1 + 1, 3, none⟩ = false := by rw [hf3 _ _ l2'']; exact t3_2
  have r3_w : w3.cell? ⟨w.heap.size + 1 + 1, 3, none⟩ = some (.slice none 0 0) := by rw [hc3 _ _ l2'']; exact r3_2
  have p4_w : w3.cell? ⟨w.heap.size, 4, none⟩ = some (.slice A4 n4 c4) := by rw [hc3 _ _ l2]; exact p4_2
  have p5_w : w3.cell? ⟨w.heap.size, 5, none⟩ = some (.slice A5 n5 c5) := by rw [hc3 _ _ l2]; exact p5_2
  have HU3 := Lib.hid hU3
  clear hU3 e3 hc3 hf3 q0_2 s0_2 r0_2 t0_2 q1_2 s1_2 r1_2 t1_2 q2_2 s2_2 r2_2 t2_2 q3_2 s3_2 r3_2 t3_2 q4_2 s4_2 r4_2 t4_2 q5_2 s5_2 r5_2 t5_2
  go_wp2_with fail
  rw [← HU3.out]
  clear t3_w r3_w p4_w p5_w
  refine (nf_to_PS _ _ _ _ _ y4_3 (by omega)).mono ?_
  rintro e w4 ⟨A4', n4', c4', rfl, o4_3, b4⟩
  obtain ⟨hc4, hf4⟩ := bcell b4
  obtain ⟨U4, hU4⟩ : ∃ U, U = w4.setCell ⟨w.heap.size + 1 + 1, 4, none⟩ (.slice A4' n4' c4') := ⟨_, rfl⟩
  have m4 : Mid (w.heap.size + 1 + 1) (w.heap.size + 1 + 1 + 1) w4 U4 := by rw [hU4]; exact Mid.of_grown (grown_setCell w4 (w.heap.size + 1 + 1) 4 _) fun k hk => by injection hk with hk; omega
  have e4 : U4.heap.size = w4.heap.size := by rw [hU4]; simp
  have E4 := Lib.hid e4
  have sz4 : U3.heap.size ≤ U4.heap.size := by rw [e4]; exact b4.size
  have BU4 : Below (w.heap.size + 1 + 1) w4 U4 := m4.toBelow (by omega)
  have B4 : Below w.heap.size w U4 := (bel_trans B3 b4).trans (BU4.mono (by omega))
  have l4 := Nat.lt_of_lt_of_le l3 sz4
  have l4' := Nat.lt_of_lt_of_le l3' sz4
  have l4'' := Nat.lt_of_lt_of_le l3'' sz4
  have Z4 := Nat.le_trans Z3 sz4
  have o4_4 : tPS.O U4 (Iv U3.heap.size U4.heap.size) [.slice A4' n4' c4'] x4 := tPS.oiv (tPS.omid o4_3 m4 (.inr (by omega)) (Nat.le_refl _)) (Nat.le_refl _) (by omega)
  have o1_4 := tSS.omid (tSS.obelow o1_3 b4 (by omega)) m4 (.inr (by omega)) (by omega)
  have o2_4 := tTS.omid (tTS.obelow o2_3 b4 (by omega)) m4 (.inr (by omega)) (by omega)
  have o3_4 := tS.omid (tS.obelow o3_3 b4 (by omega)) m4 (.inr (by omega)) (by omega)
  have y5_4 : tM.R U4 U4.heap.size [.slice A5 n5 c5] x5 := tM.later h5 B4
  have q0_4 : U4.cell? ⟨w.heap.size + 1, 0, none⟩ = some (.int .i64 0) := by rw [BU4.cell (by show w.heap.size + 1 < _; omega), b4.cell (by show w.heap.size + 1 < _; omega)]; exact q0_3
  have s0_4 : U4.frozen? ⟨w.heap.size + 1, 0, none⟩ = false := by rw [BU4.frozen (by show w.heap.size + 1 < _; omega), b4.frozen (by show w.heap.size + 1 < _; omega)]; exact s0_3
  have r0_4 : U4.cell? ⟨w.heap.size + 1 + 1, 0, none⟩ = some (.int .i64 a0) := by rw [hU4]; simp [go_sem, hc4, l3'', r0_3]
  have t0_4 : U4.frozen? ⟨w.heap.size + 1 + 1, 0, none⟩ = false := by rw [hU4]; simp [go_sem, hf4, l3'', t0_3]
  have q1_4 : U4.cell? ⟨w.heap.size + 1, 1, none⟩ = some (.slice none 0 0) := by rw [BU4.cell (by show w.heap.size + 1 < _; omega), b4.cell (by show w.heap.size + 1 < _; omega)]; exact q1_3
  have s1_4 : U4.frozen? ⟨w.heap.size + 1, 1, none⟩ = false := by rw [BU4.frozen (by show w.heap.size + 1 < _; omega), b4.frozen (by show w.heap.size + 1 < _; omega)]; exact s1_3
  have r1_4 : U4.cell? ⟨w.heap.size + 1 + 1, 1, none⟩ = some (.slice A1' n1' c1') := by rw [hU4]; simp [go_sem, hc4, l3'', r1_3]
  have t1_4 : U4.frozen? ⟨w.heap.size + 1 + 1, 1, none⟩ = false := by rw [hU4]; simp [go_sem, hf4, l3'', t1_3]
  have q2_4 : U4.cell? ⟨w.heap.size + 1, 2, none⟩ = some (.slice none 0 0) := by rw [BU4.cell (by show w.heap.size + 1 < _; omega), b4.cell (by show w.heap.size + 1 < _; omega)]; exact q2_3
  have s2_4 : U4.frozen? ⟨w.heap.size + 1, 2, none⟩ = false := by rw [BU4.frozen (by show w.heap.size + 1 < _; omega), b4.frozen (by show w.heap.size + 1 < _; omega)]; exact s2_3
  have r2_4 : U4.cell? ⟨w.heap.size + 1 + 1, 2, none⟩ = some (.slice A2' n2' c2') := by rw [hU4]; simp [go_sem, hc4, l3'', r2_3]
  have t2_4 : U4.frozen? ⟨w.heap.size + 1 + 1, 2, none⟩ = false := by rw [hU4]; simp [go_sem, hf4, l3'', t2_3]
  have q3_4 : U4.cell? ⟨w.heap.size + 1, 3, none⟩ = some (.slice none 0 0) := by rw [BU4.cell (by show w.heap.size + 1 < _; omega), b4.cell (by show w.heap.size + 1 < _; omega)]; exact q3_3
  have s3_4 : U4.frozen? ⟨w.heap.size + 1, 3, none⟩ = false := by rw [BU4.frozen (by show w.heap.size + 1 < _; omega), b4.frozen (by show w.heap.size + 1 < _; omega)]; exact s3_3
  have r3_4 : U4.cell? ⟨w.heap.size + 1 + 1, 3, none⟩ = some (.slice A3' n3' c3') := by rw [hU4]; simp [go_sem, hc4, l3'', r3_3]
  have t3_4 : U4.frozen? ⟨w.heap.size + 1 + 1, 3, none⟩ = false := by rw [hU4]; simp [go_sem, hf4, l3'', t3_3]
  have q4_4 : U4.cell? ⟨w.heap.size + 1, 4, none⟩ = some (.slice none 0 0) := by rw [BU4.cell (by show w.heap.size + 1 < _; omega), b4.cell (by show w.heap.size + 1 < _; omega)]; exact q4_3
  have s4_4 : U4.frozen? ⟨w.heap.size + 1, 4, none⟩ = false := by rw [BU4.frozen (by show w.heap.size + 1 < _; omega), b4.frozen (by show w.heap.size + 1 < _; omega)]; exact s4_3
  have r4_4 : U4.cell? ⟨w.heap.size + 1 + 1, 4, none⟩ = some (.slice A4' n4' c4') := by rw [hU4]; simp [go_sem, hc4, l3'', r4_3]
  have t4_4 : U4.frozen? ⟨w.heap.size + 1 + 1, 4, none⟩ = false := by rw [hU4]; simp [go_sem, hf4, l3'', t4_3]
  have p5_4 : U4.cell? ⟨w.heap.size, 5, none⟩ = some (.slice A5 n5 c5) := by rw [BU4.cell (by show w.heap.size < _; omega), b4.cell (by show w.heap.size < _; omega)]; exact p5_3
  have q5_4 : U4.cell? ⟨w.heap.size + 1, 5, none⟩ = some (.slice none 0 0) := by rw [BU4.cell (by show w.heap.size + 1 < _; omega), b4.cell (by show w.heap.size + 1 < _; omega)]; exact q5_3
  have s5_4 : U4.frozen? ⟨w.heap.size + 1, 5, none⟩ = false := by rw [BU4.frozen (by show w.heap.size + 1 < _; omega), b4.frozen (by show w.heap.size + 1 < _; omega)]; exact s5_3
  have r5_4 : U4.cell? ⟨w.heap.size + 1 + 1, 5, none⟩ = some (.slice none 0 0) := by rw [hU4]; simp [go_sem, hc4, l3'', r5_3]
  have t5_4 : U4.frozen? ⟨w.heap.size + 1 + 1, 5, none⟩ = false := by rw [hU4]; simp [go_sem, hf4, l3'', t5_3]
  have t4_w : w4.frozen? ⟨w.heap.size + 1 + 1, 4, none⟩ = false := by rw [hf4 _ _ l3'']; exact t4_3
  have r4_w : w4.cell? ⟨w.heap.size + 1 + 1, 4, none⟩ = some (.slice none 0 0) := by rw [hc4 _ _ l3'']; exact r4_3
  have p5_w : w4.cell? ⟨w.heap.size, 5, none⟩ = some (.slice A5 n5 c5) := by rw [hc4 _ _ l3]; exact p5_3
  have HU4 := Lib.hid hU4
  clear hU4 e4 hc4 hf4 q0_3 s0_3 r0_3 t0_3 q1_3 s1_3 r1_3 t1_3 q2_3 s2_3 r2_3 t2_3 q3_3 s3_3 r3_3 t3_3 q4_3 s4_3 r4_3 t4_3 q5_3 s5_3 r5_3 t5_3
  go_wp2_with fail
  rw [← HU4.out]
  clear t4_w r4_w p5_w
  refine (nf_to_M _ _ _ _ _ y5_4 (by omega)).mono ?_
  rintro e w5 ⟨A5', n5', c5', rfl, o5_4, b5⟩
  obtain ⟨hc5, hf5⟩ := bcell b5
  obtain ⟨U5, hU5⟩ : ∃ U, U = w5.setCell ⟨w.heap.size + 1 + 1, 5, none⟩ (.slice A5' n5' c5') := ⟨_, rfl⟩
  have m5 : Mid (w.heap.size + 1 + 1) (w.heap.size + 1 + 1 + 1) w5 U5 := by rw [hU5]; exact Mid.of_grown (grown_setCell w5 (w.heap.size + 1 + 1) 5 _) fun k hk => by injection hk with hk; omega
  have e5 : U5.heap.size = w5.heap.size := by rw [hU5]; simp
  have E5 := Lib.hid e5
  have sz5 : U4.heap.size ≤ U5.heap.size := by rw [e5]; exact b5.size
  have BU5 : Below (w.heap.size + 1 + 1) w5 U5 := m5.toBelow (by omega)
  have B5 : Below w.heap.size w U5 := (bel_trans B4 b5).trans (BU5.mono (by omega))
  have l5 := Nat.lt_of_lt_of_le l4 sz5
  have l5' := Nat.lt_of_lt_of_le l4' sz5
  have l5'' := Nat.lt_of_lt_of_le l4'' sz5
  have Z5 := Nat.le_trans Z4 sz5
  have o5_5 : tM.O U5 (Iv U4.heap.size U5.heap.size) [.slice A5' n5' c5'] x5 := tM.oiv (tM.omid o5_4 m5 (.inr (by omega)) (Nat.le_refl _)) (Nat.le_refl _) (by omega)
  have o1_5 := tSS.omid (tSS.obelow o1_4 b5 (by omega)) m5 (.inr (by omega)) (by omega)
  have o2_5 := tTS.omid (tTS.obelow o2_4 b5 (by omega)) m5 (.inr (by omega)) (by omega)
  have o3_5 := tS.omid (tS.obelow o3_4 b5 (by omega)) m5 (.inr (by omega)) (by omega)
  have o4_5 := tPS.omid (tPS.obelow o4_4 b5 (by omega)) m5 (.inr (by omega)) (by omega)
  have q0_5 : U5.cell? ⟨w.heap.size + 1, 0, none⟩ = some (.int .i64 0) := by rw [BU5.cell (by show w.heap.size + 1 < _; omega), b5.cell (by show w.heap.size + 1 < _; omega)]; exact q0_4
  have s0_5 : U5.frozen? ⟨w.heap.size + 1, 0, none⟩ = false := by rw [BU5.frozen (by show w.heap.size + 1 < _; omega), b5.frozen (by show w.heap.size + 1 < _; omega)]; exact s0_4
  have r0_5 : U5.cell? ⟨w.heap.size + 1 + 1, 0, none⟩ = some (.int .i64 a0) := by rw [hU5]; simp [go_sem, hc5, l4'', r0_4]
  have t0_5 : U5.frozen? ⟨w.heap.size + 1 + 1, 0, none⟩ = false := by rw [hU5]; simp [go_sem, hf5, l4'', t0_4]
  have q1_5 : U5.cell? ⟨w.heap.size + 1, 1, none⟩ = some (.slice none 0 0) := by rw [BU5.cell (by show w.heap.size + 1 < _; omega), b5.cell (by show w.heap.size + 1 < _; omega)]; exact q1_4
  have s1_5 : U5.frozen? ⟨w.heap.size + 1, 1, none⟩ = false := by rw [BU5.frozen (by show w.heap.size + 1 < _; omega), b5.frozen (by show w.heap.size + 1 < _; omega)]; exact s1_4
  have r1_5 : U5.cell? ⟨w.heap.size + 1 + 1, 1, none⟩ = some (.slice A1' n1' c1') := by rw [hU5]; simp [go_sem, hc5, l4'', r1_4]
  have t1_5 : U5.frozen? ⟨w.heap.size + 1 + 1, 1, none⟩ = false := by rw [hU5]; simp [go_sem, hf5, l4'', t1_4]
  have q2_5 : U5.cell? ⟨w.heap.size + 1, 2, none⟩ = some (.slice none 0 0) := by rw [BU5.cell (by show w.heap.size + 1 < _; omega), b5.cell (by show w.heap.size + 1 < _; omega)]; exact q2_4
  have s2_5 : U5.frozen? ⟨w.heap.size + 1, 2, none⟩ = false := by rw [BU5.frozen (by show w.heap.size + 1 < _; omega), b5.frozen (by show w.heap.size + 1 < _; omega)]; exact s2_4
  have r2_5 : U5.cell? ⟨w.heap.size + 1 + 1, 2, none⟩ = some (.slice A2' n2' c2') := by rw [hU5]; simp [go_sem, hc5, l4'', r2_4]
  have t2_5 : U5.frozen? ⟨w.heap.size + 1 + 1, 2, none⟩ = false := by rw [hU5]; simp [go_sem, hf5, l4'', t2_4]
  have q3_5 : U5.cell? ⟨w.heap.size + 1, 3, none⟩ = some (.slice none 0 0) := by rw [BU5.cell (by show w.heap.size + 1 < _; omega), b5.cell (by show w.heap.size + 1 < _; omega)]; exact q3_4
  have s3_5 : U5.frozen? ⟨w.heap.size + 1, 3, none⟩ = false := by rw [BU5.frozen (by show w.heap.size + 1 < _; omega), b5.frozen (by show w.heap.size + 1 < _; omega)]; exact s3_4
  have r3_5 : U5.cell? ⟨w.heap.size + 1 + 1, 3, none⟩ = some (.slice A3' n3' c3') := by rw [hU5]; simp [go_sem, hc5, l4'', r3_4]
  have t3_5 : U5.frozen? ⟨w.heap.size + 1 + 1, 3, none⟩ = false := by rw [hU5]; simp [go_sem, hf5, l4'', t3_4]
  have q4_5 : U5.cell? ⟨w.heap.size + 1, 4, none⟩ = some (.slice none 0 0) := by rw [BU5.cell (by show w.heap.size + 1 < _; omega), b5.cell (by show w.heap.size + 1 < _; omega)]; exact q4_4
  have s4_5 : U5.frozen? ⟨w.heap.size + 1, 4, none⟩ = false := by rw [BU5.frozen (by show w.heap.size + 1 < _; omega), b5.frozen (by show w.heap.size + 1 < _; omega)]; exact s4_4
  have r4_5 : U5.cell? ⟨w.heap.size + 1 + 1, 4, none⟩ = some (.slice A4' n4' c4') := by rw [hU5]; simp [go_sem, hc5, l4'', r4_4]
  have t4_5 : U5.frozen? ⟨w.heap.size + 1 + 1, 4, none⟩ = false := by rw [hU5]; simp [go_sem, hf5, l4'', t4_4]
  have q5_5 : U5.cell? ⟨w.heap.size + 1, 5, none⟩ = some (.slice none 0 0) := by rw [BU5.cell (by show w.heap.size + 1 < _; omega), b5.cell (by show w.heap.size + 1 < _; omega)]; exact q5_4
  have s5_5 : U5.frozen? ⟨w.heap.size + 1, 5, none⟩ = false := by rw [BU5.frozen (by show w.heap.size + 1 < _; omega), b5.frozen (by show w.heap.size + 1 < _; omega)]; exact s5_4
  have r5_5 : U5.cell? ⟨w.heap.size + 1 + 1, 5, none⟩ = some (.slice A5' n5' c5') := by rw [hU5]; simp [go_sem, hc5, l4'', r5_4]
  have t5_5 : U5.frozen? ⟨w.heap.size + 1 + 1, 5, none⟩ = false := by rw [hU5]; simp [go_sem, hf5, l4'', t5_4]
  have t0_w : w5.frozen? ⟨w.heap.size + 1 + 1, 0, none⟩ = false := by rw [hf5 _ _ l4'']; exact t0_4
  have s0_w : w5.frozen? ⟨w.heap.size + 1, 0, none⟩ = false := by rw [hf5 _ _ l4']; exact s0_4
  have q0_w : w5.cell? ⟨w.heap.size + 1, 0, none⟩ = some (.int .i64 0) := by rw [hc5 _ _ l4']; exact q0_4
  have r0_w : w5.cell? ⟨w.heap.size + 1 + 1, 0, none⟩ = some (.int .i64 a0) := by rw [hc5 _ _ l4'']; exact r0_4
  have t1_w : w5.frozen? ⟨w.heap.size + 1 + 1, 1, none⟩ = false := by rw [hf5 _ _ l4'']; exact t1_4
  have s1_w : w5.frozen? ⟨w.heap.size + 1, 1, none⟩ = false := by rw [hf5 _ _ l4']; exact s1_4
  have q1_w : w5.cell? ⟨w.heap.size + 1, 1, none⟩ = some (.slice none 0 0) := by rw [hc5 _ _ l4']; exact q1_4
  have r1_w : w5.cell? ⟨w.heap.size + 1 + 1, 1, none⟩ = some (.slice A1' n1' c1') := by rw [hc5 _ _ l4'']; exact r1_4
  have t2_w : w5.frozen? ⟨w.heap.size + 1 + 1, 2, none⟩ = false := by rw [hf5 _ _ l4'']; exact t2_4
  have s2_w : w5.frozen? ⟨w.heap.size + 1, 2, none⟩ = false := by rw [hf5 _ _ l4']; exact s2_4
  have q2_w : w5.cell? ⟨w.heap.size + 1, 2, none⟩ = some (.slice none 0 0) := by rw [hc5 _ _ l4']; exact q2_4
  have r2_w : w5.cell? ⟨w.heap.size + 1 + 1, 2, none⟩ = some (.slice A2' n2' c2') := by rw [hc5 _ _ l4'']; exact r2_4
  have t3_w : w5.frozen? ⟨w.heap.size + 1 + 1, 3, none⟩ = false := by rw [hf5 _ _ l4'']; exact t3_4
  have s3_w : w5.frozen? ⟨w.heap.size + 1, 3, none⟩ = false := by rw [hf5 _ _ l4']; exact s3_4
  have q3_w : w5.cell? ⟨w.heap.size + 1, 3, none⟩ = some (.slice none 0 0) := by rw [hc5 _ _ l4']; exact q3_4
  have r3_w : w5.cell? ⟨w.heap.size + 1 + 1, 3, none⟩ = some (.slice A3' n3' c3') := by rw [hc5 _ _ l4'']; exact r3_4
  have t4_w : w5.frozen? ⟨w.heap.size + 1 + 1, 4, none⟩ = false := by rw [hf5 _ _ l4'']; exact t4_4
  have s4_w : w5.frozen? ⟨w.heap.size + 1, 4, none⟩ = false := by rw [hf5 _ _ l4']; exact s4_4
  have q4_w : w5.cell? ⟨w.heap.size + 1, 4, none⟩ = some (.slice none 0 0) := by rw [hc5 _ _ l4']; exact q4_4
  have r4_w : w5.cell? ⟨w.heap.size + 1 + 1, 4, none⟩ = some (.slice A4' n4' c4') := by rw [hc5 _ _ l4'']; exact r4_4
  have t5_w : w5.frozen? ⟨w.heap.size + 1 + 1, 5, none⟩ = false := by rw [hf5 _ _ l4'']; exact t5_4
  have s5_w : w5.frozen? ⟨w.heap.size + 1, 5, none⟩ = false := by rw [hf5 _ _ l4']; exact s5_4
  have q5_w : w5.cell? ⟨w.heap.size + 1, 5, none⟩ = some (.slice none 0 0) := by rw [hc5 _ _ l4']; exact q5_4
  have r5_w : w5.cell? ⟨w.heap.size + 1 + 1, 5, none⟩ = some (.slice none 0 0) := by rw [hc5 _ _ l4'']; exact r5_4
  have HU5 := Lib.hid hU5
  clear hU5 e5 hc5 hf5 q0_4 s0_4 r0_4 t0_4 q1_4 s1_4 r1_4 t1_4 q2_4 s2_4 r2_4 t2_4 q3_4 s3_4 r3_4 t3_4 q4_4 s4_4 r4_4 t4_4 q5_4 s5_4 r5_4 t5_4
  go_wp2
  rw [← HU5.out]
  clear t0_w r0_w s0_w q0_w t1_w r1_w s1_w q1_w t2_w r2_w s2_w q2_w t3_w r3_w s3_w q3_w t4_w r4_w s4_w q4_w t5_w r5_w s5_w q5_w
  have mm : Mid (w.heap.size + 1) (w.heap.size + 1 + 1) U5 ((((((U5.setCell ⟨w.heap.size + 1, 0, none⟩ (.int .i64 a0)).setCell ⟨w.heap.size + 1, 1, none⟩ (.slice A1' n1' c1')).setCell ⟨w.heap.size + 1, 2, none⟩ (.slice A2' n2' c2')).setCell ⟨w.heap.size + 1, 3, none⟩ (.slice A3' n3' c3')).setCell ⟨w.heap.size + 1, 4, none⟩ (.slice A4' n4' c4')).setCell ⟨w.heap.size + 1, 5, none⟩ (.slice A5' n5' c5')) := ((((((Mid.of_grown (grown_setCell _ (w.heap.size + 1) 0 _) fun k hk => by injection hk with hk; omega).trans (Mid.of_grown (grown_setCell _ (w.heap.size + 1) 1 _) fun k hk => by injection hk with hk; omega)).trans (Mid.of_grown (grown_setCell _ (w.heap.size + 1) 2 _) fun k hk => by injection hk with hk; omega)).trans (Mid.of_grown (grown_setCell _ (w.heap.size + 1) 3 _) fun k hk => by injection hk with hk; omega)).trans (Mid.of_grown (grown_setCell _ (w.heap.size + 1) 4 _) fun k hk => by injection hk with hk; omega)).trans (Mid.of_grown (grown_setCell _ (w.heap.size + 1) 5 _) fun k hk => by injection hk with hk; omega))
  refine bodyPost_ret (v := .agg #[.int .i64 a0, .slice A1' n1' c1', .slice A2' n2' c2', .slice A3' n3' c3', .slice A4' n4' c4', .slice A5' n5' c5']) (by simp [results, Tryz.results10, go_sem, q0_5, s0_5, r0_5, q1_5, s1_5, r1_5, q2_5, s2_5, r2_5, q3_5, s3_5, r3_5, q4_5, s4_5, r4_5, q5_5, s5_5, r5_5]) rfl ?_
  refine ⟨A1', n1', c1', A2', n2', c2', A3', n3', c3', A4', n4', c4', A5', n5', c5', rfl, tZ_O.2 ⟨A1', n1', c1', A2', n2', c2', A3', n3', c3', A4', n4', c4', A5', n5', c5', Iv W.heap.size U1.heap.size, Iv U1.heap.size U2.heap.size, Iv U2.heap.size U3.heap.size, Iv U3.heap.size U4.heap.size, Iv U4.heap.size U5.heap.size, rfl, tSS.omid o1_5 mm (.inr (by omega)) (by omega), tTS.omid o2_5 mm (.inr (by omega)) (by omega), tS.omid o3_5 mm (.inr (by omega)) (by omega), tPS.omid o4_5 mm (.inr (by omega)) (by omega), tM.omid o5_5 mm (.inr (by omega)) (by omega), fun b h => ⟨by have := h.1; omega, Nat.lt_of_lt_of_le (Nat.lt_of_lt_of_le h.2 (by omega)) mm.size⟩, fun b h => ⟨by have := h.1; omega, Nat.lt_of_lt_of_le (Nat.lt_of_lt_of_le h.2 (by omega)) mm.size⟩, fun b h => ⟨by have := h.1; omega, Nat.lt_of_lt_of_le (Nat.lt_of_lt_of_le h.2 (by omega)) mm.size⟩, fun b h => ⟨by have := h.1; omega, Nat.lt_of_lt_of_le (Nat.lt_of_lt_of_le h.2 (by omega)) mm.size⟩, fun b h => ⟨by have := h.1; omega, Nat.lt_of_lt_of_le (Nat.lt_of_lt_of_le h.2 (by omega)) mm.size⟩, fun b h h2 => by have := h.2; have := h2.1; omega, fun b h h2 => by have := h.2; have := h2.1; omega, fun b h h2 => by have := h.2; have := h2.1; omega, fun b h h2 => by have := h.2; have := h2.1; omega, fun b h h2 => by have := h.2; have := h2.1; omega, fun b h h2 => by have := h.2; have := h2.1; omega, fun b h h2 => by have := h.2; have := h2.1; omega, fun b h h2 => by have := h.2; have := h2.1; omega, fun b h h2 => by have := h.2; have := h2.1; omega, fun b h h2 => by have := h.2; have := h2.1; omega⟩, ?_⟩
  exact B5.trans ((mm.toBelow (by omega)).mono (by omega))
end Go.Proofs.YtffhodocjjkkoaaGreat
namespace Go.Proofs.YtffhodocjjkkoaaGreat
open Go.RowKit Go.Sort
set_option maxHeartbeats 4000000
set_option maxRecDepth 100000
set_option linter.unusedVariables false
set_option linter.unusedSimpArgs false
set_option synthInstance.maxSize 2000
set_option synthInstance.maxHeartbeats 400000
/-- What is known of a kind: inputs, low, high, linear, hasB. -/
abbrev KD := Int × Int × Int × Bool × Bool
def M.kds : List KD := [(0, 0, 3, true, false), (0, -2147483648, 2147483647, false, false), (2, 1, 0, true, false), (2, 1, 0, true, false), (1, -2147483648, 2147483647, true, false), (1, 1, 16, true, false), (1, 1, 0, true, false), (1, 1, 0, true, false), (2, 1, 0, false, false), (1, 0, 31, false, false), (1, 0, 2147483647, false, false), (1, -2147483648, 2147483647, false, false), (1, 0, 3, false, false), (0, -2147483648, 2147483647, false, false), (3, 1, 0, false, false), (2, 1, 0, false, false), (1, -2147483648, 2147483647, true, true)]
def M.kd (j : Nat) : KD := M.kds.getD j (0, 0, 0, false, false)
def M.aI (k : KD) (a : Int) : Bool := if k.2.1 ≤ k.2.2.1 then M.inn a k.2.1 k.2.2.1 else decide (a = 0)
def M.bI (k : KD) (b : Int) : Bool := if k.2.2.2.2 then M.inn b 1 16 else decide (b = 0)
def M.from_ (f : Int) : Bool := M.inn f 0 23
/-- A node is valid for a number of tables. -/
def M.nodeOk (x : Node) (tb : Int) : Bool :=
  M.inn x.1 1 17 && (M.aI (M.kd (x.1.toNat - 1)) x.2.1 && M.bI (M.kd (x.1.toNat - 1)) x.2.2.1 && x.2.2.2.all M.from_ && decide ((x.2.2.2.length : Int) = (M.kd (x.1.toNat - 1)).1) && (decide (¬ x.1 = 13) || decide (x.2.1 < tb)))
/-- A of a node, as the reference has it. -/
def M.hasA (k : Int) : Bool := decide (k = 1) || decide (k = 2) || decide (k = 5) || decide (k = 6) || decide (k = 10) || decide (k = 11) || decide (k = 12) || decide (k = 13) || decide (k = 14) || decide (k = 17)
def M.aS (k a tb : Int) : Bool :=
  if k = 1 then M.inn a 0 3 else if k = 6 then M.inn a 1 16 else if k = 10 then M.inn a 0 31 else if k = 11 then M.inn a 0 2147483647 else if k = 13 then M.inn a 0 (min (max tb 0) 4 - 1) else if M.hasA k then M.smp a else decide (a = 0)
def M.ars : List Int := [-1, 0, 0, 2, 2, 1, 1, 1, 1, 2, 1, 1, 1, 1, 0, 3, 2, 1]
def M.ar (k : Nat) : Int := M.ars.getD k 0
def M.nodeS (x : Node) (tb : Int) : Bool :=
  M.inn x.1 1 17 && (M.aS x.1 x.2.1 tb && decide ((x.2.2.2.length : Int) = M.ar x.1.toNat) && x.2.2.2.all M.from_ && (if x.1 = 17 then M.inn x.2.2.1 1 16 else decide (x.2.2.1 = 0)))
def M.lin (k : Int) : Bool := M.inn k 1 17 && (M.kd (k.toNat - 1)).2.2.2.1
def M.linS (k : Int) : Bool := decide (k = 1) || decide (k = 3) || decide (k = 4) || decide (k = 5) || decide (k = 6) || decide (k = 7) || decide (k = 8) || decide (k = 17)
theorem M.kind_cases {k : Int} (h : M.inn k 1 17 = true) : k = 1 ∨ k = 2 ∨ k = 3 ∨ k = 4 ∨ k = 5 ∨ k = 6 ∨ k = 7 ∨ k = 8 ∨ k = 9 ∨ k = 10 ∨ k = 11 ∨ k = 12 ∨ k = 13 ∨ k = 14 ∨ k = 15 ∨ k = 16 ∨ k = 17 := by
  have := M.inn_iff.1 h
  omega
theorem M.node_eq (x : Node) (tb : Int) : M.nodeS x tb = M.nodeOk x tb := by
  obtain ⟨k, a, b, l⟩ := x
  cases h : M.inn k 1 17
  · rw [M.nodeS, M.nodeOk, h, Bool.false_and, Bool.false_and]
  · rw [M.nodeS, M.nodeOk]
    simp only [h, Bool.true_and]
    have key : ∀ A B C D E F : Bool, A = (F && E) → (A && C && B && D) = (F && D && B && C && E) := by decide
    rcases M.kind_cases h with rfl | rfl | rfl | rfl | rfl | rfl | rfl | rfl | rfl | rfl | rfl | rfl | rfl | rfl | rfl | rfl | rfl
    all_goals
      refine key _ _ _ _ _ _ ?_
      rw [Bool.eq_iff_iff]
      simp [M.aS, M.aI, M.kd, M.kds, M.hasA, M.smp, M.inn, List.getD]
      try omega
/-- Tables. -/
def M.tabOk (t : List Int) : Bool := (decide (t.length = 2) || decide (t.length = 4) || decide (t.length = 8) || decide (t.length = 16)) && t.all M.smp
def M.tabsOk (ts : List (List Int)) : Bool := ts.all M.tabOk && decide (ts.length ≤ 4)
theorem M.tab_sig (t : List Int) : (decide (t.length = 2) || decide (t.length = 4) || decide (t.length = 8) || decide (t.length = 16)) = true → M.sig t = t.all M.smp := by
  intro h
  rw [M.sig, show decide (t.length ≤ 4000) = true by simp at h ⊢; omega, Bool.true_and]
def M.idx (n : Int) (f : Int) : Bool := M.inn f 0 (n - 1)
/-- A node of a patch is well formed. -/
def M.nodeF (tb n inp : Int) (x : Node) : Bool := M.nodeOk x tb && x.2.2.2.all (M.idx n) && !(decide (x.1 = 1) && decide (inp ≤ x.2.1))
def M.formed (p : Patch) : Bool :=
  M.inn p.1 0 4 && M.tabsOk p.2.1 && decide (p.2.2.1.length ≤ 24) && decide (p.2.2.2.length ≤ 4) && p.2.2.2.all (M.idx p.2.2.1.length) && p.2.2.1.all (M.nodeF p.2.1.length p.2.2.1.length p.1)
def M.waits (x : Node) : List Int := if x.1 = 6 then [] else x.2.2.2
def M.mem (xs : List Int) (m : Int) : Bool := xs.any fun x => decide (x = m)
theorem M.mem_cons (x m : Int) (xs : List Int) : M.mem (x :: xs) m = (decide (x = m) || M.mem xs m) := rfl
theorem M.mem_nil (m : Int) : M.mem [] m = false := rfl
theorem M.mem_app (xs : List Int) (x m : Int) : M.mem (xs ++ [x]) m = (M.mem xs m || decide (x = m)) := by
  rw [M.mem, List.any_append]
  simp [M.mem]
def M.rdy (ns : List Node) (out : List Int) (i : Nat) : Bool := !M.mem out i && (M.waits ((ns[i]?).getD (0, 0, 0, []))).all (M.mem out)
def M.next (ns : List Node) (out : List Int) : Option Nat := (List.range ns.length).find? (M.rdy ns out)
def M.ordN (ns : List Node) : Nat → List Int
  | 0 => []
  | t + 1 => match M.next ns (M.ordN ns t) with
    | none => M.ordN ns t
    | some i => M.ordN ns t ++ [(i : Int)]
def M.ord (ns : List Node) : List Int := M.ordN ns ns.length
def M.patchOk (p : Patch) : Bool := M.formed p && decide ((M.ord p.2.2.1).length = p.2.2.1.length)
theorem M.next_some {ns : List Node} {out : List Int} {i : Nat} (hi : i < ns.length) (h : M.rdy ns out i = true) (hb : ∀ j, j < i → M.rdy ns out j = false) : M.next ns out = some i := by
  rw [M.next, List.find?_range_eq_some]
  exact ⟨h, List.mem_range.2 hi, fun j hj => by rw [hb j hj]; rfl⟩
theorem M.next_none {ns : List Node} {out : List Int} (hb : ∀ j, j < ns.length → M.rdy ns out j = false) : M.next ns out = none := by
  rw [M.next, List.find?_eq_none]
  intro j hj
  rw [hb j (List.mem_range.1 hj)]
  simp
theorem M.ordN_some {ns : List Node} {t i : Nat} (h : M.next ns (M.ordN ns t) = some i) : M.ordN ns (t + 1) = M.ordN ns t ++ [(i : Int)] := by rw [M.ordN, h]
theorem M.ordN_stay {ns : List Node} {t : Nat} (h : M.next ns (M.ordN ns t) = none) (d : Nat) : M.ordN ns (t + d) = M.ordN ns t := by
  induction d with
  | zero => rfl
  | succ d ih => rw [show t + (d + 1) = (t + d) + 1 from rfl, M.ordN, ih, h]
theorem M.ord_end {ns : List Node} {t : Nat} (ht : t ≤ ns.length) (h : M.next ns (M.ordN ns t) = none) : M.ord ns = M.ordN ns t := by
  rw [M.ord, show ns.length = t + (ns.length - t) by omega, M.ordN_stay h]
theorem M.rdy_at {ns : List Node} {out : List Int} {i : Nat} {x : Node} (h : ns[i]? = some x) : M.rdy ns out i = (!M.mem out i && (M.waits x).all (M.mem out)) := by
  rw [M.rdy, h]; rfl
/-- The zero Patch. -/
def M.p0 : Patch := (0, [], [], [])
def M.effOk (p : Patch) : Bool := decide (p = M.p0) || (M.patchOk p && decide (p.1 = 1) && decide (p.2.2.2.length = 1))
/-- A session is valid. -/
def M.sessOk (s : Sess) : Bool :=
  M.inn s.1 0 1000 && M.srcOk s.2.1 && decide (s.2.2.1.length ≤ 6) && M.mixOk s.2.2.2.2.2 && decide (s.2.2.2.1.length = s.2.2.1.length) && s.2.2.2.1.all (M.idx s.2.2.2.2.2.length) && decide (s.2.2.2.2.1.length = s.2.2.2.2.2.length) && s.2.2.1.all (fun t => M.trackOk t && M.hasS t s.2.1.length) && s.2.2.2.2.1.all M.effOk
def M.linSess (s : Sess) : Bool := M.sessOk s && s.2.2.2.2.1.all (fun p => p.2.2.1.all fun x => M.lin x.1)
end Go.Proofs.YtffhodocjjkkoaaGreat
namespace Go.Proofs.YtffhodocjjkkoaaGreat
open Go.RowKit Go.Sort
set_option maxHeartbeats 4000000
set_option linter.unusedVariables false
set_option linter.unusedSimpArgs false
/-- Elements of lists, with a default. -/
def M.i_ (l : List Int) (j : Nat) : Int := (l[j]?).getD 0
def M.node (ns : List Node) (i : Nat) : Node := (ns[i]?).getD (0, 0, 0, [])
def M.cel (cs : List (List Int)) (i : Nat) : List Int := (cs[i]?).getD []
def M.look (t : List Int) (x : Int) : Int := M.i_ t (((t.length : Int) * (x % 4294967296)) / 4294967296).toNat
def M.xorN (x : Int) : Int := _root_.Go.bits .xor .i64 x 2734686208
def M.noise (s : Int) : Int := if s % 2 = 1 then wrap32 (M.xorN (s % 4294967296 / 2)) else wrap32 (s % 4294967296 / 2)
/-- The output of a node. -/
def M.nOut (x : Node) (tb : List (List Int)) (ins s : List Int) : Int :=
  if x.1 = 1 then M.i_ ins 0 else if x.1 = 2 then x.2.1 else if x.1 = 3 then wrap32 (M.i_ ins 0 + M.i_ ins 1) else if x.1 = 4 then wrap32 (M.i_ ins 0 - M.i_ ins 1) else
  if x.1 = 5 then wrap32 (x.2.1 * M.i_ ins 0) else if x.1 = 6 then M.i_ s 0 else if x.1 = 7 then wrap32 (M.i_ s 0 + M.i_ ins 0) else if x.1 = 8 then wrap32 (M.i_ ins 0 - M.i_ s 0) else
  if x.1 = 9 then wrap32 (M.i_ ins 0 * M.i_ ins 1) else if x.1 = 10 then M.i_ ins 0 / 2 ^ x.2.1.toNat else if x.1 = 11 then max (-x.2.1) (min x.2.1 (M.i_ ins 0)) else if x.1 = 12 then M.i_ s 0 else
  if x.1 = 13 then M.look (M.cel tb x.2.1.toNat) (M.i_ ins 0) else if x.1 = 14 then M.i_ s 0 else if x.1 = 15 then (if 0 ≤ M.i_ ins 0 then M.i_ ins 1 else M.i_ ins 2) else
  if x.1 = 16 then (if 0 < M.i_ ins 1 then M.i_ ins 0 else M.i_ s 0) else wrap32 (M.i_ ins 0 + x.2.1 * M.i_ s 0)
/-- The next state of a node. -/
def M.nNext (x : Node) (ins s : List Int) (out : Int) : List Int :=
  if x.1 = 6 then s.drop 1 ++ [M.i_ ins 0] else if x.1 = 17 then s.drop 1 ++ [out] else if x.1 = 7 then [out] else if x.1 = 16 then [out] else if x.1 = 8 then [M.i_ ins 0] else
  if x.1 = 12 then [wrap32 (M.i_ s 0 + M.i_ ins 0)] else if x.1 = 14 then [M.noise (M.i_ s 0)] else []
def M.stLen (x : Node) : Nat := if x.1 = 6 then x.2.1.toNat else if x.1 = 17 then x.2.2.1.toNat else if x.1 = 7 then 1 else if x.1 = 8 then 1 else if x.1 = 16 then 1 else if x.1 = 12 then 1 else if x.1 = 14 then 1 else 0
def M.start (x : Node) : List Int := if x.1 = 12 then [x.2.1] else if x.1 = 14 then [x.2.1] else List.replicate (M.stLen x) 0
/-- What a node gets in a frame. -/
def M.insN (x : Node) (fr vs : List Int) : List Int := if x.1 = 1 then [M.i_ fr x.2.1.toNat] else x.2.2.2.map fun f => M.i_ vs f.toNat
section
variable (ns : List Node) (tb : List (List Int)) (fr O : List Int)
def M.ordI (t : Nat) : Nat := (M.i_ O t).toNat
/-- The values after t nodes, as the reference computes them. -/
def M.valN (cs : List (List Int)) (v0 : List Int) : Nat → List Int
  | 0 => v0
  | t + 1 => (M.valN cs v0 t).set (M.ordI O t) (M.nOut (M.node ns (M.ordI O t)) tb (M.insN (M.node ns (M.ordI O t)) fr (M.valN cs v0 t)) (M.cel cs (M.ordI O t)))
/-- Values and cells after t nodes, as the player has them. -/
def M.runN (v0 : List Int) (c0 : List (List Int)) : Nat → List Int × List (List Int)
  | 0 => (v0, c0)
  | t + 1 =>
    if (M.node ns (M.ordI O t)).1 = 6 then ((M.runN v0 c0 t).1.set (M.ordI O t) (M.i_ (M.cel (M.runN v0 c0 t).2 (M.ordI O t)) 0), (M.runN v0 c0 t).2)
    else ((M.runN v0 c0 t).1.set (M.ordI O t) (M.nOut (M.node ns (M.ordI O t)) tb (M.insN (M.node ns (M.ordI O t)) fr (M.runN v0 c0 t).1) (M.cel (M.runN v0 c0 t).2 (M.ordI O t))),
      (M.runN v0 c0 t).2.set (M.ordI O t) (M.nNext (M.node ns (M.ordI O t)) (M.insN (M.node ns (M.ordI O t)) fr (M.runN v0 c0 t).1) (M.cel (M.runN v0 c0 t).2 (M.ordI O t))
        (M.nOut (M.node ns (M.ordI O t)) tb (M.insN (M.node ns (M.ordI O t)) fr (M.runN v0 c0 t).1) (M.cel (M.runN v0 c0 t).2 (M.ordI O t)))))
/-- The delays' second step. -/
def M.delN (vs : List Int) (c1 : List (List Int)) : Nat → List (List Int)
  | 0 => c1
  | t + 1 => if (M.node ns t).1 = 6 then (M.delN vs c1 t).set t (M.nNext (M.node ns t) (M.insN (M.node ns t) fr vs) (M.cel (M.delN vs c1 t) t) 0) else M.delN vs c1 t
/-- The values of a frame and the next cells. -/
def M.vals (cs : List (List Int)) : List Int := M.valN ns tb fr O cs (List.replicate ns.length 0) O.length
def M.next_ (cs : List (List Int)) : List (List Int) := (List.range ns.length).map fun i => M.nNext (M.node ns i) (M.insN (M.node ns i) fr (M.vals ns tb fr O cs)) (M.cel cs i) (M.i_ (M.vals ns tb fr O cs) i)
end
/-- An order of all nodes, each behind what it waits for. -/
structure M.Topo (ns : List Node) (O : List Int) : Prop where
  len : O.length = ns.length
  rng : ∀ t, t < O.length → 0 ≤ M.i_ O t ∧ M.i_ O t < ns.length
  new : ∀ s t, s < t → t < O.length → M.ordI O s ≠ M.ordI O t
  aft : ∀ t, t < O.length → ∀ f ∈ M.waits (M.node ns (M.ordI O t)), ∃ s, s < t ∧ f = M.i_ O s
theorem M.i_set_eq {l : List Int} {k : Nat} (h : k < l.length) (x : Int) : M.i_ (l.set k x) k = x := by simp [M.i_, h]
theorem M.i_set_ne {l : List Int} {k j : Nat} (h : k ≠ j) (x : Int) : M.i_ (l.set k x) j = M.i_ l j := by simp [M.i_, List.getElem?_set_ne h]
theorem M.cel_set_eq {l : List (List Int)} {k : Nat} (h : k < l.length) (x : List Int) : M.cel (l.set k x) k = x := by simp [M.cel, h]
theorem M.cel_set_ne {l : List (List Int)} {k j : Nat} (h : k ≠ j) (x : List Int) : M.cel (l.set k x) j = M.cel l j := by simp [M.cel, List.getElem?_set_ne h]
theorem M.i_ext {a b : List Int} (hl : a.length = b.length) (h : ∀ j, j < a.length → M.i_ a j = M.i_ b j) : a = b := by
  apply List.ext_getElem hl
  intro i h1 h2
  have := h i h1
  simpa [M.i_, h1, h2] using this
theorem M.cel_ext {a b : List (List Int)} (hl : a.length = b.length) (h : ∀ j, j < a.length → M.cel a j = M.cel b j) : a = b := by
  apply List.ext_getElem hl
  intro i h1 h2
  have := h i h1
  simpa [M.cel, h1, h2] using this
/-- A nodup list of numbers below n has no more than n elements. -/
theorem M.nodup_le : ∀ (n : Nat) (l : List Nat), l.Nodup → (∀ x ∈ l, x < n) → l.length ≤ n := by
  intro n
  induction n with
  | zero =>
    intro l _ h
    cases l with
    | nil => simp
    | cons x xs => exact absurd (h x (List.mem_cons_self ..)) (by omega)
  | succ n ih =>
    intro l hd h
    by_cases hm : n ∈ l
    · have h1 := List.length_erase_of_mem hm
      have h2 := ih (l.erase n) (hd.erase n) (fun x hx => by
        rw [List.Nodup.mem_erase_iff hd] at hx
        have := h x hx.2
        omega)
      have h3 : 0 < l.length := List.length_pos_of_mem hm
      omega
    · have h2 := ih l hd (fun x hx => by
        have := h x hx
        rcases Nat.lt_succ_iff_lt_or_eq.1 this with h3 | h3
        · exact h3
        · subst h3; exact absurd hx hm)
      omega
section
variable {ns : List Node} {tb : List (List Int)} {fr O : List Int}
theorem M.Topo.all (h : M.Topo ns O) {j : Nat} (hj : j < ns.length) : ∃ t, t < O.length ∧ M.ordI O t = j := by
  rcases Classical.em (∃ t, t < O.length ∧ M.ordI O t = j) with h1 | h1
  · exact h1
  · exfalso
    have hnd : (j :: (List.range O.length).map (M.ordI O)).Nodup := by
      rw [List.nodup_cons]
      refine ⟨fun hm => ?_, ?_⟩
      · obtain ⟨t, ht, e⟩ := List.mem_map.1 hm
        exact h1 ⟨t, List.mem_range.1 ht, e⟩
      · rw [List.nodup_iff_pairwise_ne, List.pairwise_map]
        refine List.Pairwise.imp_of_mem ?_ (List.pairwise_lt_range (n := O.length))
        intro a b _ hb hab
        exact h.new a b hab (List.mem_range.1 hb)
    have := M.nodup_le ns.length _ hnd (fun x hx => by
      rcases List.mem_cons.1 hx with rfl | hx
      · exact hj
      · obtain ⟨t, ht, rfl⟩ := List.mem_map.1 hx
        have := h.rng t (List.mem_range.1 ht)
        show (M.i_ O t).toNat < _
        omega)
    simp [h.len] at this
    omega
theorem M.valN_len (cs : List (List Int)) (v0 : List Int) (t : Nat) : (M.valN ns tb fr O cs v0 t).length = v0.length := by
  induction t with
  | zero => rfl
  | succ t ih => rw [M.valN, List.length_set, ih]
theorem M.valN_at (h : M.Topo ns O) (cs : List (List Int)) (v0 : List Int) {s t t' : Nat} (hs : s < t) (ht : t ≤ t') (ht' : t' ≤ O.length) :
    M.i_ (M.valN ns tb fr O cs v0 t') (M.ordI O s) = M.i_ (M.valN ns tb fr O cs v0 t) (M.ordI O s) := by
  induction t' with
  | zero =>
    obtain rfl : t = 0 := by omega
    rfl
  | succ q ih =>
    rcases Nat.lt_or_ge q t with h1 | h1
    · obtain rfl : t = q + 1 := by omega
      rfl
    · rw [M.valN, M.i_set_ne (fun e => h.new s q (by omega) (by omega) e.symm)]
      exact ih h1 (by omega)
theorem M.insN_congr {x : Node} {a b : List Int} (h : x.1 ≠ 1 → ∀ f ∈ x.2.2.2, M.i_ a f.toNat = M.i_ b f.toNat) : M.insN x fr a = M.insN x fr b := by
  rw [M.insN, M.insN]
  split
  · rfl
  · rename_i h1
    exact List.map_congr_left (h h1)
theorem M.waits_from {x : Node} (h : x.1 ≠ 6) : M.waits x = x.2.2.2 := by rw [M.waits, if_neg h]
theorem M.nOut_delay {x : Node} (h : x.1 = 6) (tb : List (List Int)) (a s : List Int) : M.nOut x tb a s = M.i_ s 0 := by simp [M.nOut, h]
theorem M.nNext_delay {x : Node} (h : x.1 = 6) (a s : List Int) (o o' : Int) : M.nNext x a s o = M.nNext x a s o' := by simp [M.nNext, h]
/-- Each value is the node's output of the frame's own values. -/
theorem M.vals_at (h : M.Topo ns O) (cs : List (List Int)) {t : Nat} (ht : t < O.length) :
    M.i_ (M.vals ns tb fr O cs) (M.ordI O t) = M.nOut (M.node ns (M.ordI O t)) tb (M.insN (M.node ns (M.ordI O t)) fr (M.vals ns tb fr O cs)) (M.cel cs (M.ordI O t)) := by
  have hr := h.rng t ht
  rw [M.vals, M.valN_at h cs _ (s := t) (t := t + 1) (by omega) (by omega) (Nat.le_refl _)]
  show M.i_ ((M.valN ns tb fr O cs _ t).set _ _) _ = _
  rw [M.i_set_eq (by rw [M.valN_len, List.length_replicate]; show (M.i_ O t).toNat < _; omega)]
  by_cases h6 : (M.node ns (M.ordI O t)).1 = 6
  · rw [M.nOut_delay h6, M.nOut_delay h6]
  · rw [M.insN_congr]
    intro _ f hf
    obtain ⟨s, hs, rfl⟩ := h.aft t ht f (by rw [M.waits_from h6]; exact hf)
    exact (M.valN_at h cs _ (s := s) (t := t) (t' := O.length) hs (by omega) (Nat.le_refl _)).symm
theorem M.runN_len (v0 : List Int) (c0 : List (List Int)) (t : Nat) : (M.runN ns tb fr O v0 c0 t).1.length = v0.length ∧ (M.runN ns tb fr O v0 c0 t).2.length = c0.length := by
  induction t with
  | zero => exact ⟨rfl, rfl⟩
  | succ t ih =>
    rw [M.runN]
    split
    · exact ⟨by rw [List.length_set]; exact ih.1, ih.2⟩
    · exact ⟨by rw [List.length_set]; exact ih.1, by rw [List.length_set]; exact ih.2⟩
/-- The player's values and cells are the reference's, as far as they are computed. -/
theorem M.runN_inv (h : M.Topo ns O) (v0 : List Int) (cs : List (List Int)) (hv : v0.length = ns.length) (hc : cs.length = ns.length) : ∀ t, t ≤ O.length →
    (∀ s, s < t → M.i_ (M.runN ns tb fr O v0 cs t).1 (M.ordI O s) = M.i_ (M.vals ns tb fr O cs) (M.ordI O s)) ∧
    (∀ s, s < t → (M.node ns (M.ordI O s)).1 ≠ 6 → M.cel (M.runN ns tb fr O v0 cs t).2 (M.ordI O s) = M.nNext (M.node ns (M.ordI O s)) (M.insN (M.node ns (M.ordI O s)) fr (M.vals ns tb fr O cs)) (M.cel cs (M.ordI O s)) (M.i_ (M.vals ns tb fr O cs) (M.ordI O s))) ∧
    (∀ j, ((∀ s, s < t → M.ordI O s ≠ j) ∨ (M.node ns j).1 = 6) → M.cel (M.runN ns tb fr O v0 cs t).2 j = M.cel cs j) := by
  intro t
  induction t with
  | zero => exact fun _ => ⟨fun s hs => absurd hs (by omega), fun s hs => absurd hs (by omega), fun _ _ => rfl⟩
  | succ t ih =>
    intro ht
    obtain ⟨i1, i2, i3⟩ := ih (by omega)
    obtain ⟨l1, l2⟩ := M.runN_len (ns := ns) (tb := tb) (fr := fr) (O := O) v0 cs t
    have hr := h.rng t (by omega)
    have hi : M.ordI O t < ns.length := by show (M.i_ O t).toNat < _; omega
    have hcel := i3 (M.ordI O t) (.inl fun s hs => h.new s t hs (by omega))
    have hva := M.vals_at (tb := tb) (fr := fr) h cs (t := t) (by omega)
    rw [M.runN]
    by_cases h6 : (M.node ns (M.ordI O t)).1 = 6
    · rw [if_pos h6]
      refine ⟨fun s hs => ?_, fun s hs hn => ?_, fun j hj => ?_⟩
      · rcases Nat.lt_succ_iff_lt_or_eq.1 hs with h1 | rfl
        · show M.i_ (List.set _ _ _) _ = _
          rw [M.i_set_ne (fun e => h.new s t h1 (by omega) e.symm)]
          exact i1 s h1
        · show M.i_ (List.set _ _ _) _ = _
          rw [M.i_set_eq (by omega), hcel, hva, M.nOut_delay h6]
      · rcases Nat.lt_succ_iff_lt_or_eq.1 hs with h1 | rfl
        · exact i2 s h1 hn
        · exact absurd h6 hn
      · exact i3 j (hj.imp (fun h1 s hs => h1 s (by omega)) id)
    · rw [if_neg h6]
      have hins : M.insN (M.node ns (M.ordI O t)) fr (M.runN ns tb fr O v0 cs t).1 = M.insN (M.node ns (M.ordI O t)) fr (M.vals ns tb fr O cs) := by
        refine M.insN_congr fun _ f hf => ?_
        obtain ⟨s, hs, rfl⟩ := h.aft t (by omega) f (by rw [M.waits_from h6]; exact hf)
        exact i1 s hs
      refine ⟨fun s hs => ?_, fun s hs hn => ?_, fun j hj => ?_⟩
      · rcases Nat.lt_succ_iff_lt_or_eq.1 hs with h1 | rfl
        · show M.i_ (List.set _ _ _) _ = _
          rw [M.i_set_ne (fun e => h.new s t h1 (by omega) e.symm)]
          exact i1 s h1
        · show M.i_ (List.set _ _ _) _ = _
          rw [M.i_set_eq (by omega), hcel, hins, hva]
      · rcases Nat.lt_succ_iff_lt_or_eq.1 hs with h1 | rfl
        · show M.cel (List.set _ _ _) _ = _
          rw [M.cel_set_ne (fun e => h.new s t h1 (by omega) e.symm)]
          exact i2 s h1 hn
        · show M.cel (List.set _ _ _) _ = _
          rw [M.cel_set_eq (by omega), hcel, hins, hva]
      · show M.cel (List.set _ _ _) _ = _
        rcases hj with h1 | h1
        · rw [M.cel_set_ne (h1 t (by omega))]
          exact i3 j (.inl fun s hs => h1 s (by omega))
        · rw [M.cel_set_ne (fun e => h6 (by rw [e]; exact h1))]
          exact i3 j (.inr h1)
theorem M.delN_len (vs : List Int) (c1 : List (List Int)) (t : Nat) : (M.delN ns fr vs c1 t).length = c1.length := by
  induction t with
  | zero => rfl
  | succ t ih =>
    rw [M.delN]
    split
    · rw [List.length_set, ih]
    · exact ih
theorem M.delN_at (vs : List Int) (c1 : List (List Int)) : ∀ t, t ≤ c1.length → ∀ j, M.cel (M.delN ns fr vs c1 t) j = if j < t ∧ (M.node ns j).1 = 6 then M.nNext (M.node ns j) (M.insN (M.node ns j) fr vs) (M.cel c1 j) 0 else M.cel c1 j := by
  intro t
  induction t with
  | zero => intro _ j; rw [if_neg (by omega)]; rfl
  | succ t ih =>
    intro ht j
    have hl := M.delN_len (ns := ns) (fr := fr) vs c1 t
    rw [M.delN]
    split
    · rename_i h6
      by_cases hj : t = j
      · subst hj
        rw [M.cel_set_eq (by omega), if_pos ⟨by omega, h6⟩, ih (by omega), if_neg (by omega)]
      · rw [M.cel_set_ne hj, ih (by omega)]
        by_cases hq : j < t ∧ (M.node ns j).1 = 6
        · rw [if_pos hq, if_pos ⟨by omega, hq.2⟩]
        · rw [if_neg hq, if_neg (fun e => hq ⟨by omega, e.2⟩)]
    · rename_i h6
      rw [ih (by omega)]
      by_cases hq : j < t ∧ (M.node ns j).1 = 6
      · rw [if_pos hq, if_pos ⟨by omega, hq.2⟩]
      · rw [if_neg hq, if_neg (fun e => by
          by_cases hj : j = t
          · subst hj; exact h6 e.2
          · exact hq ⟨by omega, e.2⟩)]
/-- The player's frame is the reference's. -/
theorem M.frame_eq (h : M.Topo ns O) (v0 : List Int) (cs : List (List Int)) (hv : v0.length = ns.length) (hc : cs.length = ns.length) :
    (M.runN ns tb fr O v0 cs O.length).1 = M.vals ns tb fr O cs ∧ M.delN ns fr (M.vals ns tb fr O cs) (M.runN ns tb fr O v0 cs O.length).2 ns.length = M.next_ ns tb fr O cs := by
  obtain ⟨i1, i2, i3⟩ := M.runN_inv (tb := tb) (fr := fr) h v0 cs hv hc O.length (Nat.le_refl _)
  obtain ⟨l1, l2⟩ := M.runN_len (ns := ns) (tb := tb) (fr := fr) (O := O) v0 cs O.length
  refine ⟨M.i_ext (by rw [l1, M.vals, M.valN_len, List.length_replicate, hv]) fun j hj => ?_, M.cel_ext (by rw [M.delN_len, l2, M.next_, List.length_map, List.length_range, hc]) fun j hj => ?_⟩
  · obtain ⟨t, ht, rfl⟩ := h.all (j := j) (by omega)
    exact i1 t ht
  · rw [M.delN_len, l2, hc] at hj
    have hn : M.cel (M.next_ ns tb fr O cs) j = M.nNext (M.node ns j) (M.insN (M.node ns j) fr (M.vals ns tb fr O cs)) (M.cel cs j) (M.i_ (M.vals ns tb fr O cs) j) := by simp [M.next_, M.cel, hj]
    rw [hn, M.delN_at _ _ _ (by omega)]
    obtain ⟨t, ht, rfl⟩ := h.all hj
    by_cases h6 : (M.node ns (M.ordI O t)).1 = 6
    · rw [if_pos ⟨hj, h6⟩, i3 _ (.inr h6)]
      exact M.nNext_delay h6 _ _ _ _
    · rw [if_neg (fun e => h6 e.2)]
      exact i2 t ht h6
end
/-- The order of a patch's nodes is one. -/
theorem M.next_rdy {ns : List Node} {out : List Int} {i : Nat} (h : M.next ns out = some i) : i < ns.length ∧ M.rdy ns out i = true := by
  rw [M.next, List.find?_range_eq_some] at h
  exact ⟨List.mem_range.1 h.2.1, h.1⟩
theorem M.mem_iff {xs : List Int} {m : Int} : M.mem xs m = true ↔ m ∈ xs := by
  rw [M.mem, List.any_eq_true]
  constructor
  · rintro ⟨x, hx, e⟩
    rw [decide_eq_true_eq] at e
    exact e ▸ hx
  · exact fun h => ⟨m, h, by simp⟩
/-- As far as it goes. -/
theorem M.ordN_inv (ns : List Node) : ∀ t, (M.ordN ns t).length ≤ t ∧ (∀ s, s < (M.ordN ns t).length → 0 ≤ M.i_ (M.ordN ns t) s ∧ M.i_ (M.ordN ns t) s < ns.length) ∧
    (∀ s u, s < u → u < (M.ordN ns t).length → M.ordI (M.ordN ns t) s ≠ M.ordI (M.ordN ns t) u) ∧
    (∀ u, u < (M.ordN ns t).length → ∀ f ∈ M.waits (M.node ns (M.ordI (M.ordN ns t) u)), ∃ s, s < u ∧ f = M.i_ (M.ordN ns t) s) := by
  intro t
  induction t with
  | zero => exact ⟨by simp [M.ordN], fun s hs => by simp [M.ordN] at hs, fun s u _ hu => by simp [M.ordN] at hu, fun u hu => by simp [M.ordN] at hu⟩
  | succ t ih =>
    obtain ⟨j1, j2, j3, j4⟩ := ih
    rw [M.ordN]
    cases hn : M.next ns (M.ordN ns t) with
    | none => exact ⟨Nat.le_succ_of_le j1, j2, j3, j4⟩
    | some i =>
      obtain ⟨hi, hr⟩ := M.next_rdy hn
      simp only
      generalize hO : M.ordN ns t = O at *
      have ea : ∀ s, s < O.length → M.i_ (O ++ [(i : Int)]) s = M.i_ O s := fun s hs => by simp [M.i_, List.getElem?_append_left hs]
      have eb : M.i_ (O ++ [(i : Int)]) O.length = i := by simp [M.i_]
      have hl : (O ++ [(i : Int)]).length = O.length + 1 := by simp
      rw [M.rdy, Bool.and_eq_true, Bool.not_eq_true'] at hr
      have hni : ∀ s, s < O.length → M.ordI O s ≠ i := by
        intro s hs e
        have h2 := j2 s hs
        have e2 : M.i_ O s = (i : Int) := by have : (M.i_ O s).toNat = i := e; omega
        have h3 : M.mem O i = true := M.mem_iff.2 (by
          rw [← e2]
          simp only [M.i_, List.getElem?_eq_getElem hs, Option.getD_some]
          exact List.getElem_mem hs)
        rw [hr.1] at h3
        cases h3
      refine ⟨by rw [hl]; omega, fun s hs => ?_, fun s u hsu hu => ?_, fun u hu f hf => ?_⟩
      · rw [hl] at hs
        rcases Nat.lt_succ_iff_lt_or_eq.1 hs with h1 | rfl
        · rw [ea s h1]; exact j2 s h1
        · rw [eb]; omega
      · rw [hl] at hu
        rcases Nat.lt_succ_iff_lt_or_eq.1 hu with h1 | rfl
        · show (M.i_ _ s).toNat ≠ (M.i_ _ u).toNat
          rw [ea s (by omega), ea u h1]
          exact j3 s u hsu h1
        · show (M.i_ _ s).toNat ≠ (M.i_ _ _).toNat
          rw [ea s hsu, eb]
          have := hni s hsu
          exact this
      · rw [hl] at hu
        rcases Nat.lt_succ_iff_lt_or_eq.1 hu with h1 | rfl
        · rw [show M.ordI (O ++ [(i : Int)]) u = M.ordI O u by show (M.i_ _ u).toNat = (M.i_ _ u).toNat; rw [ea u h1]] at hf
          obtain ⟨s, hs, rfl⟩ := j4 u h1 f hf
          exact ⟨s, hs, (ea s (by omega)).symm⟩
        · rw [show M.ordI (O ++ [(i : Int)]) O.length = i by show (M.i_ _ _).toNat = i; rw [eb]; omega] at hf
          have h4 := List.all_eq_true.1 hr.2 f hf
          obtain ⟨s, hs⟩ := List.getElem?_of_mem (M.mem_iff.1 h4)
          have hs2 := (List.getElem?_eq_some_iff.1 hs).1
          refine ⟨s, hs2, ?_⟩
          rw [ea s hs2, M.i_, hs]
          rfl
theorem M.ordN_le (ns : List Node) (t : Nat) : (M.ordN ns t).length ≤ ns.length := by
  obtain ⟨_, j2, j3, _⟩ := M.ordN_inv ns t
  have h := M.nodup_le ns.length ((List.range (M.ordN ns t).length).map (M.ordI (M.ordN ns t))) (by
    rw [List.nodup_iff_pairwise_ne, List.pairwise_map]
    refine List.Pairwise.imp_of_mem ?_ (List.pairwise_lt_range (n := (M.ordN ns t).length))
    intro a b _ hb hab
    exact j3 a b hab (List.mem_range.1 hb)) (fun x hx => by
      obtain ⟨u, hu, rfl⟩ := List.mem_map.1 hx
      have := j2 u (List.mem_range.1 hu)
      show (M.i_ _ u).toNat < _
      omega)
  simpa using h
theorem M.topo {ns : List Node} (h : (M.ord ns).length = ns.length) : M.Topo ns (M.ord ns) := by
  obtain ⟨_, j2, j3, j4⟩ := M.ordN_inv ns ns.length
  exact ⟨h, j2, j3, j4⟩
end Go.Proofs.YtffhodocjjkkoaaGreat
