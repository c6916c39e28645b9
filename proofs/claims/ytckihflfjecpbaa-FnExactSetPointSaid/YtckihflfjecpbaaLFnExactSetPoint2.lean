import Derived.Test.YtckihflfjecpbaaW40
import Derived.Test.YtckihflfjecpbaaK6
import Derived.Deep.DeepCutAuto
namespace Go.Proofs.Ytckihflfjecpbaa
open Go.RowKit
set_option maxRecDepth 100000
theorem boxA {X v : World} {u : Value} {T : TypeId} (hu : (X.alloc (.cells #[u] T)).cell? ⟨X.heap.size, 0, none⟩ = some u) (hf : (X.alloc (.cells #[u] T)).frozen? ⟨X.heap.size, 0, none⟩ = false) (b : Below (X.alloc (.cells #[u] T)).heap.size (X.alloc (.cells #[u] T)) v) : v.cell? ⟨X.heap.size, 0, none⟩ = some u ∧ v.frozen? ⟨X.heap.size, 0, none⟩ = false ∧ X.heap.size < v.heap.size :=
  have hl : X.heap.size < (X.alloc (.cells #[u] T)).heap.size := by simp
  ⟨(b.cell hl).trans hu, (b.frozen hl).trans hf, Nat.lt_of_lt_of_le hl b.size⟩
theorem boxB {X v : World} {u : Value} {p : Nat} (z : X.cell? ⟨p, 0, none⟩ = some u ∧ X.frozen? ⟨p, 0, none⟩ = false ∧ p < X.heap.size) (b : Below X.heap.size X v) : v.cell? ⟨p, 0, none⟩ = some u ∧ v.frozen? ⟨p, 0, none⟩ = false ∧ p < v.heap.size :=
  ⟨(b.cell z.2.2).trans z.1, (b.frozen z.2.2).trans z.2.1, Nat.lt_of_lt_of_le z.2.2 b.size⟩
theorem below_undrew {w v : World} {n : Nat} {B : Nat} (b : Below B (w.drewN n) v) : Below B w v := ⟨b.os, b.tape, b.output, b.size, b.block⟩
set_option maxHeartbeats 4000000 in
theorem core_FnExactSetPoint (A0 : Option Addr) (n0 : Nat) (c0 : Nat) (x0 : List (Int × Int)) (a1_0 a1_1 : Int) (z0 : List (Int × Int)) (z1 : Int) (w : World)
    (hx0 : tC.R w w.heap.size [.slice A0 n0 c0] x0)
    (hz0 : hC.sz z0 ≤ 100000000) (hc0 : hC.cnt z0 ≤ 100000000)
    (hSpec : ∀ (A0 : Option Addr) (n0 : Nat) (c0 : Nat) (w : World), tC.R w w.heap.size [.slice A0 n0 c0] x0 → hC.sz x0 ≤ 1048576 → Calls Try.prog 18 #[.agg #[.slice A0 n0 c0], .agg #[.int .i64 a1_0, .int .i64 a1_1]] w fun e w' => ∃ Ar0 nr0 cr0, e = .returned (.tuple #[.agg #[.slice Ar0 nr0 cr0], .int .i64 z1]) ∧ tC.O w' (Iv w.heap.size w'.heap.size) [.slice Ar0 nr0 cr0] z0 ∧ Below w.heap.size w w')
    (hImp : ∀ (A0 : Option Addr) (n0 : Nat) (c0 : Nat) (w : World), tC.R w w.heap.size [.slice A0 n0 c0] x0 → hC.sz x0 ≤ 1048576 → Calls Try.prog 21 #[.agg #[.slice A0 n0 c0], .agg #[.int .i64 a1_0, .int .i64 a1_1]] w fun e w' => ∃ Ar0 nr0 cr0, e = .returned (.tuple #[.agg #[.slice Ar0 nr0 cr0], .int .i64 z1]) ∧ tC.O w' (Iv w.heap.size w'.heap.size) [.slice Ar0 nr0 cr0] z0 ∧ Below w.heap.size w w') :
    Calls Try.prog 3 #[.agg #[.slice A0 n0 c0], .agg #[.int .i64 a1_0, .int .i64 a1_1]] w fun e w' => e = .returned (.bool true) ∧ Below w.heap.size w w' := by
  have HS := Lib.hid hSpec
  have HI := Lib.hid hImp
  clear hSpec hImp
  have B : Below w.heap.size w ((w.alloc (.cells #[.slice A0 n0 c0] 24)).alloc (.cells #[.int .i64 a1_0, .int .i64 a1_1] 26)) := (((Below.refl _ _).alloc (by exact Nat.le_refl _) _).alloc (by simp) _)
  have hsize : ((w.alloc (.cells #[.slice A0 n0 c0] 24)).alloc (.cells #[.int .i64 a1_0, .int .i64 a1_1] 26)).heap.size = w.heap.size + 1 + 1 := by simp
  have pb0_0 : ((w.alloc (.cells #[.slice A0 n0 c0] 24)).alloc (.cells #[.int .i64 a1_0, .int .i64 a1_1] 26)).cell? ⟨w.heap.size, 0, none⟩ = some (.slice A0 n0 c0) := by simp [go_sem]
  have pb1_0 : ((w.alloc (.cells #[.slice A0 n0 c0] 24)).alloc (.cells #[.int .i64 a1_0, .int .i64 a1_1] 26)).cell? ⟨w.heap.size + 1, 0, none⟩ = some (.int .i64 a1_0) := by simp [go_sem]
  have pb1_1 : ((w.alloc (.cells #[.slice A0 n0 c0] 24)).alloc (.cells #[.int .i64 a1_0, .int .i64 a1_1] 26)).cell? ⟨w.heap.size + 1, 1, none⟩ = some (.int .i64 a1_1) := by simp [go_sem]
  have left : ∀ (s : Nat) (l : Int), (s : Int) ≤ l → (if (s : Int) ≤ l then l - (s : Int) else -1) = l - (s : Int) := fun s l h => if_pos h
  have less : ∀ (s : Nat) (l : Int), ¬ (s : Int) ≤ l → (if (s : Int) ≤ l then l - (s : Int) else -1) = -1 := fun s l h => if_neg h
  have LEFT := Lib.hid left
  have LESS := Lib.hid less
  clear left less
  by_cases hb0 : (1048576 : Int) < (hC.sz x0 : Int)
  · go_enter Try.func3, Try.ntmps3
    go_wp2_with fail
    refine (nf_sz_C _ _ _ _ _ _ (tC.later hx0 B) (by omega)).mono ?_
    rw [LESS.out _ _ (by omega)]
    rintro e y0 ⟨rfl, b0⟩
    replace B := bel_trans B b0
    go_wp2_with fail
    go_ret
    exact ⟨rfl, B⟩
  have hw0 : hC.sz x0 ≤ 1048576 := by omega
  have hd0 : decide ((1048576 : Int) - (hC.sz x0 : Int) < 0) = false := by simp only [decide_eq_false_iff_not]; omega
  clear hsize
  go_enter Try.func3, Try.ntmps3
  go_wp2_with fail
  refine (nf_sz_C _ _ _ _ _ _ (tC.later hx0 B) (by omega)).mono ?_
  rw [LEFT.out _ _ (by omega)]
  rintro e y0 ⟨rfl, b0⟩
  have zy0 : w.heap.size + 1 + 1 ≤ y0.heap.size := by have := b0.size; simpa using this
  replace pb0_0 : y0.cell? ⟨w.heap.size, 0, none⟩ = some (.slice A0 n0 c0) := by rw [b0.cell (by first | omega | (simp; done) | (simp; omega))]; exact pb0_0
  replace pb1_0 : y0.cell? ⟨w.heap.size + 1, 0, none⟩ = some (.int .i64 a1_0) := by rw [b0.cell (by first | omega | (simp; done) | (simp; omega))]; exact pb1_0
  replace pb1_1 : y0.cell? ⟨w.heap.size + 1, 1, none⟩ = some (.int .i64 a1_1) := by rw [b0.cell (by first | omega | (simp; done) | (simp; omega))]; exact pb1_1
  replace B := bel_trans B b0
  clear b0
  have lt0 : w.heap.size < y0.heap.size := by omega
  have lt1 : w.heap.size + 1 < y0.heap.size := by omega
  clear LEFT LESS
  go_upto_region 5 with fail
  go_cut [6, 7] (fun q6 q7 wx => ∃ (gb0 : Nat) (Aw0 : Option Addr) (nw0 : Nat) (cw0 : Nat) (lo0 hi0 : Nat), q6 = .pointer (some ⟨gb0, 0, none⟩) ∧ wx.cell? ⟨gb0, 0, none⟩ = some (.slice Aw0 nw0 cw0) ∧ (y0.heap.size ≤ gb0 ∧ gb0 < wx.heap.size ∧ (gb0 < lo0 ∨ hi0 ≤ gb0)) ∧ (tC.O wx (Iv lo0 hi0) [.slice Aw0 nw0 cw0] z0 ∧ y0.heap.size ≤ lo0 ∧ hi0 ≤ wx.heap.size) ∧ q7 = .int .i64 z1 ∧ Below y0.heap.size y0 wx)
  case first =>
    have D1 : Below y0.heap.size y0 (y0.drewN 1) := below_drewN (Below.refl _ _) 1
    have D1z : Below y0.heap.size y0 ((y0.alloc (.cells #[.slice none 0 0] 30)).drewN 1) := below_drewN ((Below.refl _ _).alloc (Nat.le_refl _) _) 1
    have KB : ∀ v, Below y0.heap.size y0 v → (v.cell? ⟨w.heap.size, 0, none⟩ = some (.slice A0 n0 c0) ∧ v.cell? ⟨w.heap.size + 1, 0, none⟩ = some (.int .i64 a1_0) ∧ v.cell? ⟨w.heap.size + 1, 1, none⟩ = some (.int .i64 a1_1)) := fun v g => ⟨(g.cell lt0).trans pb0_0, (g.cell lt1).trans pb1_0, (g.cell lt1).trans pb1_1⟩
    have zA : ∀ X : World, (X.alloc (.cells #[.slice none 0 0] 30)).cell? ⟨X.heap.size, 0, none⟩ = some (.slice none 0 0) ∧ (X.alloc (.cells #[.slice none 0 0] 30)).frozen? ⟨X.heap.size, 0, none⟩ = false := fun X => ⟨by simp [go_sem], by simp [go_sem]⟩
    have ZA := Lib.hid zA
    have KBH := Lib.hid KB
    clear KB zA
    go_region_held3 (fun w' => w'.cell? ⟨w.heap.size, 0, none⟩ = some (.slice A0 n0 c0) ∧ w'.cell? ⟨w.heap.size + 1, 0, none⟩ = some (.int .i64 a1_0) ∧ w'.cell? ⟨w.heap.size + 1, 1, none⟩ = some (.int .i64 a1_1))
      (first | exact KBH.out _ D1 | exact KBH.out _ D1z | exact KBH.out _ gf | exact KBH.out _ g1 | exact KBH.out _ g0 | exact KBH.out _ (gf.alloc gf.size _) | exact KBH.out _ (g1.alloc g1.size _) | exact KBH.out _ (g0.alloc g0.size _) | exact KBH.out _ ((gf.alloc gf.size _).setCell gf.size _) | exact KBH.out _ (gf.setCell (Nat.le_refl _) _) | exact KBH.out _ (gf.setCell g0.size _) | exact KBH.out _ (gf.setCell g1.size _))
      (first | (go_at_call 18; refine (HS.out _ _ _ _ (by first | exact tC.read o0 | exact tC.later (tC.read o0) ((Below.refl _ _).alloc (Nat.le_refl _) _)) hw0).mono ?_; rintro e vf ⟨Aw0, nw0, cw0, rfl, of0, bf⟩; have gf : Below y0.heap.size y0 vf := (by first | exact bel_trans g1 bf | exact bel_trans (g1.alloc g1.size _) bf); (first | (have zn := boxB z1_ bf; obtain ⟨zc, zf, zl⟩ := zn) | (have zn := boxA (ZA.out _).1 (ZA.out _).2 bf; obtain ⟨zc, zf, zl⟩ := zn) | skip)) | (go_at_call 20; refine (laws_toCurvePoint _ _ _).mono ?_; rintro e v1 ⟨rfl, b1⟩; have g1 : Below y0.heap.size y0 v1 := (by first | exact bel_trans g0 b1 | exact bel_trans (g0.alloc g0.size _) b1); replace o0 : tC.O v1 (Iv y0.heap.size v0.heap.size) [.slice Ai0 ni0 ci0] x0 := (by first | exact tC.obelow o0 b1 (Nat.le_refl _) | exact tC.obelow (tC.obelow o0 ((Below.refl _ _).alloc (Nat.le_refl _) _) (Nat.le_refl _)) b1 (by simp)); (first | (have z1_ := boxB z0_ b1) | (have z1_ := boxA (ZA.out _).1 (ZA.out _).2 b1) | skip)) | (go_at_call 19; refine (nf_to_C _ _ _ _ _ (by first | exact tC.later hx0 (bel_trans B D1) | exact tC.later hx0 (bel_trans B D1z)) (by omega)).mono ?_; rintro e v0 ⟨Ai0, ni0, ci0, rfl, o0, b0⟩; have g0 : Below y0.heap.size y0 v0 := (by first | exact bel_trans D1 b0 | exact bel_trans D1z b0); replace o0 : tC.O v0 (Iv y0.heap.size v0.heap.size) [.slice Ai0 ni0 ci0] x0 := tC.oiv o0 (by first | exact Nat.le_refl _ | simp) (Nat.le_refl _); (first | (have z0_ := boxA (ZA.out _).1 (ZA.out _).2 (below_undrew b0)) | skip)))
    all_goals
      have GB : Below vf.heap.size vf (vf.alloc (.cells #[.slice Aw0 nw0 cw0] 30)) := (Below.refl _ _).alloc (Nat.le_refl _) _
      have zg := g1.size
      go_wp2_with fail
      go_meet
      first
        | exact ⟨_, _, _, _, _, _, rfl, (by simp [go_sem]), ⟨gf.size, (by simp), .inr (Nat.le_refl _)⟩, ⟨tC.obelow of0 GB (Nat.le_refl _), g1.size, (by simp)⟩, rfl, bel_trans gf GB⟩
        | exact ⟨_, _, _, _, _, _, rfl, (by simp [go_sem, zc, zf]), ⟨(by first | exact Nat.le_refl _ | exact g0.size | exact g1.size), (by simpa using zl), .inl (by first | exact z1_.2.2 | simp)⟩, ⟨tC.oset of0 (.inl (by first | exact z1_.2.2 | simp)), (by first | exact g1.size | (simp; omega)), (by simp)⟩, rfl, gf.setCell (by first | exact Nat.le_refl _ | exact g0.size | exact g1.size) _⟩
  case rest =>
    have hcut_ := hcut
    clear hcut
    obtain ⟨u1, rfl⟩ : ∃ u_ : World, u_ = wc := ⟨_, rfl⟩
    obtain ⟨gbw0, Aw0, nw0, cw0, low0, hiw0, rfl, wb0_0, ⟨e1w0, e2w0, e3w0⟩, ⟨w0, e4w0, e5w0⟩, rfl, G⟩ := hcut_
    have zu1 : y0.heap.size ≤ u1.heap.size := by have := G.size; omega
    replace pb0_0 : u1.cell? ⟨w.heap.size, 0, none⟩ = some (.slice A0 n0 c0) := by rw [G.cell (by first | omega | (simp; done) | (simp; omega))]; exact pb0_0
    replace pb1_0 : u1.cell? ⟨w.heap.size + 1, 0, none⟩ = some (.int .i64 a1_0) := by rw [G.cell (by first | omega | (simp; done) | (simp; omega))]; exact pb1_0
    replace pb1_1 : u1.cell? ⟨w.heap.size + 1, 1, none⟩ = some (.int .i64 a1_1) := by rw [G.cell (by first | omega | (simp; done) | (simp; omega))]; exact pb1_1
    replace B := bel_trans B G
    clear G
    replace lt0 : w.heap.size < u1.heap.size := by omega
    replace lt1 : w.heap.size + 1 < u1.heap.size := by omega
    have lt2 : gbw0 < u1.heap.size := by omega
    go_wp2_with fail
    refine (nf_to_C _ _ _ _ _ (tC.later hx0 B) (by omega)).mono ?_
    rintro e u2 ⟨Ax0o, nx0o, cx0o, rfl, x0o, bb⟩
    have G := bb
    have zu2 : u1.heap.size ≤ u2.heap.size := by have := bb.size; simpa using this
    replace pb0_0 : u2.cell? ⟨w.heap.size, 0, none⟩ = some (.slice A0 n0 c0) := by rw [G.cell (by first | omega | (simp; done) | (simp; omega))]; exact pb0_0
    replace pb1_0 : u2.cell? ⟨w.heap.size + 1, 0, none⟩ = some (.int .i64 a1_0) := by rw [G.cell (by first | omega | (simp; done) | (simp; omega))]; exact pb1_0
    replace pb1_1 : u2.cell? ⟨w.heap.size + 1, 1, none⟩ = some (.int .i64 a1_1) := by rw [G.cell (by first | omega | (simp; done) | (simp; omega))]; exact pb1_1
    replace wb0_0 : u2.cell? ⟨gbw0, 0, none⟩ = some (.slice Aw0 nw0 cw0) := by rw [G.cell (by first | omega | (simp; done) | (simp; omega))]; exact wb0_0
    replace w0 := tC.obelow w0 G (by omega)
    replace x0o : tC.O u2 (Iv (u1.heap.size) u2.heap.size) [.slice Ax0o nx0o cx0o] x0 := tC.oiv x0o (by simp) (Nat.le_refl _)
    replace B := bel_trans B G
    clear G bb
    replace lt0 : w.heap.size < u2.heap.size := by omega
    replace lt1 : w.heap.size + 1 < u2.heap.size := by omega
    replace lt2 : gbw0 < u2.heap.size := by omega
    have G0 : Below u2.heap.size u2 (u2.alloc (.cells #[.slice Ax0o nx0o cx0o] 30)) := (Below.refl _ _).alloc (Nat.le_refl _) _
    go_upto_region 7 with fail
    go_cut [9, 10] (fun q9 q10 wx => ∃ (gb0 : Nat) (Ag0 : Option Addr) (ng0 : Nat) (cg0 : Nat) (lo0 hi0 : Nat), q9 = .pointer (some ⟨gb0, 0, none⟩) ∧ wx.cell? ⟨gb0, 0, none⟩ = some (.slice Ag0 ng0 cg0) ∧ (u2.heap.size ≤ gb0 ∧ gb0 < wx.heap.size ∧ (gb0 < lo0 ∨ hi0 ≤ gb0)) ∧ (tC.O wx (Iv lo0 hi0) [.slice Ag0 ng0 cg0] z0 ∧ u2.heap.size + 1 ≤ lo0 ∧ hi0 ≤ wx.heap.size) ∧ q10 = .int .i64 z1 ∧ wx.cell? ⟨u2.heap.size, 0, none⟩ = some (.slice Ax0o nx0o cx0o) ∧ Below u2.heap.size u2 wx ∧ u2.heap.size < wx.heap.size)
    case first =>
      obtain ⟨U, hU⟩ : ∃ U, U = u2.alloc (.cells #[.slice Ax0o nx0o cx0o] 30) := ⟨_, rfl⟩
      have pc0 : U.cell? ⟨u2.heap.size, 0, none⟩ = some (.slice Ax0o nx0o cx0o) := by rw [hU]; simp [go_sem]
      have lc : u2.heap.size < U.heap.size := by rw [hU]; simp
      rw [← hU] at G0 ⊢
      clear hU
      have q1_0 : U.cell? ⟨w.heap.size + 1, 0, none⟩ = some (.int .i64 a1_0) := (G0.cell lt1).trans pb1_0
      have q1_1 : U.cell? ⟨w.heap.size + 1, 1, none⟩ = some (.int .i64 a1_1) := (G0.cell lt1).trans pb1_1
      have lp : w.heap.size + 1 < U.heap.size := by omega
      have D1 : Below U.heap.size U (U.drewN 1) := below_drewN (Below.refl _ _) 1
      have D1z : Below U.heap.size U ((U.alloc (.cells #[.slice none 0 0] 30)).drewN 1) := below_drewN ((Below.refl _ _).alloc (Nat.le_refl _) _) 1
      have KB : ∀ v, Below U.heap.size U v → (v.cell? ⟨u2.heap.size, 0, none⟩ = some (.slice Ax0o nx0o cx0o) ∧ v.cell? ⟨w.heap.size + 1, 0, none⟩ = some (.int .i64 a1_0) ∧ v.cell? ⟨w.heap.size + 1, 1, none⟩ = some (.int .i64 a1_1)) := fun v g => ⟨(g.cell lc).trans pc0, (g.cell lp).trans q1_0, (g.cell lp).trans q1_1⟩
      have zA : ∀ X : World, (X.alloc (.cells #[.slice none 0 0] 30)).cell? ⟨X.heap.size, 0, none⟩ = some (.slice none 0 0) ∧ (X.alloc (.cells #[.slice none 0 0] 30)).frozen? ⟨X.heap.size, 0, none⟩ = false := fun X => ⟨by simp [go_sem], by simp [go_sem]⟩
      have ZA := Lib.hid zA
      have KBH := Lib.hid KB
      clear KB zA
      go_region_held3 (fun w' => w'.cell? ⟨u2.heap.size, 0, none⟩ = some (.slice Ax0o nx0o cx0o) ∧ w'.cell? ⟨w.heap.size + 1, 0, none⟩ = some (.int .i64 a1_0) ∧ w'.cell? ⟨w.heap.size + 1, 1, none⟩ = some (.int .i64 a1_1))
        (first | exact KBH.out _ D1 | exact KBH.out _ D1z | exact KBH.out _ gf | exact KBH.out _ g1 | exact KBH.out _ (gf.alloc gf.size _) | exact KBH.out _ (g1.alloc g1.size _) | exact KBH.out _ ((gf.alloc gf.size _).setCell gf.size _) | exact KBH.out _ (gf.setCell (Nat.le_refl _) _) | exact KBH.out _ (gf.setCell g1.size _))
        (first | (go_at_call 21; refine (HI.out _ _ _ _ (by first | exact tC.later (tC.read x0o) (bel_trans G0 g1) | exact tC.later (tC.read x0o) (bel_trans G0 (g1.alloc g1.size _))) hw0).mono ?_; rintro e vf ⟨Ag0, ng0, cg0, rfl, of0, bf⟩; have gf : Below U.heap.size U vf := (by first | exact bel_trans g1 bf | exact bel_trans (g1.alloc g1.size _) bf); (first | (have zn := boxB z1_ bf; obtain ⟨zc, zf, zl⟩ := zn) | (have zn := boxA (ZA.out _).1 (ZA.out _).2 bf; obtain ⟨zc, zf, zl⟩ := zn) | skip)) | (go_at_call 20; refine (laws_toCurvePoint _ _ _).mono ?_; rintro e v1 ⟨rfl, b1⟩; have g1 : Below U.heap.size U v1 := (by first | exact bel_trans D1 b1 | exact bel_trans D1z b1); (first | (have z1_ := boxA (ZA.out _).1 (ZA.out _).2 (below_undrew b1)) | skip)))
      all_goals
        have GF := bel_trans G0 gf
        have GB : Below vf.heap.size vf (vf.alloc (.cells #[.slice Ag0 ng0 cg0] 30)) := (Below.refl _ _).alloc (Nat.le_refl _) _
        have zg := g1.size
        have zgf := gf.size
        have luf : u2.heap.size < vf.heap.size := by omega
        have hpc := (gf.cell (p := ⟨u2.heap.size, 0, none⟩) lc).trans pc0
        have hp1 : u2.heap.size ≤ U.heap.size := by omega
        have hp2 : u2.heap.size ≤ v1.heap.size := by omega
        have hp3 : u2.heap.size + 1 ≤ v1.heap.size := by omega
        go_wp2_with fail
        go_meet
        first
          | exact ⟨_, _, _, _, _, _, rfl, (by simp [go_sem]), ⟨GF.size, (by simp), .inr (Nat.le_refl _)⟩, ⟨tC.obelow of0 GB (Nat.le_refl _), hp3, (by simp)⟩, rfl, (GB.cell (p := ⟨u2.heap.size, 0, none⟩) luf).trans hpc, bel_trans GF GB, (by simp; omega)⟩
          | exact ⟨_, _, _, _, _, _, rfl, (by simp [go_sem, zc, zf]), ⟨(by first | exact hp1 | exact hp2), (by simpa using zl), .inl (by first | exact z1_.2.2 | simp)⟩, ⟨tC.oset of0 (.inl (by first | exact z1_.2.2 | simp)), (by first | exact hp3 | (simp; omega)), (by simp)⟩, rfl, (by rw [World.cell?_of_block (heap_setCell_other _ _ u2.heap.size _ (fun e => by simp at e; omega))]; exact hpc), GF.setCell (by first | exact hp1 | exact hp2) _, (by simp; omega)⟩
    case rest =>
      have hcut_ := hcut
      clear hcut
      obtain ⟨u3, rfl⟩ : ∃ u_ : World, u_ = wc := ⟨_, rfl⟩
      obtain ⟨gbg0, Ag0, ng0, cg0, log0, hig0, rfl, gb0_0, ⟨e1g0, e2g0, e3g0⟩, ⟨g0, e4g0, e5g0⟩, rfl, xb0_0, G, zpb⟩ := hcut_
      have zu3 : u2.heap.size + 1 ≤ u3.heap.size := by have := G.size; omega
      replace pb0_0 : u3.cell? ⟨w.heap.size, 0, none⟩ = some (.slice A0 n0 c0) := by rw [G.cell (by first | omega | (simp; done) | (simp; omega))]; exact pb0_0
      replace pb1_0 : u3.cell? ⟨w.heap.size + 1, 0, none⟩ = some (.int .i64 a1_0) := by rw [G.cell (by first | omega | (simp; done) | (simp; omega))]; exact pb1_0
      replace pb1_1 : u3.cell? ⟨w.heap.size + 1, 1, none⟩ = some (.int .i64 a1_1) := by rw [G.cell (by first | omega | (simp; done) | (simp; omega))]; exact pb1_1
      replace wb0_0 : u3.cell? ⟨gbw0, 0, none⟩ = some (.slice Aw0 nw0 cw0) := by rw [G.cell (by first | omega | (simp; done) | (simp; omega))]; exact wb0_0
      replace w0 := tC.obelow w0 G (by omega)
      replace x0o := tC.obelow x0o G (by omega)
      replace B := bel_trans B G
      clear G
      replace lt0 : w.heap.size < u3.heap.size := by omega
      replace lt1 : w.heap.size + 1 < u3.heap.size := by omega
      replace lt2 : gbw0 < u3.heap.size := by omega
      have lt3 : u2.heap.size < u3.heap.size := by omega
      have lt4 : gbg0 < u3.heap.size := by omega
      go_wp2_with fail
      refine (nf_eq_C _ _ _ _ _ _ _ _ (tC.read g0) (tC.read w0) (by omega)).mono ?_
      rintro e u4 ⟨rfl, bb⟩
      have G := bb
      have zu4 : u3.heap.size ≤ u4.heap.size := by have := bb.size; simpa using this
      replace pb0_0 : u4.cell? ⟨w.heap.size, 0, none⟩ = some (.slice A0 n0 c0) := by rw [G.cell (by first | omega | (simp; done) | (simp; omega))]; exact pb0_0
      replace pb1_0 : u4.cell? ⟨w.heap.size + 1, 0, none⟩ = some (.int .i64 a1_0) := by rw [G.cell (by first | omega | (simp; done) | (simp; omega))]; exact pb1_0
      replace pb1_1 : u4.cell? ⟨w.heap.size + 1, 1, none⟩ = some (.int .i64 a1_1) := by rw [G.cell (by first | omega | (simp; done) | (simp; omega))]; exact pb1_1
      replace wb0_0 : u4.cell? ⟨gbw0, 0, none⟩ = some (.slice Aw0 nw0 cw0) := by rw [G.cell (by first | omega | (simp; done) | (simp; omega))]; exact wb0_0
      replace xb0_0 : u4.cell? ⟨u2.heap.size, 0, none⟩ = some (.slice Ax0o nx0o cx0o) := by rw [G.cell (by first | omega | (simp; done) | (simp; omega))]; exact xb0_0
      replace gb0_0 : u4.cell? ⟨gbg0, 0, none⟩ = some (.slice Ag0 ng0 cg0) := by rw [G.cell (by first | omega | (simp; done) | (simp; omega))]; exact gb0_0
      replace w0 := tC.obelow w0 G (by omega)
      replace x0o := tC.obelow x0o G (by omega)
      replace g0 := tC.obelow g0 G (by omega)
      replace B := bel_trans B G
      clear G bb
      replace lt0 : w.heap.size < u4.heap.size := by omega
      replace lt1 : w.heap.size + 1 < u4.heap.size := by omega
      replace lt2 : gbw0 < u4.heap.size := by omega
      replace lt3 : u2.heap.size < u4.heap.size := by omega
      replace lt4 : gbg0 < u4.heap.size := by omega
      go_wp2_with fail
      go_region_held3 (fun w' => Below u4.heap.size u4 w' ∧ w'.cell? ⟨w.heap.size, 0, none⟩ = some (.slice A0 n0 c0) ∧ w'.cell? ⟨u2.heap.size, 0, none⟩ = some (.slice Ax0o nx0o cx0o))
        (first | exact ⟨below_drewN (Below.refl _ _) _, pb0_0, xb0_0⟩ | exact ⟨gq, (by rw [gq.cell (by first | omega | (simp; done) | (simp; omega))]; exact pb0_0), (by rw [gq.cell (by first | omega | (simp; done) | (simp; omega))]; exact xb0_0)⟩ | exact ⟨gt, (by rw [gt.cell (by first | omega | (simp; done) | (simp; omega))]; exact pb0_0), (by rw [gt.cell (by first | omega | (simp; done) | (simp; omega))]; exact xb0_0)⟩)
        (first | (go_at_call 19; refine (nf_to_C _ _ _ _ _ (tC.later (tC.later hx0 B) (below_drewN (Below.refl _ _) 1)) (by omega)).mono ?_; rintro e vt ⟨Aq, nq, cq, rfl, ot, bt⟩; have gt : Below u4.heap.size u4 vt := bel_trans (below_drewN (Below.refl _ _) 1) bt) | (go_at_call 22; refine (nf_eq_C _ _ _ _ _ _ _ _ (tC.later (tC.read x0o) gt) (tC.read ot) (by omega)).mono ?_; rintro e u5 ⟨rfl, bq⟩; have gq : Below u4.heap.size u4 u5 := bel_trans gt bq))
      have zu5 : u4.heap.size ≤ u5.heap.size := gq.size
      replace pb0_0 : u5.cell? ⟨w.heap.size, 0, none⟩ = some (.slice A0 n0 c0) := by rw [gq.cell (by first | omega | (simp; done) | (simp; omega))]; exact pb0_0
      replace pb1_0 : u5.cell? ⟨w.heap.size + 1, 0, none⟩ = some (.int .i64 a1_0) := by rw [gq.cell (by first | omega | (simp; done) | (simp; omega))]; exact pb1_0
      replace pb1_1 : u5.cell? ⟨w.heap.size + 1, 1, none⟩ = some (.int .i64 a1_1) := by rw [gq.cell (by first | omega | (simp; done) | (simp; omega))]; exact pb1_1
      replace wb0_0 : u5.cell? ⟨gbw0, 0, none⟩ = some (.slice Aw0 nw0 cw0) := by rw [gq.cell (by first | omega | (simp; done) | (simp; omega))]; exact wb0_0
      replace xb0_0 : u5.cell? ⟨u2.heap.size, 0, none⟩ = some (.slice Ax0o nx0o cx0o) := by rw [gq.cell (by first | omega | (simp; done) | (simp; omega))]; exact xb0_0
      replace gb0_0 : u5.cell? ⟨gbg0, 0, none⟩ = some (.slice Ag0 ng0 cg0) := by rw [gq.cell (by first | omega | (simp; done) | (simp; omega))]; exact gb0_0
      replace w0 := tC.obelow w0 gq (by omega)
      replace x0o := tC.obelow x0o gq (by omega)
      replace g0 := tC.obelow g0 gq (by omega)
      replace B := bel_trans B gq
      clear gq gt bq bt ot
      replace lt0 : w.heap.size < u5.heap.size := by omega
      replace lt1 : w.heap.size + 1 < u5.heap.size := by omega
      replace lt2 : gbw0 < u5.heap.size := by omega
      replace lt3 : u2.heap.size < u5.heap.size := by omega
      replace lt4 : gbg0 < u5.heap.size := by omega
      have hk0 : hC.cnt x0 ≤ 20000000 := by have := cl_C x0; omega
      go_wp2_with fail
      refine (nf_mark_C _ _ _ _ _ _ _ _ x0o (by omega) (by omega)).mono ?_
      rintro e u6 ⟨rfl, x0o, mm⟩
      have zu6 : u5.heap.size ≤ u6.heap.size := mm.size
      replace pb0_0 : u6.cell? ⟨w.heap.size, 0, none⟩ = some (.slice A0 n0 c0) := by rw [World.cell?_of_block (mm.block _ (by first | omega | (simp; done) | (simp; omega)) (by first | (simp [Iv]; done) | (simp [Iv]; omega)))]; exact pb0_0
      replace pb1_0 : u6.cell? ⟨w.heap.size + 1, 0, none⟩ = some (.int .i64 a1_0) := by rw [World.cell?_of_block (mm.block _ (by first | omega | (simp; done) | (simp; omega)) (by first | (simp [Iv]; done) | (simp [Iv]; omega)))]; exact pb1_0
      replace pb1_1 : u6.cell? ⟨w.heap.size + 1, 1, none⟩ = some (.int .i64 a1_1) := by rw [World.cell?_of_block (mm.block _ (by first | omega | (simp; done) | (simp; omega)) (by first | (simp [Iv]; done) | (simp [Iv]; omega)))]; exact pb1_1
      replace wb0_0 : u6.cell? ⟨gbw0, 0, none⟩ = some (.slice Aw0 nw0 cw0) := by rw [World.cell?_of_block (mm.block _ (by first | omega | (simp; done) | (simp; omega)) (by first | (simp [Iv]; done) | (simp [Iv]; omega)))]; exact wb0_0
      replace xb0_0 : u6.cell? ⟨u2.heap.size, 0, none⟩ = some (.slice Ax0o nx0o cx0o) := by rw [World.cell?_of_block (mm.block _ (by first | omega | (simp; done) | (simp; omega)) (by first | (simp [Iv]; done) | (simp [Iv]; omega)))]; exact xb0_0
      replace gb0_0 : u6.cell? ⟨gbg0, 0, none⟩ = some (.slice Ag0 ng0 cg0) := by rw [World.cell?_of_block (mm.block _ (by first | omega | (simp; done) | (simp; omega)) (by first | (simp [Iv]; done) | (simp [Iv]; omega)))]; exact gb0_0
      replace w0 := tC.ochg w0 mm (by simp only [Iv]; omega)
      replace g0 := tC.ochg g0 mm (by simp only [Iv]; omega)
      replace B : Below w.heap.size w u6 := B.trans (mm.toBelow (by simp only [Iv]; omega) (by omega))
      clear mm
      replace lt0 : w.heap.size < u6.heap.size := by omega
      replace lt1 : w.heap.size + 1 < u6.heap.size := by omega
      replace lt2 : gbw0 < u6.heap.size := by omega
      replace lt3 : u2.heap.size < u6.heap.size := by omega
      replace lt4 : gbg0 < u6.heap.size := by omega
      clear x0o
      go_wp2_with fail
      refine (nf_eq_C _ _ _ _ _ _ _ _ (tC.read g0) (tC.read w0) (by omega)).mono ?_
      rintro e u7 ⟨rfl, bb⟩
      have G := bb
      have zu7 : u6.heap.size ≤ u7.heap.size := by have := bb.size; simpa using this
      replace pb0_0 : u7.cell? ⟨w.heap.size, 0, none⟩ = some (.slice A0 n0 c0) := by rw [G.cell (by first | omega | (simp; done) | (simp; omega))]; exact pb0_0
      replace pb1_0 : u7.cell? ⟨w.heap.size + 1, 0, none⟩ = some (.int .i64 a1_0) := by rw [G.cell (by first | omega | (simp; done) | (simp; omega))]; exact pb1_0
      replace pb1_1 : u7.cell? ⟨w.heap.size + 1, 1, none⟩ = some (.int .i64 a1_1) := by rw [G.cell (by first | omega | (simp; done) | (simp; omega))]; exact pb1_1
      replace wb0_0 : u7.cell? ⟨gbw0, 0, none⟩ = some (.slice Aw0 nw0 cw0) := by rw [G.cell (by first | omega | (simp; done) | (simp; omega))]; exact wb0_0
      replace xb0_0 : u7.cell? ⟨u2.heap.size, 0, none⟩ = some (.slice Ax0o nx0o cx0o) := by rw [G.cell (by first | omega | (simp; done) | (simp; omega))]; exact xb0_0
      replace gb0_0 : u7.cell? ⟨gbg0, 0, none⟩ = some (.slice Ag0 ng0 cg0) := by rw [G.cell (by first | omega | (simp; done) | (simp; omega))]; exact gb0_0
      replace w0 := tC.obelow w0 G (by omega)
      replace g0 := tC.obelow g0 G (by omega)
      replace B := bel_trans B G
      clear G bb
      replace lt0 : w.heap.size < u7.heap.size := by omega
      replace lt1 : w.heap.size + 1 < u7.heap.size := by omega
      replace lt2 : gbw0 < u7.heap.size := by omega
      replace lt3 : u2.heap.size < u7.heap.size := by omega
      replace lt4 : gbg0 < u7.heap.size := by omega
      go_wp2_with fail
      refine (nf_mark_C _ _ _ _ _ _ _ _ g0 (by omega) (by omega)).mono ?_
      rintro e u8 ⟨rfl, g0, mm⟩
      have zu8 : u7.heap.size ≤ u8.heap.size := mm.size
      replace pb0_0 : u8.cell? ⟨w.heap.size, 0, none⟩ = some (.slice A0 n0 c0) := by rw [World.cell?_of_block (mm.block _ (by first | omega | (simp; done) | (simp; omega)) (by first | (simp [Iv]; done) | (simp [Iv]; omega)))]; exact pb0_0
      replace pb1_0 : u8.cell? ⟨w.heap.size + 1, 0, none⟩ = some (.int .i64 a1_0) := by rw [World.cell?_of_block (mm.block _ (by first | omega | (simp; done) | (simp; omega)) (by first | (simp [Iv]; done) | (simp [Iv]; omega)))]; exact pb1_0
      replace pb1_1 : u8.cell? ⟨w.heap.size + 1, 1, none⟩ = some (.int .i64 a1_1) := by rw [World.cell?_of_block (mm.block _ (by first | omega | (simp; done) | (simp; omega)) (by first | (simp [Iv]; done) | (simp [Iv]; omega)))]; exact pb1_1
      replace wb0_0 : u8.cell? ⟨gbw0, 0, none⟩ = some (.slice Aw0 nw0 cw0) := by rw [World.cell?_of_block (mm.block _ (by first | omega | (simp; done) | (simp; omega)) (by first | (simp [Iv]; done) | (simp [Iv]; omega)))]; exact wb0_0
      replace xb0_0 : u8.cell? ⟨u2.heap.size, 0, none⟩ = some (.slice Ax0o nx0o cx0o) := by rw [World.cell?_of_block (mm.block _ (by first | omega | (simp; done) | (simp; omega)) (by first | (simp [Iv]; done) | (simp [Iv]; omega)))]; exact xb0_0
      replace gb0_0 : u8.cell? ⟨gbg0, 0, none⟩ = some (.slice Ag0 ng0 cg0) := by rw [World.cell?_of_block (mm.block _ (by first | omega | (simp; done) | (simp; omega)) (by first | (simp [Iv]; done) | (simp [Iv]; omega)))]; exact gb0_0
      replace w0 := tC.ochg w0 mm (by simp only [Iv]; omega)
      replace B : Below w.heap.size w u8 := B.trans (mm.toBelow (by simp only [Iv]; omega) (by omega))
      clear mm
      replace lt0 : w.heap.size < u8.heap.size := by omega
      replace lt1 : w.heap.size + 1 < u8.heap.size := by omega
      replace lt2 : gbw0 < u8.heap.size := by omega
      replace lt3 : u2.heap.size < u8.heap.size := by omega
      replace lt4 : gbg0 < u8.heap.size := by omega
      go_wp2_with fail
      refine (nf_held_C _ _ _ _ _ _ (tC.read g0) (by omega)).mono ?_
      rintro e u9 ⟨rfl, bb⟩
      have G := bb
      have zu9 : u8.heap.size ≤ u9.heap.size := by have := bb.size; simpa using this
      replace pb0_0 : u9.cell? ⟨w.heap.size, 0, none⟩ = some (.slice A0 n0 c0) := by rw [G.cell (by first | omega | (simp; done) | (simp; omega))]; exact pb0_0
      replace pb1_0 : u9.cell? ⟨w.heap.size + 1, 0, none⟩ = some (.int .i64 a1_0) := by rw [G.cell (by first | omega | (simp; done) | (simp; omega))]; exact pb1_0
      replace pb1_1 : u9.cell? ⟨w.heap.size + 1, 1, none⟩ = some (.int .i64 a1_1) := by rw [G.cell (by first | omega | (simp; done) | (simp; omega))]; exact pb1_1
      replace wb0_0 : u9.cell? ⟨gbw0, 0, none⟩ = some (.slice Aw0 nw0 cw0) := by rw [G.cell (by first | omega | (simp; done) | (simp; omega))]; exact wb0_0
      replace xb0_0 : u9.cell? ⟨u2.heap.size, 0, none⟩ = some (.slice Ax0o nx0o cx0o) := by rw [G.cell (by first | omega | (simp; done) | (simp; omega))]; exact xb0_0
      replace gb0_0 : u9.cell? ⟨gbg0, 0, none⟩ = some (.slice Ag0 ng0 cg0) := by rw [G.cell (by first | omega | (simp; done) | (simp; omega))]; exact gb0_0
      replace w0 := tC.obelow w0 G (by omega)
      replace g0 := tC.obelow g0 G (by omega)
      replace B := bel_trans B G
      clear G bb
      replace lt0 : w.heap.size < u9.heap.size := by omega
      replace lt1 : w.heap.size + 1 < u9.heap.size := by omega
      replace lt2 : gbw0 < u9.heap.size := by omega
      replace lt3 : u2.heap.size < u9.heap.size := by omega
      replace lt4 : gbg0 < u9.heap.size := by omega
      go_upto_region 24 with fail
      go_cut [14, 15] (fun q14 q15 wx => ∃ (gb0 : Nat) (Ah0 : Option Addr) (nh0 : Nat) (ch0 : Nat) (lo0 hi0 : Nat), q14 = .pointer (some ⟨gb0, 0, none⟩) ∧ wx.cell? ⟨gb0, 0, none⟩ = some (.slice Ah0 nh0 ch0) ∧ (u9.heap.size ≤ gb0 ∧ gb0 < wx.heap.size ∧ (gb0 < lo0 ∨ hi0 ≤ gb0)) ∧ (tC.O wx (Iv lo0 hi0) [.slice Ah0 nh0 ch0] z0 ∧ u9.heap.size ≤ lo0 ∧ hi0 ≤ wx.heap.size) ∧ q15 = .int .i64 z1 ∧ Below u9.heap.size u9 wx)
      case first =>
        have D1 : Below u9.heap.size u9 (u9.drewN 1) := below_drewN (Below.refl _ _) 1
        have D1z : Below u9.heap.size u9 ((u9.alloc (.cells #[.slice none 0 0] 30)).drewN 1) := below_drewN ((Below.refl _ _).alloc (Nat.le_refl _) _) 1
        have KB : ∀ v, Below u9.heap.size u9 v → (v.cell? ⟨w.heap.size, 0, none⟩ = some (.slice A0 n0 c0) ∧ v.cell? ⟨w.heap.size + 1, 0, none⟩ = some (.int .i64 a1_0) ∧ v.cell? ⟨w.heap.size + 1, 1, none⟩ = some (.int .i64 a1_1)) := fun v g => ⟨(g.cell lt0).trans pb0_0, (g.cell lt1).trans pb1_0, (g.cell lt1).trans pb1_1⟩
        have zA : ∀ X : World, (X.alloc (.cells #[.slice none 0 0] 30)).cell? ⟨X.heap.size, 0, none⟩ = some (.slice none 0 0) ∧ (X.alloc (.cells #[.slice none 0 0] 30)).frozen? ⟨X.heap.size, 0, none⟩ = false := fun X => ⟨by simp [go_sem], by simp [go_sem]⟩
        have ZA := Lib.hid zA
        have KBH := Lib.hid KB
        clear KB zA
        go_region_held3 (fun w' => w'.cell? ⟨w.heap.size, 0, none⟩ = some (.slice A0 n0 c0) ∧ w'.cell? ⟨w.heap.size + 1, 0, none⟩ = some (.int .i64 a1_0) ∧ w'.cell? ⟨w.heap.size + 1, 1, none⟩ = some (.int .i64 a1_1))
          (first | exact KBH.out _ D1 | exact KBH.out _ D1z | exact KBH.out _ gf | exact KBH.out _ g1 | exact KBH.out _ g0 | exact KBH.out _ (gf.alloc gf.size _) | exact KBH.out _ (g1.alloc g1.size _) | exact KBH.out _ (g0.alloc g0.size _) | exact KBH.out _ ((gf.alloc gf.size _).setCell gf.size _) | exact KBH.out _ (gf.setCell (Nat.le_refl _) _) | exact KBH.out _ (gf.setCell g0.size _) | exact KBH.out _ (gf.setCell g1.size _))
          (first | (go_at_call 21; refine (HI.out _ _ _ _ (by first | exact tC.read o0 | exact tC.later (tC.read o0) ((Below.refl _ _).alloc (Nat.le_refl _) _)) hw0).mono ?_; rintro e vf ⟨Ah0, nh0, ch0, rfl, of0, bf⟩; have gf : Below u9.heap.size u9 vf := (by first | exact bel_trans g1 bf | exact bel_trans (g1.alloc g1.size _) bf); (first | (have zn := boxB z1_ bf; obtain ⟨zc, zf, zl⟩ := zn) | (have zn := boxA (ZA.out _).1 (ZA.out _).2 bf; obtain ⟨zc, zf, zl⟩ := zn) | skip)) | (go_at_call 20; refine (laws_toCurvePoint _ _ _).mono ?_; rintro e v1 ⟨rfl, b1⟩; have g1 : Below u9.heap.size u9 v1 := (by first | exact bel_trans g0 b1 | exact bel_trans (g0.alloc g0.size _) b1); replace o0 : tC.O v1 (Iv u9.heap.size v0.heap.size) [.slice Ai0 ni0 ci0] x0 := (by first | exact tC.obelow o0 b1 (Nat.le_refl _) | exact tC.obelow (tC.obelow o0 ((Below.refl _ _).alloc (Nat.le_refl _) _) (Nat.le_refl _)) b1 (by simp)); (first | (have z1_ := boxB z0_ b1) | (have z1_ := boxA (ZA.out _).1 (ZA.out _).2 b1) | skip)) | (go_at_call 19; refine (nf_to_C _ _ _ _ _ (by first | exact tC.later hx0 (bel_trans B D1) | exact tC.later hx0 (bel_trans B D1z)) (by omega)).mono ?_; rintro e v0 ⟨Ai0, ni0, ci0, rfl, o0, b0⟩; have g0 : Below u9.heap.size u9 v0 := (by first | exact bel_trans D1 b0 | exact bel_trans D1z b0); replace o0 : tC.O v0 (Iv u9.heap.size v0.heap.size) [.slice Ai0 ni0 ci0] x0 := tC.oiv o0 (by first | exact Nat.le_refl _ | simp) (Nat.le_refl _); (first | (have z0_ := boxA (ZA.out _).1 (ZA.out _).2 (below_undrew b0)) | skip)))
        all_goals
          have GB : Below vf.heap.size vf (vf.alloc (.cells #[.slice Ah0 nh0 ch0] 30)) := (Below.refl _ _).alloc (Nat.le_refl _) _
          have zg := g1.size
          go_wp2_with fail
          go_meet
          first
            | exact ⟨_, _, _, _, _, _, rfl, (by simp [go_sem]), ⟨gf.size, (by simp), .inr (Nat.le_refl _)⟩, ⟨tC.obelow of0 GB (Nat.le_refl _), g1.size, (by simp)⟩, rfl, bel_trans gf GB⟩
            | exact ⟨_, _, _, _, _, _, rfl, (by simp [go_sem, zc, zf]), ⟨(by first | exact Nat.le_refl _ | exact g0.size | exact g1.size), (by simpa using zl), .inl (by first | exact z1_.2.2 | simp)⟩, ⟨tC.oset of0 (.inl (by first | exact z1_.2.2 | simp)), (by first | exact g1.size | (simp; omega)), (by simp)⟩, rfl, gf.setCell (by first | exact Nat.le_refl _ | exact g0.size | exact g1.size) _⟩
      case rest =>
        have hcut_ := hcut
        clear hcut
        obtain ⟨u10, rfl⟩ : ∃ u_ : World, u_ = wc := ⟨_, rfl⟩
        obtain ⟨gbh0, Ah0, nh0, ch0, loh0, hih0, rfl, hb0_0, ⟨e1h0, e2h0, e3h0⟩, ⟨h0, e4h0, e5h0⟩, rfl, G⟩ := hcut_
        have zu10 : u9.heap.size ≤ u10.heap.size := by have := G.size; omega
        replace pb0_0 : u10.cell? ⟨w.heap.size, 0, none⟩ = some (.slice A0 n0 c0) := by rw [G.cell (by first | omega | (simp; done) | (simp; omega))]; exact pb0_0
        replace pb1_0 : u10.cell? ⟨w.heap.size + 1, 0, none⟩ = some (.int .i64 a1_0) := by rw [G.cell (by first | omega | (simp; done) | (simp; omega))]; exact pb1_0
        replace pb1_1 : u10.cell? ⟨w.heap.size + 1, 1, none⟩ = some (.int .i64 a1_1) := by rw [G.cell (by first | omega | (simp; done) | (simp; omega))]; exact pb1_1
        replace wb0_0 : u10.cell? ⟨gbw0, 0, none⟩ = some (.slice Aw0 nw0 cw0) := by rw [G.cell (by first | omega | (simp; done) | (simp; omega))]; exact wb0_0
        replace xb0_0 : u10.cell? ⟨u2.heap.size, 0, none⟩ = some (.slice Ax0o nx0o cx0o) := by rw [G.cell (by first | omega | (simp; done) | (simp; omega))]; exact xb0_0
        replace gb0_0 : u10.cell? ⟨gbg0, 0, none⟩ = some (.slice Ag0 ng0 cg0) := by rw [G.cell (by first | omega | (simp; done) | (simp; omega))]; exact gb0_0
        replace w0 := tC.obelow w0 G (by omega)
        replace g0 := tC.obelow g0 G (by omega)
        replace B := bel_trans B G
        clear G
        replace lt0 : w.heap.size < u10.heap.size := by omega
        replace lt1 : w.heap.size + 1 < u10.heap.size := by omega
        replace lt2 : gbw0 < u10.heap.size := by omega
        replace lt3 : u2.heap.size < u10.heap.size := by omega
        replace lt4 : gbg0 < u10.heap.size := by omega
        have lt5 : gbh0 < u10.heap.size := by omega
        go_wp2_with fail
        refine (nf_eq_C _ _ _ _ _ _ _ _ (tC.read h0) (tC.read w0) (by omega)).mono ?_
        rintro e u11 ⟨rfl, bb⟩
        have G := bb
        have zu11 : u10.heap.size ≤ u11.heap.size := by have := bb.size; simpa using this
        replace pb0_0 : u11.cell? ⟨w.heap.size, 0, none⟩ = some (.slice A0 n0 c0) := by rw [G.cell (by first | omega | (simp; done) | (simp; omega))]; exact pb0_0
        replace pb1_0 : u11.cell? ⟨w.heap.size + 1, 0, none⟩ = some (.int .i64 a1_0) := by rw [G.cell (by first | omega | (simp; done) | (simp; omega))]; exact pb1_0
        replace pb1_1 : u11.cell? ⟨w.heap.size + 1, 1, none⟩ = some (.int .i64 a1_1) := by rw [G.cell (by first | omega | (simp; done) | (simp; omega))]; exact pb1_1
        replace wb0_0 : u11.cell? ⟨gbw0, 0, none⟩ = some (.slice Aw0 nw0 cw0) := by rw [G.cell (by first | omega | (simp; done) | (simp; omega))]; exact wb0_0
        replace xb0_0 : u11.cell? ⟨u2.heap.size, 0, none⟩ = some (.slice Ax0o nx0o cx0o) := by rw [G.cell (by first | omega | (simp; done) | (simp; omega))]; exact xb0_0
        replace gb0_0 : u11.cell? ⟨gbg0, 0, none⟩ = some (.slice Ag0 ng0 cg0) := by rw [G.cell (by first | omega | (simp; done) | (simp; omega))]; exact gb0_0
        replace hb0_0 : u11.cell? ⟨gbh0, 0, none⟩ = some (.slice Ah0 nh0 ch0) := by rw [G.cell (by first | omega | (simp; done) | (simp; omega))]; exact hb0_0
        replace w0 := tC.obelow w0 G (by omega)
        replace g0 := tC.obelow g0 G (by omega)
        replace h0 := tC.obelow h0 G (by omega)
        replace B := bel_trans B G
        clear G bb
        replace lt0 : w.heap.size < u11.heap.size := by omega
        replace lt1 : w.heap.size + 1 < u11.heap.size := by omega
        replace lt2 : gbw0 < u11.heap.size := by omega
        replace lt3 : u2.heap.size < u11.heap.size := by omega
        replace lt4 : gbg0 < u11.heap.size := by omega
        replace lt5 : gbh0 < u11.heap.size := by omega
        go_wp2_with fail
        refine (nf_held_C _ _ _ _ _ _ (tC.read g0) (by omega)).mono ?_
        rintro e u12 ⟨rfl, bb⟩
        have G := bb
        have zu12 : u11.heap.size ≤ u12.heap.size := by have := bb.size; simpa using this
        replace pb0_0 : u12.cell? ⟨w.heap.size, 0, none⟩ = some (.slice A0 n0 c0) := by rw [G.cell (by first | omega | (simp; done) | (simp; omega))]; exact pb0_0
        replace pb1_0 : u12.cell? ⟨w.heap.size + 1, 0, none⟩ = some (.int .i64 a1_0) := by rw [G.cell (by first | omega | (simp; done) | (simp; omega))]; exact pb1_0
        replace pb1_1 : u12.cell? ⟨w.heap.size + 1, 1, none⟩ = some (.int .i64 a1_1) := by rw [G.cell (by first | omega | (simp; done) | (simp; omega))]; exact pb1_1
        replace wb0_0 : u12.cell? ⟨gbw0, 0, none⟩ = some (.slice Aw0 nw0 cw0) := by rw [G.cell (by first | omega | (simp; done) | (simp; omega))]; exact wb0_0
        replace xb0_0 : u12.cell? ⟨u2.heap.size, 0, none⟩ = some (.slice Ax0o nx0o cx0o) := by rw [G.cell (by first | omega | (simp; done) | (simp; omega))]; exact xb0_0
        replace gb0_0 : u12.cell? ⟨gbg0, 0, none⟩ = some (.slice Ag0 ng0 cg0) := by rw [G.cell (by first | omega | (simp; done) | (simp; omega))]; exact gb0_0
        replace hb0_0 : u12.cell? ⟨gbh0, 0, none⟩ = some (.slice Ah0 nh0 ch0) := by rw [G.cell (by first | omega | (simp; done) | (simp; omega))]; exact hb0_0
        replace w0 := tC.obelow w0 G (by omega)
        replace g0 := tC.obelow g0 G (by omega)
        replace h0 := tC.obelow h0 G (by omega)
        replace B := bel_trans B G
        clear G bb
        replace lt0 : w.heap.size < u12.heap.size := by omega
        replace lt1 : w.heap.size + 1 < u12.heap.size := by omega
        replace lt2 : gbw0 < u12.heap.size := by omega
        replace lt3 : u2.heap.size < u12.heap.size := by omega
        replace lt4 : gbg0 < u12.heap.size := by omega
        replace lt5 : gbh0 < u12.heap.size := by omega
        go_wp2_with fail
        go_ret
        exact ⟨rfl, B⟩
end Go.Proofs.Ytckihflfjecpbaa
