import Derived.Test.YtckihflfjecpbaaFnSplitG6
import Derived.RegionTactic
import Derived.ChangeAlike
import Derived.BigRegion
import Derived.Test.YtckihflfjecpbaaFnSplitG4
import Derived.Test.YtckihflfjecpbaaFnSplitG5
import Derived.Test.YtckihflfjecpbaaFnSplitG3
import Derived.StillTailTactics
import Derived.Deep.QuietTactic
import Derived.BigQuiet
import Derived.Test.YtckihflfjecpbaaFnSplitG2
import Derived.Deep.Slices
import Derived.Deep.Fields
import Derived.ChangeSame
import Derived.Lib.SmallJoins
set_option linter.unusedVariables false
set_option linter.unusedSimpArgs false
namespace Go.Proofs.Ytckihflfjecpbaa
open Go.RowKit
set_option maxHeartbeats 4000000
set_option maxRecDepth 100000
/-- A clip is cut in two at a sample. -/
def M.splitP (xs : List Clip) (k : Nat) (c : Clip) (t : Int) : List Clip := M.putP (xs.set k (c.1, c.2.1, t - c.2.2.2.1, c.2.2.2.1, c.2.2.2.2)) (c.1, c.2.1 + t - c.2.2.2.1, c.2.2.2.1 + c.2.2.1 - t, t, c.2.2.2.2)
theorem impl_SplitClip_range (A : Option Addr) (n c k : Nat) (xs : List Clip) (q0 q1 q2 q3 q4 t : Int) (w : World) (hx : RA cl 5 w w.heap.size A n xs) (hok : M.trackOk xs = true) (hk : k < n) (hX : xs[k]? = some (q0, q1, q2, q3, q4)) (ht : t ≤ q3) :
    Calls Try.prog 59 #[.agg #[.slice A n c], .int .i64 k, .int .i64 t] w fun e w' => e = .returned (.tuple #[.agg #[.slice none 0 0], .int .i64 2]) ∧ Below w.heap.size w w' := by
  have hl := Lib.hid hx.len
  have X := Lib.hid hX
  have h12 : n ≤ 12 := by have := M.track_len hok; rw [hl.out] at this; exact this
  have hcb := M.clip_bd (M.track_clip hok hX)
  simp only at hcb
  have hask := Lib.hid (show M.askT xs (k : Int) = 0 by rw [M.askT, hok, M.inn_iff.2 (by rw [hl.out]; omega)]; rfl)
  obtain ⟨W, hW⟩ : ∃ W, W = (w.alloc (.cells #[.slice A n c] 65)).alloc (.cells #[.slice none 0 0] 65) := ⟨_, rfl⟩
  have B0 : Below w.heap.size w W := by rw [hW]; exact ((Below.refl _ _).alloc (Nat.le_refl _) _).alloc (by simp) _
  have z0 : w.heap.size + 1 < W.heap.size := by rw [hW]; simp
  have c0 : W.cell? ⟨w.heap.size, 0, none⟩ = some (.slice A n c) := by rw [hW]; simp [go_sem]
  have r0 : W.cell? ⟨w.heap.size + 1, 0, none⟩ = some (.slice none 0 0) := by rw [hW]; simp [go_sem]
  have f0 : W.frozen? ⟨w.heap.size + 1, 0, none⟩ = false := by rw [hW]; simp [go_sem]
  have HW := Lib.hid hW
  have OK := Lib.hid hok
  clear hW hok hX
  have hx1 := hx.later B0
  go_enter Try.func59, Try.ntmps59
  go_wp2_with fail
  rw [← HW.out]
  refine (impl_clipCode _ _ _ _ _ W hx1 (by omega)).mono ?_
  rw [hask.out]
  rintro e w2 ⟨rfl, b2⟩
  have c2 : w2.cell? ⟨w.heap.size, 0, none⟩ = some (.slice A n c) := by rw [b2.cell (by show w.heap.size < _; omega)]; exact c0
  have r2 : w2.cell? ⟨w.heap.size + 1, 0, none⟩ = some (.slice none 0 0) := by rw [b2.cell (by show w.heap.size + 1 < _; omega)]; exact r0
  have f2 : w2.frozen? ⟨w.heap.size + 1, 0, none⟩ = false := by rw [b2.frozen (by show w.heap.size + 1 < _; omega)]; exact f0
  have z2 := Nat.lt_of_lt_of_le z0 b2.size
  have z2' : w.heap.size < w2.heap.size := by omega
  have B2 := bel_trans B0 b2
  have hx2 := hx1.later b2
  obtain ⟨b, o, y, rfl, hab, Y, hcc⟩ := hx2.at cl_len (by decide) hk
  obtain rfl : y = (q0, q1, q2, q3, q4) := by have := Y.out; rw [X.out] at this; injection this with this; exact this.symm
  have d0 : w2.cell? ⟨b, o + k * 5, none⟩ = some (.int .i64 q0) := hcc 0 _ rfl
  have d1 : w2.cell? ⟨b, o + k * 5 + 1, none⟩ = some (.int .i64 q1) := hcc 1 _ rfl
  have d2 : w2.cell? ⟨b, o + k * 5 + 2, none⟩ = some (.int .i64 q2) := hcc 2 _ rfl
  have d3 : w2.cell? ⟨b, o + k * 5 + 3, none⟩ = some (.int .i64 q3) := hcc 3 _ rfl
  have d4 : w2.cell? ⟨b, o + k * 5 + 4, none⟩ = some (.int .i64 q4) := hcc 4 _ rfl
  have i1 : (0 : Int) ≤ (k : Int) := by omega
  have i2 : (k : Int) < (n : Int) := by omega
  clear hcc c0 r0 f0 hx1
  go_wp2
  refine bodyPost_ret (v := .tuple #[.agg #[.slice none 0 0], .int .i64 2]) (by simp [results, Try.results59, go_sem, r2, f2, z2]) rfl ?_
  exact ⟨rfl, by first | exact (B2.alloc B2.size _).setCell (by simp) _ | exact (B2.setCell (by simp) _).alloc (by simp; omega) _⟩
theorem impl_SplitClip_ok (A : Option Addr) (n c k : Nat) (xs : List Clip) (q0 q1 q2 q3 q4 t : Int) (w : World) (hx : RA cl 5 w w.heap.size A n xs) (hok : M.trackOk xs = true) (hk : k < n) (hX : xs[k]? = some (q0, q1, q2, q3, q4)) (ht : q3 < t) (ht2 : t < q3 + q2) (hn : n ≤ 11) :
    Calls Try.prog 59 #[.agg #[.slice A n c], .int .i64 k, .int .i64 t] w fun e w' => ∃ A' c', e = .returned (.tuple #[.agg #[.slice A' (n + 1) c'], .int .i64 0]) ∧ RA cl 5 w' w'.heap.size A' (n + 1) (M.splitP xs k (q0, q1, q2, q3, q4) t) ∧ n + 1 ≤ c' ∧ c' ≤ maxLen ∧ Below w.heap.size w w' := by
  have hl := Lib.hid hx.len
  have X := Lib.hid hX
  have h12 : n ≤ 12 := by have := M.track_len hok; rw [hl.out] at this; exact this
  have hcb := M.clip_bd (M.track_clip hok hX)
  simp only at hcb
  have hask := Lib.hid (show M.askT xs (k : Int) = 0 by rw [M.askT, hok, M.inn_iff.2 (by rw [hl.out]; omega)]; rfl)
  obtain ⟨W, hW⟩ : ∃ W, W = (w.alloc (.cells #[.slice A n c] 65)).alloc (.cells #[.slice none 0 0] 65) := ⟨_, rfl⟩
  have B0 : Below w.heap.size w W := by rw [hW]; exact ((Below.refl _ _).alloc (Nat.le_refl _) _).alloc (by simp) _
  have z0 : w.heap.size + 1 < W.heap.size := by rw [hW]; simp
  have c0 : W.cell? ⟨w.heap.size, 0, none⟩ = some (.slice A n c) := by rw [hW]; simp [go_sem]
  have r0 : W.cell? ⟨w.heap.size + 1, 0, none⟩ = some (.slice none 0 0) := by rw [hW]; simp [go_sem]
  have f0 : W.frozen? ⟨w.heap.size + 1, 0, none⟩ = false := by rw [hW]; simp [go_sem]
  have HW := Lib.hid hW
  have OK := Lib.hid hok
  clear hW hok hX
  have hx1 := hx.later B0
  go_enter Try.func59, Try.ntmps59
  go_wp2_with fail
  rw [← HW.out]
  refine (impl_clipCode _ _ _ _ _ W hx1 (by omega)).mono ?_
  rw [hask.out]
  rintro e w2 ⟨rfl, b2⟩
  have c2 : w2.cell? ⟨w.heap.size, 0, none⟩ = some (.slice A n c) := by rw [b2.cell (by show w.heap.size < _; omega)]; exact c0
  have r2 : w2.cell? ⟨w.heap.size + 1, 0, none⟩ = some (.slice none 0 0) := by rw [b2.cell (by show w.heap.size + 1 < _; omega)]; exact r0
  have f2 : w2.frozen? ⟨w.heap.size + 1, 0, none⟩ = false := by rw [b2.frozen (by show w.heap.size + 1 < _; omega)]; exact f0
  have z2 := Nat.lt_of_lt_of_le z0 b2.size
  have z2' : w.heap.size < w2.heap.size := by omega
  have B2 := bel_trans B0 b2
  have hx2 := hx1.later b2
  obtain ⟨b, o, y, rfl, hab, Y, hcc⟩ := hx2.at cl_len (by decide) hk
  obtain rfl : y = (q0, q1, q2, q3, q4) := by have := Y.out; rw [X.out] at this; injection this with this; exact this.symm
  have d0 : w2.cell? ⟨b, o + k * 5, none⟩ = some (.int .i64 q0) := hcc 0 _ rfl
  have d1 : w2.cell? ⟨b, o + k * 5 + 1, none⟩ = some (.int .i64 q1) := hcc 1 _ rfl
  have d2 : w2.cell? ⟨b, o + k * 5 + 2, none⟩ = some (.int .i64 q2) := hcc 2 _ rfl
  have d3 : w2.cell? ⟨b, o + k * 5 + 3, none⟩ = some (.int .i64 q3) := hcc 3 _ rfl
  have d4 : w2.cell? ⟨b, o + k * 5 + 4, none⟩ = some (.int .i64 q4) := hcc 4 _ rfl
  have i1 : (0 : Int) ≤ (k : Int) := by omega
  have i2 : (k : Int) < (n : Int) := by omega
  clear hcc c0 r0 f0 hx1
  have hpl := Lib.hid (show (M.splitP xs k (q0, q1, q2, q3, q4) t).length = n + 1 by rw [M.splitP, M.putP_len, List.length_set, hl.out])
  have hn12 : ((n : Int) == 12) = false := by simp; omega
  have n1 : ¬ t ≤ q3 := by omega
  have n2 : ¬ q3 + q2 ≤ t := by omega
  obtain ⟨U, hU⟩ : ∃ U, U = w2.alloc (.cells #[.int .i64 q0, .int .i64 q1, .int .i64 q2, .int .i64 q3, .int .i64 q4] 78) := ⟨_, rfl⟩
  have bU : Below w2.heap.size w2 U := by rw [hU]; exact (Below.refl _ _).alloc (Nat.le_refl _) _
  have u0 : U.cell? ⟨w2.heap.size, 0, none⟩ = some (.int .i64 q0) := by rw [hU]; simp [go_sem]
  have u1 : U.cell? ⟨w2.heap.size, 1, none⟩ = some (.int .i64 q1) := by rw [hU]; simp [go_sem]
  have u2 : U.cell? ⟨w2.heap.size, 2, none⟩ = some (.int .i64 q2) := by rw [hU]; simp [go_sem]
  have u3 : U.cell? ⟨w2.heap.size, 3, none⟩ = some (.int .i64 q3) := by rw [hU]; simp [go_sem]
  have u4 : U.cell? ⟨w2.heap.size, 4, none⟩ = some (.int .i64 q4) := by rw [hU]; simp [go_sem]
  have zU : w2.heap.size < U.heap.size := by rw [hU]; simp
  have HU := Lib.hid hU
  clear hU
  have cU : U.cell? ⟨w.heap.size, 0, none⟩ = some (.slice (some ⟨b, o, none⟩) n c) := by rw [bU.cell (by show w.heap.size < _; omega)]; exact c2
  have rU : U.cell? ⟨w.heap.size + 1, 0, none⟩ = some (.slice none 0 0) := by rw [bU.cell (by show w.heap.size + 1 < _; omega)]; exact r2
  have fU : U.frozen? ⟨w.heap.size + 1, 0, none⟩ = false := by rw [bU.frozen (by show w.heap.size + 1 < _; omega)]; exact f2
  have BU := bel_trans B2 bU
  have hxU := hx2.later bU
  go_wp2_with fail
  rw [← HU.out]
  refine (slices_Clone_impl_Clip_impl_Clip _ _ _ _ U hxU (by omega)).mono ?_
  rintro e w3 ⟨v3, rfl, own3, b3⟩
  clear c2 r2 f2 d0 d1 d2 d3 d4
  obtain ⟨A3, c3, rfl, -⟩ := own3.shape
  rw [hl.out] at own3 ⊢
  have B3 := bel_trans BU b3
  have s3 := b3.size
  have v0 : w3.cell? ⟨w2.heap.size, 0, none⟩ = some (.int .i64 q0) := by rw [b3.cell zU]; exact u0
  have v1 : w3.cell? ⟨w2.heap.size, 1, none⟩ = some (.int .i64 q1) := by rw [b3.cell zU]; exact u1
  have v2 : w3.cell? ⟨w2.heap.size, 2, none⟩ = some (.int .i64 q2) := by rw [b3.cell zU]; exact u2
  have v3 : w3.cell? ⟨w2.heap.size, 3, none⟩ = some (.int .i64 q3) := by rw [b3.cell zU]; exact u3
  have v4 : w3.cell? ⟨w2.heap.size, 4, none⟩ = some (.int .i64 q4) := by rw [b3.cell zU]; exact u4
  have c3' : w3.cell? ⟨w.heap.size, 0, none⟩ = some (.slice (some ⟨b, o, none⟩) n c) := by rw [b3.cell (by show w.heap.size < _; omega)]; exact cU
  have r3 : w3.cell? ⟨w.heap.size + 1, 0, none⟩ = some (.slice none 0 0) := by rw [b3.cell (by show w.heap.size + 1 < _; omega)]; exact rU
  have f3 : w3.frozen? ⟨w.heap.size + 1, 0, none⟩ = false := by rw [b3.frozen (by show w.heap.size + 1 < _; omega)]; exact fU
  clear u0 u1 u2 u3 u4 cU rU fU
  obtain ⟨g, rfl, hg1, hg2, hg3, -⟩ := own3.form (by omega)
  have e2 := (OA.cell cl_len own3 X.out (j := 2) (u := .int .i64 q2) rfl).1
  have e2f := (OA.cell cl_len own3 X.out (j := 2) (u := .int .i64 q2) rfl).2
  have z3 : w2.heap.size < w3.heap.size := by omega
  have z3' : w.heap.size + 1 < w3.heap.size := by omega
  have z3'' : w.heap.size < w3.heap.size := by omega
  have hne1 : g ≠ w2.heap.size := by omega
  have hne2 : w2.heap.size ≠ g := by omega
  have hne3 : w2.heap.size ≠ w3.heap.size := by omega
  have hne4 : w3.heap.size ≠ w2.heap.size := by omega
  have hne5 : g ≠ w3.heap.size := by omega
  have hne6 : w3.heap.size ≠ g := by omega
  go_wp2
  obtain ⟨V, hV⟩ : ∃ V, V = ((w3.setCell ⟨g, k * 5 + 2, none⟩ (.int .i64 (t - q3))).alloc (.cells #[.slice (some ⟨g, 0, none⟩) n c3] 65)).alloc (.cells #[.int .i64 q0, .int .i64 q1, .int .i64 q2, .int .i64 q3, .int .i64 q4] 78) := ⟨_, rfl⟩
  rw [← hV]
  have zs : (w3.setCell ⟨g, k * 5 + 2, none⟩ (.int .i64 (t - q3))).heap.size = w3.heap.size := by simp
  have oset := OA.set cl_len own3 X.out (j := 2) (y := (q0, q1, t - q3, q3, q4)) (u := .int .i64 (t - q3)) (by decide) rfl
  have bs : Below w3.heap.size (w3.setCell ⟨g, k * 5 + 2, none⟩ (.int .i64 (t - q3))) V := by rw [hV]; exact ((Below.refl _ _).alloc (by rw [zs]; exact Nat.le_refl _) _).alloc (by simp) _
  have zV : V.heap.size = w3.heap.size + 1 + 1 := by rw [hV]; simp
  have y2 : V.cell? ⟨w2.heap.size, 2, none⟩ = some (.int .i64 q2) := by rw [bs.cell z3]; simp [go_sem, hne1, hne2, v2]
  have y1 : V.cell? ⟨w2.heap.size, 1, none⟩ = some (.int .i64 q1) := by rw [bs.cell z3]; simp [go_sem, hne1, hne2, v1]
  have y3 : V.cell? ⟨w2.heap.size, 3, none⟩ = some (.int .i64 q3) := by rw [bs.cell z3]; simp [go_sem, hne1, hne2, v3]
  have x0 : V.cell? ⟨w3.heap.size + 1, 0, none⟩ = some (.int .i64 q0) := by rw [hV]; simp [go_sem]
  have x1 : V.cell? ⟨w3.heap.size + 1, 1, none⟩ = some (.int .i64 q1) := by rw [hV]; simp [go_sem]
  have x2 : V.cell? ⟨w3.heap.size + 1, 2, none⟩ = some (.int .i64 q2) := by rw [hV]; simp [go_sem]
  have x3 : V.cell? ⟨w3.heap.size + 1, 3, none⟩ = some (.int .i64 q3) := by rw [hV]; simp [go_sem]
  have x4 : V.cell? ⟨w3.heap.size + 1, 4, none⟩ = some (.int .i64 q4) := by rw [hV]; simp [go_sem]
  have t1 : V.frozen? ⟨w3.heap.size + 1, 1, none⟩ = false := by rw [hV]; simp [go_sem]
  have t2 : V.frozen? ⟨w3.heap.size + 1, 2, none⟩ = false := by rw [hV]; simp [go_sem]
  have t3 : V.frozen? ⟨w3.heap.size + 1, 3, none⟩ = false := by rw [hV]; simp [go_sem]
  have o0 : V.cell? ⟨w3.heap.size, 0, none⟩ = some (.slice (some ⟨g, 0, none⟩) n c3) := by rw [hV]; simp [go_sem]
  have rV : V.cell? ⟨w.heap.size + 1, 0, none⟩ = some (.slice none 0 0) := by rw [bs.cell z3', World.cell?_of_block (oset.2.block _ z3' (.inl (by show w.heap.size + 1 < _; omega)))]; exact r3
  have fV : V.frozen? ⟨w.heap.size + 1, 0, none⟩ = false := by rw [bs.frozen z3', World.frozen?_of_block (oset.2.block _ z3' (.inl (by show w.heap.size + 1 < _; omega)))]; exact f3
  have hm7 : w3.heap.size + 1 ≠ w2.heap.size := by omega
  have hm8 : w2.heap.size ≠ w3.heap.size + 1 := by omega
  have HV := Lib.hid hV
  have ZV := Lib.hid zV
  clear hV zV v0 v1 v2 v3 v4 c3' r3 f3 e2 e2f
  go_region
  go_wp2_with fail
  obtain ⟨Z, hZ⟩ : ∃ Z, Z = (((V.setCell ⟨w3.heap.size + 1, 1, none⟩ (.int .i64 (q1 + t - q3))).setCell ⟨w3.heap.size + 1, 2, none⟩ (.int .i64 (q3 + q2 - t))).setCell ⟨w3.heap.size + 1, 3, none⟩ (.int .i64 t)).drew := ⟨_, rfl⟩
  rw [← hZ]
  have mZ : Mid (w3.heap.size + 1) (w3.heap.size + 1 + 1) V Z := by
    rw [hZ]
    exact (((Mid.cell V _ 1 _).trans (Mid.cell _ _ 2 _)).trans (Mid.cell _ _ 3 _)).trans ⟨rfl, rfl, rfl, Nat.le_refl _, fun _ _ _ => rfl⟩
  have zVV := ZV.out
  have oZ := (oset.1.below bs (Nat.le_refl _)).mid mZ (.inl (by omega)) (by omega)
  have hset := Lib.hid (show (xs.set k (q0, q1, t - q3, q3, q4)).length = n by rw [List.length_set, hl.out])
  have hxZ : RA cl 5 Z Z.heap.size (some ⟨g, 0, none⟩) n (xs.set k (q0, q1, t - q3, q3, q4)) := by
    obtain ⟨A9, c9, hv, h9⟩ := oZ.shape
    rw [hset.out] at hv h9
    simp only [Value.slice.injEq] at hv
    obtain ⟨rfl, -, rfl⟩ := hv
    exact h9
  have rZ : Z.cell? ⟨w.heap.size + 1, 0, none⟩ = some (.slice none 0 0) := mZ.cellK (by omega) (.inl (by omega)) rV
  have fZ : Z.frozen? ⟨w.heap.size + 1, 0, none⟩ = false := mZ.frozK (by omega) (.inl (by omega)) fV
  have sZ := mZ.size
  have bsB : Below U.heap.size w3 (w3.setCell ⟨g, k * 5 + 2, none⟩ (.int .i64 (t - q3))) := oset.2.toBelow (by omega)
  have BZ : Below w.heap.size w Z := ((B3.trans (bsB.mono (by have := BU.size; omega))).trans (bs.mono (by have := B3.size; omega))).trans ((mZ.toBelow (by omega)).mono (by have := B3.size; omega))
  have HZ := Lib.hid hZ
  clear hZ rV fV x0 x1 x2 x3 x4 t1 t2 t3 o0 y1 y2 y3 zVV
  refine (impl_put _ _ _ _ q0 (q1 + t - q3) (q3 + q2 - t) t q4 Z hxZ (by omega)).mono ?_
  rintro e w5 ⟨v5, rfl, own5, b5⟩
  obtain ⟨A5, c5, rfl, -⟩ := own5.shape
  have HP := Lib.hid (show M.putP (xs.set k (q0, q1, t - q3, q3, q4)) (q0, q1 + t - q3, q3 + q2 - t, t, q4) = M.splitP xs k (q0, q1, q2, q3, q4) t from rfl)
  rw [HP.out] at own5 ⊢
  rw [hpl.out] at own5 ⊢
  have zz : w.heap.size + 1 < Z.heap.size := by have := ZV.out; omega
  have tq : w5.cell? ⟨w.heap.size + 1, 0, none⟩ = some (.slice none 0 0) := by rw [b5.cell zz]; exact rZ
  have tf : w5.frozen? ⟨w.heap.size + 1, 0, none⟩ = false := by rw [b5.frozen zz]; exact fZ
  have l5 := Nat.lt_of_lt_of_le zz b5.size
  have s5 := b5.size
  have B5 := bel_trans BZ b5
  clear rZ fZ
  go_wp2
  have uq : ((w5.setCell ⟨w.heap.size + 1, 0, none⟩ (.slice A5 (n + 1) c5)).alloc (.cells #[.slice A5 (n + 1) c5] 65)).cell? ⟨w.heap.size + 1, 0, none⟩ = some (.slice A5 (n + 1) c5) := by rw [World.cell?_alloc_lt _ _ _ (by simpa using l5)]; simp [go_sem, tq, tf]
  refine bodyPost_ret (v := .tuple #[.agg #[.slice A5 (n + 1) c5], .int .i64 0]) (by simp [results, Try.results59, go_sem, uq]) rfl ?_
  have hm : Mid (w.heap.size + 1) (w.heap.size + 1 + 1) w5 (w5.setCell ⟨w.heap.size + 1, 0, none⟩ (.slice A5 (n + 1) c5)) := Mid.cell w5 _ 0 _
  have o5 := (own5.mid hm (.inr (by omega)) (Nat.le_refl _)).below ((Below.refl _ _).alloc (Nat.le_refl _) (.cells #[.slice A5 (n + 1) c5] 65)) hm.size
  obtain ⟨A9, c9, hv, h9⟩ := o5.shape
  rw [hpl.out] at hv h9
  simp only [Value.slice.injEq] at hv
  obtain ⟨rfl, -, rfl⟩ := hv
  exact ⟨_, _, rfl, h9, OA.cap o5 |>.1, OA.cap o5 |>.2, (B5.setCell (by simp) _).alloc (by simp; omega) _⟩
end Go.Proofs.Ytckihflfjecpbaa
namespace Go.Proofs.Ytckihflfjecpbaa
open Go.RowKit
set_option maxHeartbeats 1000000
/-! Splitting, merging, moving and trimming, in plain words. -/
theorem M.clipAt_join (src : List (List Int)) (s f l a g m : Int) (i : Int) (hl : 0 ≤ l) (hm : 0 ≤ m) :
    M.clipAt src (s, f, l + m, a, g) i = M.clipAt src (s, f, l, a, g) i + M.clipAt src (s, f + l, m, a + l, g) i := by
  unfold M.clipAt
  simp only
  by_cases h1 : a ≤ i ∧ i < a + l
  · rw [if_pos (by omega), if_pos h1, if_neg (by omega), Int.add_zero]
  · by_cases h2 : a + l ≤ i ∧ i < a + l + m
    · rw [if_pos (by omega), if_neg h1, if_pos h2, Int.zero_add, show f + l + (i - (a + l)) = f + (i - a) by omega]
    · rw [if_neg (by omega), if_neg h1, if_neg h2]
      rfl
theorem M.set_perm {xs : List Clip} {k : Nat} (hk : k < xs.length) (y : Clip) : (xs.set k y).Perm (y :: M.dropP xs k) := by
  have h : xs.set k y = xs.take k ++ y :: xs.drop (k + 1) := List.set_eq_take_append_cons_drop ▸ by rw [if_pos hk]
  rw [h]
  exact List.perm_middle
theorem M.set_sort {xs : List Clip} {k : Nat} {y : Clip} (hk : k < xs.length) (hs : xs.Pairwise M.byT) (hy : y.2.2.2.1 = (xs[k]).2.2.2.1) : (xs.set k y).Pairwise M.byT := by
  rw [List.pairwise_iff_getElem] at hs ⊢
  intro i j hi hj hij
  rw [List.length_set] at hi hj
  have h1 := hs i j hi hj hij
  unfold M.byT at h1 ⊢
  rw [List.getElem_set, List.getElem_set]
  by_cases hik : k = i
  · subst hik
    rw [if_pos rfl, if_neg (by omega), hy]
    exact h1
  · rw [if_neg hik]
    by_cases hjk : k = j
    · subst hjk
      rw [if_pos rfl, hy]
      exact h1
    · rw [if_neg hjk]
      exact h1
theorem M.putK_gt {xs : List Clip} {a : Int} {k : Nat} (hs : xs.Pairwise M.byT) (hk : k < xs.length) (h : (xs[k]).2.2.2.1 ≤ a) : k < M.putK xs a := by
  rcases Nat.lt_or_ge k (M.putK xs a) with h1 | h1
  · exact h1
  · exfalso
    have hm : xs[k] ∈ xs.drop (M.putK xs a) := by
      rw [List.mem_drop_iff_getElem]
      exact ⟨k - M.putK xs a, by omega, by congr 1; omega⟩
    have := M.putK_high hs hm
    omega
theorem M.putP_at {xs : List Clip} {x : Clip} {k : Nat} (h : k < M.putK xs x.2.2.2.1) : (M.putP xs x)[k]? = xs[k]? := by
  have hl := M.putK_le xs x.2.2.2.1
  rw [M.putP_eq, List.getElem?_append_left (by rw [List.length_take]; omega), List.getElem?_take, if_pos h]
theorem M.hasS_perm {xs ys : List Clip} {m : Int} (h : xs.Perm ys) (hx : M.hasS xs m = true) : M.hasS ys m = true := by
  rw [M.hasS, List.all_eq_true] at hx ⊢
  exact fun c hc => hx c (h.mem_iff.2 hc)
theorem M.clip_of {s f l a g : Int} (h : (0 ≤ s ∧ s ≤ 5) ∧ (1 ≤ l ∧ l ≤ 4000) ∧ (0 ≤ f ∧ f ≤ 4000 - l) ∧ (0 ≤ a ∧ a ≤ 4000 - l) ∧ -2147483648 ≤ g ∧ g ≤ 2147483647) : M.clipOk (s, f, l, a, g) = true := by
  obtain ⟨h0, h1, h2, h3, h4⟩ := h
  simp only [M.clipOk, Bool.and_eq_true, M.inn_iff]
  refine ⟨⟨⟨⟨h0, h1⟩, h2⟩, h3⟩, ?_⟩
  simp [M.smp, M.inn]
  omega
/-- What FnSplit asks. -/
theorem M.split_law {src : List (List Int)} {xs : List Clip} {k : Nat} {q0 q1 q2 q3 q4 t m : Int} (hok : M.trackOk xs = true) (hh : M.hasS xs m = true) (hl : xs.length ≤ 10) (hX : xs[k]? = some (q0, q1, q2, q3, q4)) (h1 : q3 < t) (h2 : t < q3 + q2) :
    M.trackOk (M.splitP xs k (q0, q1, q2, q3, q4) t) = true ∧ M.hasS (M.splitP xs k (q0, q1, q2, q3, q4) t) m = true ∧ (M.splitP xs k (q0, q1, q2, q3, q4) t).length = xs.length + 1 ∧ (∀ n, M.renT src (M.splitP xs k (q0, q1, q2, q3, q4) t) n = M.renT src xs n) ∧
    ∃ zs, M.mergeR (M.splitP xs k (q0, q1, q2, q3, q4) t) k = (zs, 0) ∧ M.trackOk zs = true ∧ M.hasS zs m = true ∧ zs.length = xs.length ∧ ∀ n, M.renT src zs n = M.renT src xs n := by
  obtain ⟨hk, hxk⟩ := List.getElem?_eq_some_iff.1 hX
  obtain ⟨g1, g2, g3⟩ := (M.track_iff xs).1 hok
  have hcb := M.clip_bd (g1 _ (List.mem_of_getElem? hX))
  simp only at hcb
  have hsm : q0 < m := M.hasS_at hh hX
  -- the parts
  have ec : M.clipOk (q0, q1, t - q3, q3, q4) = true := M.clip_of (by omega)
  have er : M.clipOk (q0, q1 + t - q3, q3 + q2 - t, t, q4) = true := M.clip_of (by omega)
  have es : (xs.set k (q0, q1, t - q3, q3, q4)).Pairwise M.byT := M.set_sort hk g2 (by rw [hxk])
  have ep := M.set_perm hk (q0, q1, t - q3, q3, q4)
  have ex : xs.Perm ((q0, q1, q2, q3, q4) :: M.dropP xs k) := by have := M.dropP_perm hk; rwa [hxk] at this
  have mem1 : ∀ c ∈ xs.set k (q0, q1, t - q3, q3, q4), c = (q0, q1, t - q3, q3, q4) ∨ c ∈ xs := fun c hc => by
    rcases List.mem_cons.1 (ep.mem_iff.1 hc) with h | h
    · exact .inl h
    · exact .inr (ex.mem_iff.2 (List.mem_cons_of_mem _ h))
  obtain ⟨ys, hys⟩ : ∃ ys, ys = M.splitP xs k (q0, q1, q2, q3, q4) t := ⟨_, rfl⟩
  rw [← hys]
  have hys' : ys = M.putP (xs.set k (q0, q1, t - q3, q3, q4)) (q0, q1 + t - q3, q3 + q2 - t, t, q4) := hys
  have yp : ys.Perm ((q0, q1 + t - q3, q3 + q2 - t, t, q4) :: (q0, q1, t - q3, q3, q4) :: M.dropP xs k) := by
    rw [hys']
    exact (M.putP_perm _ _).trans (List.Perm.cons _ ep)
  have ymem : ∀ c ∈ ys, M.clipOk c = true ∧ c.1 < m := fun c hc => by
    rcases List.mem_cons.1 (yp.mem_iff.1 hc) with rfl | hc
    · exact ⟨er, hsm⟩
    · rcases List.mem_cons.1 hc with rfl | hc
      · exact ⟨ec, hsm⟩
      · have hx : c ∈ xs := ex.mem_iff.2 (List.mem_cons_of_mem _ hc)
        refine ⟨g1 c hx, ?_⟩
        rw [M.hasS, List.all_eq_true] at hh
        simpa using hh c hx
  have ysort : ys.Pairwise M.byT := by rw [hys']; exact M.putP_sort _ es
  have ylen : ys.length = xs.length + 1 := by rw [hys', M.putP_len, List.length_set]
  have yok : M.trackOk ys = true := (M.track_iff ys).2 ⟨fun c hc => (ymem c hc).1, ysort, by omega⟩
  have yhas : M.hasS ys m = true := by rw [M.hasS, List.all_eq_true]; intro c hc; simpa using (ymem c hc).2
  have ysum : ∀ i, M.trackSum src ys i = M.trackSum src xs i := fun i => by
    rw [M.trackSum_perm yp, M.trackSum_perm ex]
    simp only [M.trackSum]
    have := M.clipAt_join src q0 q1 (t - q3) q3 q4 (q3 + q2 - t) i (by omega) (by omega)
    rw [show t - q3 + (q3 + q2 - t) = q2 by omega, show q1 + (t - q3) = q1 + t - q3 by omega, show q3 + (t - q3) = t by omega] at this
    omega
  refine ⟨yok, yhas, ylen, fun n => M.renT_congr ysum n, ?_⟩
  -- merging
  have hk1 : k < (xs.set k (q0, q1, t - q3, q3, q4)).length := by rw [List.length_set]; exact hk
  have hyk : ys[k]? = some (q0, q1, t - q3, q3, q4) := by
    rw [hys', M.putP_at (M.putK_gt es hk1 (by rw [List.getElem_set_self]; simp only; omega)), List.getElem?_set_self hk]
  have hj : ∃ i, ys.findIdx? (M.joins (q0, q1, t - q3, q3, q4)) = some i := by
    rcases h : ys.findIdx? (M.joins (q0, q1, t - q3, q3, q4)) with _ | i
    · exfalso
      rw [List.findIdx?_eq_none_iff] at h
      have := h _ (yp.mem_iff.2 (List.mem_cons_self))
      simp [M.joins] at this
      omega
    · exact ⟨i, rfl⟩
  obtain ⟨i, hi⟩ := hj
  obtain ⟨hil, hij, _⟩ := List.findIdx?_eq_some_iff_getElem.1 hi
  obtain ⟨d, hd⟩ : ∃ d, d = ys[i] := ⟨_, rfl⟩
  rw [← hd] at hij
  obtain ⟨d0, d1, d2, d3, d4⟩ := d
  simp only [M.joins, Bool.and_eq_true, beq_iff_eq] at hij
  obtain ⟨⟨⟨j0, j4⟩, j1⟩, j3⟩ := hij
  subst j0 j4
  have hyi : ys[i]? = some (d0, d1, d2, d3, d4) := by rw [List.getElem?_eq_getElem hil, hd]
  have hdb := M.clip_bd (ymem _ (List.mem_of_getElem? hyi)).1
  simp only at hdb
  have hik : i ≠ k := fun e => by subst e; rw [hyk] at hyi; simp only [Option.some.injEq, Prod.mk.injEq] at hyi; omega
  have hkl : k < ys.length := by omega
  have hg : M.clipOk (d0, q1, t - q3 + d2, q3, d4) = true := M.clip_of (by omega)
  obtain ⟨us, hus⟩ : ∃ us, us = ys.set k (d0, q1, t - q3 + d2, q3, d4) := ⟨_, rfl⟩
  have hil2 : i < us.length := by rw [hus, List.length_set]; exact hil
  have hui : us[i]'hil2 = (d0, d1, d2, d3, d4) := by
    simp only [hus]
    rw [List.getElem_set_ne (fun e => hik e.symm)]
    exact hd.symm
  have hR : M.mergeR ys k = (M.dropP us i, 0) := by
    rw [M.mergeR, if_pos (by rw [M.askT, yok, M.inn_iff.2 (by omega)]; rfl), Int.toNat_natCast, hyk, Option.getD_some, hi]
    simp only
    rw [M.mergeAt, hyk, hyi, hus]
    rfl
  have up := M.dropP_perm hil2
  rw [hui] at up
  have up2 : us.Perm ((d0, q1, t - q3 + d2, q3, d4) :: M.dropP ys k) := by rw [hus]; exact M.set_perm hkl _
  have yk2 : ys.Perm ((d0, q1, t - q3, q3, d4) :: M.dropP ys k) := by
    have := M.dropP_perm hkl
    rwa [show ys[k] = (d0, q1, t - q3, q3, d4) by have := hyk; rw [List.getElem?_eq_getElem hkl, Option.some.injEq] at this; exact this] at this
  have zmem : ∀ c ∈ M.dropP us i, M.clipOk c = true ∧ c.1 < m := fun c hc => by
    have h1 : c ∈ us := up.mem_iff.2 (List.mem_cons_of_mem _ hc)
    rcases List.mem_cons.1 (up2.mem_iff.1 h1) with rfl | h2
    · exact ⟨hg, hsm⟩
    · exact ymem c (yk2.mem_iff.2 (List.mem_cons_of_mem _ h2))
  have usort : us.Pairwise M.byT := by
    rw [hus]
    refine M.set_sort hkl ysort ?_
    have := hyk
    rw [List.getElem?_eq_getElem hkl, Option.some.injEq] at this
    rw [this]
  have zlen : (M.dropP us i).length = xs.length := by rw [M.dropP_len us hil2, hus, List.length_set, ylen]; omega
  refine ⟨M.dropP us i, hR, (M.track_iff _).2 ⟨fun c hc => (zmem c hc).1, usort.sublist ?_, by omega⟩, ?_, zlen, fun n => M.renT_congr (fun q => ?_) n⟩
  · have h9 : us = us.take i ++ us[i] :: us.drop (i + 1) := by rw [← List.drop_eq_getElem_cons hil2, List.take_append_drop]
    conv => rhs; rw [h9]
    exact List.Sublist.append (List.Sublist.refl _) (List.sublist_cons_self _ _)
  · rw [M.hasS, List.all_eq_true]; intro c hc; simpa using (zmem c hc).2
  · rw [← ysum q]
    have s1 := M.trackSum_perm (src := src) up q
    have s2 := M.trackSum_perm (src := src) up2 q
    have s3 := M.trackSum_perm (src := src) yk2 q
    simp only [M.trackSum] at s1 s2 s3
    have s4 := M.clipAt_join src d0 q1 (t - q3) q3 d4 d2 q (by omega) (by omega)
    rw [show q1 + (t - q3) = d1 by omega, show q3 + (t - q3) = d3 by omega] at s4
    omega
end Go.Proofs.Ytckihflfjecpbaa
namespace Go.Proofs.Ytckihflfjecpbaa
open Go.RowKit
set_option maxHeartbeats 2000000
set_option maxRecDepth 100000
/-- The number that an input chooses. -/
def M.v8 (code : List UInt8) (k : Nat) (m : Int) : Int :=
  if m ≤ 1 ∨ code.length ≤ k then 0 else (if k + 1 < code.length then 256 * (((code[k]?).getD 0).toNat : Int) + (((code[k + 1]?).getD 0).toNat : Int) else (((code[k]?).getD 0).toNat : Int)) % m
theorem M.v8_bd (code : List UInt8) (k : Nat) (m : Int) : 0 ≤ M.v8 code k m ∧ (M.v8 code k m < m ∨ M.v8 code k m = 0) := by
  unfold M.v8
  split
  · exact ⟨by omega, .inr rfl⟩
  · split
    · exact ⟨Int.emod_nonneg _ (by omega), .inl (Int.emod_lt_of_pos _ (by omega))⟩
    · exact ⟨Int.emod_nonneg _ (by omega), .inl (Int.emod_lt_of_pos _ (by omega))⟩
theorem byte_val {w : World} {B : Nat} {A : Option Addr} {n c : Nat} {code : List UInt8} (hr : RS tU8 w B (.slice A n c) code) {k : Nat} (hk : k < n) :
    ∃ (bb o : Nat), A = some ⟨bb, o, none⟩ ∧ w.cell? ⟨bb, o + k, none⟩ = some (.int .u8 (((code[k]?).getD 0).toNat : Int)) := by
  obtain rfl : code.length = n := hr.cap.1
  obtain ⟨bb, o, c1, cs, hv, hab, -, hE, hc⟩ := hr.at (k := k) (by omega)
  simp only [Value.slice.injEq] at hv
  obtain ⟨rfl, -, rfl⟩ := hv
  rw [List.getElem?_eq_getElem hk, Option.getD_some]
  generalize code[k]'(by omega) = x at hE
  obtain rfl : cs = [.int .u8 (x.toNat : Int)] := hE
  have hx : w.cell? ⟨bb, o + k * 1, none⟩ = some (.int .u8 (x.toNat : Int)) := hc 0 _ rfl
  rw [Nat.mul_one] at hx
  exact ⟨bb, o, rfl, hx⟩
theorem laws_v8At_val (A : Option Addr) (n c : Nat) (code : List UInt8) (k : Nat) (m : Int) (B : Nat) (w : World) (hr : RS tU8 w B (.slice A n c) code) (hk : k ≤ 1000) (hm : m ≤ 1000000) :
    Calls Try.prog 34 #[.slice A n c, .int .i64 k, .int .i64 m] w fun e w' => e = .returned (.int .i64 (M.v8 code k m)) ∧ w = w' := by
  have hl : n ≤ 9223372036854775807 := by have h1 := hr.cap.2; unfold maxLen at h1; omega
  have hcl := Lib.hid hr.cap.1
  by_cases h1 : m ≤ 1
  · have R := Lib.hid (show M.v8 code k m = 0 by rw [M.v8, if_pos (.inl h1)])
    go_enter Try.func34, Try.ntmps34
    go_wp2
    go_ret
    exact ⟨ret_int R.out.symm, rfl⟩
  · by_cases hlt : k < n
    · obtain ⟨bb, o, rfl, hx⟩ := byte_val hr hlt
      have x1 : ((code[k]?).getD 0).toNat ≤ 255 := by have := ((code[k]?).getD 0).toNat_lt; omega
      have HX := Lib.hid hx
      have hlt' : (k : Int) < (n : Int) := by omega
      have hd1 : decide ((n : Int) ≤ (k : Int)) = false := by simp; omega
      have hd2 : decide (n ≤ k) = false := by simp; omega
      have hd3 : ¬ n ≤ k := by omega
      by_cases hl2 : k + 1 < n
      · obtain ⟨bb', o', he, hy⟩ := byte_val hr hl2
        simp only [Option.some.injEq, Addr.mk.injEq] at he
        obtain ⟨rfl, rfl, -⟩ := he
        have y1 : ((code[k + 1]?).getD 0).toNat ≤ 255 := by have := ((code[k + 1]?).getD 0).toNat_lt; omega
        have R := Lib.hid (show M.v8 code k m = (256 * (((code[k]?).getD 0).toNat : Int) + (((code[k + 1]?).getD 0).toNat : Int)) % m by rw [M.v8, if_neg (by rw [hcl.out]; omega), if_pos (by rw [hcl.out]; omega)])
        generalize ((code[k]?).getD 0).toNat = x at hx x1 R
        generalize ((code[k + 1]?).getD 0).toNat = y at hy y1 R
        have hl3 : (k : Int) + 1 < (n : Int) := by omega
        have hl4 : ((k : Int) + 1).toNat = k + 1 := by omega
        go_enter Try.func34, Try.ntmps34
        go_wp2
        go_ret
        exact ⟨ret_int R.out.symm, rfl⟩
      · have R := Lib.hid (show M.v8 code k m = (((code[k]?).getD 0).toNat : Int) % m by rw [M.v8, if_neg (by rw [hcl.out]; omega), if_neg (by rw [hcl.out]; omega)])
        generalize ((code[k]?).getD 0).toNat = x at hx x1 R
        have hl3 : ¬ (k : Int) + 1 < (n : Int) := by omega
        go_enter Try.func34, Try.ntmps34
        go_wp2
        go_ret
        exact ⟨ret_int R.out.symm, rfl⟩
    · have R := Lib.hid (show M.v8 code k m = 0 by rw [M.v8, if_pos (.inr (by rw [hcl.out]; omega))])
      have hd2 : n ≤ k := by omega
      go_enter Try.func34, Try.ntmps34
      go_wp2
      go_ret
      exact ⟨ret_int R.out.symm, rfl⟩
end Go.Proofs.Ytckihflfjecpbaa
namespace Go.Proofs.Ytckihflfjecpbaa
open Go.RowKit
set_option maxHeartbeats 4000000
set_option maxRecDepth 100000
/-- What the drawing of a clip gives back. -/
def DrewK (b lo : Nat) (A : Option Addr) (n c : Nat) (code : List UInt8) (K : Nat) (m : Int) (w : World) (e : Ending) (w' : World) : Prop :=
  ∃ p0 p1 p2 p3 p4, e = .returned (.agg #[.int .i64 p0, .int .i64 p1, .int .i64 p2, .int .i64 p3, .int .i64 p4]) ∧ Hid (M.clipDr m (p0, p1, p2, p3, p4)) ∧ Src w' b lo A n c code K ∧ Mid b (b + 1) w w'
theorem spec_l23DrawClip (b lo : Nat) (A : Option Addr) (n c : Nat) (code : List UInt8) (K : Nat) (m : Int) (w : World) (h : Src w b lo A n c code K) (hK : K ≤ 1000000) (hm : 1 ≤ m ∧ m ≤ 6) :
    Calls Try.prog 121 #[.pointer (some ⟨b, 0, none⟩), .int .i64 m] w (DrewK b lo A n c code (K + 10) m w) := by
  have hbw := h.lt
  obtain ⟨W, hW⟩ : ∃ W, W = w.alloc (.cells #[.int .i64 0, .int .i64 0, .int .i64 0, .int .i64 0, .int .i64 0] 78) := ⟨_, rfl⟩
  have B0 : Below w.heap.size w W := by rw [hW]; exact (Below.refl _ _).alloc (Nat.le_refl _) _
  have z0 : w.heap.size < W.heap.size := by rw [hW]; simp
  have q0 : ∀ j, j < 5 → W.cell? ⟨w.heap.size, j, none⟩ = some (.int .i64 0) ∧ W.frozen? ⟨w.heap.size, j, none⟩ = false := by
    intro j hj
    rw [hW]
    rcases (show j = 0 ∨ j = 1 ∨ j = 2 ∨ j = 3 ∨ j = 4 by omega) with rfl | rfl | rfl | rfl | rfl <;> exact ⟨by simp [go_sem], by simp [go_sem]⟩
  have Q0 := Lib.hid q0
  have HW := Lib.hid hW
  clear hW q0
  have s0 := h.below B0 hbw
  have M0 : Mid b (b + 1) w W := Mid.of_below B0 _ _
  go_enter Try.func121, Try.ntmps121
  go_wp2_with fail
  rw [← HW.out]
  refine (src_pick b lo A n c code K m W s0 (by omega) (by omega)).mono ?_
  rintro e w1 ⟨p0, rfl, ⟨p00, p01⟩, s1, m1⟩
  go_wp2_with fail
  refine (src_pick b lo A n c code _ 12 w1 s1 (by omega) (by omega)).mono ?_
  rintro e w2 ⟨p1, rfl, ⟨p10, p11⟩, s2, m2⟩
  go_wp2_with fail
  refine (src_pick b lo A n c code _ 12 w2 s2 (by omega) (by omega)).mono ?_
  rintro e w3 ⟨p2, rfl, ⟨p20, p21⟩, s3, m3⟩
  have p22 : p2 ≤ 11 := by omega
  go_wp2_with fail
  refine (src_pick b lo A n c code _ 30 w3 s3 (by omega) (by omega)).mono ?_
  rintro e w4 ⟨p3, rfl, ⟨p30, p31⟩, s4, m4⟩
  have M4 := (((M0.trans m1).trans m2).trans m3).trans m4
  have R4 := ((m1.trans m2).trans m3).trans m4
  have z4 := R4.size
  have b4 := s4.lt
  obtain ⟨U, hU⟩ : ∃ U, U = (w4.alloc (.cells #[.int .i64 p0, .int .i64 p1, .int .i64 (1 + p2), .int .i64 p3, .int .i64 0] 78)).alloc (.cells #[.int .i64 1, .int .i64 1, .int .i64 2, .int .i64 (-1), .int .i64 0, .int .i64 3, .int .i64 65536, .int .i64 (-2147483648)] 2) := ⟨_, rfl⟩
  have bU : Below w4.heap.size w4 U := by rw [hU]; exact ((Below.refl _ _).alloc (Nat.le_refl _) _).alloc (by simp) _
  have zU : U.heap.size = w4.heap.size + 1 + 1 := by rw [hU]; simp
  have e0 : U.cell? ⟨w4.heap.size, 0, none⟩ = some (.int .i64 p0) := by rw [hU]; simp [go_sem]
  have e1 : U.cell? ⟨w4.heap.size, 1, none⟩ = some (.int .i64 p1) := by rw [hU]; simp [go_sem]
  have e2 : U.cell? ⟨w4.heap.size, 2, none⟩ = some (.int .i64 (1 + p2)) := by rw [hU]; simp [go_sem]
  have e3 : U.cell? ⟨w4.heap.size, 3, none⟩ = some (.int .i64 p3) := by rw [hU]; simp [go_sem]
  have e4 : U.cell? ⟨w4.heap.size, 4, none⟩ = some (.int .i64 0) := by rw [hU]; simp [go_sem]
  have g4 : U.frozen? ⟨w4.heap.size, 4, none⟩ = false := by rw [hU]; simp [go_sem]
  have hl : ∀ j x, [(1 : Int), 1, 2, -1, 0, 3, 65536, -2147483648][j]? = some x → U.cell? ⟨w4.heap.size + 1, j, none⟩ = some (.int .i64 x) := by
    intro j x hx
    have hj : j < 8 := (List.getElem?_eq_some_iff.1 hx).1
    rw [hU]
    rcases (show j = 0 ∨ j = 1 ∨ j = 2 ∨ j = 3 ∨ j = 4 ∨ j = 5 ∨ j = 6 ∨ j = 7 by omega) with rfl | rfl | rfl | rfl | rfl | rfl | rfl | rfl <;> (simp at hx; subst hx; simp [go_sem])
  have HL := Lib.hid hl
  have HU := Lib.hid hU
  have ZU := Lib.hid zU
  clear hU hl zU
  have zU' : w4.heap.size + 1 < U.heap.size := by rw [ZU.out]; omega
  have sU := s4.below bU b4
  have MU : Mid b (b + 1) w U := M4.thenB' bU (by have := M4.size; omega)
  go_wp2_with fail
  rw [← HU.out]
  refine (src_among b lo A n c code _ (w4.heap.size + 1) 8 8 [1, 1, 2, -1, 0, 3, 65536, -2147483648] U sU (by omega) rfl (by omega) (by omega) zU' HL.out).mono ?_
  rintro e w5 ⟨p4, rfl, hp4, s5, m5⟩
  have p41 : -2147483648 ≤ p4 ∧ p4 ≤ 2147483647 := by simp at hp4; omega
  have z5 := m5.size
  have f0 : w5.cell? ⟨w4.heap.size, 0, none⟩ = some (.int .i64 p0) := m5.cellK (by omega) (.inr (by omega)) e0
  have f1 : w5.cell? ⟨w4.heap.size, 1, none⟩ = some (.int .i64 p1) := m5.cellK (by omega) (.inr (by omega)) e1
  have f2 : w5.cell? ⟨w4.heap.size, 2, none⟩ = some (.int .i64 (1 + p2)) := m5.cellK (by omega) (.inr (by omega)) e2
  have f3 : w5.cell? ⟨w4.heap.size, 3, none⟩ = some (.int .i64 p3) := m5.cellK (by omega) (.inr (by omega)) e3
  have f4 : w5.cell? ⟨w4.heap.size, 4, none⟩ = some (.int .i64 0) := m5.cellK (by omega) (.inr (by omega)) e4
  have k4 : w5.frozen? ⟨w4.heap.size, 4, none⟩ = false := m5.frozK (by omega) (.inr (by omega)) g4
  have Q5 : Hid (∀ j, j < 5 → w5.cell? ⟨w.heap.size, j, none⟩ = some (.int .i64 0) ∧ w5.frozen? ⟨w.heap.size, j, none⟩ = false) := Lib.hid fun j hj => by
    obtain ⟨h1, h2⟩ := Q0.out j hj
    have h3 := R4.cellK (by omega) (.inr (by omega)) h1
    have h4 := R4.frozK (by omega) (.inr (by omega)) h2
    exact ⟨m5.cellK (by omega) (.inr (by omega)) (by rw [bU.cell (by show w.heap.size < _; omega)]; exact h3), m5.frozK (by omega) (.inr (by omega)) (by rw [bU.frozen (by show w.heap.size < _; omega)]; exact h4)⟩
  have r0 := Q5.out 0 (by omega)
  have r1 := Q5.out 1 (by omega)
  have r2 := Q5.out 2 (by omega)
  have r3 := Q5.out 3 (by omega)
  have r4 := Q5.out 4 (by omega)
  have hd := Lib.hid (show M.clipDr m (p0, p1, 1 + p2, p3, p4) from ⟨by simp only; omega, by simp only; omega, by simp only; omega, by simp only; omega, p41⟩)
  clear hp4
  go_wp2
  have hne : w4.heap.size ≠ w.heap.size := by omega
  have hne' : w.heap.size ≠ w4.heap.size := by omega
  refine bodyPost_ret (v := .agg #[.int .i64 p0, .int .i64 p1, .int .i64 (1 + p2), .int .i64 p3, .int .i64 p4]) (by simp [results, Try.results121, go_sem, r0, r1, r2, r3, r4, hne, hne']) rfl ?_
  have ms : Mid w.heap.size w5.heap.size w5 ((((((w5.setCell ⟨w4.heap.size, 4, none⟩ (.int .i64 p4)).setCell ⟨w.heap.size, 0, none⟩ (.int .i64 p0)).setCell ⟨w.heap.size, 1, none⟩ (.int .i64 p1)).setCell ⟨w.heap.size, 2, none⟩ (.int .i64 (1 + p2))).setCell ⟨w.heap.size, 3, none⟩ (.int .i64 p3)).setCell ⟨w.heap.size, 4, none⟩ (.int .i64 p4)) := by
    have st : ∀ (v : World) (g o : Nat) (u : Value), w.heap.size ≤ g → g < w5.heap.size → Mid w.heap.size w5.heap.size v (v.setCell ⟨g, o, none⟩ u) := fun v g o u h1 h2 => Mid.of_grown (grown_setCell v g o u) fun k hk => by injection hk with hk; omega
    exact (((((st _ _ _ _ (by omega) (by omega)).trans (st _ _ _ _ (by omega) (by omega))).trans (st _ _ _ _ (by omega) (by omega))).trans (st _ _ _ _ (by omega) (by omega))).trans (st _ _ _ _ (by omega) (by omega))).trans (st _ _ _ _ (by omega) (by omega))
  exact ⟨_, _, _, _, _, rfl, hd, s5.mid ms (by omega), (MU.trans m5).thenB' (ms.toBelow (by omega)) (Nat.le_refl _)⟩
def SrcsL (w : World) (e : Ending) (w' : World) : Prop :=
  ∃ A1 c1 src, e = .returned (.slice A1 (List.length src) c1) ∧ RS tS w' w'.heap.size (.slice A1 src.length c1) src ∧ src.length = 3 ∧ Hid (M.srcOk src = true) ∧ Below w.heap.size w w'
end Go.Proofs.Ytckihflfjecpbaa
namespace Go.Proofs.Ytckihflfjecpbaa
open Go.RowKit
set_option maxHeartbeats 4000000
set_option maxRecDepth 100000
/-- How the drawing of a track stands. -/
structure DT (w : World) (b lo : Nat) (A : Option Addr) (n c : Nat) (code : List UInt8) (K : Nat) (xs : List Clip) (A1 : Option Addr) (c1 : Nat) (wr : World) : Prop where
  c0 : wr.cell? ⟨w.heap.size, 0, none⟩ = some (.slice none 0 0)
  f0 : wr.frozen? ⟨w.heap.size, 0, none⟩ = false
  own : OA cl 78 5 (w.heap.size + 1) wr.heap.size wr (.slice A1 xs.length c1) xs
  src : Src wr b lo A n c code K
  mid : Mid b (b + 1) w wr
  sz : w.heap.size + 1 ≤ wr.heap.size
theorem DT.step {w wr w' : World} {b lo : Nat} {A A1 : Option Addr} {n c c1 : Nat} {code : List UInt8} {K K' : Nat} {xs : List Clip} (h : DT w b lo A n c code K xs A1 c1 wr) (hb : b < w.heap.size) (hs : Src w' b lo A n c code K') (hm : Mid b (b + 1) wr w') : DT w b lo A n c code K' xs A1 c1 w' :=
  have hz := h.sz
  ⟨hm.cellK (by omega) (.inr (by omega)) h.c0, hm.frozK (by omega) (.inr (by omega)) h.f0,
    (h.own.mid hm (.inr (by omega)) (Nat.le_refl _)).wide (Nat.le_refl _) hm.size, hs, h.mid.trans hm, Nat.le_trans hz hm.size⟩
theorem DT.more {w wr : World} {b lo : Nat} {A A1 : Option Addr} {n c c1 : Nat} {code : List UInt8} {K K' : Nat} {xs : List Clip} (h : DT w b lo A n c code K xs A1 c1 wr) (hK : K ≤ K') : DT w b lo A n c code K' xs A1 c1 wr :=
  ⟨h.c0, h.f0, h.own, h.src.more hK, h.mid, h.sz⟩
def DrewT (b lo : Nat) (A : Option Addr) (n c : Nat) (code : List UInt8) (K most : Nat) (m : Int) (w : World) (e : Ending) (w' : World) : Prop :=
  ∃ A1 c1 xs, e = .returned (.agg #[.slice A1 (List.length xs) c1]) ∧ OA cl 78 5 w.heap.size w'.heap.size w' (.slice A1 xs.length c1) xs ∧ xs.length ≤ most ∧ Hid (M.trackDr m xs) ∧ Src w' b lo A n c code K ∧ Mid b (b + 1) w w'
theorem spec_l23Draw (b lo : Nat) (A : Option Addr) (n c : Nat) (code : List UInt8) (K most : Nat) (m : Int) (w : World) (h : Src w b lo A n c code K) (hK : K ≤ 100000) (hm : 1 ≤ m ∧ m ≤ 6) (hmo : most ≤ 12) :
    Calls Try.prog 117 #[.pointer (some ⟨b, 0, none⟩), .int .i64 most, .int .i64 m] w (DrewT b lo A n c code (K + 2 + 10 * most) most m w) := by
  have hbw := h.lt
  have d0 : DT w b lo A n c code K [] (some ⟨w.heap.size + 1, 0, none⟩) 0 ((w.alloc (.cells #[.slice none 0 0] 65)).alloc (.cells #[] 78)) := by
    have hB : Below w.heap.size w ((w.alloc (.cells #[.slice none 0 0] 65)).alloc (.cells #[] 78)) := ((Below.refl _ _).alloc (Nat.le_refl _) _).alloc (by simp) _
    have e1 : (w.alloc (.cells #[.slice none 0 0] 65)).heap.size = w.heap.size + 1 := by simp
    refine ⟨by simp [go_sem], by simp [go_sem], ?_, h.below hB hbw, Mid.of_below hB _ _, by simp⟩
    have h9 : ((w.alloc (.cells #[.slice none 0 0] 65)).alloc (.cells #[] 78)).ownsRow (w.alloc (.cells #[.slice none 0 0] 65)).heap.size 78 5 (.slice (some ⟨(w.alloc (.cells #[.slice none 0 0] 65)).heap.size, 0, none⟩) 0 0) 0 [] := World.ownsRow_made _ _ _ (Nat.le_refl _) (by simp [maxLen]) rfl
    rw [e1] at h9
    exact OX.of_own h9
  go_enter Try.func117, Try.ntmps117
  go_wp2_with fail
  refine (src_pick b lo A n c code K ((most : Int) + 1) _ d0.src (by omega) (by omega)).mono ?_
  rintro e w1 ⟨k, rfl, ⟨k0, k1⟩, s1, m1⟩
  have d1 := d0.step hbw s1 m1
  clear d0 s1 m1
  obtain ⟨k, rfl⟩ : ∃ j : Nat, k = j := ⟨k.toNat, by omega⟩
  have hkm : k ≤ most := by omega
  clear k1
  go_wp2_with fail
  go_loopw [7, 8] (fun v i wr => ∃ (j : Nat) (xs : List Clip) (A1 : Option Addr) (c1 : Nat), i = .int .i64 j ∧ v = .slice A1 xs.length c1 ∧ j ≤ k ∧ xs.length + j ≤ k ∧ Hid (M.trackDr m xs) ∧ DT w b lo A n c code (K + 2 + 10 * (k - j)) xs A1 c1 wr)
    (fun _ i _ => (intOf i).toNat)
  case atStart => exact ⟨k, [], _, _, rfl, rfl, by omega, by simp, Lib.hid ⟨by simp, by simp⟩, d1.more (by omega)⟩
  case round =>
    obtain ⟨j, xs, A1, c1, rfl, rfl, hj, hl, hdr, D⟩ := hrel
    have hsz := D.sz
    have hc0 := D.c0
    have hf0 := D.f0
    by_cases hlt : 0 < j
    · go_wp2_with fail
      refine (spec_l23DrawClip b lo A n c code _ m wr D.src (by omega) hm).mono ?_
      rintro e w2 ⟨p0, p1, p2, p3, p4, rfl, hd, s2, m2⟩
      have D2 := D.step hbw s2 m2
      have hcap := D2.own.cap
      have hso := (M.sort_pw xs).2 hdr.out.2
      have HSO := Lib.hid hso
      clear hso
      have hP := Lib.hid (M.trackDr_put hdr.out hd.out)
      have hPl := Lib.hid (M.putP_len xs (p0, p1, p2, p3, p4))
      go_wp2_with fail
      refine (spec_l23Put _ _ _ _ p0 p1 p2 p3 p4 w2 D2.own.ra (by omega) hcap.1 hcap.2 HSO.out).mono ?_
      rintro e w3 ⟨v3, rfl, own3, b3⟩
      obtain ⟨A3, c3, rfl, -⟩ := own3.shape
      have hs2 := D2.sz
      have D3 : DT w b lo A n c code (K + 2 + 10 * (k - j) + 10) (M.putP xs (p0, p1, p2, p3, p4)) A3 c3 w3 := by
        refine ⟨?_, ?_, own3.wide hs2 (Nat.le_refl _), D2.src.below b3 (by omega), D2.mid.thenB' b3 D2.mid.size, Nat.le_trans hs2 b3.size⟩
        · rw [b3.cell (by show w.heap.size < _; omega)]; exact D2.c0
        · rw [b3.frozen (by show w.heap.size < _; omega)]; exact D2.f0
      go_wp2
      go_roundw
      case rel => exact ⟨j - 1, _, _, _, by go_num, rfl, by omega, by rw [hPl.out]; omega, hP, D3.more (by omega)⟩
      case measure => simp [intOf]; omega
    · obtain rfl : j = 0 := by omega
      go_wp2
      refine bodyPost_ret (v := .agg #[.slice A1 xs.length c1]) (by simp [results, Try.results117, go_sem, hc0, hf0]) rfl ?_
      have hm : Mid w.heap.size (w.heap.size + 1) wr (wr.setCell ⟨w.heap.size, 0, none⟩ (.slice A1 xs.length c1)) := Mid.cell wr w.heap.size 0 _
      exact ⟨_, _, xs, rfl, (D.own.mid hm (.inr (by omega)) (Nat.le_refl _)).wide (by omega) hm.size, by omega, hdr, (D.src.mid hm hbw).more (by omega), D.mid.thenB' ((Below.refl w.heap.size _).setCell (Nat.le_refl _) _) (Nat.le_refl _)⟩
def TraL (most : Nat) (w : World) (e : Ending) (w' : World) : Prop :=
  ∃ A1 c1 xs, e = .returned (.agg #[.slice A1 (List.length xs) c1]) ∧ RA cl 5 w' w'.heap.size A1 xs.length xs ∧ Hid (M.trackDr 3 xs) ∧ xs.length ≤ most ∧ xs.length ≤ c1 ∧ c1 ≤ maxLen ∧ Below w.heap.size w w'
theorem spec_E8Track (A : Option Addr) (n c : Nat) (code : List UInt8) (w : World) (hr : RS tU8 w w.heap.size (.slice A n c) code) :
    Calls Try.prog 58 #[.slice A n c] w (TraL 10 w) := by
  obtain ⟨W, hW⟩ : ∃ W, W = w.alloc (.cells #[.slice none 0 0] 65) := ⟨_, rfl⟩
  have B0 : Below w.heap.size w W := by rw [hW]; exact (Below.refl _ _).alloc (Nat.le_refl _) _
  have z0 : w.heap.size + 1 ≤ W.heap.size := by rw [hW]; simp
  have q0 : W.cell? ⟨w.heap.size, 0, none⟩ = some (.slice none 0 0) := by rw [hW]; simp [go_sem]
  have f0 : W.frozen? ⟨w.heap.size, 0, none⟩ = false := by rw [hW]; simp [go_sem]
  have HW := Lib.hid hW
  clear hW
  have hr0 := hr.later B0
  go_enter Try.func58, Try.ntmps58
  go_wp2_with fail
  rw [← HW.out]
  refine (spec_l00From A n c code W hr0).mono ?_
  rintro e w1 ⟨b, rfl, hb, s1, b1, z1⟩
  have hbl : w.heap.size + 1 ≤ b := by omega
  have lt1 : b + 1 ≤ w1.heap.size := by omega
  have hb' := Lib.hid hb
  clear z1 hb
  go_wp2_with fail
  refine (spec_l23Draw _ _ A n c code 0 10 3 w1 s1 (by omega) (by omega) (by omega)).mono ?_
  rintro e w2 ⟨A1, c1, xs, rfl, o2, hlx, hok, s2, m2⟩
  have lt2 := m2.size
  have q2 : w2.cell? ⟨w.heap.size, 0, none⟩ = some (.slice none 0 0) := m2.cellK (by omega) (.inl (by omega)) (by rw [b1.cell (by show w.heap.size < _; omega)]; exact q0)
  have f2 : w2.frozen? ⟨w.heap.size, 0, none⟩ = false := m2.frozK (by omega) (.inl (by omega)) (by rw [b1.frozen (by show w.heap.size < _; omega)]; exact f0)
  go_wp2
  refine bodyPost_ret (v := .agg #[.slice A1 xs.length c1]) (by simp [results, Try.results58, go_sem, q2, f2]) rfl ?_
  have hm : Mid w.heap.size (w.heap.size + 1) w2 (w2.setCell ⟨w.heap.size, 0, none⟩ (.slice A1 xs.length c1)) := Mid.cell w2 w.heap.size 0 _
  have o3 := o2.mid hm (.inr (by omega)) (Nat.le_refl _)
  have hb1 := hb'.out
  refine ⟨A1, c1, xs, rfl, o3.ra, hok, hlx, o3.cap.1, o3.cap.2, ?_⟩
  exact ((B0.trans (b1.mono B0.size)).trans ((m2.toBelow (by omega)).mono (by omega))).setCell (Nat.le_refl _) _
def CliL (w : World) (e : Ending) (w' : World) : Prop :=
  ∃ p0 p1 p2 p3 p4, e = .returned (.agg #[.int .i64 p0, .int .i64 p1, .int .i64 p2, .int .i64 p3, .int .i64 p4]) ∧ Hid (M.clipDr 3 (p0, p1, p2, p3, p4)) ∧ Below w.heap.size w w'
theorem spec_E8Clip (A : Option Addr) (n c : Nat) (code : List UInt8) (w : World) (hr : RS tU8 w w.heap.size (.slice A n c) code) :
    Calls Try.prog 63 #[.slice A n c] w (CliL w) := by
  obtain ⟨W, hW⟩ : ∃ W, W = w.alloc (.cells #[.int .i64 0, .int .i64 0, .int .i64 0, .int .i64 0, .int .i64 0] 78) := ⟨_, rfl⟩
  have B0 : Below w.heap.size w W := by rw [hW]; exact (Below.refl _ _).alloc (Nat.le_refl _) _
  have z0 : w.heap.size + 1 ≤ W.heap.size := by rw [hW]; simp
  have q0 : ∀ j, j < 5 → W.cell? ⟨w.heap.size, j, none⟩ = some (.int .i64 0) ∧ W.frozen? ⟨w.heap.size, j, none⟩ = false := by
    intro j hj
    rw [hW]
    rcases (show j = 0 ∨ j = 1 ∨ j = 2 ∨ j = 3 ∨ j = 4 by omega) with rfl | rfl | rfl | rfl | rfl <;> exact ⟨by simp [go_sem], by simp [go_sem]⟩
  have Q0 := Lib.hid q0
  have HW := Lib.hid hW
  clear hW q0
  have hr0 := hr.later B0
  go_enter Try.func63, Try.ntmps63
  go_wp2_with fail
  rw [← HW.out]
  refine (spec_l00From A n c code W hr0).mono ?_
  rintro e w1 ⟨b, rfl, hb, s1, b1, z1⟩
  have hbl : w.heap.size + 1 ≤ b := by omega
  have lt1 : b + 1 ≤ w1.heap.size := by omega
  have hb' := Lib.hid hb
  clear z1 hb
  go_wp2_with fail
  refine (spec_l23DrawClip _ _ A n c code 0 3 w1 s1 (by omega) (by omega)).mono ?_
  rintro e w2 ⟨p0, p1, p2, p3, p4, rfl, hok, s2, m2⟩
  have lt2 := m2.size
  have Q2 : Hid (∀ j, j < 5 → w2.cell? ⟨w.heap.size, j, none⟩ = some (.int .i64 0) ∧ w2.frozen? ⟨w.heap.size, j, none⟩ = false) := Lib.hid fun j hj => by
    obtain ⟨h1, h2⟩ := Q0.out j hj
    exact ⟨m2.cellK (by omega) (.inl (by omega)) (by rw [b1.cell (by show w.heap.size < _; omega)]; exact h1), m2.frozK (by omega) (.inl (by omega)) (by rw [b1.frozen (by show w.heap.size < _; omega)]; exact h2)⟩
  have r0 := Q2.out 0 (by omega)
  have r1 := Q2.out 1 (by omega)
  have r2 := Q2.out 2 (by omega)
  have r3 := Q2.out 3 (by omega)
  have r4 := Q2.out 4 (by omega)
  go_wp2
  refine bodyPost_ret (v := .agg #[.int .i64 p0, .int .i64 p1, .int .i64 p2, .int .i64 p3, .int .i64 p4]) (by simp [results, Try.results63, go_sem, r0, r1, r2, r3, r4]) rfl ?_
  have hb1 := hb'.out
  exact ⟨_, _, _, _, _, rfl, hok, ((((((B0.trans (b1.mono B0.size)).trans ((m2.toBelow (by omega)).mono (by omega))).setCell (Nat.le_refl _) _).setCell (Nat.le_refl _) _).setCell (Nat.le_refl _) _).setCell (Nat.le_refl _) _).setCell (Nat.le_refl _) _⟩
theorem spec_E8Sources (A : Option Addr) (n c : Nat) (code : List UInt8) (w : World) (hr : RS tU8 w w.heap.size (.slice A n c) code) :
    Calls Try.prog 60 #[.slice A n c] w (SrcsL w) := by
  go_enter Try.func60, Try.ntmps60
  go_wp2_with fail
  refine (spec_l00From A n c code w hr).mono ?_
  rintro e w1 ⟨b, rfl, rfl, s1, b1, z1⟩
  have z1' := Lib.hid z1
  have lt1 : w.heap.size + 1 ≤ w1.heap.size := by omega
  have own0 := OS.made0 tS 41 w1
  have hB := (Below.refl w1.heap.size w1).alloc (Nat.le_refl _) (.cells #[] 41)
  have s2 := s1.below hB (by omega)
  have M1 : Mid w.heap.size (w.heap.size + 1) w1 (w1.alloc (.cells #[] 41)) := Mid.of_below hB _ _
  clear z1
  go_wp2_with fail
  go_loopw [4, 5] (fun v i wr => ∃ (k : Nat) (src : List (List Int)), i = .int .i64 k ∧ k ≤ 3 ∧ src.length ≤ k ∧ k ≤ src.length ∧ OS tS 41 wr (Iv w1.heap.size wr.heap.size) v src ∧ Hid (∀ x ∈ src, M.sig x = true) ∧ Src wr w.heap.size w.heap.size A n c code (200 * k) ∧ Mid w.heap.size (w.heap.size + 1) w1 wr)
    (fun _ i _ => 3 - (intOf i).toNat)
  case atStart => exact ⟨0, [], rfl, by omega, Nat.le_refl _, Nat.le_refl _, own0, Lib.hid (by simp), s2, M1⟩
  case round =>
    obtain ⟨k, src, rfl, hk, hl1, hl2, own, hok, s3, M3⟩ := hrel
    have hs3 := M3.size
    by_cases hlt : k < 3
    · go_wp2_with fail
      refine (spec_l29Draw _ _ A n c code _ 24 wr s3 (by omega) (by omega)).mono ?_
      rintro e w4 ⟨v4, xs, rfl, o4, hl4, hsm4, s4, m4⟩
      have hs4 := m4.size
      have b4 := s4.lt
      have ow := own.mid m4 (.inr lt1) (Nat.le_refl _)
      obtain ⟨A2, c2, rfl⟩ := o4.shape
      obtain ⟨A0, c0, rfl⟩ := own.shape
      have os4 := tS_O.2 o4
      have hsg := Lib.hid (show M.sig xs = true by rw [M.sig, Bool.and_eq_true, decide_eq_true_iff, List.all_eq_true]; exact ⟨by omega, hsm4.out⟩)
      go_wp2_with (at_builtin; refine wpList_pushS ei_S #[.slice A2 xs.length c2] rfl _ _ rfl ow os4 (Iv.apart (Nat.le_refl _)) rfl rfl (by unfold maxLen; omega) (by omega) ?_; intro v5 w5 own5 ch5)
      go_roundw
      case rel =>
        have hB5 : Below w1.heap.size w4 w5 := ch5.toBelow (fun b hb => hb.1) (by omega)
        refine ⟨k + 1, src ++ [xs], by go_num, by omega, by simp; omega, by simp; omega, own5.wide (Iv.grow hs3 hs4 ch5.size), Lib.hid ?_, (s4.below hB5 (by omega)).more (by omega), (M3.trans m4).thenB' hB5 (Nat.le_refl _)⟩
        intro y hy
        rcases List.mem_append.1 hy with h | h
        · exact hok.out y h
        · simp only [List.mem_singleton] at h
          subst h
          exact hsg.out
      case measure => simp [intOf]; omega
    · obtain rfl : k = 3 := by omega
      obtain ⟨A0, c0, rfl⟩ := own.shape
      have hsr := Lib.hid (show M.srcOk src = true by rw [M.srcOk, Bool.and_eq_true, decide_eq_true_iff, List.all_eq_true]; exact ⟨by omega, hok.out⟩)
      go_wp2
      go_ret
      exact ⟨_, _, src, rfl, own.read, by omega, hsr, b1.trans (M3.toBelow (by omega))⟩
end Go.Proofs.Ytckihflfjecpbaa
namespace Go.Proofs.Ytckihflfjecpbaa
open Go.RowKit
set_option maxHeartbeats 4000000
set_option maxRecDepth 100000
theorem spec_l00MaxN (a b : Int) (w : World) : Calls Try.prog 153 #[.int .i64 a, .int .i64 b] w fun e w' => e = .returned (.int .i64 (max a b)) ∧ w = w' := by
  by_cases h : b < a
  all_goals
    go_enter Try.func153, Try.ntmps153
    go_wp2
    go_ret
    exact ⟨ret_int (by omega), rfl⟩
/-- The sum of two signals, the second one times a number. -/
def M.addS (xs ys : List Int) (g : Int) : List Int := (List.range (max xs.length ys.length)).map fun (i : Nat) => wrap32 (M.at_ xs (i : Int) + M.at_ ys (i : Int) * g)
theorem M.addS_len (xs ys : List Int) (g : Int) : (M.addS xs ys g).length = max xs.length ys.length := by simp [M.addS]
theorem M.addS_at {xs ys : List Int} {g : Int} {i : Nat} (h : i < max xs.length ys.length) : (M.addS xs ys g)[i]? = some (wrap32 (M.at_ xs (i : Int) + M.at_ ys (i : Int) * g)) := by simp [M.addS, h]
theorem spec_l03Add (A A' : Option Addr) (n c n' c' : Nat) (xs ys : List Int) (g : Int) (w : World) (hx : RI w w.heap.size A n xs) (hy : RI w w.heap.size A' n' ys) (hn : n ≤ 1000000) (hn' : n' ≤ 1000000) :
    Calls Try.prog 127 #[.slice A n c, .slice A' n' c', .int .i64 g] w (Ret1 2 w (M.addS xs ys g)) := by
  have hl := Lib.hid hx.len
  have hl' := Lib.hid hy.len
  go_enter Try.func127, Try.ntmps127
  go_wp2_with fail
  refine (spec_l00MaxN _ _ _).mono ?_
  rintro e w' ⟨rfl, rfl⟩
  obtain ⟨m, hm⟩ : ∃ m : Nat, m = max n n' := ⟨_, rfl⟩
  have hmi : max (n : Int) (n' : Int) = (m : Int) := by omega
  have hm2 : m ≤ 1000000 := by omega
  have HM := Lib.hid (show max xs.length ys.length = m by rw [hl.out, hl'.out, hm])
  rw [hmi]
  clear hm hmi
  go_wp2_with fail
  go_loopw [7, 9] (fun v i wr => ∃ k : Nat, i = .int .i64 k ∧ k ≤ m ∧ OI 2 w.heap.size wr v ((M.addS xs ys g).take k) ∧ Below w.heap.size w wr) (fun _ i _ => m - (intOf i).toNat)
  case atStart => exact ⟨0, rfl, by omega, OI.made _ _, (Below.refl _ _).alloc (Nat.le_refl _) _⟩
  case round =>
    obtain ⟨k, rfl, hk, own, hb⟩ := hrel
    by_cases hlt : k < m
    · have hT := Lib.hid (M.take_at (M.addS_at (xs := xs) (ys := ys) (g := g) (i := k) (by rw [HM.out]; exact hlt)))
      have hk1 : ((M.addS xs ys g).take k).length ≤ 1000000000 := by rw [List.length_take]; omega
      have rx := (hx.below hb).more hb.size
      have ry := (hy.below hb).more hb.size
      go_wp2_with fail
      refine (spec_l03At _ _ _ _ _ wr rx (by omega)).mono ?_
      rintro e w' ⟨rfl, rfl⟩
      go_wp2_with fail
      refine (spec_l03At _ _ _ _ _ wr ry (by omega)).mono ?_
      rintro e w' ⟨rfl, rfl⟩
      go_wp2_with fail
      refine (spec_l01Mul _ _ wr).mono ?_
      rintro e w' ⟨rfl, rfl⟩
      go_wp2_with fail
      refine (spec_l01Add _ _ wr).mono ?_
      rintro e w' ⟨rfl, rfl⟩
      go_wp2_with (at_builtin; refine wpList_push1 ei_i64 rfl _ _ rfl own rfl rfl rfl (by unfold maxLen; omega) (by omega) hb.size ?_; intro v1 w1 own1 gr1 bel1)
      go_roundw
      case rel => exact ⟨k + 1, by go_num, by omega, by rw [hT.out, ← M.wrap32_addr]; exact OI.push own1, hb.trans bel1⟩
      case measure => simp [intOf]; omega
    · go_wp2
      go_ret
      rw [List.take_of_length_le (by rw [M.addS_len, HM.out]; omega)] at own
      exact ⟨_, rfl, own, hb⟩
def M.addR (xs ys : List Int) : List Int × Int := if M.sig xs && M.sig ys then (M.addS xs ys 1, 0) else ([], 1)
theorem spec_AddSignals (A A' : Option Addr) (n c n' c' : Nat) (xs ys : List Int) (w : World) (hx : RI w w.heap.size A n xs) (hy : RI w w.heap.size A' n' ys) (hn : n ≤ 1000000) (hn' : n' ≤ 1000000) :
    Calls Try.prog 65 #[.slice A n c, .slice A' n' c'] w (Ret2 2 w (M.addR xs ys)) := by
  cases h1 : M.sig xs
  · have R := Lib.hid (show M.addR xs ys = ([], 1) by rw [M.addR, h1]; rfl)
    have H1 := Lib.hid h1
    clear h1
    go_enter Try.func65, Try.ntmps65
    go_wp2_with fail
    refine (spec_l03Ok _ _ _ _ _ hx (by omega)).mono ?_
    rw [H1.out]
    rintro e w' ⟨rfl, rfl⟩
    go_wp2
    go_ret2
    rw [R.out]
    exact ⟨_, rfl, OI.nil _ _ _, Below.refl _ _⟩
  have H1 := Lib.hid h1
  cases h2 : M.sig ys
  · have R := Lib.hid (show M.addR xs ys = ([], 1) by rw [M.addR, h1, h2]; rfl)
    have H2 := Lib.hid h2
    clear h1 h2
    go_enter Try.func65, Try.ntmps65
    go_wp2_with fail
    refine (spec_l03Ok _ _ _ _ _ hx (by omega)).mono ?_
    rw [H1.out]
    rintro e w' ⟨rfl, rfl⟩
    go_wp2_with fail
    refine (spec_l03Ok _ _ _ _ _ hy (by omega)).mono ?_
    rw [H2.out]
    rintro e w' ⟨rfl, rfl⟩
    go_wp2
    go_ret2
    rw [R.out]
    exact ⟨_, rfl, OI.nil _ _ _, Below.refl _ _⟩
  have R := Lib.hid (show M.addR xs ys = (M.addS xs ys 1, 0) by rw [M.addR, h1, h2]; rfl)
  have H2 := Lib.hid h2
  clear h1 h2
  go_enter Try.func65, Try.ntmps65
  go_wp2_with fail
  refine (spec_l03Ok _ _ _ _ _ hx (by omega)).mono ?_
  rw [H1.out]
  rintro e w' ⟨rfl, rfl⟩
  go_wp2_with fail
  refine (spec_l03Ok _ _ _ _ _ hy (by omega)).mono ?_
  rw [H2.out]
  rintro e w' ⟨rfl, rfl⟩
  go_wp2_with fail
  refine (spec_l03Add _ _ _ _ _ _ _ _ 1 w hx hy hn hn').mono ?_
  rintro e w2 ⟨v2, rfl, own2, b2⟩
  go_wp2
  go_ret2
  rw [R.out]
  exact ⟨_, rfl, own2, b2⟩
theorem spec_ValidTrack (A : Option Addr) (n c : Nat) (xs : List Clip) (w : World) (hx : RA cl 5 w w.heap.size A n xs) (hn : n ≤ 1000000000) :
    Calls Try.prog 62 #[.agg #[.slice A n c]] w fun e w' => e = .returned (.bool (M.trackOk xs)) ∧ Below w.heap.size w w' := by
  have B0 : Below w.heap.size w (w.alloc (.cells #[.slice A n c] 65)) := (Below.refl _ _).alloc (Nat.le_refl _) _
  have hself := lay_cell w (.slice A n c) 65
  go_enter Try.func62, Try.ntmps62
  go_wp2_with fail
  refine (spec_l23Ok _ _ _ _ _ _ hself (hx.later B0) hn).mono ?_
  rintro e w2 ⟨rfl, b2⟩
  go_wp2
  go_ret
  exact ⟨rfl, bel_trans B0 b2⟩
theorem laws_v8Zeros (A : Option Addr) (n c : Nat) (xs : List Int) (w : World) (hx : RI w w.heap.size A n xs) (hz : Hid (∀ x ∈ xs, x = 0)) (hn : n ≤ 1000000000) :
    Calls Try.prog 69 #[.slice A n c] w fun e w' => e = .returned (.bool true) ∧ w = w' := by
  go_enter Try.func69, Try.ntmps69
  go_wp2
  go_loop [3] (fun i => ∃ k : Nat, i = .int .i64 k ∧ k ≤ n) (fun i => n - (intOf i).toNat)
  case atStart => exact ⟨0, rfl, by omega⟩
  case round =>
    obtain ⟨k, rfl, hk⟩ := hrel
    by_cases hlt : k < n
    · obtain ⟨ad, x, rfl, hab, X, hc⟩ := hx.at hlt
      obtain rfl : x = 0 := hz.out x (List.mem_of_getElem? X.out)
      go_wp2
      go_round
      case rel => exact ⟨k + 1, by go_num, by omega⟩
      case measure => simp [intOf]; omega
    · go_wp2
      go_ret
      exact ⟨rfl, rfl⟩
theorem spec_SameTrack_yes (A A' : Option Addr) (n c c' : Nat) (xs : List Clip) (w : World) (hx : RA cl 5 w w.heap.size A n xs) (hy : RA cl 5 w w.heap.size A' n xs) (hn : n ≤ 1000000000) :
    Calls Try.prog 68 #[.agg #[.slice A n c], .agg #[.slice A' n c']] w fun e w' => e = .returned (.bool true) ∧ Below w.heap.size w w' := by
  obtain ⟨W, hW⟩ : ∃ W, W = (w.alloc (.cells #[.slice A n c] 65)).alloc (.cells #[.slice A' n c'] 65) := ⟨_, rfl⟩
  have B0 : Below w.heap.size w W := by rw [hW]; exact ((Below.refl _ _).alloc (Nat.le_refl _) _).alloc (by simp) _
  have s0 : W.cell? ⟨w.heap.size, 0, none⟩ = some (.slice A n c) := by rw [hW]; simp [go_sem]
  have s1 : W.cell? ⟨w.heap.size + 1, 0, none⟩ = some (.slice A' n c') := by rw [hW]; simp [go_sem]
  have lx : w.heap.size + 1 < W.heap.size := by rw [hW]; simp
  have HW := Lib.hid hW
  clear hW
  go_enter Try.func68, Try.ntmps68
  go_wp2
  rw [← HW.out]
  go_loopw [5] (fun i wr => ∃ k : Nat, i = .int .i64 k ∧ k ≤ n ∧ Below W.heap.size W wr) (fun i _ => n - (intOf i).toNat)
  case atStart => exact ⟨0, rfl, by omega, Below.refl _ _⟩
  case round =>
    obtain ⟨k, rfl, hk, Bw⟩ := hrel
    have BW := bel_trans B0 Bw
    have t0 : wr.cell? ⟨w.heap.size, 0, none⟩ = some (.slice A n c) := by rw [Bw.cell (show (⟨w.heap.size, 0, none⟩ : Addr).block < _ by show w.heap.size < W.heap.size; omega)]; exact s0
    have t1 : wr.cell? ⟨w.heap.size + 1, 0, none⟩ = some (.slice A' n c') := by rw [Bw.cell (show (⟨w.heap.size + 1, 0, none⟩ : Addr).block < _ from lx)]; exact s1
    by_cases hlt : k < n
    · obtain ⟨b, o, ⟨p0, p1, p2, p3, p4⟩, rfl, hab, X, hc⟩ := (hx.below BW).at cl_len (by decide) hlt
      obtain ⟨b', o', y, rfl, hab', Y, hd⟩ := (hy.below BW).at cl_len (by decide) hlt
      obtain rfl : y = (p0, p1, p2, p3, p4) := by have := Y.out; rw [X.out] at this; injection this with this; exact this.symm
      have f0 : wr.cell? ⟨b, o + k * 5, none⟩ = some (.int .i64 p0) := hc 0 _ rfl
      have f1 : wr.cell? ⟨b, o + k * 5 + 1, none⟩ = some (.int .i64 p1) := hc 1 _ rfl
      have f2 : wr.cell? ⟨b, o + k * 5 + 2, none⟩ = some (.int .i64 p2) := hc 2 _ rfl
      have f3 : wr.cell? ⟨b, o + k * 5 + 3, none⟩ = some (.int .i64 p3) := hc 3 _ rfl
      have f4 : wr.cell? ⟨b, o + k * 5 + 4, none⟩ = some (.int .i64 p4) := hc 4 _ rfl
      have g0 : wr.cell? ⟨b', o' + k * 5, none⟩ = some (.int .i64 p0) := hd 0 _ rfl
      have g1 : wr.cell? ⟨b', o' + k * 5 + 1, none⟩ = some (.int .i64 p1) := hd 1 _ rfl
      have g2 : wr.cell? ⟨b', o' + k * 5 + 2, none⟩ = some (.int .i64 p2) := hd 2 _ rfl
      have g3 : wr.cell? ⟨b', o' + k * 5 + 3, none⟩ = some (.int .i64 p3) := hd 3 _ rfl
      have g4 : wr.cell? ⟨b', o' + k * 5 + 4, none⟩ = some (.int .i64 p4) := hd 4 _ rfl
      have hkn : (k : Int) < (n : Int) := by omega
      clear hc hd
      go_wp2
      refine wp_region_still_lit (by kernel_rfl) (by kernel_rfl) ?_
      iterate 11 still_step
      refine wpStill_nil ?_
      go_wp2
      go_roundw
      case rel => exact ⟨k + 1, by go_num, by omega, Bw.drew⟩
      case measure => simp [intOf]; omega
    · go_wp2
      go_ret
      exact ⟨rfl, BW⟩
end Go.Proofs.Ytckihflfjecpbaa
namespace Go.Proofs.Ytckihflfjecpbaa
open Go.RowKit
set_option maxHeartbeats 4000000
set_option maxRecDepth 100000
theorem ret2_nil' {e : TypeId} {w w' : World} {r : List Int × Int} {en : Ending} {ys : List Int} (h : Ret2 e w r en w') (hr : r = (ys, 0)) :
    ∃ A c, en = .returned (.tuple #[.slice A ys.length c, .int .i64 0]) ∧ RI w' w'.heap.size A ys.length ys ∧ Below w.heap.size w w' := by
  subst hr
  obtain ⟨v, rfl, own, bel⟩ := h
  obtain ⟨A, c, rfl, ra⟩ := own.shape
  exact ⟨A, c, rfl, ra, bel⟩
theorem retT_nil {e : TypeId} {w w' : World} {r : List Clip × Int} {en : Ending} {ys : List Clip} (h : RetT e w r en w') (hr : r = (ys, 0)) :
    ∃ A c, en = .returned (.tuple #[.agg #[.slice A ys.length c], .int .i64 0]) ∧ RA cl 5 w' w'.heap.size A ys.length ys ∧ ys.length ≤ c ∧ c ≤ maxLen ∧ Below w.heap.size w w' := by
  subst hr
  obtain ⟨v, rfl, own, bel⟩ := h
  obtain ⟨A, c, rfl, ra⟩ := own.shape
  exact ⟨A, c, rfl, ra, own.cap.1, own.cap.2, bel⟩
theorem M.renderR_ok {src : List (List Int)} {xs : List Clip} {n : Nat} (h1 : M.srcOk src = true) (h2 : M.trackOk xs = true) (h3 : M.hasS xs src.length = true) (hn : n ≤ 4000) : M.renderR src xs n = (M.renT src xs n, 0) := by
  rw [M.renderR, h1, h2, M.inn_iff.2 (by omega), h3]
  rfl
theorem core_FnSplit (A0 : Option Addr) (n0 : Nat) (c0 : Nat) (x0 : List UInt8) (A1 : Option Addr) (n1 : Nat) (c1 : Nat) (x1 : List UInt8) (w : World) (h0 : RS tU8 w w.heap.size (.slice A0 n0 c0) x0) (h1 : RS tU8 w w.heap.size (.slice A1 n1 c1) x1) :
    Calls Try.prog 14 #[.slice A0 n0 c0, .slice A1 n1 c1] w fun e w' => e = .returned (.bool true) ∧ Below w.heap.size w w' := by
  cases hlong : (decide (1048576 < n0) || decide (1048576 < n1))
  case true =>
    go_enter Try.func14, Try.ntmps14
    go_wp2_with fail
    refine (laws_v8Long _ _ _ _ _ _ _).mono ?_
    rw [hlong]
    rintro e w' ⟨rfl, rfl⟩
    go_wp2
    go_ret
    exact ⟨rfl, Below.refl _ _⟩
  have hlong' := Lib.hid hlong
  clear hlong
  go_enter Try.func14, Try.ntmps14
  go_wp2_with fail
  refine (laws_v8Long _ _ _ _ _ _ _).mono ?_
  rw [hlong'.out]
  rintro e w' ⟨rfl, rfl⟩
  go_wp2_with fail
  refine (spec_E8Track _ _ _ _ _ h0).mono ?_
  rintro e w1 ⟨At, ct, xs, rfl, rt, hdr, lx, ht1, ht2, b1⟩
  have hok := Lib.hid (M.trackDr_ok hdr.out (by omega) (by omega))
  have hhas := Lib.hid (M.trackDr_has hdr.out)
  by_cases hempty : xs.length = 0
  · have he := Lib.hid hempty
    have hd0 : ((xs.length : Int) == 0) = true := by simp [hempty]
    have hd1 : xs.length ≤ 0 := by omega
    have hd2 : xs = [] := List.eq_nil_of_length_eq_zero hempty
    have B1 := b1
    subst hd2
    go_wp2
    go_ret
    first | exact ⟨rfl, B1.alloc B1.size _⟩ | exact ⟨by rfl, B1.alloc B1.size _⟩
  have hpos : 0 < xs.length := by omega
  have hd0 : ((xs.length : Int) == 0) = false := by rw [beq_eq_false_iff_ne]; omega
  clear hempty
  obtain ⟨U1, hU⟩ : ∃ U, U = w1.alloc (.cells #[.slice At xs.length ct] 65) := ⟨_, rfl⟩
  have bU1 : Below w1.heap.size w1 U1 := by rw [hU]; exact (Below.refl _ _).alloc (Nat.le_refl _) _
  have k1 : U1.cell? ⟨w1.heap.size, 0, none⟩ = some (.slice At xs.length ct) := by rw [hU]; simp [go_sem]
  have l1 : w1.heap.size < U1.heap.size := by rw [hU]; simp
  have HU1 := Lib.hid hU
  clear hU
  have B1 := bel_trans b1 bU1
  have rt1 := rt.later bU1
  go_wp2_with fail
  rw [← HU1.out]
  refine (laws_v8At_val _ _ _ x1 0 _ _ U1 (h1.later B1) (by omega) (by omega)).mono ?_
  rintro e w' ⟨rfl, rfl⟩
  obtain ⟨v0, v1⟩ := M.v8_bd x1 0 (xs.length : Int)
  generalize M.v8 x1 0 (xs.length : Int) = kk at v0 v1 ⊢
  obtain ⟨k, rfl⟩ : ∃ k : Nat, kk = k := ⟨kk.toNat, by omega⟩
  have hk : k < xs.length := by omega
  have hki : (k : Int) < (xs.length : Int) := by omega
  clear v0 v1
  obtain ⟨b, o, ⟨q0, q1, q2, q3, q4⟩, rfl, hab, X, hcc⟩ := rt1.at cl_len (by decide) hk
  have d0 : U1.cell? ⟨b, o + k * 5, none⟩ = some (.int .i64 q0) := hcc 0 _ rfl
  have d1 : U1.cell? ⟨b, o + k * 5 + 1, none⟩ = some (.int .i64 q1) := hcc 1 _ rfl
  have d2 : U1.cell? ⟨b, o + k * 5 + 2, none⟩ = some (.int .i64 q2) := hcc 2 _ rfl
  have d3 : U1.cell? ⟨b, o + k * 5 + 3, none⟩ = some (.int .i64 q3) := hcc 3 _ rfl
  have d4 : U1.cell? ⟨b, o + k * 5 + 4, none⟩ = some (.int .i64 q4) := hcc 4 _ rfl
  clear hcc
  have hcb := hdr.out.1 _ (List.mem_of_getElem? X.out)
  obtain ⟨hb0, hb1, hb2, hb3, hb4⟩ := hcb
  simp only at hb0 hb1 hb2 hb3 hb4
  obtain ⟨U2, hU⟩ : ∃ U, U = U1.alloc (.cells #[.int .i64 q0, .int .i64 q1, .int .i64 q2, .int .i64 q3, .int .i64 q4] 78) := ⟨_, rfl⟩
  have bU2 : Below U1.heap.size U1 U2 := by rw [hU]; exact (Below.refl _ _).alloc (Nat.le_refl _) _
  have m2 : U2.cell? ⟨U1.heap.size, 2, none⟩ = some (.int .i64 q2) := by rw [hU]; simp [go_sem]
  have m3 : U2.cell? ⟨U1.heap.size, 3, none⟩ = some (.int .i64 q3) := by rw [hU]; simp [go_sem]
  have l2 : U1.heap.size < U2.heap.size := by rw [hU]; simp
  have k2 : U2.cell? ⟨w1.heap.size, 0, none⟩ = some (.slice (some ⟨b, o, none⟩) xs.length ct) := by rw [bU2.cell l1]; exact k1
  have l1' := Nat.lt_of_lt_of_le l1 bU2.size
  have HU2 := Lib.hid hU
  clear hU
  have B2 := bel_trans B1 bU2
  have rt2 := rt1.later bU2
  by_cases hsh : q2 < 2
  · go_wp2_with fail
    rw [← HU2.out]
    refine (impl_SplitClip_range _ _ _ k xs q0 q1 q2 q3 q4 q3 U2 rt2 hok.out hk X.out (Int.le_refl _)).mono ?_
    rintro e w3 ⟨rfl, b3⟩
    go_wp2
    go_ret
    exact ⟨rfl, (bel_trans B2 b3).alloc (bel_trans B2 b3).size _⟩
  have hsh2 : 2 ≤ q2 := by omega
  have ew1 : IntKind.i64.wrap (q3 + 1) = q3 + 1 := IntWalk.i64_in _ (by omega)
  have ew2 : IntKind.i64.wrap (q2 - 1) = q2 - 1 := IntWalk.i64_in _ (by omega)
  have hvb := M.v8_bd x1 1 (q2 - 1)
  obtain ⟨v, hv⟩ : ∃ v, v = M.v8 x1 1 (q2 - 1) := ⟨_, rfl⟩
  rw [← hv] at hvb
  have ew3 : IntKind.i64.wrap (q3 + 1 + v) = q3 + 1 + v := IntWalk.i64_in _ (by omega)
  have HV := Lib.hid hv
  clear hv
  have hr2 : ∀ d, RS tU8 (U2.drewN d) w.heap.size (.slice A1 n1 c1) x1 := fun d => h1.keep fun p hp => B2.cell hp
  have cV : ∀ d, Calls Try.prog 34 #[.slice A1 n1 c1, .int .i64 1, .int .i64 (q2 - 1)] (U2.drewN d) fun e w'' => e = .returned (.int .i64 v) ∧ ∃ m, w'' = U2.drewN m := fun d => quiet_left (by rw [HV.out]; exact laws_v8At_val _ _ _ x1 1 _ _ _ (hr2 d) (by omega) (by omega))
  have CV := Lib.hid cV
  clear cV hr2
  go_wp2_with fail
  rw [← HU2.out]
  clear d0 d1 d2 d3 d4
  go_quiet ((go_at_call 34; exact CV.out _))
  clear ew1 ew2 ew3 CV m2 m3
  obtain ⟨U3, hU3⟩ : ∃ U, U = U2.drewN nq := ⟨_, rfl⟩
  have bU3 : Below U2.heap.size U2 U3 := by rw [hU3]; exact below_drewN (Below.refl _ _) _
  rw [← hU3]
  clear hU3
  have B_U2 := B2
  obtain ⟨t, ht⟩ : ∃ t, t = q3 + 1 + v := ⟨_, rfl⟩
  rw [← ht]
  have ht1 : q3 < t := by omega
  have ht2 : t < q3 + q2 := by omega
  clear ht hvb
  have h1c := h1
  have kt_U3 : U3.cell? ⟨w1.heap.size, 0, none⟩ = some (.slice (some ⟨b, o, none⟩) xs.length ct) := by rw [bU3.cell l1']; exact k2
  have lkt_U3 := Nat.lt_of_lt_of_le l1' bU3.size
  clear k2 l1'
  have rt_U3 := rt2.later bU3
  clear rt2
  have B_U3 := bel_trans B_U2 bU3
  go_wp2_with fail
  refine (impl_SplitClip_ok _ _ _ k xs q0 q1 q2 q3 q4 t U3 rt_U3 hok.out hk X.out ht1 ht2 (by omega)).mono ?_
  rintro e w3 ⟨Ax, cx, rfl, rx_w3, hx1, hx2, b3⟩
  have kt_w3 : w3.cell? ⟨w1.heap.size, 0, none⟩ = some (.slice (some ⟨b, o, none⟩) xs.length ct) := by rw [b3.cell lkt_U3]; exact kt_U3
  have lkt_w3 := Nat.lt_of_lt_of_le lkt_U3 b3.size
  clear kt_U3 lkt_U3
  have rt_w3 := rt_U3.later b3
  clear rt_U3
  have B_w3 := bel_trans B_U3 b3
  obtain ⟨U4, hU⟩ : ∃ U, U = w3.alloc (.cells #[.slice Ax (xs.length + 1) cx] 65) := ⟨_, rfl⟩
  have bU4 : Below w3.heap.size w3 U4 := by rw [hU]; exact (Below.refl _ _).alloc (Nat.le_refl _) _
  have kx_U4 : U4.cell? ⟨w3.heap.size, 0, none⟩ = some (.slice Ax (xs.length + 1) cx) := by rw [hU]; simp [go_sem]
  have lkx_U4 : w3.heap.size < U4.heap.size := by rw [hU]; simp
  have HU4 := Lib.hid hU
  clear hU
  have kt_U4 : U4.cell? ⟨w1.heap.size, 0, none⟩ = some (.slice (some ⟨b, o, none⟩) xs.length ct) := by rw [bU4.cell lkt_w3]; exact kt_w3
  have lkt_U4 := Nat.lt_of_lt_of_le lkt_w3 bU4.size
  clear kt_w3 lkt_w3
  have rt_U4 := rt_w3.later bU4
  clear rt_w3
  have rx_U4 := rx_w3.later bU4
  clear rx_w3
  have B_U4 := bel_trans B_w3 bU4
  go_wp2_with fail
  rw [← HU4.out]
  refine (spec_E8Sources _ _ _ _ U4 (h1.later B_U4)).mono ?_
  rintro e w5 ⟨As, cs, src, rfl, rs_w5, hsl, hso, b5⟩
  have kt_w5 : w5.cell? ⟨w1.heap.size, 0, none⟩ = some (.slice (some ⟨b, o, none⟩) xs.length ct) := by rw [b5.cell lkt_U4]; exact kt_U4
  have lkt_w5 := Nat.lt_of_lt_of_le lkt_U4 b5.size
  clear kt_U4 lkt_U4
  have kx_w5 : w5.cell? ⟨w3.heap.size, 0, none⟩ = some (.slice Ax (xs.length + 1) cx) := by rw [b5.cell lkx_U4]; exact kx_U4
  have lkx_w5 := Nat.lt_of_lt_of_le lkx_U4 b5.size
  clear kx_U4 lkx_U4
  have rt_w5 := rt_U4.later b5
  clear rt_U4
  have rx_w5 := rx_U4.later b5
  clear rx_U4
  have B_w5 := bel_trans B_U4 b5
  have hlen := M.srcOk_len hso.out
  have hsli : (src.length : Int) = 3 := by omega
  obtain ⟨s1, s2, s3, s4, zs, s5, s6, s7, s8, s9⟩ := M.split_law (src := src) (m := (src.length : Int)) hok.out (by rw [hsli]; exact hhas.out) lx X.out ht1 ht2
  have R1 := Lib.hid (M.renderR_ok (n := 70) hso.out hok.out (by rw [hsli]; exact hhas.out) (by omega))
  have R2 := Lib.hid (M.renderR_ok (n := 70) hso.out s1 s2 (by omega))
  have R3 := Lib.hid (M.renderR_ok (n := 70) hso.out s6 s7 (by omega))
  rw [s4 70] at R2
  rw [s9 70] at R3
  have S1 := Lib.hid s1
  have S3 := Lib.hid s3
  have S5 := Lib.hid s5
  have S8 := Lib.hid s8
  have HS3 := Lib.hid hsl
  have hs6 : src.length ≤ 6 := by omega
  have RL := Lib.hid (M.renT_len src xs 70)
  generalize M.splitP xs k (q0, q1, q2, q3, q4) t = ys at *
  clear s1 s2 s3 s4 s5 s6 s7 s8 s9 hsl hsli
  go_wp2_with fail
  refine (spec_RenderTrack _ _ _ _ _ _ 70 src xs w5 rs_w5 rt_w5 hlen (by omega) (by omega)).mono ?_
  intro e w6 hr
  obtain ⟨Aa, ca, rfl, ra_w6, b6⟩ := ret2_nil' hr R1.out
  clear hr
  rw [RL.out] at ra_w6 ⊢
  have kt_w6 : w6.cell? ⟨w1.heap.size, 0, none⟩ = some (.slice (some ⟨b, o, none⟩) xs.length ct) := by rw [b6.cell lkt_w5]; exact kt_w5
  have lkt_w6 := Nat.lt_of_lt_of_le lkt_w5 b6.size
  clear kt_w5 lkt_w5
  have kx_w6 : w6.cell? ⟨w3.heap.size, 0, none⟩ = some (.slice Ax (xs.length + 1) cx) := by rw [b6.cell lkx_w5]; exact kx_w5
  have lkx_w6 := Nat.lt_of_lt_of_le lkx_w5 b6.size
  clear kx_w5 lkx_w5
  have rt_w6 := rt_w5.later b6
  clear rt_w5
  have rx_w6 := rx_w5.later b6
  clear rx_w5
  have rs_w6 := rs_w5.later b6
  clear rs_w5
  have B_w6 := bel_trans B_w5 b6
  go_wp2_with fail
  refine (spec_RenderTrack _ _ _ _ _ _ 70 src ys w6 rs_w6 rx_w6 hlen (by omega) (by omega)).mono ?_
  intro e w7 hr
  obtain ⟨Ab, cb, rfl, rb_w7, b7⟩ := ret2_nil' hr R2.out
  clear hr
  rw [RL.out] at rb_w7 ⊢
  have kt_w7 : w7.cell? ⟨w1.heap.size, 0, none⟩ = some (.slice (some ⟨b, o, none⟩) xs.length ct) := by rw [b7.cell lkt_w6]; exact kt_w6
  have lkt_w7 := Nat.lt_of_lt_of_le lkt_w6 b7.size
  clear kt_w6 lkt_w6
  have kx_w7 : w7.cell? ⟨w3.heap.size, 0, none⟩ = some (.slice Ax (xs.length + 1) cx) := by rw [b7.cell lkx_w6]; exact kx_w6
  have lkx_w7 := Nat.lt_of_lt_of_le lkx_w6 b7.size
  clear kx_w6 lkx_w6
  have rt_w7 := rt_w6.later b7
  clear rt_w6
  have rx_w7 := rx_w6.later b7
  clear rx_w6
  have rs_w7 := rs_w6.later b7
  clear rs_w6
  have ra_w7 := ra_w6.later b7
  clear ra_w6
  have B_w7 := bel_trans B_w6 b7
  go_wp2_with fail
  refine (spec_ValidTrack _ _ _ ys w7 rx_w7 (by omega)).mono ?_
  rw [S1.out]
  rintro e w8 ⟨rfl, b8⟩
  have kt_w8 : w8.cell? ⟨w1.heap.size, 0, none⟩ = some (.slice (some ⟨b, o, none⟩) xs.length ct) := by rw [b8.cell lkt_w7]; exact kt_w7
  have lkt_w8 := Nat.lt_of_lt_of_le lkt_w7 b8.size
  clear kt_w7 lkt_w7
  have kx_w8 : w8.cell? ⟨w3.heap.size, 0, none⟩ = some (.slice Ax (xs.length + 1) cx) := by rw [b8.cell lkx_w7]; exact kx_w7
  have lkx_w8 := Nat.lt_of_lt_of_le lkx_w7 b8.size
  clear kx_w7 lkx_w7
  have rt_w8 := rt_w7.later b8
  clear rt_w7
  have rx_w8 := rx_w7.later b8
  clear rx_w7
  have rs_w8 := rs_w7.later b8
  clear rs_w7
  have ra_w8 := ra_w7.later b8
  clear ra_w7
  have rb_w8 := rb_w7.later b8
  clear rb_w7
  have B_w8 := bel_trans B_w7 b8
  go_wp2_with fail
  refine (laws_v8Same _ _ _ _ _ _ _ _ w8 ra_w8 rb_w8 (by omega)).mono ?_
  rw [decide_eq_true rfl]
  rintro e w9 ⟨rfl, b9⟩
  have kt_w9 : w9.cell? ⟨w1.heap.size, 0, none⟩ = some (.slice (some ⟨b, o, none⟩) xs.length ct) := by rw [b9.cell lkt_w8]; exact kt_w8
  have lkt_w9 := Nat.lt_of_lt_of_le lkt_w8 b9.size
  clear kt_w8 lkt_w8
  have kx_w9 : w9.cell? ⟨w3.heap.size, 0, none⟩ = some (.slice Ax (xs.length + 1) cx) := by rw [b9.cell lkx_w8]; exact kx_w8
  have lkx_w9 := Nat.lt_of_lt_of_le lkx_w8 b9.size
  clear kx_w8 lkx_w8
  have rt_w9 := rt_w8.later b9
  clear rt_w8
  have rx_w9 := rx_w8.later b9
  clear rx_w8
  have rs_w9 := rs_w8.later b9
  clear rs_w8
  have ra_w9 := ra_w8.later b9
  clear ra_w8
  have rb_w9 := rb_w8.later b9
  clear rb_w8
  have B_w9 := bel_trans B_w8 b9
  go_wp2_with fail
  refine (impl_MergeClips _ _ _ ys (k : Int) w9 rx_w9 (by omega) hx1 hx2).mono ?_
  intro e w10 hr
  obtain ⟨Ay, cy, rfl, ry_w10, hy1, hy2, b10⟩ := retT_nil hr S5.out
  clear hr
  rw [S8.out] at ry_w10 ⊢
  have kt_w10 : w10.cell? ⟨w1.heap.size, 0, none⟩ = some (.slice (some ⟨b, o, none⟩) xs.length ct) := by rw [b10.cell lkt_w9]; exact kt_w9
  have lkt_w10 := Nat.lt_of_lt_of_le lkt_w9 b10.size
  clear kt_w9 lkt_w9
  have kx_w10 : w10.cell? ⟨w3.heap.size, 0, none⟩ = some (.slice Ax (xs.length + 1) cx) := by rw [b10.cell lkx_w9]; exact kx_w9
  have lkx_w10 := Nat.lt_of_lt_of_le lkx_w9 b10.size
  clear kx_w9 lkx_w9
  have rt_w10 := rt_w9.later b10
  clear rt_w9
  have rx_w10 := rx_w9.later b10
  clear rx_w9
  have rs_w10 := rs_w9.later b10
  clear rs_w9
  have ra_w10 := ra_w9.later b10
  clear ra_w9
  have rb_w10 := rb_w9.later b10
  clear rb_w9
  have B_w10 := bel_trans B_w9 b10
  obtain ⟨U11, hU⟩ : ∃ U, U = w10.alloc (.cells #[.slice Ay xs.length cy] 65) := ⟨_, rfl⟩
  have bU11 : Below w10.heap.size w10 U11 := by rw [hU]; exact (Below.refl _ _).alloc (Nat.le_refl _) _
  have ky_U11 : U11.cell? ⟨w10.heap.size, 0, none⟩ = some (.slice Ay xs.length cy) := by rw [hU]; simp [go_sem]
  have lky_U11 : w10.heap.size < U11.heap.size := by rw [hU]; simp
  have HU11 := Lib.hid hU
  clear hU
  have kt_U11 : U11.cell? ⟨w1.heap.size, 0, none⟩ = some (.slice (some ⟨b, o, none⟩) xs.length ct) := by rw [bU11.cell lkt_w10]; exact kt_w10
  have lkt_U11 := Nat.lt_of_lt_of_le lkt_w10 bU11.size
  clear kt_w10 lkt_w10
  have kx_U11 : U11.cell? ⟨w3.heap.size, 0, none⟩ = some (.slice Ax (xs.length + 1) cx) := by rw [bU11.cell lkx_w10]; exact kx_w10
  have lkx_U11 := Nat.lt_of_lt_of_le lkx_w10 bU11.size
  clear kx_w10 lkx_w10
  have rt_U11 := rt_w10.later bU11
  clear rt_w10
  have rx_U11 := rx_w10.later bU11
  clear rx_w10
  have rs_U11 := rs_w10.later bU11
  clear rs_w10
  have ra_U11 := ra_w10.later bU11
  clear ra_w10
  have rb_U11 := rb_w10.later bU11
  clear rb_w10
  have ry_U11 := ry_w10.later bU11
  clear ry_w10
  have B_U11 := bel_trans B_w10 bU11
  go_wp2_with fail
  rw [← HU11.out]
  refine (spec_RenderTrack _ _ _ _ _ _ 70 src zs U11 rs_U11 ry_U11 hlen (by omega) (by omega)).mono ?_
  intro e w12 hr
  obtain ⟨Az, cz, rfl, rz_w12, b12⟩ := ret2_nil' hr R3.out
  clear hr
  rw [RL.out] at rz_w12 ⊢
  have kt_w12 : w12.cell? ⟨w1.heap.size, 0, none⟩ = some (.slice (some ⟨b, o, none⟩) xs.length ct) := by rw [b12.cell lkt_U11]; exact kt_U11
  have lkt_w12 := Nat.lt_of_lt_of_le lkt_U11 b12.size
  clear kt_U11 lkt_U11
  have kx_w12 : w12.cell? ⟨w3.heap.size, 0, none⟩ = some (.slice Ax (xs.length + 1) cx) := by rw [b12.cell lkx_U11]; exact kx_U11
  have lkx_w12 := Nat.lt_of_lt_of_le lkx_U11 b12.size
  clear kx_U11 lkx_U11
  have ky_w12 : w12.cell? ⟨w10.heap.size, 0, none⟩ = some (.slice Ay xs.length cy) := by rw [b12.cell lky_U11]; exact ky_U11
  have lky_w12 := Nat.lt_of_lt_of_le lky_U11 b12.size
  clear ky_U11 lky_U11
  have rt_w12 := rt_U11.later b12
  clear rt_U11
  have rx_w12 := rx_U11.later b12
  clear rx_U11
  have rs_w12 := rs_U11.later b12
  clear rs_U11
  have ra_w12 := ra_U11.later b12
  clear ra_U11
  have rb_w12 := rb_U11.later b12
  clear rb_U11
  have ry_w12 := ry_U11.later b12
  clear ry_U11
  have B_w12 := bel_trans B_U11 b12
  go_wp2_with fail
  refine (laws_v8Same _ _ _ _ _ _ _ _ w12 rz_w12 ra_w12 (by omega)).mono ?_
  rw [decide_eq_true rfl]
  rintro e w13 ⟨rfl, b13⟩
  go_wp2
  go_ret
  exact ⟨rfl, bel_trans B_w12 b13⟩
end Go.Proofs.Ytckihflfjecpbaa
namespace Go.Proofs.Ytckihflfjecpbaa
open Go.ChangeShapes Go.WideShapes Go.Deep Go.RowKit
/-- Whatever came in at this type reads as something. -/
def Opens (P : Program) (T : TypeId) {α : Type} (t : Ty α) : Prop :=
  ∀ {H : Type} (enc : TypeId × Value → H) (w : World) (base : Nat) (spare : Nat → Bool) (held : Bool) (fuel : Nat) (cs : List Value) (d : DataW H × List MemPlace), DataW.trod enc P w base spare held fuel T cs = some d → ∃ x, t.R w w.heap.size cs x
section
variable {P : Program} {T : TypeId}
theorem opens_int (h : P.underlying T = some (.int .i64)) : Opens P T tI := fun _ _ _ _ _ _ _ _ ht => by
  obtain ⟨n, hn, _⟩ := DataW.trod_int h ht
  exact ⟨n, hn⟩
theorem opens_bool (h : P.underlying T = some .bool) : Opens P T tB := fun _ _ _ _ _ _ _ _ ht => by
  obtain ⟨n, hn, _⟩ := DataW.trod_bool h ht
  exact ⟨n, hn⟩
theorem opens_sl {α : Type} {t : Ty α} {e e' : TypeId} (ht : P.underlying T = some (.slice e)) (hC : P.cellsOf e = t.s) (he : Opens P e t) : Opens P T (t.sl e') := by
  intro H enc w base spare held fuel cs d h
  rcases open_slice ht h with ⟨rfl, _⟩ | ⟨a, len, cap, m, n, D, Pl, rfl, hb, hl, hm, hmm, hx, hi⟩
  · exact ⟨[], _, rfl, RS.nil _ _ _⟩
  · have hlm : len ≤ m := by rw [hmm]; split <;> omega
    have key : ∀ i, ∃ p : List Value × α, i < len → t.R w w.heap.size p.1 p.2 ∧ ∀ j u, p.1[j]? = some u → w.cell? (a.add (i * t.s + j)) = some u := by
      intro i
      by_cases hil : i < len
      · obtain ⟨cs', hc, ht'⟩ := hi i (by omega)
        rw [hC] at hc
        obtain ⟨x, hR⟩ := he enc w base spare held n cs' _ ht'
        obtain ⟨_, hcl, hat⟩ := World.cells?_some hc
        refine ⟨(cs', x), fun _ => ⟨hR, fun j u hu => ?_⟩⟩
        have hj : j < t.s := by rw [← hcl]; exact (List.getElem?_eq_some_iff.1 hu).1
        have := hat j hj
        rw [Go.Deep.add_add] at this
        rw [this]
        exact hu
      · exact ⟨([], t.zero), fun hc => absurd hc hil⟩
    obtain ⟨g, hg⟩ : ∃ g : Nat → List Value × α, ∀ i, i < len → t.R w w.heap.size (g i).1 (g i).2 ∧ ∀ j u, (g i).1[j]? = some u → w.cell? (a.add (i * t.s + j)) = some u := ⟨fun i => Classical.choose (key i), fun i => Classical.choose_spec (key i)⟩
    have hs : ∀ c ∈ (List.range len).map (fun i => (g i).1), c.length = t.s := by
      intro c hc
      obtain ⟨i, hi, rfl⟩ := List.mem_map.1 hc
      exact t.rlen (hg i (List.mem_range.1 hi)).1
    refine ⟨(List.range len).map fun i => (g i).2, _, rfl, some a, cap, (List.range len).map fun i => (g i).1, by simp, by simpa using hl, hm, by simp, ?_, ?_⟩
    · refine ⟨by rw [flat2_len hs]; simp, fun hn => ⟨a, rfl, ?_, fun j u hu => ?_⟩⟩
      · have hn' : 0 < len := by simpa using hn
        have h0 := (hg 0 hn')
        have hp := t.pos
        obtain ⟨u, hu⟩ : ∃ u, (g 0).1[0]? = some u := ⟨_, List.getElem?_eq_getElem (by rw [t.rlen h0.1]; exact hp)⟩
        have := World.block_lt_of_cell? _ _ (h0.2 0 u hu)
        rwa [block_of_add] at this
      · have hj : j < len * t.s := by have := (List.getElem?_eq_some_iff.1 hu).1; rw [flat2_len hs] at this; simpa using this
        have hk : j / t.s < len := Nat.div_lt_of_lt_mul (by rw [Nat.mul_comm]; exact hj)
        have hr : j % t.s < t.s := Nat.mod_lt _ t.pos
        have e0 : j / t.s * t.s + j % t.s = j := by rw [Nat.mul_comm]; exact Nat.div_add_mod j t.s
        have hf := flat2_at hs (k := j / t.s) (c := (g (j / t.s)).1) (by simp [hk]) (j % t.s) hr
        rw [e0, hu] at hf
        have := (hg _ hk).2 (j % t.s) u hf.symm
        rwa [e0] at this
    · intro k hk hk'
      simp only [List.length_map, List.length_range] at hk
      simp only [List.getElem_map, List.getElem_range]
      exact (hg k hk).1
/-- What the fields from the j-th cell on read as. -/
theorem R_one {α : Type} {t : Ty α} {w : World} {B o n : Nat} {cs : List Value} {x : α} (ho : o = 0) (hn : cs.length = n) (h : t.R w B ((cs.drop o).take n) x) : t.R w B cs x := by
  subst ho hn
  simpa using h
theorem R_pair {α β : Type} {a : Ty α} {b : Ty β} {w : World} {B n : Nat} {cs : List Value} {x : α} {y : β} (h1 : a.R w B (cs.take n) x) (h2 : b.R w B (cs.drop n) y) : (a.prod b).R w B cs (x, y) := ⟨cs.take n, cs.drop n, by simp, h1, h2⟩
/-- A struct of one field. -/
theorem opens_struct1 {α : Type} {t : Ty α} {f0 : Field} (hs : P.underlying T = some (.struct #[f0])) (o0 : f0.offset = 0) (hC : P.cellsOf T = P.cellsOf f0.type) (h0 : Opens P f0.type t) : Opens P T t := by
  intro H enc w base spare held fuel cs d h
  obtain ⟨y0, n, _, hlen, t0⟩ := trod_struct1 hs h
  obtain ⟨x, hx⟩ := h0 enc w base spare held n _ _ t0
  exact ⟨x, R_one o0 (by rw [hlen, hC]) hx⟩
theorem opens_fields {α : Type} {t : Ty α} {fs : Array Field} (hs : P.underlying T = some (.struct fs))
    (hf : ∀ (w : World) (cs : List Value), cs.length = P.cellsOf T → (∀ {H : Type} (enc : TypeId × Value → H) (base : Nat) (spare : Nat → Bool) (held : Bool) (n : Nat) (ys : List (DataW H × List MemPlace)), ys.length = fs.size → (∀ (i : Nat) (f : Field), fs[i]? = some f → DataW.trod enc P w base spare held n f.type ((cs.drop f.offset).take (P.cellsOf f.type)) = ys[i]?) → ∃ x, t.R w w.heap.size cs x)) : Opens P T t := by
  intro H enc w base spare held fuel cs d h
  obtain ⟨ys, n, _, _, hlen, hyl, hg⟩ := DataW.trod_struct hs h
  exact hf w cs hlen enc base spare held n ys hyl hg
end
/-- One field of a struct. -/
theorem field_at {P : Program} {H : Type} {enc : TypeId × Value → H} {w : World} {base n i o k : Nat} {spare : Nat → Bool} {held : Bool} {fs : Array Field} {cs : List Value} {ys : List (DataW H × List MemPlace)} {α : Type} {t : Ty α} {f : Field} {e : TypeId}
    (hyl : ys.length = fs.size) (hg : ∀ (i : Nat) (f : Field), fs[i]? = some f → DataW.trod enc P w base spare held n f.type ((cs.drop f.offset).take (P.cellsOf f.type)) = ys[i]?)
    (hi : fs[i]? = some f) (he : f.type = e) (ho : f.offset = o) (hk : P.cellsOf e = k) (h : Opens P e t) : ∃ x, t.R w w.heap.size ((cs.drop o).take k) x := by
  have h1 := hg i f hi
  have hlt : i < ys.length := by rw [hyl]; exact (Array.getElem?_eq_some_iff.1 hi).1
  rw [List.getElem?_eq_getElem hlt, he, ho, hk] at h1
  exact h enc w base spare held n _ _ h1
theorem flat2_open {P : Program} {T : TypeId} {f0 f1 : Field} {zero : Int × Int} {enc : Int × Int → List Value} {pos : 0 < 2} {henc : ∀ x, (enc x).length = 2} {h1c : ∀ x, ∀ u ∈ enc x, u.oneCell' = true}
    (hE : ∀ a b, enc (a, b) = [.int .i64 a, .int .i64 b]) (hs : P.underlying T = some (.struct #[f0, f1])) (h0 : P.underlying f0.type = some (.int .i64)) (h1 : P.underlying f1.type = some (.int .i64)) (o0 : f0.offset = 0) (o1 : f1.offset = 1)
    (k0 : P.cellsOf f0.type = 1) (k1 : P.cellsOf f1.type = 1) (hC : P.cellsOf T = 2) : Opens P T (Ty.flat 2 pos zero enc henc h1c) :=
  opens_fields hs fun w cs hl {H} enc' base spare held n ys hyl hg => by
    obtain ⟨a, ha⟩ := field_at (i := 0) hyl hg rfl rfl o0 k0 (opens_int h0)
    obtain ⟨b, hb⟩ := field_at (i := 1) hyl hg rfl rfl o1 k1 (opens_int h1)
    rw [hC] at hl
    match cs, hl with
    | [u, v], _ =>
      refine ⟨(a, b), ?_⟩
      show [u, v] = enc (a, b)
      have ha' : [u] = [Value.int .i64 a] := ha
      have hb' : [v] = [Value.int .i64 b] := hb
      rw [hE]
      injection ha' with e1
      injection hb' with e2
      rw [e1, e2]
end Go.Proofs.Ytckihflfjecpbaa
namespace Go.Proofs.Ytckihflfjecpbaa
open Go.RowKit
theorem opens_u8 {P : Program} {T : TypeId} (h : P.underlying T = some (.int .u8)) : Opens P T tU8 := fun _ _ _ _ _ _ _ _ ht => by
  obtain ⟨n, rfl, _, hw⟩ := DataW.trod_int h ht
  have hb : 0 ≤ n ∧ n ≤ 255 := by
    simp only [Lit.wf, Bool.and_eq_true, decide_eq_true_eq, show IntKind.u8.min = 0 from by decide, show IntKind.u8.max = 255 from by decide] at hw
    exact hw
  refine ⟨UInt8.ofNat n.toNat, ?_⟩
  show [Value.int .u8 n] = [.int .u8 ((UInt8.ofNat n.toNat).toNat : Int)]
  have h2 : (UInt8.ofNat n.toNat).toNat = n.toNat := by rw [UInt8.toNat_ofNat']; omega
  rw [h2, Int.toNat_of_nonneg hb.1]
abbrev tU : Ty (List UInt8) := tU8.sl 5
theorem opens_U : Opens Try.prog 46 tU := opens_sl Try.underlying46 (by kernel_rfl) (opens_u8 Try.underlying5)
end Go.Proofs.Ytckihflfjecpbaa
