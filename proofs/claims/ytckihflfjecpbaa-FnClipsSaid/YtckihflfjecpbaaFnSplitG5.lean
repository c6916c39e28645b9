import Derived.Test.YtckihflfjecpbaaFnSplitG4
import Derived.Deep.RegionWith
import Derived.Test.YtckihflfjecpbaaFnSplitG3
import Derived.Test.YtckihflfjecpbaaFnSplitG2
import Derived.StillTailTactics
set_option linter.unusedVariables false
set_option linter.unusedSimpArgs false
namespace Go.Proofs.Ytckihflfjecpbaa
open Go.RowKit
set_option maxHeartbeats 2000000
set_option maxRecDepth 100000
def M.later (a : Int) (p : Clip) : Bool := decide (a < p.2.2.2.1)
def M.putK (xs : List Clip) (a : Int) : Nat := (xs.findIdx? (M.later a)).getD xs.length
def M.putP (xs : List Clip) (x : Clip) : List Clip := M.insP xs (M.putK xs x.2.2.2.1) [x]
theorem M.putK_mid {xs : List Clip} {a : Int} {k : Nat} {y : Clip} (hk : xs[k]? = some y) (hy : a < y.2.2.2.1) (h : ∀ j, j < k → ∀ z, xs[j]? = some z → z.2.2.2.1 ≤ a) : M.putK xs a = k := by
  unfold M.putK
  rw [M.find_some hk (by rw [M.later, decide_eq_true_iff]; exact hy) (fun j hj z hz => by rw [M.later, decide_eq_false_iff_not]; have := h j hj z hz; omega)]
  rfl
theorem M.putK_end {xs : List Clip} {a : Int} (h : ∀ j, j < xs.length → ∀ z, xs[j]? = some z → z.2.2.2.1 ≤ a) : M.putK xs a = xs.length := by
  unfold M.putK
  rw [M.find_none (fun j hj z hz => by rw [M.later, decide_eq_false_iff_not]; have := h j hj z hz; omega)]
  rfl
theorem M.putK_le (xs : List Clip) (a : Int) : M.putK xs a ≤ xs.length := by
  unfold M.putK
  cases h : xs.findIdx? (M.later a) with
  | none => exact Nat.le_refl _
  | some i => exact Nat.le_of_lt (List.findIdx?_eq_some_iff_getElem.1 h).1
theorem impl_put (A : Option Addr) (n c : Nat) (xs : List Clip) (x0 x1 x2 x3 x4 : Int) (w : World) (hx : RA cl 5 w w.heap.size A n xs) (hn : n ≤ 100000000) :
    Calls Try.prog 116 #[.agg #[.slice A n c], .agg #[.int .i64 x0, .int .i64 x1, .int .i64 x2, .int .i64 x3, .int .i64 x4]] w fun e w' => ∃ v, e = .returned (.tuple #[.agg #[v], .int .i64 (M.putK xs x3)]) ∧ OA cl 78 5 w.heap.size w'.heap.size w' v (M.putP xs (x0, x1, x2, x3, x4)) ∧ Below w.heap.size w w' := by
  have hl := Lib.hid hx.len
  have hb0 : Below w.heap.size w (((w.alloc (.cells #[.slice A n c] 65)).alloc (.cells #[.int .i64 x0, .int .i64 x1, .int .i64 x2, .int .i64 x3, .int .i64 x4] 78)).alloc (.cells #[.slice none 0 0] 65)) := (((Below.refl _ _).alloc (Nat.le_refl _) _).alloc (by simp) _).alloc (by simp; omega) _
  obtain ⟨W0, hW0⟩ : ∃ W0, W0 = ((w.alloc (.cells #[.slice A n c] 65)).alloc (.cells #[.int .i64 x0, .int .i64 x1, .int .i64 x2, .int .i64 x3, .int .i64 x4] 78)).alloc (.cells #[.slice none 0 0] 65) := ⟨_, rfl⟩
  have hs0 : W0.heap.size = w.heap.size + 3 := by rw [hW0]; simp
  have c0 : W0.cell? ⟨w.heap.size, 0, none⟩ = some (.slice A n c) := by rw [hW0]; simp [go_sem]
  have c10 : W0.cell? ⟨w.heap.size + 1, 0, none⟩ = some (.int .i64 x0) := by rw [hW0]; simp [go_sem]
  have c11 : W0.cell? ⟨w.heap.size + 1, 1, none⟩ = some (.int .i64 x1) := by rw [hW0]; simp [go_sem]
  have c12 : W0.cell? ⟨w.heap.size + 1, 2, none⟩ = some (.int .i64 x2) := by rw [hW0]; simp [go_sem]
  have c13 : W0.cell? ⟨w.heap.size + 1, 3, none⟩ = some (.int .i64 x3) := by rw [hW0]; simp [go_sem]
  have c14 : W0.cell? ⟨w.heap.size + 1, 4, none⟩ = some (.int .i64 x4) := by rw [hW0]; simp [go_sem]
  have c2 : W0.cell? ⟨w.heap.size + 1 + 1, 0, none⟩ = some (.slice none 0 0) := by rw [hW0]; simp [go_sem]
  have f2 : W0.frozen? ⟨w.heap.size + 1 + 1, 0, none⟩ = false := by rw [hW0]; simp [go_sem]
  have HW0 := Lib.hid hW0
  rw [← hW0] at hb0
  clear hW0
  go_enter Try.func116, Try.ntmps116
  go_wp2
  rw [← HW0.out]
  go_loopw [6] (fun i wr => ∃ k : Nat, i = .int .i64 k ∧ k ≤ n ∧ Hid (∀ j, j < k → ∀ z, xs[j]? = some z → z.2.2.2.1 ≤ x3) ∧ Below W0.heap.size W0 wr) (fun i _ => n - (intOf i).toNat)
  case atStart => exact ⟨0, rfl, by omega, Lib.hid (by omega), Below.refl _ _⟩
  case round =>
    obtain ⟨k, rfl, hk, H, hb⟩ := hrel
    have hbb : Below w.heap.size w wr := hb0.trans (hb.mono (by omega))
    have hsz := hb.size
    rw [hs0] at hsz
    have d0 : wr.cell? ⟨w.heap.size, 0, none⟩ = some (.slice A n c) := by rw [hb.cell (by simp; omega)]; exact c0
    have d1 : wr.cell? ⟨w.heap.size + 1, 3, none⟩ = some (.int .i64 x3) := by rw [hb.cell (by simp; omega)]; exact c13
    by_cases hlt : k < n
    · obtain ⟨b, o, ⟨p0, p1, p2, p3, p4⟩, rfl, hab, X, hc⟩ := (hx.below hbb).at cl_len (by decide) hlt
      have hc3 : wr.cell? ⟨b, o + k * 5 + 3, none⟩ = some (.int .i64 p3) := hc 3 _ rfl
      clear hc
      by_cases hle : p3 ≤ x3
      · have H2 : Hid (∀ j, j < k + 1 → ∀ z, xs[j]? = some z → z.2.2.2.1 ≤ x3) := fun j hj z hz => by
          rcases Nat.lt_or_ge j k with h | h
          · exact H.out j h z hz
          · obtain rfl : j = k := by omega
            rw [X.out] at hz
            injection hz with hz
            subst hz
            exact hle
        have hd0 : decide (k < n) = true := by simpa using hlt
        have hd1 : decide (p3 ≤ x3) = true := by simpa using hle
        have hbr : b < wr.heap.size := Nat.lt_of_lt_of_le hab hbb.size
        go_wp2
        go_quiet (fail)
        go_wp2
        go_roundw
        case rel => exact ⟨k + 1, by go_num, by omega, H2, below_drewN hb _⟩
        case measure => first | go_num | omega | (simp only [intOf]; omega)
      · have hd0 : decide (k < n) = true := by simpa using hlt
        have hd1 : decide (p3 ≤ x3) = false := by simpa using hle
        have hK := Lib.hid (M.putK_mid X.out (show x3 < p3 by omega) H.out)
        go_wp2
        go_quiet (fail)
        go_wp2
        obtain ⟨wq, hwq⟩ : ∃ wq : World, wq = wr.drewN nq := ⟨_, rfl⟩
        have bq : Below w.heap.size w wq := by rw [hwq]; exact below_drewN hbb _
        have bq0 : Below W0.heap.size W0 wq := by rw [hwq]; exact below_drewN hb _
        have sq : w.heap.size + 1 + 1 + 1 ≤ wq.heap.size := by have := bq0.size; omega
        have t0 : wq.cell? ⟨w.heap.size, 0, none⟩ = some (.slice (some ⟨b, o, none⟩) n c) := by rw [bq0.cell (by simp; omega)]; exact c0
        have t10 : wq.cell? ⟨w.heap.size + 1, 0, none⟩ = some (.int .i64 x0) := by rw [bq0.cell (by simp; omega)]; exact c10
        have t11 : wq.cell? ⟨w.heap.size + 1, 1, none⟩ = some (.int .i64 x1) := by rw [bq0.cell (by simp; omega)]; exact c11
        have t12 : wq.cell? ⟨w.heap.size + 1, 2, none⟩ = some (.int .i64 x2) := by rw [bq0.cell (by simp; omega)]; exact c12
        have t13 : wq.cell? ⟨w.heap.size + 1, 3, none⟩ = some (.int .i64 x3) := by rw [bq0.cell (by simp; omega)]; exact c13
        have t14 : wq.cell? ⟨w.heap.size + 1, 4, none⟩ = some (.int .i64 x4) := by rw [bq0.cell (by simp; omega)]; exact c14
        have t2 : wq.cell? ⟨w.heap.size + 1 + 1, 0, none⟩ = some (.slice none 0 0) := by rw [bq0.cell (by simp; omega)]; exact c2
        have t3 : wq.frozen? ⟨w.heap.size + 1 + 1, 0, none⟩ = false := by rw [bq0.frozen (by simp; omega)]; exact f2
        have hP := Lib.hid (show M.putP xs (x0, x1, x2, x3, x4) = M.insP xs k [(x0, x1, x2, x3, x4)] by rw [M.putP, hK.out])
        rw [← hwq]
        clear hwq
        have ba : Below wq.heap.size wq wq.drew := below_drewN (Below.refl _ _) 1
        have bb : Below wq.heap.size wq (wq.drew.alloc (.cells #[.int .i64 x0, .int .i64 x1, .int .i64 x2, .int .i64 x3, .int .i64 x4] 78)) := ba.alloc (Nat.le_refl _) _
        have hxa := hx.later (bel_trans bq ba)
        have hxb := hx.later (bel_trans bq bb)
        have z0 : w.heap.size < wq.heap.size := by omega
        have z1 : w.heap.size + 1 < wq.heap.size := by omega
        have z2 : w.heap.size + 1 + 1 < wq.heap.size := by omega
        have esb : (wq.drew.alloc (.cells #[.int .i64 x0, .int .i64 x1, .int .i64 x2, .int .i64 x3, .int .i64 x4] 78)).heap.size = wq.heap.size + 1 := by simp
        have esa : wq.drew.heap.size = wq.heap.size := rfl
        go_region_with (first | (go_at_call 113; refine (slices_Clone_impl_Clip_impl_Clip _ _ _ _ _ hxa (by omega)).mono ?_; rintro e w2 ⟨v2, rfl, own2, bel2⟩; obtain ⟨A2, c2', rfl, -⟩ := own2.shape; have G2 := bel_trans ba bel2; have s2 := G2.size; have k0 : w2.cell? ⟨w.heap.size, 0, none⟩ = some (.slice (some ⟨b, o, none⟩) n c) := (by rw [G2.cell (by first | exact z0 | (simp; omega))]; exact t0); have k10 : w2.cell? ⟨w.heap.size + 1, 0, none⟩ = some (.int .i64 x0) := (by rw [G2.cell (by first | exact z1 | (simp; omega))]; exact t10); have k11 : w2.cell? ⟨w.heap.size + 1, 1, none⟩ = some (.int .i64 x1) := (by rw [G2.cell (by first | exact z1 | (simp; omega))]; exact t11); have k12 : w2.cell? ⟨w.heap.size + 1, 2, none⟩ = some (.int .i64 x2) := (by rw [G2.cell (by first | exact z1 | (simp; omega))]; exact t12); have k13 : w2.cell? ⟨w.heap.size + 1, 3, none⟩ = some (.int .i64 x3) := (by rw [G2.cell (by first | exact z1 | (simp; omega))]; exact t13); have k14 : w2.cell? ⟨w.heap.size + 1, 4, none⟩ = some (.int .i64 x4) := (by rw [G2.cell (by first | exact z1 | (simp; omega))]; exact t14); have k2 : w2.cell? ⟨w.heap.size + 1 + 1, 0, none⟩ = some (.slice none 0 0) := (by rw [G2.cell (by first | exact z2 | (simp; omega))]; exact t2); have k3 : w2.frozen? ⟨w.heap.size + 1 + 1, 0, none⟩ = false := (by rw [G2.frozen (by first | exact z2 | (simp; omega))]; exact t3); have ownA := own2.below (B := w2.heap.size) (w' := w2.alloc (.cells #[.int .i64 x0, .int .i64 x1, .int .i64 x2, .int .i64 x3, .int .i64 x4] 78)) ((Below.refl _ _).alloc (Nat.le_refl _) _) (Nat.le_refl _); have hvA := heap_alloc_new w2 (.cells #[.int .i64 x0, .int .i64 x1, .int .i64 x2, .int .i64 x3, .int .i64 x4] 78); have G3 : Below wq.heap.size wq (w2.alloc (.cells #[.int .i64 x0, .int .i64 x1, .int .i64 x2, .int .i64 x3, .int .i64 x4] 78)) := G2.alloc s2 _) | (go_at_call 113; refine (slices_Clone_impl_Clip_impl_Clip _ _ _ _ _ hxb (by omega)).mono ?_; rintro e w2 ⟨v2, rfl, own2, bel2⟩; obtain ⟨A2, c2', rfl, -⟩ := own2.shape; have G2 := bel_trans bb bel2; have s2 := G2.size; have k0 : w2.cell? ⟨w.heap.size, 0, none⟩ = some (.slice (some ⟨b, o, none⟩) n c) := (by rw [G2.cell (by first | exact z0 | (simp; omega))]; exact t0); have k10 : w2.cell? ⟨w.heap.size + 1, 0, none⟩ = some (.int .i64 x0) := (by rw [G2.cell (by first | exact z1 | (simp; omega))]; exact t10); have k11 : w2.cell? ⟨w.heap.size + 1, 1, none⟩ = some (.int .i64 x1) := (by rw [G2.cell (by first | exact z1 | (simp; omega))]; exact t11); have k12 : w2.cell? ⟨w.heap.size + 1, 2, none⟩ = some (.int .i64 x2) := (by rw [G2.cell (by first | exact z1 | (simp; omega))]; exact t12); have k13 : w2.cell? ⟨w.heap.size + 1, 3, none⟩ = some (.int .i64 x3) := (by rw [G2.cell (by first | exact z1 | (simp; omega))]; exact t13); have k14 : w2.cell? ⟨w.heap.size + 1, 4, none⟩ = some (.int .i64 x4) := (by rw [G2.cell (by first | exact z1 | (simp; omega))]; exact t14); have k2 : w2.cell? ⟨w.heap.size + 1 + 1, 0, none⟩ = some (.slice none 0 0) := (by rw [G2.cell (by first | exact z2 | (simp; omega))]; exact t2); have k3 : w2.frozen? ⟨w.heap.size + 1 + 1, 0, none⟩ = false := (by rw [G2.frozen (by first | exact z2 | (simp; omega))]; exact t3); have hvB : w2.heap[wq.heap.size]? = some (.cells #[.int .i64 x0, .int .i64 x1, .int .i64 x2, .int .i64 x3, .int .i64 x4] 78 (0, 0)) := (by rw [bel2.block _ (by simp)]; exact heap_alloc_new wq.drew _)) | (go_at_call 145; refine (Insert_one _ _ _ _ _ _ _ xs (x0, x1, x2, x3, x4) _ ownA hvA (.inr (Nat.le_refl _)) (by rw [hl.out]; exact hk) (by rw [hl.out]; omega) (by simp; omega) (by simp)).mono ?_; rintro e w3 ⟨v3, rfl, own3, bel3⟩; obtain ⟨A3, c3', rfl, -⟩ := own3.shape; have G4 := G3.trans (bel3.mono (by first | exact Nat.le_refl _ | (simp; done) | (simp; omega))); have q3 : w3.cell? ⟨w.heap.size + 1 + 1, 0, none⟩ = some (.slice none 0 0) := (by rw [G4.cell (by first | exact z2 | (simp; omega))]; exact t2); have r3 : w3.frozen? ⟨w.heap.size + 1 + 1, 0, none⟩ = false := (by rw [G4.frozen (by first | exact z2 | (simp; omega))]; exact t3)) | (go_at_call 145; refine (Insert_one _ _ _ _ _ _ _ xs (x0, x1, x2, x3, x4) _ own2 hvB (.inl (by simp)) (by rw [hl.out]; exact hk) (by rw [hl.out]; omega) bel2.size (Nat.le_refl _)).mono ?_; rintro e w3 ⟨v3, rfl, own3, bel3⟩; obtain ⟨A3, c3', rfl, -⟩ := own3.shape; have G4 := G2.trans (bel3.mono (by first | exact Nat.le_refl _ | (simp; done) | (simp; omega))); have q3 : w3.cell? ⟨w.heap.size + 1 + 1, 0, none⟩ = some (.slice none 0 0) := (by rw [G4.cell (by first | exact z2 | (simp; omega))]; exact t2); have r3 : w3.frozen? ⟨w.heap.size + 1 + 1, 0, none⟩ = false := (by rw [G4.frozen (by first | exact z2 | (simp; omega))]; exact t3)))
        all_goals (go_wp2; refine bodyPost_ret (v := .tuple #[.agg #[.slice A3 (M.insP xs k [(x0, x1, x2, x3, x4)]).length c3'], .int .i64 k]) (by simp [results, Try.results116, go_sem, q3, r3]) rfl ?_; rw [hK.out, hP.out]; exact ⟨_, rfl, (own3.mid (Mid.cell w3 (w.heap.size + 1 + 1) 0 (.slice A3 (M.insP xs k [(x0, x1, x2, x3, x4)]).length c3')) (.inr (by first | omega | (simp; omega))) (Nat.le_refl _)).wide (by first | omega | (simp; omega)) (by simp), (bq.trans (G4.mono (by omega))).setCell (by first | (simp; done) | (simp; omega)) _⟩)
    · have hd0 : decide (k < n) = false := by simpa using hlt
      have hK := Lib.hid (show M.putK xs x3 = k by rw [M.putK_end (fun j hj => H.out j (by have := hl.out; omega))]; have := hl.out; omega)
      go_wp2
      go_quiet (fail)
      go_wp2
      obtain ⟨wq, hwq⟩ : ∃ wq : World, wq = wr.drewN nq := ⟨_, rfl⟩
      have bq : Below w.heap.size w wq := by rw [hwq]; exact below_drewN hbb _
      have bq0 : Below W0.heap.size W0 wq := by rw [hwq]; exact below_drewN hb _
      have sq : w.heap.size + 1 + 1 + 1 ≤ wq.heap.size := by have := bq0.size; omega
      have t0 : wq.cell? ⟨w.heap.size, 0, none⟩ = some (.slice A n c) := by rw [bq0.cell (by simp; omega)]; exact c0
      have t10 : wq.cell? ⟨w.heap.size + 1, 0, none⟩ = some (.int .i64 x0) := by rw [bq0.cell (by simp; omega)]; exact c10
      have t11 : wq.cell? ⟨w.heap.size + 1, 1, none⟩ = some (.int .i64 x1) := by rw [bq0.cell (by simp; omega)]; exact c11
      have t12 : wq.cell? ⟨w.heap.size + 1, 2, none⟩ = some (.int .i64 x2) := by rw [bq0.cell (by simp; omega)]; exact c12
      have t13 : wq.cell? ⟨w.heap.size + 1, 3, none⟩ = some (.int .i64 x3) := by rw [bq0.cell (by simp; omega)]; exact c13
      have t14 : wq.cell? ⟨w.heap.size + 1, 4, none⟩ = some (.int .i64 x4) := by rw [bq0.cell (by simp; omega)]; exact c14
      have t2 : wq.cell? ⟨w.heap.size + 1 + 1, 0, none⟩ = some (.slice none 0 0) := by rw [bq0.cell (by simp; omega)]; exact c2
      have t3 : wq.frozen? ⟨w.heap.size + 1 + 1, 0, none⟩ = false := by rw [bq0.frozen (by simp; omega)]; exact f2
      have hP := Lib.hid (show M.putP xs (x0, x1, x2, x3, x4) = M.insP xs k [(x0, x1, x2, x3, x4)] by rw [M.putP, hK.out])
      rw [← hwq]
      clear hwq
      have ba : Below wq.heap.size wq wq.drew := below_drewN (Below.refl _ _) 1
      have bb : Below wq.heap.size wq (wq.drew.alloc (.cells #[.int .i64 x0, .int .i64 x1, .int .i64 x2, .int .i64 x3, .int .i64 x4] 78)) := ba.alloc (Nat.le_refl _) _
      have hxa := hx.later (bel_trans bq ba)
      have hxb := hx.later (bel_trans bq bb)
      have z0 : w.heap.size < wq.heap.size := by omega
      have z1 : w.heap.size + 1 < wq.heap.size := by omega
      have z2 : w.heap.size + 1 + 1 < wq.heap.size := by omega
      have esb : (wq.drew.alloc (.cells #[.int .i64 x0, .int .i64 x1, .int .i64 x2, .int .i64 x3, .int .i64 x4] 78)).heap.size = wq.heap.size + 1 := by simp
      have esa : wq.drew.heap.size = wq.heap.size := rfl
      go_region_with (first | (go_at_call 113; refine (slices_Clone_impl_Clip_impl_Clip _ _ _ _ _ hxa (by omega)).mono ?_; rintro e w2 ⟨v2, rfl, own2, bel2⟩; obtain ⟨A2, c2', rfl, -⟩ := own2.shape; have G2 := bel_trans ba bel2; have s2 := G2.size; have k0 : w2.cell? ⟨w.heap.size, 0, none⟩ = some (.slice A n c) := (by rw [G2.cell (by first | exact z0 | (simp; omega))]; exact t0); have k10 : w2.cell? ⟨w.heap.size + 1, 0, none⟩ = some (.int .i64 x0) := (by rw [G2.cell (by first | exact z1 | (simp; omega))]; exact t10); have k11 : w2.cell? ⟨w.heap.size + 1, 1, none⟩ = some (.int .i64 x1) := (by rw [G2.cell (by first | exact z1 | (simp; omega))]; exact t11); have k12 : w2.cell? ⟨w.heap.size + 1, 2, none⟩ = some (.int .i64 x2) := (by rw [G2.cell (by first | exact z1 | (simp; omega))]; exact t12); have k13 : w2.cell? ⟨w.heap.size + 1, 3, none⟩ = some (.int .i64 x3) := (by rw [G2.cell (by first | exact z1 | (simp; omega))]; exact t13); have k14 : w2.cell? ⟨w.heap.size + 1, 4, none⟩ = some (.int .i64 x4) := (by rw [G2.cell (by first | exact z1 | (simp; omega))]; exact t14); have k2 : w2.cell? ⟨w.heap.size + 1 + 1, 0, none⟩ = some (.slice none 0 0) := (by rw [G2.cell (by first | exact z2 | (simp; omega))]; exact t2); have k3 : w2.frozen? ⟨w.heap.size + 1 + 1, 0, none⟩ = false := (by rw [G2.frozen (by first | exact z2 | (simp; omega))]; exact t3); have ownA := own2.below (B := w2.heap.size) (w' := w2.alloc (.cells #[.int .i64 x0, .int .i64 x1, .int .i64 x2, .int .i64 x3, .int .i64 x4] 78)) ((Below.refl _ _).alloc (Nat.le_refl _) _) (Nat.le_refl _); have hvA := heap_alloc_new w2 (.cells #[.int .i64 x0, .int .i64 x1, .int .i64 x2, .int .i64 x3, .int .i64 x4] 78); have G3 : Below wq.heap.size wq (w2.alloc (.cells #[.int .i64 x0, .int .i64 x1, .int .i64 x2, .int .i64 x3, .int .i64 x4] 78)) := G2.alloc s2 _) | (go_at_call 113; refine (slices_Clone_impl_Clip_impl_Clip _ _ _ _ _ hxb (by omega)).mono ?_; rintro e w2 ⟨v2, rfl, own2, bel2⟩; obtain ⟨A2, c2', rfl, -⟩ := own2.shape; have G2 := bel_trans bb bel2; have s2 := G2.size; have k0 : w2.cell? ⟨w.heap.size, 0, none⟩ = some (.slice A n c) := (by rw [G2.cell (by first | exact z0 | (simp; omega))]; exact t0); have k10 : w2.cell? ⟨w.heap.size + 1, 0, none⟩ = some (.int .i64 x0) := (by rw [G2.cell (by first | exact z1 | (simp; omega))]; exact t10); have k11 : w2.cell? ⟨w.heap.size + 1, 1, none⟩ = some (.int .i64 x1) := (by rw [G2.cell (by first | exact z1 | (simp; omega))]; exact t11); have k12 : w2.cell? ⟨w.heap.size + 1, 2, none⟩ = some (.int .i64 x2) := (by rw [G2.cell (by first | exact z1 | (simp; omega))]; exact t12); have k13 : w2.cell? ⟨w.heap.size + 1, 3, none⟩ = some (.int .i64 x3) := (by rw [G2.cell (by first | exact z1 | (simp; omega))]; exact t13); have k14 : w2.cell? ⟨w.heap.size + 1, 4, none⟩ = some (.int .i64 x4) := (by rw [G2.cell (by first | exact z1 | (simp; omega))]; exact t14); have k2 : w2.cell? ⟨w.heap.size + 1 + 1, 0, none⟩ = some (.slice none 0 0) := (by rw [G2.cell (by first | exact z2 | (simp; omega))]; exact t2); have k3 : w2.frozen? ⟨w.heap.size + 1 + 1, 0, none⟩ = false := (by rw [G2.frozen (by first | exact z2 | (simp; omega))]; exact t3); have hvB : w2.heap[wq.heap.size]? = some (.cells #[.int .i64 x0, .int .i64 x1, .int .i64 x2, .int .i64 x3, .int .i64 x4] 78 (0, 0)) := (by rw [bel2.block _ (by simp)]; exact heap_alloc_new wq.drew _)) | (go_at_call 145; refine (Insert_one _ _ _ _ _ _ _ xs (x0, x1, x2, x3, x4) _ ownA hvA (.inr (Nat.le_refl _)) (by rw [hl.out]; exact hk) (by rw [hl.out]; omega) (by simp; omega) (by simp)).mono ?_; rintro e w3 ⟨v3, rfl, own3, bel3⟩; obtain ⟨A3, c3', rfl, -⟩ := own3.shape; have G4 := G3.trans (bel3.mono (by first | exact Nat.le_refl _ | (simp; done) | (simp; omega))); have q3 : w3.cell? ⟨w.heap.size + 1 + 1, 0, none⟩ = some (.slice none 0 0) := (by rw [G4.cell (by first | exact z2 | (simp; omega))]; exact t2); have r3 : w3.frozen? ⟨w.heap.size + 1 + 1, 0, none⟩ = false := (by rw [G4.frozen (by first | exact z2 | (simp; omega))]; exact t3)) | (go_at_call 145; refine (Insert_one _ _ _ _ _ _ _ xs (x0, x1, x2, x3, x4) _ own2 hvB (.inl (by simp)) (by rw [hl.out]; exact hk) (by rw [hl.out]; omega) bel2.size (Nat.le_refl _)).mono ?_; rintro e w3 ⟨v3, rfl, own3, bel3⟩; obtain ⟨A3, c3', rfl, -⟩ := own3.shape; have G4 := G2.trans (bel3.mono (by first | exact Nat.le_refl _ | (simp; done) | (simp; omega))); have q3 : w3.cell? ⟨w.heap.size + 1 + 1, 0, none⟩ = some (.slice none 0 0) := (by rw [G4.cell (by first | exact z2 | (simp; omega))]; exact t2); have r3 : w3.frozen? ⟨w.heap.size + 1 + 1, 0, none⟩ = false := (by rw [G4.frozen (by first | exact z2 | (simp; omega))]; exact t3)))
      all_goals (go_wp2; refine bodyPost_ret (v := .tuple #[.agg #[.slice A3 (M.insP xs k [(x0, x1, x2, x3, x4)]).length c3'], .int .i64 k]) (by simp [results, Try.results116, go_sem, q3, r3]) rfl ?_; rw [hK.out, hP.out]; exact ⟨_, rfl, (own3.mid (Mid.cell w3 (w.heap.size + 1 + 1) 0 (.slice A3 (M.insP xs k [(x0, x1, x2, x3, x4)]).length c3')) (.inr (by first | omega | (simp; omega))) (Nat.le_refl _)).wide (by first | omega | (simp; omega)) (by simp), (bq.trans (G4.mono (by omega))).setCell (by first | (simp; done) | (simp; omega)) _⟩)
end Go.Proofs.Ytckihflfjecpbaa
namespace Go.Proofs.Ytckihflfjecpbaa
open Go.RowKit
set_option maxHeartbeats 2000000
set_option maxRecDepth 100000
def M.sortT (xs : List Clip) : Prop := ∀ (i j : Nat) (y z : Clip), i ≤ j → xs[i]? = some y → xs[j]? = some z → y.2.2.2.1 ≤ z.2.2.2.1
theorem M.putK_back {xs : List Clip} {a : Int} {k : Nat} (hs : M.sortT xs) (hk : k ≤ xs.length) (h : ∀ j, k ≤ j → ∀ z, xs[j]? = some z → a < z.2.2.2.1) (h1 : 0 < k → ∀ z, xs[k - 1]? = some z → z.2.2.2.1 ≤ a) : M.putK xs a = k := by
  have hlow : ∀ j, j < k → ∀ z, xs[j]? = some z → z.2.2.2.1 ≤ a := by
    intro j hj z hz
    have hlt : k - 1 < xs.length := by omega
    have h2 := h1 (by omega) _ (List.getElem?_eq_getElem hlt)
    exact Int.le_trans (hs j (k - 1) z _ (by omega) hz (List.getElem?_eq_getElem hlt)) h2
  rcases Nat.lt_or_ge k xs.length with hlt | hge
  · exact M.putK_mid (List.getElem?_eq_getElem hlt) (h k (Nat.le_refl _) _ (List.getElem?_eq_getElem hlt)) hlow
  · obtain rfl : k = xs.length := by omega
    exact M.putK_end hlow
theorem addr_add0 (a : Addr) : a.add 0 = a := by
  unfold Addr.add
  rcases a with ⟨b, o, sp⟩
  cases sp <;> simp
theorem spec_l23Put (A : Option Addr) (n c : Nat) (xs : List Clip) (x0 x1 x2 x3 x4 : Int) (w : World) (hx : RA cl 5 w w.heap.size A n xs) (hn : n ≤ 100000000) (hc : n ≤ c) (hm : c ≤ maxLen) (hso : M.sortT xs) :
    Calls Try.prog 143 #[.slice A n c, .agg #[.int .i64 x0, .int .i64 x1, .int .i64 x2, .int .i64 x3, .int .i64 x4]] w fun e w' => ∃ v, e = .returned (.tuple #[v, .int .i64 (M.putK xs x3)]) ∧ OA cl 78 5 w.heap.size w'.heap.size w' v (M.putP xs (x0, x1, x2, x3, x4)) ∧ Below w.heap.size w w' := by
  have hl := Lib.hid hx.len
  unfold maxLen at hm
  obtain ⟨W0, hW0⟩ : ∃ W0, W0 = w.alloc (.cells #[.int .i64 x0, .int .i64 x1, .int .i64 x2, .int .i64 x3, .int .i64 x4] 78) := ⟨_, rfl⟩
  have hb0 : Below w.heap.size w W0 := by rw [hW0]; exact (Below.refl _ _).alloc (Nat.le_refl _) _
  have hs0 : W0.heap.size = w.heap.size + 1 := by rw [hW0]; simp
  have c10 : W0.cell? ⟨w.heap.size, 0, none⟩ = some (.int .i64 x0) := by rw [hW0, cell_of_row _ w.heap.size 0 _ 78 (0, 0) (heap_alloc_new w _)]; rfl
  have c11 : W0.cell? ⟨w.heap.size, 1, none⟩ = some (.int .i64 x1) := by rw [hW0, cell_of_row _ w.heap.size 1 _ 78 (0, 0) (heap_alloc_new w _)]; rfl
  have c12 : W0.cell? ⟨w.heap.size, 2, none⟩ = some (.int .i64 x2) := by rw [hW0, cell_of_row _ w.heap.size 2 _ 78 (0, 0) (heap_alloc_new w _)]; rfl
  have c13 : W0.cell? ⟨w.heap.size, 3, none⟩ = some (.int .i64 x3) := by rw [hW0, cell_of_row _ w.heap.size 3 _ 78 (0, 0) (heap_alloc_new w _)]; rfl
  have c14 : W0.cell? ⟨w.heap.size, 4, none⟩ = some (.int .i64 x4) := by rw [hW0, cell_of_row _ w.heap.size 4 _ 78 (0, 0) (heap_alloc_new w _)]; rfl
  have HW0 := Lib.hid hW0
  have HSO := Lib.hid hso
  clear hW0 hso
  go_enter Try.func143, Try.ntmps143
  go_wp2
  rw [← HW0.out]
  go_loopw [6] (fun i wr => ∃ k : Nat, i = .int .i64 k ∧ k ≤ n ∧ Hid (∀ j, k ≤ j → ∀ z, xs[j]? = some z → x3 < z.2.2.2.1) ∧ Below W0.heap.size W0 wr) (fun i _ => (intOf i).toNat)
  case atStart => exact ⟨n, rfl, Nat.le_refl _, Lib.hid (fun j hj z hz => by have := (List.getElem?_eq_some_iff.1 hz).1; have := hl.out; omega), Below.refl _ _⟩
  case round =>
    obtain ⟨k, rfl, hk, H, hb⟩ := hrel
    have hbb : Below w.heap.size w wr := hb0.trans (hb.mono (by omega))
    have hsz := hb.size
    rw [hs0] at hsz
    have d1 : wr.cell? ⟨w.heap.size, 3, none⟩ = some (.int .i64 x3) := by rw [hb.cell (by simp; omega)]; exact c13
    by_cases hlt : 0 < k
    · obtain ⟨b, o, ⟨p0, p1, p2, p3, p4⟩, rfl, hab, X, hcc⟩ := (hx.below hbb).at cl_len (by decide) (k := k - 1) (by omega)
      have hc3 : wr.cell? ⟨b, o + (k - 1) * 5 + 3, none⟩ = some (.int .i64 p3) := hcc 3 _ rfl
      clear hcc
      have hkk : IntKind.i64.wrap ((k : Int) - 1) = ((k - 1 : Nat) : Int) := by rw [IntWalk.i64_in _ (by omega)]; omega
      have hbr : b < wr.heap.size := Nat.lt_of_lt_of_le hab hbb.size
      have hd0 : decide (0 < k) = true := by simpa using hlt
      by_cases hle : x3 < p3
      · have H2 : Hid (∀ j, k - 1 ≤ j → ∀ z, xs[j]? = some z → x3 < z.2.2.2.1) := fun j hj z hz => by
          rcases Nat.lt_or_ge j k with h | h
          · obtain rfl : j = k - 1 := by omega
            rw [X.out] at hz
            injection hz with hz
            subst hz
            exact hle
          · exact H.out j h z hz
        have hd1 : decide (x3 < p3) = true := by simpa using hle
        go_wp2
        go_quiet (fail)
        go_wp2
        go_roundw
        case rel => exact ⟨k - 1, by first | rfl | go_num | (rw [hkk]), by omega, H2, below_drewN hb _⟩
        case measure => first | go_num | omega | (simp only [intOf]; omega)
      · have hd1 : decide (x3 < p3) = false := by simpa using hle
        have hK := Lib.hid (M.putK_back HSO.out (by have := hl.out; omega) H.out (fun _ z hz => by rw [X.out] at hz; injection hz with hz; subst hz; exact (by omega : p3 ≤ x3)))
        clear hkk
        go_wp2
        go_quiet (fail)
        obtain ⟨wq, hwq⟩ : ∃ wq : World, wq = wr.drewN nq := ⟨_, rfl⟩
        have bq : Below w.heap.size w wq := by rw [hwq]; exact below_drewN hbb _
        have bq0 : Below W0.heap.size W0 wq := by rw [hwq]; exact below_drewN hb _
        have sq : w.heap.size + 1 ≤ wq.heap.size := by have := bq0.size; omega
        have t10 : wq.cell? ⟨w.heap.size, 0, none⟩ = some (.int .i64 x0) := by rw [bq0.cell (by simp; omega)]; exact c10
        have t11 : wq.cell? ⟨w.heap.size, 1, none⟩ = some (.int .i64 x1) := by rw [bq0.cell (by simp; omega)]; exact c11
        have t12 : wq.cell? ⟨w.heap.size, 2, none⟩ = some (.int .i64 x2) := by rw [bq0.cell (by simp; omega)]; exact c12
        have t13 : wq.cell? ⟨w.heap.size, 3, none⟩ = some (.int .i64 x3) := by rw [bq0.cell (by simp; omega)]; exact c13
        have t14 : wq.cell? ⟨w.heap.size, 4, none⟩ = some (.int .i64 x4) := by rw [bq0.cell (by simp; omega)]; exact c14
        have hP := Lib.hid (show M.putP xs (x0, x1, x2, x3, x4) = xs.take k ++ [(x0, x1, x2, x3, x4)] ++ xs.drop k by rw [M.putP, hK.out]; rfl)
        have h0 : (wq.alloc (.cells #[] 78)).ownsRow wq.heap.size 78 5 (.slice (some ⟨wq.heap.size, 0, none⟩) 0 0) 0 [] := World.ownsRow_made _ _ _ (Nat.le_refl _) (by simp [maxLen]) rfl
        have hba : Below wq.heap.size wq (wq.alloc (.cells #[] 78)) := (Below.refl _ _).alloc (Nat.le_refl _) _
        have bw0 := bel_trans bq hba
        have r1 := (hx.head cl_len hk).reads.below bw0
        have r2 := (hx.cut cl_len (k := k) hk hc).reads
        have fin : ∀ v (w2 : World), w2.ownsRow wq.heap.size 78 5 v (k + 1 + (n - k)) (((xs.take k).flatMap cl ++ cl (x0, x1, x2, x3, x4)) ++ (xs.drop k).flatMap cl) → OA cl 78 5 w.heap.size w2.heap.size w2 v (M.putP xs (x0, x1, x2, x3, x4)) := by
          intro v w2 h
          have e1 : ((xs.take k).flatMap cl ++ cl (x0, x1, x2, x3, x4)) ++ (xs.drop k).flatMap cl = (M.putP xs (x0, x1, x2, x3, x4)).flatMap cl := by rw [hP.out, List.flatMap_append, List.flatMap_append, List.flatMap_cons, List.flatMap_nil, List.append_nil]
          have e2 : (M.putP xs (x0, x1, x2, x3, x4)).length = k + 1 + (n - k) := by rw [hP.out, List.length_append, List.length_append, List.length_take, List.length_drop, hl.out, Nat.min_eq_left hk]; rfl
          unfold OA
          rw [e2]
          rw [e1] at h
          exact (OX.of_own h).wide (by omega) (Nat.le_refl _)
        have FIN := Lib.hid fin
        rw [← hwq]
        clear fin hwq hP
        by_cases hck : c = k
        · rw [if_pos hck] at r2
          subst hck
          obtain rfl : n = c := by omega
          rw [Nat.sub_self] at r2 FIN
          have tok1 : True := trivial
          go_wp2_with (first | (at_builtin; have _t := tok1; refine wpList_cat ei_cl rfl _ _ rfl h0 rfl r1 rfl (cls_oneCell _) (by unfold maxLen; omega) (by omega) hba.size ?_; intro v1 w1 own1 gr1 bel1; rw [Nat.zero_add, List.nil_append] at own1; obtain ⟨A1, c1', rfl, -⟩ := own_shape own1; have hb1 := hba.trans bel1; have s1 := hb1.size; have k10 : w1.cell? ⟨w.heap.size, 0, none⟩ = some (.int .i64 x0) := (by rw [hb1.cell (by simp; omega)]; exact t10); have k11 : w1.cell? ⟨w.heap.size, 1, none⟩ = some (.int .i64 x1) := (by rw [hb1.cell (by simp; omega)]; exact t11); have k12 : w1.cell? ⟨w.heap.size, 2, none⟩ = some (.int .i64 x2) := (by rw [hb1.cell (by simp; omega)]; exact t12); have k13 : w1.cell? ⟨w.heap.size, 3, none⟩ = some (.int .i64 x3) := (by rw [hb1.cell (by simp; omega)]; exact t13); have k14 : w1.cell? ⟨w.heap.size, 4, none⟩ = some (.int .i64 x4) := (by rw [hb1.cell (by simp; omega)]; exact t14); clear tok1 _t) | (at_builtin; have _t := own1; refine wpList_push ei_cl #[.int .i64 x0, .int .i64 x1, .int .i64 x2, .int .i64 x3, .int .i64 x4] rfl _ _ rfl own1 rfl rfl rfl (by simp [Value.oneCell']) (by unfold maxLen; omega) (by omega) hb1.size ?_; intro v2 w2 own2 gr2 bel2; obtain ⟨A2, c2', rfl, -⟩ := own_shape own2; have hb2 := hb1.trans bel2; clear own1 _t) | (at_builtin; refine wpList_cat ei_cl rfl _ _ rfl own2 rfl (r2.below (bel_trans bq hb2)) rfl (cls_oneCell _) (by unfold maxLen; omega) (by omega) hb2.size ?_; intro v3 w3 own3 gr3 bel3))
          refine bodyPost_ret (v := .tuple #[v3, .int .i64 n]) (by simp [results, Try.results143, go_sem]) rfl ?_
          rw [hK.out]
          exact ⟨_, rfl, FIN.out _ _ own3, bel_trans bq (hb2.trans bel3)⟩
        · rw [if_neg hck, Option.map_some, Addr.add_lit] at r2
          have tok1 : True := trivial
          go_wp2_with (first | (at_builtin; have _t := tok1; refine wpList_cat ei_cl rfl _ _ rfl h0 rfl r1 rfl (cls_oneCell _) (by unfold maxLen; omega) (by omega) hba.size ?_; intro v1 w1 own1 gr1 bel1; rw [Nat.zero_add, List.nil_append] at own1; obtain ⟨A1, c1', rfl, -⟩ := own_shape own1; have hb1 := hba.trans bel1; have s1 := hb1.size; have k10 : w1.cell? ⟨w.heap.size, 0, none⟩ = some (.int .i64 x0) := (by rw [hb1.cell (by simp; omega)]; exact t10); have k11 : w1.cell? ⟨w.heap.size, 1, none⟩ = some (.int .i64 x1) := (by rw [hb1.cell (by simp; omega)]; exact t11); have k12 : w1.cell? ⟨w.heap.size, 2, none⟩ = some (.int .i64 x2) := (by rw [hb1.cell (by simp; omega)]; exact t12); have k13 : w1.cell? ⟨w.heap.size, 3, none⟩ = some (.int .i64 x3) := (by rw [hb1.cell (by simp; omega)]; exact t13); have k14 : w1.cell? ⟨w.heap.size, 4, none⟩ = some (.int .i64 x4) := (by rw [hb1.cell (by simp; omega)]; exact t14); clear tok1 _t) | (at_builtin; have _t := own1; refine wpList_push ei_cl #[.int .i64 x0, .int .i64 x1, .int .i64 x2, .int .i64 x3, .int .i64 x4] rfl _ _ rfl own1 rfl rfl rfl (by simp [Value.oneCell']) (by unfold maxLen; omega) (by omega) hb1.size ?_; intro v2 w2 own2 gr2 bel2; obtain ⟨A2, c2', rfl, -⟩ := own_shape own2; have hb2 := hb1.trans bel2; clear own1 _t) | (at_builtin; refine wpList_cat ei_cl rfl _ _ rfl own2 rfl (r2.below (bel_trans bq hb2)) rfl (cls_oneCell _) (by unfold maxLen; omega) (by omega) hb2.size ?_; intro v3 w3 own3 gr3 bel3))
          refine bodyPost_ret (v := .tuple #[v3, .int .i64 k]) (by simp [results, Try.results143, go_sem]) rfl ?_
          rw [hK.out]
          exact ⟨_, rfl, FIN.out _ _ own3, bel_trans bq (hb2.trans bel3)⟩
    · have hd0 : decide (0 < k) = false := by simpa using hlt
      have hK := Lib.hid (M.putK_back HSO.out (by have := hl.out; omega) H.out (fun h => absurd h hlt))
      go_wp2
      go_quiet (fail)
      obtain ⟨wq, hwq⟩ : ∃ wq : World, wq = wr.drewN nq := ⟨_, rfl⟩
      have bq : Below w.heap.size w wq := by rw [hwq]; exact below_drewN hbb _
      have bq0 : Below W0.heap.size W0 wq := by rw [hwq]; exact below_drewN hb _
      have sq : w.heap.size + 1 ≤ wq.heap.size := by have := bq0.size; omega
      have t10 : wq.cell? ⟨w.heap.size, 0, none⟩ = some (.int .i64 x0) := by rw [bq0.cell (by simp; omega)]; exact c10
      have t11 : wq.cell? ⟨w.heap.size, 1, none⟩ = some (.int .i64 x1) := by rw [bq0.cell (by simp; omega)]; exact c11
      have t12 : wq.cell? ⟨w.heap.size, 2, none⟩ = some (.int .i64 x2) := by rw [bq0.cell (by simp; omega)]; exact c12
      have t13 : wq.cell? ⟨w.heap.size, 3, none⟩ = some (.int .i64 x3) := by rw [bq0.cell (by simp; omega)]; exact c13
      have t14 : wq.cell? ⟨w.heap.size, 4, none⟩ = some (.int .i64 x4) := by rw [bq0.cell (by simp; omega)]; exact c14
      have hP := Lib.hid (show M.putP xs (x0, x1, x2, x3, x4) = xs.take k ++ [(x0, x1, x2, x3, x4)] ++ xs.drop k by rw [M.putP, hK.out]; rfl)
      have h0 : (wq.alloc (.cells #[] 78)).ownsRow wq.heap.size 78 5 (.slice (some ⟨wq.heap.size, 0, none⟩) 0 0) 0 [] := World.ownsRow_made _ _ _ (Nat.le_refl _) (by simp [maxLen]) rfl
      have hba : Below wq.heap.size wq (wq.alloc (.cells #[] 78)) := (Below.refl _ _).alloc (Nat.le_refl _) _
      have bw0 := bel_trans bq hba
      have r1 := (hx.head cl_len hk).reads.below bw0
      have r2 := (hx.cut cl_len (k := k) hk hc).reads
      have fin : ∀ v (w2 : World), w2.ownsRow wq.heap.size 78 5 v (k + 1 + (n - k)) (((xs.take k).flatMap cl ++ cl (x0, x1, x2, x3, x4)) ++ (xs.drop k).flatMap cl) → OA cl 78 5 w.heap.size w2.heap.size w2 v (M.putP xs (x0, x1, x2, x3, x4)) := by
        intro v w2 h
        have e1 : ((xs.take k).flatMap cl ++ cl (x0, x1, x2, x3, x4)) ++ (xs.drop k).flatMap cl = (M.putP xs (x0, x1, x2, x3, x4)).flatMap cl := by rw [hP.out, List.flatMap_append, List.flatMap_append, List.flatMap_cons, List.flatMap_nil, List.append_nil]
        have e2 : (M.putP xs (x0, x1, x2, x3, x4)).length = k + 1 + (n - k) := by rw [hP.out, List.length_append, List.length_append, List.length_take, List.length_drop, hl.out, Nat.min_eq_left hk]; rfl
        unfold OA
        rw [e2]
        rw [e1] at h
        exact (OX.of_own h).wide (by omega) (Nat.le_refl _)
      have FIN := Lib.hid fin
      rw [← hwq]
      clear fin hwq hP
      obtain rfl : k = 0 := by omega
      rcases A with _ | ad
      · have r2 : Reads w w.heap.size 5 none (n - 0) ((xs.drop 0).flatMap cl) := by simpa using r2
        have tok1 : True := trivial
        go_wp2_with (first | (at_builtin; have _t := tok1; refine wpList_cat ei_cl rfl _ _ rfl h0 rfl r1 rfl (cls_oneCell _) (by unfold maxLen; omega) (by omega) hba.size ?_; intro v1 w1 own1 gr1 bel1; rw [Nat.zero_add, List.nil_append] at own1; obtain ⟨A1, c1', rfl, -⟩ := own_shape own1; have hb1 := hba.trans bel1; have s1 := hb1.size; have k10 : w1.cell? ⟨w.heap.size, 0, none⟩ = some (.int .i64 x0) := (by rw [hb1.cell (by simp; omega)]; exact t10); have k11 : w1.cell? ⟨w.heap.size, 1, none⟩ = some (.int .i64 x1) := (by rw [hb1.cell (by simp; omega)]; exact t11); have k12 : w1.cell? ⟨w.heap.size, 2, none⟩ = some (.int .i64 x2) := (by rw [hb1.cell (by simp; omega)]; exact t12); have k13 : w1.cell? ⟨w.heap.size, 3, none⟩ = some (.int .i64 x3) := (by rw [hb1.cell (by simp; omega)]; exact t13); have k14 : w1.cell? ⟨w.heap.size, 4, none⟩ = some (.int .i64 x4) := (by rw [hb1.cell (by simp; omega)]; exact t14); clear tok1 _t) | (at_builtin; have _t := own1; refine wpList_push ei_cl #[.int .i64 x0, .int .i64 x1, .int .i64 x2, .int .i64 x3, .int .i64 x4] rfl _ _ rfl own1 rfl rfl rfl (by simp [Value.oneCell']) (by unfold maxLen; omega) (by omega) hb1.size ?_; intro v2 w2 own2 gr2 bel2; obtain ⟨A2, c2', rfl, -⟩ := own_shape own2; have hb2 := hb1.trans bel2; clear own1 _t) | (at_builtin; refine wpList_cat ei_cl rfl _ _ rfl own2 rfl (r2.below (bel_trans bq hb2)) rfl (cls_oneCell _) (by unfold maxLen; omega) (by omega) hb2.size ?_; intro v3 w3 own3 gr3 bel3))
        refine bodyPost_ret (v := .tuple #[v3, .int .i64 0]) (by simp [results, Try.results143, go_sem]) rfl ?_
        rw [hK.out]
        exact ⟨_, rfl, FIN.out _ _ own3, bel_trans bq (hb2.trans bel3)⟩
      · by_cases hck : c = 0
        · rw [if_pos hck] at r2
          subst hck
          obtain rfl : n = 0 := by omega
          rw [Nat.sub_self] at r2 FIN
          have tok1 : True := trivial
          go_wp2_with (first | (at_builtin; have _t := tok1; refine wpList_cat ei_cl rfl _ _ rfl h0 rfl r1 rfl (cls_oneCell _) (by unfold maxLen; omega) (by omega) hba.size ?_; intro v1 w1 own1 gr1 bel1; rw [Nat.zero_add, List.nil_append] at own1; obtain ⟨A1, c1', rfl, -⟩ := own_shape own1; have hb1 := hba.trans bel1; have s1 := hb1.size; have k10 : w1.cell? ⟨w.heap.size, 0, none⟩ = some (.int .i64 x0) := (by rw [hb1.cell (by simp; omega)]; exact t10); have k11 : w1.cell? ⟨w.heap.size, 1, none⟩ = some (.int .i64 x1) := (by rw [hb1.cell (by simp; omega)]; exact t11); have k12 : w1.cell? ⟨w.heap.size, 2, none⟩ = some (.int .i64 x2) := (by rw [hb1.cell (by simp; omega)]; exact t12); have k13 : w1.cell? ⟨w.heap.size, 3, none⟩ = some (.int .i64 x3) := (by rw [hb1.cell (by simp; omega)]; exact t13); have k14 : w1.cell? ⟨w.heap.size, 4, none⟩ = some (.int .i64 x4) := (by rw [hb1.cell (by simp; omega)]; exact t14); clear tok1 _t) | (at_builtin; have _t := own1; refine wpList_push ei_cl #[.int .i64 x0, .int .i64 x1, .int .i64 x2, .int .i64 x3, .int .i64 x4] rfl _ _ rfl own1 rfl rfl rfl (by simp [Value.oneCell']) (by unfold maxLen; omega) (by omega) hb1.size ?_; intro v2 w2 own2 gr2 bel2; obtain ⟨A2, c2', rfl, -⟩ := own_shape own2; have hb2 := hb1.trans bel2; clear own1 _t) | (at_builtin; refine wpList_cat ei_cl rfl _ _ rfl own2 rfl (r2.below (bel_trans bq hb2)) rfl (cls_oneCell _) (by unfold maxLen; omega) (by omega) hb2.size ?_; intro v3 w3 own3 gr3 bel3))
          refine bodyPost_ret (v := .tuple #[v3, .int .i64 0]) (by simp [results, Try.results143, go_sem]) rfl ?_
          rw [hK.out]
          exact ⟨_, rfl, FIN.out _ _ own3, bel_trans bq (hb2.trans bel3)⟩
        · rw [if_neg hck, Option.map_some] at r2
          have r2 : Reads w w.heap.size 5 (some ad) (n - 0) ((xs.drop 0).flatMap cl) := by rw [Nat.zero_mul] at r2; rwa [show ad.add 0 = ad from addr_add0 _] at r2
          have tok1 : True := trivial
          go_wp2_with (first | (at_builtin; have _t := tok1; refine wpList_cat ei_cl rfl _ _ rfl h0 rfl r1 rfl (cls_oneCell _) (by unfold maxLen; omega) (by omega) hba.size ?_; intro v1 w1 own1 gr1 bel1; rw [Nat.zero_add, List.nil_append] at own1; obtain ⟨A1, c1', rfl, -⟩ := own_shape own1; have hb1 := hba.trans bel1; have s1 := hb1.size; have k10 : w1.cell? ⟨w.heap.size, 0, none⟩ = some (.int .i64 x0) := (by rw [hb1.cell (by simp; omega)]; exact t10); have k11 : w1.cell? ⟨w.heap.size, 1, none⟩ = some (.int .i64 x1) := (by rw [hb1.cell (by simp; omega)]; exact t11); have k12 : w1.cell? ⟨w.heap.size, 2, none⟩ = some (.int .i64 x2) := (by rw [hb1.cell (by simp; omega)]; exact t12); have k13 : w1.cell? ⟨w.heap.size, 3, none⟩ = some (.int .i64 x3) := (by rw [hb1.cell (by simp; omega)]; exact t13); have k14 : w1.cell? ⟨w.heap.size, 4, none⟩ = some (.int .i64 x4) := (by rw [hb1.cell (by simp; omega)]; exact t14); clear tok1 _t) | (at_builtin; have _t := own1; refine wpList_push ei_cl #[.int .i64 x0, .int .i64 x1, .int .i64 x2, .int .i64 x3, .int .i64 x4] rfl _ _ rfl own1 rfl rfl rfl (by simp [Value.oneCell']) (by unfold maxLen; omega) (by omega) hb1.size ?_; intro v2 w2 own2 gr2 bel2; obtain ⟨A2, c2', rfl, -⟩ := own_shape own2; have hb2 := hb1.trans bel2; clear own1 _t) | (at_builtin; refine wpList_cat ei_cl rfl _ _ rfl own2 rfl (r2.below (bel_trans bq hb2)) rfl (cls_oneCell _) (by unfold maxLen; omega) (by omega) hb2.size ?_; intro v3 w3 own3 gr3 bel3))
          refine bodyPost_ret (v := .tuple #[v3, .int .i64 0]) (by simp [results, Try.results143, go_sem]) rfl ?_
          rw [hK.out]
          exact ⟨_, rfl, FIN.out _ _ own3, bel_trans bq (hb2.trans bel3)⟩
end Go.Proofs.Ytckihflfjecpbaa
namespace Go.Proofs.Ytckihflfjecpbaa
open Go.RowKit
set_option maxHeartbeats 1000000
set_option maxRecDepth 100000
theorem M.track_next {xs : List Clip} (h : M.trackOk xs = true) {k : Nat} {y z : Clip} (hy : xs[k]? = some y) (hz : xs[k + 1]? = some z) : y.2.2.2.1 ≤ z.2.2.2.1 := by
  rw [M.trackOk, Bool.and_eq_true, List.all_eq_true] at h
  have h1 := h.1 (k + 1) (List.mem_range.2 (List.getElem?_eq_some_iff.1 hz).1)
  rw [M.stepT, Bool.and_eq_true] at h1
  have h2 := h1.2
  rw [M.afterT, hz, Nat.add_sub_cancel, hy] at h2
  simpa using h2
theorem M.track_sort {xs : List Clip} (h : M.trackOk xs = true) : M.sortT xs := by
  intro i j
  induction j with
  | zero =>
    intro y z hij hy hz
    obtain rfl : i = 0 := by omega
    rw [hy] at hz
    injection hz with hz
    subst hz
    exact Int.le_refl _
  | succ j ih =>
    intro y z hij hy hz
    rcases Nat.lt_or_ge i (j + 1) with hlt | hge
    · have hj : j < xs.length := by have := (List.getElem?_eq_some_iff.1 hz).1; omega
      exact Int.le_trans (ih y _ (by omega) hy (List.getElem?_eq_getElem hj)) (M.track_next h (List.getElem?_eq_getElem hj) hz)
    · obtain rfl : i = j + 1 := by omega
      rw [hy] at hz
      injection hz with hz
      subst hz
      exact Int.le_refl _
theorem M.dropP_at (xs : List Clip) (k j : Nat) (hk : k < xs.length) : (M.dropP xs k)[j]? = xs[if j < k then j else j + 1]? := by
  unfold M.dropP
  have hl : (xs.take k).length = k := by rw [List.length_take]; omega
  by_cases hj : j < k
  · rw [if_pos hj, List.getElem?_append_left (by omega), List.getElem?_take, if_pos hj]
  · rw [if_neg hj, List.getElem?_append_right (by omega), List.getElem?_drop, hl]
    congr 1
    omega
theorem M.drop_sort {xs : List Clip} (h : M.sortT xs) {k : Nat} (hk : k < xs.length) : M.sortT (M.dropP xs k) := by
  intro i j y z hij hy hz
  rw [M.dropP_at _ _ _ hk] at hy hz
  refine h _ _ y z ?_ hy hz
  split <;> split <;> omega
/-- Clip k is replaced by another. -/
def M.chgR (xs : List Clip) (k : Nat) (c : Clip) : List Clip × Int := if M.clipOk c then (M.putP (M.dropP xs k) c, 0) else ([], 2)
def M.atC_ (c : Clip) (t : Int) : Clip := (c.1, c.2.1, c.2.2.1, t, c.2.2.2.2)
def M.moveR (xs : List Clip) (k t : Int) : List Clip × Int := if M.askT xs k = 0 then M.chgR xs k.toNat (M.atC_ ((xs[k.toNat]?).getD M.cz) t) else ([], M.askT xs k)
def M.trimOk (n l r : Int) : Bool := decide (0 ≤ l) && decide (0 ≤ r) && decide (l + r < n)
def M.trimC (c : Clip) (l r : Int) : Clip := (c.1, c.2.1 + l, c.2.2.1 - l - r, c.2.2.2.1 + l, c.2.2.2.2)
def M.trimR (xs : List Clip) (k l r : Int) : List Clip × Int :=
  if M.askT xs k = 0 then (if M.trimOk ((xs[k.toNat]?).getD M.cz).2.2.1 l r then M.chgR xs k.toNat (M.trimC ((xs[k.toNat]?).getD M.cz) l r) else ([], 2)) else ([], M.askT xs k)
theorem M.clip_bd5 {a b c d e : Int} (h : M.clipOk (a, b, c, d, e) = true) : (0 ≤ a ∧ a ≤ 5) ∧ (1 ≤ c ∧ c ≤ 4000) ∧ (0 ≤ b ∧ b ≤ 4000 - c) ∧ (0 ≤ d ∧ d ≤ 4000 - c) ∧ M.smp e = true := by
  simp only [M.clipOk, Bool.and_eq_true, M.inn_iff] at h
  obtain ⟨⟨⟨⟨h1, h2⟩, h3⟩, h4⟩, h5⟩ := h
  exact ⟨h1, h2, h3, h4, h5⟩
theorem M.clip_mk {a b c d e : Int} (h : (0 ≤ a ∧ a ≤ 5) ∧ (1 ≤ c ∧ c ≤ 4000) ∧ (0 ≤ b ∧ b ≤ 4000 - c) ∧ (0 ≤ d ∧ d ≤ 4000 - c) ∧ M.smp e = true) : M.clipOk (a, b, c, d, e) = true := by
  simp only [M.clipOk, Bool.and_eq_true, M.inn_iff]
  exact ⟨⟨⟨⟨h.1, h.2.1⟩, h.2.2.1⟩, h.2.2.2.1⟩, h.2.2.2.2⟩
theorem M.trim_clip {a b c d e l r : Int} (h : M.clipOk (a, b, c, d, e) = true) (h0 : 0 ≤ l) (h1 : 0 ≤ r) (h2 : l + r < c) : M.clipOk (a, b + l, c - l - r, d + l, e) = true := by
  have := M.clip_bd5 h
  exact M.clip_mk ⟨this.1, by omega, by omega, by omega, this.2.2.2.2⟩
end Go.Proofs.Ytckihflfjecpbaa
namespace Go.Proofs.Ytckihflfjecpbaa
open Go.RowKit
/-- What a clip gives to a sample. -/
def M.clipAt (src : List (List Int)) (c : Clip) (i : Int) : Int :=
  if c.2.2.2.1 ≤ i ∧ i < c.2.2.2.1 + c.2.2.1 then c.2.2.2.2 * M.at_ ((src[c.1.toNat]?).getD []) (c.2.1 + (i - c.2.2.2.1)) else 0
def M.trackSum (src : List (List Int)) : List Clip → Int → Int
  | [], _ => 0
  | c :: cs, i => M.clipAt src c i + M.trackSum src cs i
def M.renT (src : List (List Int)) (xs : List Clip) (n : Nat) : List Int := (List.range n).map fun (i : Nat) => wrap32 (M.trackSum src xs (i : Int))
/-- The same, with the first m samples of one more clip. -/
def M.renP (src : List (List Int)) (xs : List Clip) (c : Clip) (m : Nat) (n : Nat) : List Int := (List.range n).map fun (i : Nat) => wrap32 (M.trackSum src xs (i : Int) + if (i : Int) < c.2.2.2.1 + m then M.clipAt src c (i : Int) else 0)
theorem M.renT_len (src : List (List Int)) (xs : List Clip) (n : Nat) : (M.renT src xs n).length = n := by simp [M.renT]
theorem M.renP_len (src : List (List Int)) (xs : List Clip) (c : Clip) (m n : Nat) : (M.renP src xs c m n).length = n := by simp [M.renP]
theorem M.renT_at {src : List (List Int)} {xs : List Clip} {n i : Nat} (h : i < n) : (M.renT src xs n)[i]? = some (wrap32 (M.trackSum src xs (i : Int))) := by simp [M.renT, h]
theorem M.trackSum_app (src : List (List Int)) (xs ys : List Clip) (i : Int) : M.trackSum src (xs ++ ys) i = M.trackSum src xs i + M.trackSum src ys i := by
  induction xs with
  | nil => simp [M.trackSum]
  | cons x xs ih => rw [List.cons_append, M.trackSum, M.trackSum, ih]; omega
theorem M.trackSum_one (src : List (List Int)) (c : Clip) (i : Int) : M.trackSum src [c] i = M.clipAt src c i := by simp [M.trackSum]
theorem M.renT_nil (src : List (List Int)) (n : Nat) : M.renT src [] n = List.replicate n 0 := by
  apply List.ext_getElem?
  intro i
  by_cases h : i < n
  · rw [M.renT_at h, M.trackSum]
    simp [h]
    unfold wrap32
    omega
  · rw [List.getElem?_eq_none (by rw [M.renT_len]; omega), List.getElem?_eq_none (by simp; omega)]
theorem M.renP_zero (src : List (List Int)) (xs : List Clip) (c : Clip) (n : Nat) : M.renP src xs c 0 n = M.renT src xs n := by
  refine List.map_congr_left fun i _ => ?_
  congr 1
  unfold M.clipAt
  split
  · rw [if_neg (by omega)]; omega
  · omega
theorem M.renP_end (src : List (List Int)) (xs : List Clip) (c : Clip) (m n : Nat) (h : c.2.2.1 ≤ m ∨ (n : Int) ≤ c.2.2.2.1 + m) : M.renP src xs c m n = M.renT src (xs ++ [c]) n := by
  refine List.map_congr_left fun i hi => ?_
  have hi := List.mem_range.1 hi
  rw [M.trackSum_app, M.trackSum_one]
  congr 1
  split
  · rfl
  · unfold M.clipAt
    rw [if_neg (by omega)]
theorem M.renP_at {src : List (List Int)} {xs : List Clip} {c : Clip} {m n p : Nat} (hp : p < n) (e : (p : Int) = c.2.2.2.1 + m) : (M.renP src xs c m n)[p]? = some (wrap32 (M.trackSum src xs (p : Int))) := by
  simp only [M.renP, List.getElem?_map, List.getElem?_range hp, Option.map_some]
  rw [if_neg (by omega), Int.add_zero]
theorem M.renP_step {src : List (List Int)} {xs : List Clip} {c : Clip} {m n p : Nat} (hp : p < n) (e : (p : Int) = c.2.2.2.1 + m) (hm : (m : Int) < c.2.2.1) :
    (M.renP src xs c m n).set p (wrap32 (wrap32 (M.trackSum src xs (p : Int)) + c.2.2.2.2 * M.at_ ((src[c.1.toNat]?).getD []) (c.2.1 + m))) = M.renP src xs c (m + 1) n := by
  apply List.ext_getElem?
  intro i
  rw [List.getElem?_set]
  by_cases hi : p = i
  · subst hi
    rw [if_pos rfl, if_pos (by rw [M.renP_len]; exact hp)]
    simp only [M.renP, List.getElem?_map, List.getElem?_range hp, Option.map_some]
    rw [if_pos (by omega), M.clipAt, if_pos (by omega), M.wrap32_addl, show (p : Int) - c.2.2.2.1 = m by omega]
  · rw [if_neg hi]
    by_cases hn : i < n
    · simp only [M.renP, List.getElem?_map, List.getElem?_range hn, Option.map_some]
      congr 3
      by_cases h1 : (i : Int) < c.2.2.2.1 + m
      · rw [if_pos h1, if_pos (by omega)]
      · rw [if_neg h1, if_neg (by omega)]
    · rw [List.getElem?_eq_none (by rw [M.renP_len]; omega), List.getElem?_eq_none (by rw [M.renP_len]; omega)]
def M.srcOk (src : List (List Int)) : Bool := decide (src.length ≤ 6) && src.all M.sig
def M.hasS (xs : List Clip) (m : Int) : Bool := xs.all fun c => decide (c.1 < m)
def M.renderR (src : List (List Int)) (xs : List Clip) (t : Int) : List Int × Int :=
  if M.srcOk src && M.trackOk xs then (if M.inn t 0 4000 then (if M.hasS xs src.length then (M.renT src xs t.toNat, 0) else ([], 3)) else ([], 2)) else ([], 1)
theorem M.at_bd {xs : List Int} (h : M.sig xs = true) (i : Int) : -2147483648 ≤ M.at_ xs i ∧ M.at_ xs i ≤ 2147483647 := by
  unfold M.at_
  have hs : ∀ x ∈ xs, M.smp x = true := by
    rw [M.sig, Bool.and_eq_true, List.all_eq_true] at h
    exact h.2
  split
  · have hlt : i.toNat < xs.length ∨ ¬ i.toNat < xs.length := by omega
    rcases hlt with hlt | hlt
    · have := M.smp_bd (hs _ (List.getElem_mem hlt))
      simp_all
    · simp_all
  · omega
end Go.Proofs.Ytckihflfjecpbaa
namespace Go.Proofs.Ytckihflfjecpbaa
open Go.RowKit
/-! Tracks as sorted lists. -/
abbrev M.byT (y z : Clip) : Prop := y.2.2.2.1 ≤ z.2.2.2.1
theorem M.sort_pw (xs : List Clip) : M.sortT xs ↔ xs.Pairwise M.byT := by
  rw [List.pairwise_iff_getElem]
  constructor
  · intro h i j hi hj hij
    exact h i j _ _ (by omega) (List.getElem?_eq_getElem hi) (List.getElem?_eq_getElem hj)
  · intro h i j y z hij hy hz
    obtain ⟨hi, rfl⟩ := List.getElem?_eq_some_iff.1 hy
    obtain ⟨hj, rfl⟩ := List.getElem?_eq_some_iff.1 hz
    rcases Nat.lt_or_ge i j with hlt | hge
    · exact h i j hi hj hlt
    · obtain rfl : i = j := by omega
      exact Int.le_refl _
theorem M.track_iff (xs : List Clip) : M.trackOk xs = true ↔ (∀ c ∈ xs, M.clipOk c = true) ∧ xs.Pairwise M.byT ∧ xs.length ≤ 12 := by
  constructor
  · intro h
    refine ⟨fun c hc => ?_, (M.sort_pw xs).1 (M.track_sort h), M.track_len h⟩
    obtain ⟨i, hi, rfl⟩ := List.getElem_of_mem hc
    exact M.track_clip h (List.getElem?_eq_getElem hi)
  · rintro ⟨h1, h2, h3⟩
    rw [M.trackOk, Bool.and_eq_true, decide_eq_true_iff, List.all_eq_true]
    refine ⟨fun k hk => ?_, h3⟩
    have hk := List.mem_range.1 hk
    rw [M.stepT, Bool.and_eq_true, List.getElem?_eq_getElem hk]
    refine ⟨h1 _ (List.getElem_mem hk), ?_⟩
    rw [M.afterT, Bool.or_eq_true]
    by_cases h0 : k = 0
    · left; simp [h0]
    · right
      rw [List.getElem?_eq_getElem hk, List.getElem?_eq_getElem (by omega)]
      have := List.pairwise_iff_getElem.1 h2 (k - 1) k (by omega) hk (by omega)
      simpa using this
theorem M.putP_eq (xs : List Clip) (x : Clip) : M.putP xs x = xs.take (M.putK xs x.2.2.2.1) ++ x :: xs.drop (M.putK xs x.2.2.2.1) := by
  simp [M.putP, M.insP]
theorem M.putK_low {xs : List Clip} {a : Int} {y : Clip} (h : y ∈ xs.take (M.putK xs a)) : y.2.2.2.1 ≤ a := by
  obtain ⟨i, hi, rfl⟩ := List.getElem_of_mem h
  rw [List.getElem_take]
  rw [List.length_take] at hi
  unfold M.putK at hi
  cases hf : xs.findIdx? (M.later a) with
  | none =>
    rw [List.findIdx?_eq_none_iff] at hf
    have := hf (xs[i]'(by omega)) (List.getElem_mem _)
    rw [M.later, decide_eq_false_iff_not] at this
    omega
  | some k =>
    rw [hf] at hi
    simp only [Option.getD_some] at hi
    rw [List.findIdx?_eq_some_iff_getElem] at hf
    have := hf.2.2 i (by omega)
    rw [M.later, decide_eq_true_iff] at this
    omega
theorem M.putK_high {xs : List Clip} {a : Int} {y : Clip} (hs : xs.Pairwise M.byT) (h : y ∈ xs.drop (M.putK xs a)) : a < y.2.2.2.1 := by
  obtain ⟨i, hi, rfl⟩ := List.getElem_of_mem h
  rw [List.getElem_drop]
  rw [List.length_drop] at hi
  obtain ⟨k, hk⟩ : ∃ k, M.putK xs a = k := ⟨_, rfl⟩
  simp only [hk] at hi ⊢
  have hf : xs.findIdx? (M.later a) = some k := by
    unfold M.putK at hk
    cases hf : xs.findIdx? (M.later a) with
    | none => rw [hf] at hk; simp at hk; omega
    | some q => rw [hf] at hk; simp at hk; rw [hk]
  rw [List.findIdx?_eq_some_iff_getElem] at hf
  obtain ⟨hk2, h1, _⟩ := hf
  rw [M.later, decide_eq_true_iff] at h1
  by_cases h0 : i = 0
  · subst h0; exact h1
  · have := List.pairwise_iff_getElem.1 hs k (k + i) hk2 (by omega) (by omega)
    unfold M.byT at this
    omega
theorem M.putP_sort {xs : List Clip} (x : Clip) (hs : xs.Pairwise M.byT) : (M.putP xs x).Pairwise M.byT := by
  rw [M.putP_eq, List.pairwise_append]
  refine ⟨hs.sublist (List.take_sublist _ _), ?_, ?_⟩
  · rw [List.pairwise_cons]
    exact ⟨fun y hy => Int.le_of_lt (M.putK_high hs hy), hs.sublist (List.drop_sublist _ _)⟩
  · intro y hy z hz
    have h1 := M.putK_low hy
    rcases List.mem_cons.1 hz with rfl | hz
    · exact h1
    · have := M.putK_high hs hz
      unfold M.byT
      omega
theorem M.putP_perm (xs : List Clip) (x : Clip) : (M.putP xs x).Perm (x :: xs) := by
  rw [M.putP_eq]
  refine List.perm_middle.trans (List.Perm.cons _ ?_)
  rw [List.take_append_drop]
theorem M.putP_len (xs : List Clip) (x : Clip) : (M.putP xs x).length = xs.length + 1 := by rw [(M.putP_perm xs x).length_eq, List.length_cons]
theorem M.putP_mem {xs : List Clip} {x y : Clip} : y ∈ M.putP xs x ↔ y = x ∨ y ∈ xs := by rw [(M.putP_perm xs x).mem_iff, List.mem_cons]
theorem M.dropP_perm {xs : List Clip} {k : Nat} (hk : k < xs.length) : xs.Perm (xs[k] :: M.dropP xs k) := by
  have h : xs = xs.take k ++ xs[k] :: xs.drop (k + 1) := by rw [← List.drop_eq_getElem_cons hk, List.take_append_drop]
  conv => lhs; rw [h]
  exact List.perm_middle
theorem M.trackSum_perm {src : List (List Int)} {xs ys : List Clip} (h : xs.Perm ys) (i : Int) : M.trackSum src xs i = M.trackSum src ys i := by
  induction h with
  | nil => rfl
  | cons x _ ih => rw [M.trackSum, M.trackSum, ih]
  | swap x y l => simp only [M.trackSum]; omega
  | trans _ _ h1 h2 => exact h1.trans h2
theorem M.renT_congr {src : List (List Int)} {xs ys : List Clip} (h : ∀ i : Int, M.trackSum src xs i = M.trackSum src ys i) (n : Nat) : M.renT src xs n = M.renT src ys n :=
  List.map_congr_left fun i _ => by rw [h]
theorem M.renT_perm {src : List (List Int)} {xs ys : List Clip} (h : xs.Perm ys) (n : Nat) : M.renT src xs n = M.renT src ys n := M.renT_congr (M.trackSum_perm h) n
/-- What is drawn of a clip. -/
def M.clipDr (m : Int) (c : Clip) : Prop := (0 ≤ c.1 ∧ c.1 < m) ∧ (0 ≤ c.2.1 ∧ c.2.1 ≤ 11) ∧ (1 ≤ c.2.2.1 ∧ c.2.2.1 ≤ 12) ∧ (0 ≤ c.2.2.2.1 ∧ c.2.2.2.1 ≤ 29) ∧ -2147483648 ≤ c.2.2.2.2 ∧ c.2.2.2.2 ≤ 2147483647
theorem M.clipDr_ok {m : Int} {c : Clip} (h : M.clipDr m c) (hm : m ≤ 6) : M.clipOk c = true := by
  obtain ⟨h0, h1, h2, h3, h4⟩ := h
  simp only [M.clipOk, Bool.and_eq_true, M.inn_iff]
  refine ⟨⟨⟨⟨by omega, by omega⟩, by omega⟩, by omega⟩, ?_⟩
  simp [M.smp, M.inn]
  omega
def M.trackDr (m : Int) (xs : List Clip) : Prop := (∀ c ∈ xs, M.clipDr m c) ∧ xs.Pairwise M.byT
theorem M.trackDr_put {m : Int} {xs : List Clip} {x : Clip} (h : M.trackDr m xs) (hx : M.clipDr m x) : M.trackDr m (M.putP xs x) :=
  ⟨fun c hc => by rcases M.putP_mem.1 hc with rfl | hc; exact hx; exact h.1 c hc, M.putP_sort x h.2⟩
theorem M.trackDr_ok {m : Int} {xs : List Clip} (h : M.trackDr m xs) (hm : m ≤ 6) (hl : xs.length ≤ 12) : M.trackOk xs = true :=
  (M.track_iff xs).2 ⟨fun c hc => M.clipDr_ok (h.1 c hc) hm, h.2, hl⟩
theorem M.trackDr_has {m : Int} {xs : List Clip} (h : M.trackDr m xs) : M.hasS xs m = true := by
  rw [M.hasS, List.all_eq_true]
  intro c hc
  simpa using (h.1 c hc).1.2
end Go.Proofs.Ytckihflfjecpbaa
namespace Go.Proofs.Ytckihflfjecpbaa
open Go.RowKit
set_option maxHeartbeats 2000000
set_option maxRecDepth 100000
theorem src_cell {w : World} {B : Nat} {A : Option Addr} {n c : Nat} {src : List (List Int)} (hr : RS tS w B (.slice A n c) src) (hb : Hid (∀ x ∈ src, x.length ≤ 1000000000)) {k : Nat} (hk : k < n) :
    ∃ (bb o : Nat) (A1 : Option Addr) (c1 : Nat) (x : List Int), A = some ⟨bb, o, none⟩ ∧ bb < B ∧ Hid (src[k]? = some x) ∧ w.cell? ⟨bb, o + k, none⟩ = some (.slice A1 x.length c1) ∧ RI w B A1 x.length x ∧ x.length ≤ 1000000000000 := by
  obtain rfl : src.length = n := hr.cap.1
  have hX := List.getElem?_eq_getElem hk
  obtain ⟨bb, o, c1, cs, hv, hab, -, hE, hc⟩ := hr.atX hX
  simp only [Value.slice.injEq] at hv
  obtain ⟨rfl, -, rfl⟩ := hv
  obtain ⟨A1, n1, c2, rfl⟩ := open_S hE
  have hR := tS_R.1 hE
  have hcap := hR.cap
  obtain rfl : (src[k]).length = n1 := hcap.1
  have h0 : w.cell? ⟨bb, o + k * 1, none⟩ = some (.slice A1 (src[k]).length c2) := hc 0 _ rfl
  rw [Nat.mul_one] at h0
  exact ⟨bb, o, A1, c2, src[k], rfl, hab, Lib.hid hX, h0, hR.ri, by have := hb.out _ (List.getElem_mem hk); omega⟩
theorem impl_areSignals (A : Option Addr) (n c : Nat) (src : List (List Int)) (w : World) (hx : RS tS w w.heap.size (.slice A n c) src) (hb : Hid (∀ x ∈ src, x.length ≤ 1000000000)) (hn : n ≤ 1000000000) :
    Calls Try.prog 149 #[.slice A n c] w fun e w' => e = .returned (.bool (src.all M.sig)) ∧ w = w' := by
  have hl := Lib.hid hx.cap.1
  go_enter Try.func149, Try.ntmps149
  go_wp2
  go_loop [4, 7] (fun _ i => ∃ k : Nat, i = .int .i64 k ∧ k ≤ n ∧ Hid (src.all M.sig = (src.drop k).all M.sig)) (fun _ i => n - (intOf i).toNat)
  case atStart => exact ⟨0, rfl, by omega, Lib.hid (by simp)⟩
  case round =>
    obtain ⟨k, rfl, hk, H⟩ := hrel
    by_cases hlt : k < n
    · obtain ⟨bb, o, A1, c1, x, rfl, hbb, X, hc, hri, hxl⟩ := src_cell hx hb hlt
      have hd := Lib.hid (M.drop_at X.out)
      cases hs : M.sig x
      · have HS := Lib.hid hs
        clear hs
        go_wp2_with fail
        refine (impl_isSignal _ _ _ _ _ hri hxl).mono ?_
        rw [HS.out]
        rintro e w' ⟨rfl, rfl⟩
        go_wp2
        go_ret
        exact ⟨by rw [H.out, hd.out, List.all_cons, HS.out]; rfl, rfl⟩
      · have HS := Lib.hid hs
        clear hs
        go_wp2_with fail
        refine (impl_isSignal _ _ _ _ _ hri hxl).mono ?_
        rw [HS.out]
        rintro e w' ⟨rfl, rfl⟩
        go_wp2
        go_round
        case rel => exact ⟨k + 1, by go_num, by omega, Lib.hid (by rw [H.out, hd.out, List.all_cons, HS.out, Bool.true_and])⟩
        case measure => simp [intOf]; omega
    · have h9 := Lib.hid (show src.all M.sig = true by rw [H.out, List.drop_eq_nil_of_le (by rw [hl.out]; omega)]; rfl)
      go_wp2
      go_ret
      exact ⟨ret_bool h9.out.symm, rfl⟩
theorem impl_areSources (A : Option Addr) (n c : Nat) (src : List (List Int)) (w : World) (hx : RS tS w w.heap.size (.slice A n c) src) (hb : Hid (∀ x ∈ src, x.length ≤ 1000000000)) (hn : n ≤ 1000000000) :
    Calls Try.prog 122 #[.slice A n c] w fun e w' => e = .returned (.bool (M.srcOk src)) ∧ w = w' := by
  have hl := Lib.hid hx.cap.1
  by_cases h : n ≤ 6
  · go_enter Try.func122, Try.ntmps122
    go_wp2_with fail
    refine (impl_areSignals _ _ _ _ _ hx hb hn).mono ?_
    rintro e w' ⟨rfl, rfl⟩
    go_wp2
    go_ret
    exact ⟨ret_bool (by simp [M.srcOk, hl.out, h]), rfl⟩
  · go_enter Try.func122, Try.ntmps122
    go_wp2
    go_ret
    exact ⟨ret_bool (by simp [M.srcOk, hl.out, h]), rfl⟩
theorem spec_l23Sources (A : Option Addr) (n c : Nat) (src : List (List Int)) (w : World) (hx : RS tS w w.heap.size (.slice A n c) src) (hb : Hid (∀ x ∈ src, x.length ≤ 1000000000)) (hn : n ≤ 1000000000) :
    Calls Try.prog 118 #[.slice A n c] w fun e w' => e = .returned (.bool (M.srcOk src)) ∧ w = w' := by
  have hl := Lib.hid hx.cap.1
  go_enter Try.func118, Try.ntmps118
  go_wp2
  go_loop [3] (fun i => ∃ k : Nat, i = .int .i64 k ∧ k ≤ n ∧ Hid (src.all M.sig = (src.drop k).all M.sig)) (fun i => n - (intOf i).toNat)
  case atStart => exact ⟨0, rfl, by omega, Lib.hid (by simp)⟩
  case round =>
    obtain ⟨k, rfl, hk, H⟩ := hrel
    by_cases hlt : k < n
    · obtain ⟨bb, o, A1, c1, x, rfl, hbb, X, hc, hri, hxl⟩ := src_cell hx hb hlt
      have hd := Lib.hid (M.drop_at X.out)
      cases hs : M.sig x
      · have HS := Lib.hid hs
        clear hs
        go_wp2_with fail
        refine (spec_l03Ok _ _ _ _ _ hri hxl).mono ?_
        rw [HS.out]
        rintro e w' ⟨rfl, rfl⟩
        go_wp2
        go_ret
        exact ⟨ret_bool (by rw [M.srcOk, H.out, hd.out, List.all_cons, HS.out, Bool.false_and, Bool.and_false]), rfl⟩
      · have HS := Lib.hid hs
        clear hs
        go_wp2_with fail
        refine (spec_l03Ok _ _ _ _ _ hri hxl).mono ?_
        rw [HS.out]
        rintro e w' ⟨rfl, rfl⟩
        go_wp2
        go_round
        case rel => exact ⟨k + 1, by go_num, by omega, Lib.hid (by rw [H.out, hd.out, List.all_cons, HS.out, Bool.true_and])⟩
        case measure => simp [intOf]; omega
    · have h9 := Lib.hid (show M.srcOk src = decide (n ≤ 6) by rw [M.srcOk, H.out, List.drop_eq_nil_of_le (by rw [hl.out]; omega), hl.out]; simp)
      go_wp2
      go_ret
      exact ⟨ret_bool (by rw [h9.out, Bool.eq_iff_iff]; simp; try omega), rfl⟩
theorem impl_size_int64S (A : Option Addr) (n c : Nat) (w : World) : Calls Try.prog 125 #[.slice A n c] w fun e w' => e = .returned (.int .i64 n) ∧ w = w' := by
  go_enter Try.func125, Try.ntmps125
  go_wp2
  go_ret
  exact ⟨rfl, rfl⟩
theorem impl_hasSources_1 (b : Nat) (m d0 d1 d2 d3 d4 : Int) (w : World) (g0 : w.cell? ⟨b, 0, none⟩ = some (.int .i64 m)) :
    Calls Try.prog 151 #[.agg #[.int .i64 d0, .int .i64 d1, .int .i64 d2, .int .i64 d3, .int .i64 d4], .pointer (some ⟨b, 0, none⟩)] w fun e w' => e = .returned (.bool (decide (m ≤ d0))) ∧ Below w.heap.size w w' := by
  have hb : b < w.heap.size := World.block_lt_of_cell? w _ g0
  have fin : Below w.heap.size w (w.alloc (.cells #[.int .i64 d0, .int .i64 d1, .int .i64 d2, .int .i64 d3, .int .i64 d4] 78)) := (Below.refl _ _).alloc (Nat.le_refl _) _
  go_enter Try.func151, Try.ntmps151
  go_wp2
  go_ret
  exact ⟨rfl, fin⟩
theorem IndexFunc_has (bb : Nat) (m : Int) (A : Option Addr) (n cap : Nat) (xs : List Clip) (w : World) (hx : RA cl 5 w w.heap.size A n xs) (hn : n ≤ 1000000000) (hg : w.cell? ⟨bb, 0, none⟩ = some (.int .i64 m)) :
    Calls Try.prog 111 #[.slice A n cap, .func (.func 151) #[] #[.pointer (some ⟨bb, 0, none⟩)]] w fun e w' => e = .returned (.int .i64 (idxInt (xs.findIdx? fun c => decide (m ≤ c.1)))) ∧ Below w.heap.size w w' := by
  have hl := Lib.hid hx.len
  have hbb : bb < w.heap.size := World.block_lt_of_cell? w _ hg
  go_enter Try.func111, Try.ntmps111
  go_wp2
  go_loopw [5, 8] (fun _ i wr => ∃ k : Nat, i = .int .i64 k ∧ k ≤ n ∧ Hid (∀ j, j < k → ∀ y : Clip, xs[j]? = some y → decide (m ≤ y.1) = false) ∧ Below w.heap.size w wr) (fun _ i _ => n - (intOf i).toNat)
  case atStart => exact ⟨0, rfl, by omega, Lib.hid (by omega), Below.refl _ _⟩
  case round =>
    obtain ⟨k, rfl, hk, H, hb⟩ := hrel
    by_cases hlt : k < n
    · obtain ⟨b, o, ⟨p0, p1, p2, p3, p4⟩, rfl, hab, X, hc⟩ := (hx.below hb).at cl_len (by decide) hlt
      have hc0 : wr.cell? ⟨b, o + k * 5, none⟩ = some (.int .i64 p0) := hc 0 _ rfl
      have hc1 : wr.cell? ⟨b, o + k * 5 + 1, none⟩ = some (.int .i64 p1) := hc 1 _ rfl
      have hc2 : wr.cell? ⟨b, o + k * 5 + 2, none⟩ = some (.int .i64 p2) := hc 2 _ rfl
      have hc3 : wr.cell? ⟨b, o + k * 5 + 3, none⟩ = some (.int .i64 p3) := hc 3 _ rfl
      have hc4 : wr.cell? ⟨b, o + k * 5 + 4, none⟩ = some (.int .i64 p4) := hc 4 _ rfl
      clear hc
      have hgr : wr.cell? ⟨bb, 0, none⟩ = some (.int .i64 m) := by rw [hb.cell (by simpa using hbb)]; exact hg
      have cP := Lib.hid (impl_hasSources_1 bb m p0 p1 p2 p3 p4 wr hgr)
      cases hj : decide (m ≤ p0)
      · have hj' := Lib.hid hj
        clear hj
        go_wp2_with (go_at_call 151; refine (cP.out).mono ?_; rw [hj'.out]; rintro e w2 ⟨rfl, bel2⟩)
        go_roundw
        case rel => exact ⟨k + 1, by go_num, by omega, Lib.hid (fun j hj y hy => by rcases Nat.lt_succ_iff_lt_or_eq.1 hj with h | h; exact H.out j h y hy; subst h; rw [X.out] at hy; injection hy with hy; rw [← hy]; exact hj'.out), hb.trans (bel2.mono hb.size)⟩
        case measure => simp [intOf]; omega
      · have hf := Lib.hid (M.find_some (p := fun c : Clip => decide (m ≤ c.1)) X.out hj H.out)
        have hj' := Lib.hid hj
        clear hj
        go_wp2_with (go_at_call 151; refine (cP.out).mono ?_; rw [hj'.out]; rintro e w2 ⟨rfl, bel2⟩)
        go_ret
        exact ⟨by rw [hf.out]; rfl, hb.trans (bel2.mono hb.size)⟩
    · have hf := Lib.hid (M.find_none (xs := xs) (p := fun c : Clip => decide (m ≤ c.1)) (fun j hj y hy => H.out j (by rw [hl.out] at hj; omega) y hy))
      go_wp2
      go_ret
      exact ⟨by rw [hf.out]; rfl, hb⟩
theorem M.hasS_find (xs : List Clip) (m : Int) : (idxInt (xs.findIdx? fun c => decide (m ≤ c.1)) ≥ 0 ↔ M.hasS xs m = false) := by
  unfold M.hasS
  cases h : xs.findIdx? fun c => decide (m ≤ c.1) with
  | none =>
    rw [List.findIdx?_eq_none_iff] at h
    simp only [idxInt]
    constructor
    · intro h2; omega
    · intro h2
      rw [List.all_eq_false] at h2
      obtain ⟨x, hx, h3⟩ := h2
      have := h x hx
      simp at this h3
      omega
  | some i =>
    rw [List.findIdx?_eq_some_iff_getElem] at h
    obtain ⟨hi, h2, _⟩ := h
    simp only [idxInt]
    constructor
    · intro _
      rw [List.all_eq_false]
      exact ⟨_, List.getElem_mem hi, by simp at h2 ⊢; omega⟩
    · intro _; omega
theorem ContainsFunc_has (bb : Nat) (m : Int) (A : Option Addr) (n cap : Nat) (xs : List Clip) (w : World) (hx : RA cl 5 w w.heap.size A n xs) (hn : n ≤ 1000000000) (hg : w.cell? ⟨bb, 0, none⟩ = some (.int .i64 m)) :
    Calls Try.prog 150 #[.slice A n cap, .func (.func 151) #[] #[.pointer (some ⟨bb, 0, none⟩)]] w fun e w' => e = .returned (.bool (!M.hasS xs m)) ∧ Below w.heap.size w w' := by
  have hF := Lib.hid (M.hasS_find xs m)
  have hI := Lib.hid (IndexFunc_has bb m A n cap xs w hx hn hg)
  generalize idxInt (xs.findIdx? fun c => decide (m ≤ c.1)) = q at hF hI
  by_cases h : 0 ≤ q
  · have R := Lib.hid (hF.out.1 h)
    go_enter Try.func150, Try.ntmps150
    go_wp2_with fail
    refine hI.out.mono ?_
    rintro e w2 ⟨rfl, bel2⟩
    go_wp2
    go_ret
    exact ⟨ret_bool (by rw [R.out]; simp), bel2⟩
  · have R := Lib.hid (show M.hasS xs m = true by
      cases h2 : M.hasS xs m
      · exact absurd (hF.out.2 h2) h
      · rfl)
    go_enter Try.func150, Try.ntmps150
    go_wp2_with fail
    refine hI.out.mono ?_
    rintro e w2 ⟨rfl, bel2⟩
    go_wp2
    go_ret
    exact ⟨ret_bool (by rw [R.out]; simpa using h), bel2⟩
theorem impl_hasSources (A : Option Addr) (n c : Nat) (xs : List Clip) (m : Int) (w : World) (hx : RA cl 5 w w.heap.size A n xs) (hn : n ≤ 1000000000) :
    Calls Try.prog 124 #[.agg #[.slice A n c], .int .i64 m] w fun e w' => e = .returned (.bool (M.hasS xs m)) ∧ Below w.heap.size w w' := by
  obtain ⟨W, hW⟩ : ∃ W, W = (w.alloc (.cells #[.slice A n c] 65)).alloc (.cells #[.int .i64 m] 2) := ⟨_, rfl⟩
  have B0 : Below w.heap.size w W := by rw [hW]; exact ((Below.refl _ _).alloc (Nat.le_refl _) _).alloc (by simp) _
  have g0 : W.cell? ⟨w.heap.size + 1, 0, none⟩ = some (.int .i64 m) := by rw [hW]; simp [go_sem]
  have HW := Lib.hid hW
  clear hW
  have hx1 := hx.later B0
  go_enter Try.func124, Try.ntmps124
  go_wp2_with fail
  rw [← HW.out]
  refine (ContainsFunc_has (w.heap.size + 1) m _ _ _ _ _ hx1 hn g0).mono ?_
  rintro e w2 ⟨rfl, bel2⟩
  go_wp2
  go_ret
  exact ⟨ret_bool (by simp), bel_trans B0 bel2⟩
end Go.Proofs.Ytckihflfjecpbaa
namespace Go.Proofs.Ytckihflfjecpbaa
open Go.RowKit
set_option maxHeartbeats 400000
set_option maxRecDepth 100000
theorem impl_DropPoint (A : Option Addr) (n c : Nat) (xs : List (Int × Int)) (k : Int) (w : World) (hx : RA pt 2 w w.heap.size A n xs) (hn : n ≤ 1000000000) (hc : n ≤ c) (hm : c ≤ maxLen) :
    Calls Try.prog 26 #[.agg #[.slice A n c], .int .i64 k] w (RetC 34 w (M.dropR xs k)) := by
  have hl := Lib.hid hx.len
  have hb2 : Below w.heap.size w ((w.alloc (.cells #[.slice A n c] 30)).alloc (.cells #[.slice none 0 0] 30)) := ((Below.refl _ _).alloc (Nat.le_refl _) _).alloc (by simp) _
  have hx1 := hx.later hb2
  have hself : ((w.alloc (.cells #[.slice A n c] 30)).alloc (.cells #[.slice none 0 0] 30)).cell? ⟨w.heap.size, 0, none⟩ = some (.slice A n c) := by simp [go_sem]
  cases hok : M.curveOk xs
  · have hr := Lib.hid (show M.dropR xs k = ([], 1) by rw [M.dropR, hok]; rfl)
    go_enter Try.func26, Try.ntmps26
    go_wp2_with (go_at_call 74; refine (impl_isCurve _ _ _ _ _ hx1 hn).mono ?_; rw [hok]; rintro e w2 ⟨rfl, bel2⟩; have hq : w2.cell? ⟨w.heap.size + 1, 0, none⟩ = some (.slice none 0 0) := (by rw [bel2.cell (by simp)]; simp [go_sem]); have hf : w2.frozen? ⟨w.heap.size + 1, 0, none⟩ = false := (by rw [bel2.frozen (by simp)]; simp [go_sem]); have hs2 : w.heap.size + 1 + 1 ≤ w2.heap.size := (by have := bel2.size; simpa using this); have hv2 : w2.cell? ⟨w.heap.size, 0, none⟩ = some (.slice A n c) := (by rw [bel2.cell (by simp; omega)]; exact hself))
    refine bodyPost_ret (v := .tuple #[.agg #[.slice none 0 0], .int .i64 1]) (by simp [results, Try.results26, go_sem, hq, hf]) rfl ?_
    rw [hr.out]
    exact ⟨_, rfl, OA.nil _, (hb2.trans (bel2.mono hb2.size)).setCell (by simp) _⟩
  · cases hin : M.inn k 0 ((n : Int) - 1)
    · have hr := Lib.hid (show M.dropR xs k = ([], 2) by rw [M.dropR, hok, hl.out, hin]; rfl)
      go_enter Try.func26, Try.ntmps26
      go_wp2_with (first | (go_at_call 82; refine (impl_size_impl_CurvePoint _ _ _ _).mono ?_; rintro e w' ⟨rfl, rfl⟩) | (go_at_call 81; refine (impl_within _ _ _ _).mono ?_; rw [hin]; rintro e w' ⟨rfl, rfl⟩) | (go_at_call 74; refine (impl_isCurve _ _ _ _ _ hx1 hn).mono ?_; rw [hok]; rintro e w2 ⟨rfl, bel2⟩; have hq : w2.cell? ⟨w.heap.size + 1, 0, none⟩ = some (.slice none 0 0) := (by rw [bel2.cell (by simp)]; simp [go_sem]); have hf : w2.frozen? ⟨w.heap.size + 1, 0, none⟩ = false := (by rw [bel2.frozen (by simp)]; simp [go_sem]); have hs2 : w.heap.size + 1 + 1 ≤ w2.heap.size := (by have := bel2.size; simpa using this); have hv2 : w2.cell? ⟨w.heap.size, 0, none⟩ = some (.slice A n c) := (by rw [bel2.cell (by simp; omega)]; exact hself)))
      refine bodyPost_ret (v := .tuple #[.agg #[.slice none 0 0], .int .i64 2]) (by simp [results, Try.results26, go_sem, hq, hf]) rfl ?_
      rw [hr.out]
      exact ⟨_, rfl, OA.nil _, (hb2.trans (bel2.mono hb2.size)).setCell (by simp) _⟩
    · have hi := M.inn_iff.1 hin
      obtain ⟨k, rfl⟩ : ∃ q : Nat, k = q := ⟨k.toNat, by omega⟩
      have hk : k < n := by omega
      have hin' := Lib.hid hin
      clear hi
      by_cases h1 : n = 1
      · have hr := Lib.hid (show M.dropR xs k = ([], 6) by rw [M.dropR, hok, hl.out, hin, h1]; rfl)
        have h1b : ((n : Int) == 1) = true := by simp; omega
        clear h1
        go_enter Try.func26, Try.ntmps26
        go_wp2_with (first | (go_at_call 82; refine (impl_size_impl_CurvePoint _ _ _ _).mono ?_; rintro e w' ⟨rfl, rfl⟩) | (go_at_call 81; refine (impl_within _ _ _ _).mono ?_; rw [hin'.out]; rintro e w' ⟨rfl, rfl⟩) | (go_at_call 74; refine (impl_isCurve _ _ _ _ _ hx1 hn).mono ?_; rw [hok]; rintro e w2 ⟨rfl, bel2⟩; have hq : w2.cell? ⟨w.heap.size + 1, 0, none⟩ = some (.slice none 0 0) := (by rw [bel2.cell (by simp)]; simp [go_sem]); have hf : w2.frozen? ⟨w.heap.size + 1, 0, none⟩ = false := (by rw [bel2.frozen (by simp)]; simp [go_sem]); have hs2 : w.heap.size + 1 + 1 ≤ w2.heap.size := (by have := bel2.size; simpa using this); have hv2 : w2.cell? ⟨w.heap.size, 0, none⟩ = some (.slice A n c) := (by rw [bel2.cell (by simp; omega)]; exact hself)))
        refine bodyPost_ret (v := .tuple #[.agg #[.slice none 0 0], .int .i64 6]) (by simp [results, Try.results26, go_sem, hq, hf]) rfl ?_
        rw [hr.out]
        exact ⟨_, rfl, OA.nil _, (hb2.trans (bel2.mono hb2.size)).setCell (by simp) _⟩
      · have hr := Lib.hid (show M.dropR xs k = (M.dropP xs k, 0) by rw [M.dropR, hok, hl.out, hin]; simp [h1])
        have h1b : ((n : Int) == 1) = false := by simp; omega
        clear h1
        go_enter Try.func26, Try.ntmps26
        go_wp2_with (first | (go_at_call 82; refine (impl_size_impl_CurvePoint _ _ _ _).mono ?_; rintro e w' ⟨rfl, rfl⟩) | (go_at_call 81; refine (impl_within _ _ _ _).mono ?_; rw [hin'.out]; rintro e w' ⟨rfl, rfl⟩) | (go_at_call 74; refine (impl_isCurve _ _ _ _ _ hx1 hn).mono ?_; rw [hok]; rintro e w2 ⟨rfl, bel2⟩; have hq : w2.cell? ⟨w.heap.size + 1, 0, none⟩ = some (.slice none 0 0) := (by rw [bel2.cell (by simp)]; simp [go_sem]); have hf : w2.frozen? ⟨w.heap.size + 1, 0, none⟩ = false := (by rw [bel2.frozen (by simp)]; simp [go_sem]); have hs2 : w.heap.size + 1 + 1 ≤ w2.heap.size := (by have := bel2.size; simpa using this); have hv2 : w2.cell? ⟨w.heap.size, 0, none⟩ = some (.slice A n c) := (by rw [bel2.cell (by simp; omega)]; exact hself)) | (go_at_call 83; refine (impl_Curve_without _ _ _ _ _ _ (hx1.later bel2) hn hk).mono ?_; rintro e w3 ⟨v3, rfl, own3, bel3⟩; obtain ⟨A3, c3', rfl, -⟩ := own3.shape; have hq3 : w3.cell? ⟨w.heap.size + 1, 0, none⟩ = some (.slice none 0 0) := (by rw [bel3.cell (by simp; omega)]; exact hq); have hf3 : w3.frozen? ⟨w.heap.size + 1, 0, none⟩ = false := (by rw [bel3.frozen (by simp; omega)]; exact hf)))
        refine bodyPost_ret (v := .tuple #[.agg #[.slice A3 (M.dropP xs k).length c3'], .int .i64 0]) (by simp [results, Try.results26, go_sem, hq3, hf3]) rfl ?_
        rw [hr.out]
        have B3 := hb2.trans (bel2.mono hb2.size)
        exact ⟨_, rfl, (own3.mid (Mid.cell w3 (w.heap.size + 1) 0 (.slice A3 (M.dropP xs k).length c3')) (.inr hs2) (Nat.le_refl _)).wide (by omega) (by simp), (bel_trans B3 bel3).setCell (by simp) _⟩
theorem spec_DropPoint (A : Option Addr) (n c : Nat) (xs : List (Int × Int)) (k : Int) (w : World) (hx : RA pt 2 w w.heap.size A n xs) (hn : n ≤ 1000000000) (hc : n ≤ c) (hm : c ≤ maxLen) :
    Calls Try.prog 25 #[.agg #[.slice A n c], .int .i64 k] w (RetC 34 w (M.dropR xs k)) := by
  have hl := Lib.hid hx.len
  have hb2 : Below w.heap.size w ((w.alloc (.cells #[.slice A n c] 30)).alloc (.cells #[.slice none 0 0] 30)) := ((Below.refl _ _).alloc (Nat.le_refl _) _).alloc (by simp) _
  have hx1 := hx.later hb2
  have hself : ((w.alloc (.cells #[.slice A n c] 30)).alloc (.cells #[.slice none 0 0] 30)).cell? ⟨w.heap.size, 0, none⟩ = some (.slice A n c) := by simp [go_sem]
  cases hok : M.curveOk xs
  · have hr := Lib.hid (show M.dropR xs k = ([], 1) by rw [M.dropR, hok]; rfl)
    go_enter Try.func25, Try.ntmps25
    go_wp2_with (go_at_call 71; refine (spec_l25Ok _ _ _ _ _ _ hself hx1 hn).mono ?_; rw [hok]; rintro e w2 ⟨rfl, bel2⟩; have hq : w2.cell? ⟨w.heap.size + 1, 0, none⟩ = some (.slice none 0 0) := (by rw [bel2.cell (by simp)]; simp [go_sem]); have hf : w2.frozen? ⟨w.heap.size + 1, 0, none⟩ = false := (by rw [bel2.frozen (by simp)]; simp [go_sem]); have hs2 : w.heap.size + 1 + 1 ≤ w2.heap.size := (by have := bel2.size; simpa using this); have hv2 : w2.cell? ⟨w.heap.size, 0, none⟩ = some (.slice A n c) := (by rw [bel2.cell (by simp; omega)]; exact hself))
    refine bodyPost_ret (v := .tuple #[.agg #[.slice none 0 0], .int .i64 1]) (by simp [results, Try.results25, go_sem, hq, hf]) rfl ?_
    rw [hr.out]
    exact ⟨_, rfl, OA.nil _, (hb2.trans (bel2.mono hb2.size)).setCell (by simp) _⟩
  · cases hin : M.inn k 0 ((n : Int) - 1)
    · have hr := Lib.hid (show M.dropR xs k = ([], 2) by rw [M.dropR, hok, hl.out, hin]; rfl)
      go_enter Try.func25, Try.ntmps25
      go_wp2_with (first | (go_at_call 79; refine (spec_l00In _ _ _ _).mono ?_; rw [hin]; rintro e w' ⟨rfl, rfl⟩) | (go_at_call 71; refine (spec_l25Ok _ _ _ _ _ _ hself hx1 hn).mono ?_; rw [hok]; rintro e w2 ⟨rfl, bel2⟩; have hq : w2.cell? ⟨w.heap.size + 1, 0, none⟩ = some (.slice none 0 0) := (by rw [bel2.cell (by simp)]; simp [go_sem]); have hf : w2.frozen? ⟨w.heap.size + 1, 0, none⟩ = false := (by rw [bel2.frozen (by simp)]; simp [go_sem]); have hs2 : w.heap.size + 1 + 1 ≤ w2.heap.size := (by have := bel2.size; simpa using this); have hv2 : w2.cell? ⟨w.heap.size, 0, none⟩ = some (.slice A n c) := (by rw [bel2.cell (by simp; omega)]; exact hself)))
      refine bodyPost_ret (v := .tuple #[.agg #[.slice none 0 0], .int .i64 2]) (by simp [results, Try.results25, go_sem, hq, hf]) rfl ?_
      rw [hr.out]
      exact ⟨_, rfl, OA.nil _, (hb2.trans (bel2.mono hb2.size)).setCell (by simp) _⟩
    · have hi := M.inn_iff.1 hin
      obtain ⟨k, rfl⟩ : ∃ q : Nat, k = q := ⟨k.toNat, by omega⟩
      have hk : k < n := by omega
      have hin' := Lib.hid hin
      clear hi
      by_cases h1 : n = 1
      · have hr := Lib.hid (show M.dropR xs k = ([], 6) by rw [M.dropR, hok, hl.out, hin, h1]; rfl)
        have h1b : ((n : Int) == 1) = true := by simp; omega
        clear h1
        go_enter Try.func25, Try.ntmps25
        go_wp2_with (first | (go_at_call 79; refine (spec_l00In _ _ _ _).mono ?_; rw [hin'.out]; rintro e w' ⟨rfl, rfl⟩) | (go_at_call 71; refine (spec_l25Ok _ _ _ _ _ _ hself hx1 hn).mono ?_; rw [hok]; rintro e w2 ⟨rfl, bel2⟩; have hq : w2.cell? ⟨w.heap.size + 1, 0, none⟩ = some (.slice none 0 0) := (by rw [bel2.cell (by simp)]; simp [go_sem]); have hf : w2.frozen? ⟨w.heap.size + 1, 0, none⟩ = false := (by rw [bel2.frozen (by simp)]; simp [go_sem]); have hs2 : w.heap.size + 1 + 1 ≤ w2.heap.size := (by have := bel2.size; simpa using this); have hv2 : w2.cell? ⟨w.heap.size, 0, none⟩ = some (.slice A n c) := (by rw [bel2.cell (by simp; omega)]; exact hself)))
        refine bodyPost_ret (v := .tuple #[.agg #[.slice none 0 0], .int .i64 6]) (by simp [results, Try.results25, go_sem, hq, hf]) rfl ?_
        rw [hr.out]
        exact ⟨_, rfl, OA.nil _, (hb2.trans (bel2.mono hb2.size)).setCell (by simp) _⟩
      · have hr := Lib.hid (show M.dropR xs k = (M.dropP xs k, 0) by rw [M.dropR, hok, hl.out, hin]; simp [h1])
        have h1b : ((n : Int) == 1) = false := by simp; omega
        clear h1
        go_enter Try.func25, Try.ntmps25
        go_wp2_with (first | (go_at_call 79; refine (spec_l00In _ _ _ _).mono ?_; rw [hin'.out]; rintro e w' ⟨rfl, rfl⟩) | (go_at_call 71; refine (spec_l25Ok _ _ _ _ _ _ hself hx1 hn).mono ?_; rw [hok]; rintro e w2 ⟨rfl, bel2⟩; have hq : w2.cell? ⟨w.heap.size + 1, 0, none⟩ = some (.slice none 0 0) := (by rw [bel2.cell (by simp)]; simp [go_sem]); have hf : w2.frozen? ⟨w.heap.size + 1, 0, none⟩ = false := (by rw [bel2.frozen (by simp)]; simp [go_sem]); have hs2 : w.heap.size + 1 + 1 ≤ w2.heap.size := (by have := bel2.size; simpa using this); have hv2 : w2.cell? ⟨w.heap.size, 0, none⟩ = some (.slice A n c) := (by rw [bel2.cell (by simp; omega)]; exact hself)) | (go_at_call 80; refine (spec_l25Drop _ _ _ _ _ _ (hx1.later bel2) hn hk hc hm).mono ?_; rintro e w3 ⟨v3, rfl, own3, bel3⟩; obtain ⟨A3, c3', rfl, -⟩ := own3.shape; have hq3 : w3.cell? ⟨w.heap.size + 1, 0, none⟩ = some (.slice none 0 0) := (by rw [bel3.cell (by simp; omega)]; exact hq); have hf3 : w3.frozen? ⟨w.heap.size + 1, 0, none⟩ = false := (by rw [bel3.frozen (by simp; omega)]; exact hf)))
        refine bodyPost_ret (v := .tuple #[.agg #[.slice A3 (M.dropP xs k).length c3'], .int .i64 0]) (by simp [results, Try.results25, go_sem, hq3, hf3]) rfl ?_
        rw [hr.out]
        have B3 := hb2.trans (bel2.mono hb2.size)
        exact ⟨_, rfl, (own3.mid (Mid.cell w3 (w.heap.size + 1) 0 (.slice A3 (M.dropP xs k).length c3')) (.inr hs2) (Nat.le_refl _)).wide (by omega) (by simp), (bel_trans B3 bel3).setCell (by simp) _⟩
end Go.Proofs.Ytckihflfjecpbaa
namespace Go.Proofs.Ytckihflfjecpbaa
open Go.RowKit
set_option maxHeartbeats 400000
theorem M.curve_iff (xs : List (Int × Int)) : M.curveOk xs = true ↔ (∀ p ∈ xs, M.ptOk p = true) ∧ xs.Pairwise (fun p q => p.1 < q.1) ∧ 1 ≤ xs.length ∧ xs.length ≤ 24 := by
  constructor
  · intro h
    have hl := M.curve_len h
    refine ⟨fun p hp => ?_, ?_, hl⟩
    · obtain ⟨i, hi, rfl⟩ := List.getElem_of_mem hp
      have h1 := M.curve_step h hi
      rw [M.stepOk, Bool.and_eq_true, List.getElem?_eq_getElem hi] at h1
      exact h1.1
    · rw [List.pairwise_iff_getElem]
      have key : ∀ d i (hi : i < xs.length) (hj : i + d + 1 < xs.length), (xs[i]).1 < (xs[i + d + 1]).1 := by
        intro d
        induction d with
        | zero => intro i hi hj; exact M.curve_lt h (k := i + 1) (by omega) (by simp [hi]) (List.getElem?_eq_getElem hj)
        | succ d ih =>
          intro i hi hj
          have h1 := ih i hi (by omega)
          have h2 := M.curve_lt h (k := i + d + 1 + 1) (by omega) (by rw [Nat.add_sub_cancel]; exact List.getElem?_eq_getElem (by omega)) (List.getElem?_eq_getElem (i := i + d + 1 + 1) (by omega))
          have e : i + (d + 1) + 1 = i + d + 1 + 1 := by omega
          simp only [e]
          omega
      intro i j hi hj hij
      have := key (j - i - 1) i hi (by omega)
      have e : i + (j - i - 1) + 1 = j := by omega
      simpa only [e] using this
  · rintro ⟨h1, h2, h3, h4⟩
    rw [M.curveOk, Bool.and_eq_true, M.inn_iff, List.all_eq_true]
    refine ⟨fun k hk => ?_, by omega⟩
    have hk := List.mem_range.1 hk
    rw [M.stepOk, Bool.and_eq_true, List.getElem?_eq_getElem hk]
    refine ⟨h1 _ (List.getElem_mem hk), ?_⟩
    rw [M.after, Bool.or_eq_true]
    by_cases h0 : k = 0
    · left; simp [h0]
    · right
      rw [List.getElem?_eq_getElem hk, List.getElem?_eq_getElem (by omega)]
      have := List.pairwise_iff_getElem.1 h2 (k - 1) k (by omega) hk (by omega)
      simpa using this
theorem M.dropP_split {α : Type} {xs : List α} {k : Nat} (hk : k < xs.length) : xs = xs.take k ++ xs[k] :: xs.drop (k + 1) := by
  rw [← List.drop_eq_getElem_cons hk, List.take_append_drop]
theorem M.dropP_sub {α : Type} (xs : List α) (k : Nat) : (M.dropP xs k).Sublist xs := by
  by_cases hk : k < xs.length
  · conv => rhs; rw [M.dropP_split hk]
    exact List.Sublist.append (List.Sublist.refl _) (List.sublist_cons_self _ _)
  · rw [M.dropP, List.drop_eq_nil_of_le (by omega), List.append_nil, List.take_of_length_le (by omega)]
    exact List.Sublist.refl _
theorem M.dropP_ok {xs : List (Int × Int)} {k : Nat} (h : M.curveOk xs = true) (hk : k < xs.length) (h1 : 1 < xs.length) : M.curveOk (M.dropP xs k) = true := by
  rw [M.curve_iff] at h ⊢
  have hs := M.dropP_sub xs k
  rw [M.dropP_len xs hk]
  exact ⟨fun p hp => h.1 p (hs.subset hp), List.Pairwise.sublist hs h.2.1, by omega, by omega⟩
/-- Before the last point of 'a' nothing behind it counts. -/
theorem M.atGo_front (a : List (Int × Int)) (bs cs : List (Int × Int)) (t : Int) (h : ∃ q ∈ a, t < q.1) : ∀ p, M.atGo p (a ++ bs) t = M.atGo p (a ++ cs) t := by
  induction a with
  | nil => obtain ⟨q, hq, _⟩ := h; simp at hq
  | cons x a ih =>
    intro p
    simp only [List.cons_append, M.atGo]
    by_cases hx : t < x.1
    · rw [if_pos hx, if_pos hx]
    · rw [if_neg hx, if_neg hx]
      refine ih ?_ x
      obtain ⟨q, hq, hlt⟩ := h
      rcases List.mem_cons.1 hq with rfl | hq
      · exact absurd hlt hx
      · exact ⟨q, hq, hlt⟩
theorem M.atC_front (a : List (Int × Int)) (bs cs : List (Int × Int)) (t : Int) (h : ∃ q ∈ a, t < q.1) : M.atC (a ++ bs) t = M.atC (a ++ cs) t := by
  cases a with
  | nil => obtain ⟨q, hq, _⟩ := h; simp at hq
  | cons x a =>
    simp only [List.cons_append, M.atC]
    by_cases hx : t < x.1
    · rw [if_pos hx, if_pos hx]
    · rw [if_neg hx, if_neg hx]
      refine M.atGo_front a bs cs t ?_ x
      obtain ⟨q, hq, hlt⟩ := h
      rcases List.mem_cons.1 hq with rfl | hq
      · exact absurd hlt hx
      · exact ⟨q, hq, hlt⟩
/-- From b on nothing before it counts. -/
theorem M.atGo_back (a : List (Int × Int)) (b : Int × Int) (bs : List (Int × Int)) (t : Int) (ha : ∀ q ∈ a, ¬ t < q.1) (hb : ¬ t < b.1) : ∀ p, M.atGo p (a ++ b :: bs) t = M.atGo b bs t := by
  induction a with
  | nil => intro p; rw [List.nil_append, M.atGo, if_neg hb]
  | cons x a ih =>
    intro p
    rw [List.cons_append, M.atGo, if_neg (ha x (by simp))]
    exact ih (fun q hq => ha q (by simp [hq])) x
theorem M.atC_back (a : List (Int × Int)) (b : Int × Int) (bs : List (Int × Int)) (t : Int) (ha : ∀ q ∈ a, ¬ t < q.1) (hb : ¬ t < b.1) : M.atC (a ++ b :: bs) t = M.atGo b bs t := by
  cases a with
  | nil => rw [List.nil_append, M.atC, if_neg hb]
  | cons x a =>
    rw [List.cons_append, M.atC, if_neg (ha x (by simp))]
    exact M.atGo_back a b bs t (fun q hq => ha q (by simp [hq])) hb x
def M.from (xs : List (Int × Int)) (k : Nat) : Int := if 0 < k then ((xs[k - 1]?).getD (0, 0)).1 else 0
def M.to (xs : List (Int × Int)) (k : Nat) : Int := if k + 1 < xs.length then ((xs[k + 1]?).getD (0, 0)).1 else 4000
theorem M.from_bd {xs : List (Int × Int)} {k : Nat} (h : M.curveOk xs = true) (hk : k < xs.length) : 0 ≤ M.from xs k ∧ M.from xs k ≤ 4000 := by
  unfold M.from
  split
  · rw [List.getElem?_eq_getElem (by omega)]
    have := (M.curve_pt h (List.getElem?_eq_getElem (l := xs) (i := k - 1) (by omega))).1
    exact this
  · omega
theorem M.to_bd {xs : List (Int × Int)} {k : Nat} (h : M.curveOk xs = true) : 0 ≤ M.to xs k ∧ M.to xs k ≤ 4000 := by
  unfold M.to
  split
  · rename_i hk
    rw [List.getElem?_eq_getElem hk]
    exact (M.curve_pt h (List.getElem?_eq_getElem hk)).1
  · omega
/-- Outside of the neighbours nothing changes. -/
theorem M.drop_out {xs : List (Int × Int)} {k : Nat} (h : M.curveOk xs = true) (hk : k < xs.length) {t : Int} (h0 : 0 ≤ t) (h4 : t ≤ 4000) (ht : t < M.from xs k ∨ M.to xs k < t) : M.atC xs t = M.atC (M.dropP xs k) t := by
  have hs := M.dropP_split hk
  have hp := ((M.curve_iff xs).1 h).2.1
  rcases ht with ht | ht
  · unfold M.from at ht
    split at ht
    · rename_i hk0
      rw [List.getElem?_eq_getElem (by omega)] at ht
      conv => lhs; rw [hs]
      exact M.atC_front _ _ _ t ⟨xs[k - 1]'(by omega), by rw [List.mem_take_iff_getElem]; exact ⟨k - 1, by omega, rfl⟩, ht⟩
    · omega
  · unfold M.to at ht
    split at ht
    · rename_i hk1
      rw [List.getElem?_eq_getElem hk1] at ht
      have hd : xs.drop (k + 1) = xs[k + 1] :: xs.drop (k + 1 + 1) := List.drop_eq_getElem_cons hk1
      have hb : ¬ t < (xs[k + 1]).1 := by simp at ht; omega
      have hle : ∀ q ∈ xs.take (k + 1), ¬ t < q.1 := by
        intro q hq
        obtain ⟨i, hi, rfl⟩ := List.mem_take_iff_getElem.1 hq
        have := List.pairwise_iff_getElem.1 hp i (k + 1) (by omega) hk1 (by omega)
        omega
      have e1 : M.atC xs t = M.atGo xs[k + 1] (xs.drop (k + 1 + 1)) t := by
        conv => lhs; rw [show xs = xs.take (k + 1) ++ xs[k + 1] :: xs.drop (k + 1 + 1) from M.dropP_split hk1]
        exact M.atC_back _ _ _ t hle hb
      rw [e1, M.dropP, hd, M.atC_back _ _ _ t (fun q hq => hle q ((List.take_subset_take_left xs (by omega)) hq)) hb]
    · omega
def M.idle (xs : List (Int × Int)) (k : Nat) : Bool := decide (1 < xs.length) && decide (M.rend (M.dropP xs k) 4001 = M.rend xs 4001)
theorem M.rend_eq {xs ys : List (Int × Int)} {m : Nat} : M.rend xs m = M.rend ys m ↔ ∀ i : Nat, i < m → M.atC xs (i : Int) = M.atC ys (i : Int) := by
  constructor
  · intro h i hi
    have h1 := M.rend_at (xs := xs) hi
    rw [h, M.rend_at hi] at h1
    injection h1 with h1
    exact h1.symm
  · intro h
    apply List.ext_getElem?
    intro i
    by_cases hi : i < m
    · rw [M.rend_at hi, M.rend_at hi, h i hi]
    · rw [List.getElem?_eq_none (by rw [M.rend_len]; omega), List.getElem?_eq_none (by rw [M.rend_len]; omega)]
theorem M.idle_iff {xs : List (Int × Int)} {k : Nat} (h : M.curveOk xs = true) (hk : k < xs.length) (h1 : 1 < xs.length) : M.idle xs k = true ↔ ∀ t : Int, M.from xs k ≤ t → t ≤ M.to xs k → M.atC xs t = M.atC (M.dropP xs k) t := by
  have hf := M.from_bd h hk
  have ht := M.to_bd (k := k) h
  rw [M.idle, decide_eq_true h1, Bool.true_and, decide_eq_true_iff, M.rend_eq]
  constructor
  · intro g t h2 h3
    have := g t.toNat (by omega)
    rw [Int.toNat_of_nonneg (by omega)] at this
    exact this.symm
  · intro g i hi
    by_cases h2 : (i : Int) < M.from xs k ∨ M.to xs k < i
    · exact (M.drop_out h hk (by omega) (by omega) h2).symm
    · exact (g i (by omega) (by omega)).symm
end Go.Proofs.Ytckihflfjecpbaa
namespace Go.Proofs.Ytckihflfjecpbaa
open Go.RowKit
set_option maxHeartbeats 1000000
set_option maxRecDepth 100000
theorem M.atGo_bd (qs : List (Int × Int)) (t : Int) (ht : 0 ≤ t ∧ t ≤ 4000) : ∀ p : Int × Int, M.ptOk p = true → (∀ q ∈ qs, M.ptOk q = true) → (p :: qs).Pairwise (fun p q => p.1 < q.1) → p.1 ≤ t → -600000000 ≤ M.atGo p qs t ∧ M.atGo p qs t ≤ 600000000 := by
  induction qs with
  | nil =>
    intro p hp _ _ _
    rw [M.ptOk, Bool.and_eq_true, M.inn_iff, M.inn_iff] at hp
    rw [M.atGo]
    omega
  | cons q qs ih =>
    intro p hp hq hs hpt
    have hq1 := hq q (by simp)
    rw [List.pairwise_cons] at hs
    have hlt := hs.1 q (by simp)
    rw [M.atGo]
    by_cases h : t < q.1
    · rw [if_pos h]
      rw [M.ptOk, Bool.and_eq_true, M.inn_iff, M.inn_iff] at hp hq1
      have h1 := M.mul_bound (a := q.2 - p.2) (b := t - p.1) (x := 131072) (y := 4000) (by omega) (by omega) (by omega)
      have h2 := M.div_small (a := (q.2 - p.2) * (t - p.1)) (b := q.1 - p.1) (c := 131072 * 4000) (by omega) (by omega) (by omega)
      unfold M.seg
      omega
    · rw [if_neg h]
      exact ih q hq1 (fun r hr => hq r (by simp [hr])) hs.2 (by omega)
theorem M.atC_bd {xs : List (Int × Int)} (h : M.curveOk xs = true) {t : Int} (ht : 0 ≤ t ∧ t ≤ 4000) : -600000000 ≤ M.atC xs t ∧ M.atC xs t ≤ 600000000 := by
  obtain ⟨h1, h2, h3, _⟩ := (M.curve_iff xs).1 h
  cases xs with
  | nil => simp at h3
  | cons p qs =>
    rw [M.atC]
    by_cases hp : t < p.1
    · rw [if_pos hp]
      have := h1 p (by simp)
      rw [M.ptOk, Bool.and_eq_true, M.inn_iff, M.inn_iff] at this
      omega
    · rw [if_neg hp]
      exact M.atGo_bd qs t ht p (h1 p (by simp)) (fun q hq => h1 q (by simp [hq])) h2 (by omega)
def M.applyL (zs : List Int) (xs : List (Int × Int)) : List Int := (List.range zs.length).map fun (i : Nat) => wrap32 ((zs[i]?).getD 0 * M.atC xs (i : Int) / 65536)
theorem M.applyL_len (zs : List Int) (xs : List (Int × Int)) : (M.applyL zs xs).length = zs.length := by simp [M.applyL]
theorem M.applyL_at {zs : List Int} {xs : List (Int × Int)} {i : Nat} {x : Int} (h : zs[i]? = some x) : (M.applyL zs xs)[i]? = some (wrap32 (x * M.atC xs (i : Int) / 65536)) := by
  have hi := (List.getElem?_eq_some_iff.1 h).1
  have hx := (List.getElem?_eq_some_iff.1 h).2
  simp [M.applyL, hi, hx]
def M.applyR (zs : List Int) (xs : List (Int × Int)) : List Int × Int := if M.curveOk xs && M.sig zs then (M.applyL zs xs, 0) else ([], 1)
theorem M.apply_facts {x v : Int} (hx : -2147483648 ≤ x ∧ x ≤ 2147483647) (hv : -600000000 ≤ v ∧ v ≤ 600000000) :
    IntKind.i64.wrap (x * v) = x * v ∧ wrap64 (x * v) = x * v ∧ (-9000000000000000000 ≤ x * v ∧ x * v ≤ 9000000000000000000) := by
  have h1 := M.mul_bound (a := x) (b := v) (x := 2147483648) (y := 600000000) (by omega) (by omega) (by omega)
  refine ⟨IntWalk.i64_in _ (by omega), ?_, by omega⟩
  unfold wrap64
  omega
theorem impl_ApplyCurve (A A' : Option Addr) (m d n c : Nat) (zs : List Int) (xs : List (Int × Int)) (w : World) (ha : RI w w.heap.size A m zs) (hx : RA pt 2 w w.heap.size A' n xs) (hm : m ≤ 1000000000) (hn : n ≤ 1000000000) :
    Calls Try.prog 38 #[.slice A m d, .agg #[.slice A' n c]] w (Ret2 2 w (M.applyR zs xs)) := by
  have hla := Lib.hid ha.len
  have hb1 : Below w.heap.size w (w.alloc (.cells #[.slice A' n c] 30)) := (Below.refl _ _).alloc (Nat.le_refl _) _
  have hx1 := hx.later hb1
  have hself := lay_cell w (.slice A' n c) 30
  have hsize : (w.alloc (.cells #[.slice A' n c] 30)).heap.size = w.heap.size + 1 := by simp
  cases hok : M.curveOk xs
  · have hr := Lib.hid (show M.applyR zs xs = ([], 1) by rw [M.applyR, hok]; rfl)
    clear hsize
    go_enter Try.func38, Try.ntmps38
    go_wp2_with (go_at_call 74; refine (impl_isCurve _ _ _ _ _ hx1 hn).mono ?_; rw [hok]; rintro e w2 ⟨rfl, bel2⟩)
    go_ret2
    rw [hr.out]; exact ⟨_, rfl, OI.nil _ _ _, hb1.trans (bel2.mono hb1.size)⟩
  · cases hsg : M.sig zs
    · have hr := Lib.hid (show M.applyR zs xs = ([], 1) by rw [M.applyR, hok, hsg]; rfl)
      clear hsize
      go_enter Try.func38, Try.ntmps38
      go_wp2_with (first | (go_at_call 91; refine (impl_isSignal _ _ _ _ _ (ha.later (hb1.trans (bel2.mono hb1.size))) (by omega)).mono ?_; rw [hsg]; rintro e w' ⟨rfl, rfl⟩) | (go_at_call 74; refine (impl_isCurve _ _ _ _ _ hx1 hn).mono ?_; rw [hok]; rintro e w2 ⟨rfl, bel2⟩))
      go_ret2
      rw [hr.out]; exact ⟨_, rfl, OI.nil _ _ _, hb1.trans (bel2.mono hb1.size)⟩
    · have hr := Lib.hid (show M.applyR zs xs = (M.applyL zs xs, 0) by rw [M.applyR, hok, hsg]; rfl)
      have hsg' := hsg
      rw [M.sig, Bool.and_eq_true, decide_eq_true_iff, List.all_eq_true, hla.out] at hsg'
      have hm4 : m ≤ 4000 := hsg'.1
      have hsm := Lib.hid hsg'.2
      have hok' := Lib.hid hok
      clear hsg'
      go_enter Try.func38, Try.ntmps38
      go_wp2_with (first | (go_at_call 93; refine (impl_size_int64 _ _ _ _).mono ?_; rintro e w' ⟨rfl, rfl⟩) | (go_at_call 91; refine (impl_isSignal _ _ _ _ _ (ha.later (hb1.trans (bel2.mono hb1.size))) (by omega)).mono ?_; rw [hsg]; rintro e w' ⟨rfl, rfl⟩) | (go_at_call 74; refine (impl_isCurve _ _ _ _ _ hx1 hn).mono ?_; rw [hok]; rintro e w2 ⟨rfl, bel2⟩) | (go_at_call 92; refine (impl_zeros _ _ (by omega) (by omega)).mono ?_; rintro e w3 ⟨v3, rfl, own3, bel3⟩; rw [Int.toNat_natCast] at own3; obtain ⟨A3, c3, rfl, _⟩ := own3.shape; rw [List.length_replicate] at *))
      have B2 := hb1.trans (bel2.mono hb1.size)
      have hs2 : w.heap.size + 1 ≤ w2.heap.size := by rw [← hsize]; exact bel2.size
      have hv2 : w2.cell? ⟨w.heap.size, 0, none⟩ = some (.slice A' n c) := by rw [bel2.cell (by simp)]; exact hself
      have own4 := own3.base (show w.heap.size + 1 ≤ w2.heap.size from hs2)
      have bel4 := bel3.mono hs2
      clear own3 bel2 hsize hok hsg hself hx1 hb1
      go_loopw [7, 8, 22] (fun _ _ i wr => ∃ k : Nat, i = .int .i64 k ∧ k ≤ m ∧ OI 2 (w.heap.size + 1) wr (.slice A3 m c3) ((M.applyL zs xs).take k ++ (List.replicate m 0).drop k) ∧ Below (w.heap.size + 1) w2 wr) (fun _ _ i _ => m - (intOf i).toNat)
      case atStart => exact ⟨0, rfl, by omega, by simpa using own4, bel4⟩
      case round =>
        obtain ⟨k, rfl, hk, own, hb⟩ := hrel
        have hbb : Below w.heap.size w wr := B2.trans (hb.mono (by omega))
        have hv : wr.cell? ⟨w.heap.size, 0, none⟩ = some (.slice A' n c) := by rw [hb.cell (by simp)]; exact hv2
        have hsz : w.heap.size + 1 ≤ wr.heap.size := Nat.le_trans hs2 hb.size
        by_cases hlt : k < m
        · obtain ⟨ad, x, rfl, hab, X, hc⟩ := (ha.below hbb).at hlt
          obtain ⟨g, rfl, hB, hgl⟩ := own.form' (by omega)
          have hxr := hx.later hbb
          obtain ⟨f1, f2, f3⟩ := M.apply_facts (M.smp_bd (hsm.out x (List.mem_of_getElem? X.out))) (M.atC_bd hok'.out (t := (k : Int)) (by omega))
          have hf1 := Lib.hid f1
          have hf2 := Lib.hid f2
          clear f1 f2
          go_wp2_with (first | (go_at_call 96; refine (impl_valueAt _ _ _ _ _ _ hxr hok'.out (by omega)).mono ?_; rintro e w3 ⟨rfl, bel3⟩; have own2 := own.below bel3; obtain ⟨z, Z, hc2, hf2, _, _⟩ := own2.at' hlt; have f9 := hf1.out) | (go_at_call 95; refine (impl_floorDiv _ _ _ f3 (by omega) (by omega)).mono ?_; rintro e w' ⟨rfl, rfl⟩) | (go_at_call 94; refine (impl_Wrap _ _).mono ?_; rintro e w' ⟨rfl, rfl⟩))
          go_roundw
          case rel =>
            refine ⟨k + 1, by go_num, by omega, ?_, (hb.trans (bel3.mono hsz)).setCell hB _⟩
            have h3 := own2.stored' k (wrap32 (x * M.atC xs (k : Int) / 65536))
            rw [M.set_mid (by rw [M.applyL_len, List.length_replicate, hla.out]) (M.applyL_at X.out)] at h3
            exact h3
          case measure => simp [intOf]; omega
        · go_wp2
          go_ret2
          rw [List.take_of_length_le (by rw [M.applyL_len, hla.out]; omega), List.drop_eq_nil_of_le (by simp; omega), List.append_nil] at own
          rw [hr.out]; exact ⟨_, rfl, own.base (by omega), hbb⟩
theorem spec_ApplyCurve (A A' : Option Addr) (m d n c : Nat) (zs : List Int) (xs : List (Int × Int)) (w : World) (ha : RI w w.heap.size A m zs) (hx : RA pt 2 w w.heap.size A' n xs) (hm : m ≤ 1000000000) (hn : n ≤ 1000000000) :
    Calls Try.prog 40 #[.slice A m d, .agg #[.slice A' n c]] w (Ret2 2 w (M.applyR zs xs)) := by
  have hla := Lib.hid ha.len
  have hb1 : Below w.heap.size w (w.alloc (.cells #[.slice A' n c] 30)) := (Below.refl _ _).alloc (Nat.le_refl _) _
  have hx1 := hx.later hb1
  have hself := lay_cell w (.slice A' n c) 30
  have hsize : (w.alloc (.cells #[.slice A' n c] 30)).heap.size = w.heap.size + 1 := by simp
  cases hsg : M.sig zs
  · have hr := Lib.hid (show M.applyR zs xs = ([], 1) by rw [M.applyR, hsg, Bool.and_false]; rfl)
    clear hsize
    go_enter Try.func40, Try.ntmps40
    go_wp2_with (go_at_call 97; refine (spec_l03Ok _ _ _ _ _ (ha.later hb1) (by omega)).mono ?_; rw [hsg]; rintro e w' ⟨rfl, rfl⟩)
    go_ret2
    rw [hr.out]; exact ⟨_, rfl, OI.nil _ _ _, hb1⟩
  · cases hok : M.curveOk xs
    · have hr := Lib.hid (show M.applyR zs xs = ([], 1) by rw [M.applyR, hok]; rfl)
      clear hsize
      go_enter Try.func40, Try.ntmps40
      go_wp2_with (first | (go_at_call 97; refine (spec_l03Ok _ _ _ _ _ (ha.later hb1) (by omega)).mono ?_; rw [hsg]; rintro e w' ⟨rfl, rfl⟩) | (go_at_call 71; refine (spec_l25Ok _ _ _ _ _ _ hself hx1 hn).mono ?_; rw [hok]; rintro e w2 ⟨rfl, bel2⟩))
      go_ret2
      rw [hr.out]; exact ⟨_, rfl, OI.nil _ _ _, hb1.trans (bel2.mono hb1.size)⟩
    · have hr := Lib.hid (show M.applyR zs xs = (M.applyL zs xs, 0) by rw [M.applyR, hok, hsg]; rfl)
      have hsg' := hsg
      rw [M.sig, Bool.and_eq_true, decide_eq_true_iff, List.all_eq_true, hla.out] at hsg'
      have hm4 : m ≤ 4000 := hsg'.1
      have hsm := Lib.hid hsg'.2
      have hok' := Lib.hid hok
      clear hsg'
      go_enter Try.func40, Try.ntmps40
      go_wp2_with (first | (go_at_call 97; refine (spec_l03Ok _ _ _ _ _ (ha.later hb1) (by omega)).mono ?_; rw [hsg]; rintro e w' ⟨rfl, rfl⟩) | (go_at_call 71; refine (spec_l25Ok _ _ _ _ _ _ hself hx1 hn).mono ?_; rw [hok]; rintro e w2 ⟨rfl, bel2⟩))
      have B2 := hb1.trans (bel2.mono hb1.size)
      have hs2 : w.heap.size + 1 ≤ w2.heap.size := by rw [← hsize]; exact bel2.size
      have hv2 : w2.cell? ⟨w.heap.size, 0, none⟩ = some (.slice A' n c) := by rw [bel2.cell (by simp)]; exact hself
      clear bel2 hsize hok hsg hself hx1 hb1
      go_loopw [6, 7] (fun v i wr => ∃ k : Nat, i = .int .i64 k ∧ k ≤ m ∧ OI 2 w2.heap.size wr v ((M.applyL zs xs).take k) ∧ Below w2.heap.size w2 wr) (fun _ i _ => m - (intOf i).toNat)
      case atStart => exact ⟨0, rfl, by omega, OI.made _ _, (Below.refl _ _).alloc (Nat.le_refl _) _⟩
      case round =>
        obtain ⟨k, rfl, hk, own, hb⟩ := hrel
        have hbb : Below w.heap.size w wr := B2.trans (hb.mono (by omega))
        have hsz := hb.size
        have hv : wr.cell? ⟨w.heap.size, 0, none⟩ = some (.slice A' n c) := by rw [hb.cell (by simp; omega)]; exact hv2
        have hvl : w.heap.size < wr.heap.size := by omega
        by_cases hlt : k < m
        · obtain ⟨ad, x, rfl, hab, X, hc⟩ := (ha.below hbb).at hlt
          have hxr := (hx.later hbb).later (below_drewN (Below.refl wr.heap.size wr) 1)
          have hadr : ad.block < wr.heap.size := Nat.lt_of_lt_of_le hab hbb.size
          obtain ⟨f1, f2, f3⟩ := M.apply_facts (M.smp_bd (hsm.out x (List.mem_of_getElem? X.out))) (M.atC_bd hok'.out (t := (k : Int)) (by omega))
          have hC := Lib.hid (M.applyL_at (xs := xs) X.out)
          have hk1 : ((M.applyL zs xs).take k).length ≤ 1000000000 := by rw [List.length_take]; omega
          have own0 : wr.ownsRow w2.heap.size 2 1 u6 ((M.applyL zs xs).take k).length (((M.applyL zs xs).take k).map (.int .i64)) := own
          have c1 : ((M.applyL zs xs).take k).length + 1 ≤ maxLen := by unfold maxLen; omega
          have c2 : (((M.applyL zs xs).take k).length + 1) * 8 ≤ 140737488355328 := by omega
          have f2' := Lib.hid f2
          clear f2
          go_wp2
          have hadw : ad.block < w2.heap.size := by omega
          have hvw : w.heap.size < w2.heap.size := by omega
          go_region_held3 (fun w' => Below w2.heap.size w2 w' ∧ w'.cell? (ad.add k) = some (.int .i64 x) ∧ w'.cell? ⟨w.heap.size, 0, none⟩ = some (.slice A' n c))
            (first | exact ⟨below_drewN hb _, hc, hv⟩ | exact ⟨h4, (by rw [h4.cell (by rw [block_of_add]; exact hadw), ← hb.cell (by rw [block_of_add]; exact hadw)]; exact hc), (by rw [h4.cell (by simpa using hvw)]; exact hv2)⟩ | exact ⟨h3, (by rw [h3.cell (by rw [block_of_add]; exact hadw), ← hb.cell (by rw [block_of_add]; exact hadw)]; exact hc), (by rw [h3.cell (by simpa using hvw)]; exact hv2)⟩ | exact ⟨h3.alloc h3.size _, (by rw [(h3.alloc h3.size _).cell (by rw [block_of_add]; exact hadw), ← hb.cell (by rw [block_of_add]; exact hadw)]; exact hc), (by rw [(h3.alloc h3.size _).cell (by simpa using hvw)]; exact hv2)⟩)
            (first
              | (go_at_call 84; refine (spec_l25At _ _ _ _ _ _ hxr hok'.out (by omega)).mono ?_; rintro e w3 ⟨rfl, bel3⟩; have g3 : Below wr.heap.size wr w3 := kept_all bel3 rfl (below_drewN (Below.refl _ _) 1); have own3 := own_below own0 g3; have s3 := g3.size; have h3 : Below w2.heap.size w2 w3 := hb.trans (g3.mono hsz))
              | (go_at_call 99; refine (spec_l25Div _ _ _ f3 (by omega) (by omega)).mono ?_; rintro e w' ⟨rfl, rfl⟩)
              | (go_at_call 98; refine (spec_l01Wrap _ _).mono ?_; rintro e w' ⟨rfl, rfl⟩)
              | (refine step_push1 (o := ⟨some 35, _, _, _, _, _⟩) ei_i64 rfl (.tmp 22) (.tmp 34) rfl (World.ownsRow.alloc own3 _) rfl rfl (cell_alloc1 _ _ _) rfl c1 c2 (Nat.le_trans (Nat.le_trans hsz s3) (by simp)) ?_; intro v1 w1 own1 gr1 bel1; have h4 : Below w2.heap.size w2 w1 := (h3.alloc h3.size _).trans bel1))
          go_wp2
          go_roundw
          case rel => exact ⟨k + 1, by go_num, by omega, by rw [M.take_at hC.out]; exact OI.push own1, h4⟩
          case measure => simp [intOf]; omega
        · go_wp2
          go_ret2
          rw [List.take_of_length_le (by rw [M.applyL_len, hla.out]; omega)] at own
          rw [hr.out]; exact ⟨_, rfl, own.base (by omega), hbb⟩
end Go.Proofs.Ytckihflfjecpbaa
namespace Go.Proofs.Ytckihflfjecpbaa
open Go.RowKit
set_option maxHeartbeats 2000000
set_option maxRecDepth 100000
/-- A curve's value at a sample, and the code. -/
def M.valR (xs : List (Int × Int)) (t : Int) : Int × Int := if M.curveOk xs then (if M.inn t 0 4000 then (M.atC xs t, 0) else (0, 2)) else (0, 1)
theorem impl_ValueAt (A : Option Addr) (n c : Nat) (xs : List (Int × Int)) (t : Int) (w : World) (hx : RA pt 2 w w.heap.size A n xs) (hn : n ≤ 1000000000) :
    Calls Try.prog 39 #[.agg #[.slice A n c], .int .i64 t] w fun e w' => e = .returned (.tuple #[.int .i64 (M.valR xs t).1, .int .i64 (M.valR xs t).2]) ∧ Below w.heap.size w w' := by
  obtain ⟨W, hW⟩ : ∃ W, W = w.alloc (.cells #[.slice A n c] 30) := ⟨_, rfl⟩
  have B0 : Below w.heap.size w W := by rw [hW]; exact (Below.refl _ _).alloc (Nat.le_refl _) _
  have hself : W.cell? ⟨w.heap.size, 0, none⟩ = some (.slice A n c) := by rw [hW]; simp [go_sem]
  have lx : w.heap.size < W.heap.size := by rw [hW]; simp
  have hx2 := hx.later B0
  have HW := Lib.hid hW
  clear hW
  cases hok : M.curveOk xs
  · have R := Lib.hid (show M.valR xs t = (0, 1) by rw [M.valR, hok]; rfl)
    have HM := Lib.hid hok
    clear hok
    go_enter Try.func39, Try.ntmps39
    go_wp2_with fail
    rw [← HW.out]
    go_wp2_with (go_at_call 74; refine (impl_isCurve _ _ _ _ _ hx2 hn).mono ?_; rw [HM.out]; rintro e w2 ⟨rfl, bel2⟩)
    go_ret2
    exact ⟨by rw [R.out]; rfl, bel_trans B0 bel2⟩
  · cases hi : M.inn t 0 4000
    · have R := Lib.hid (show M.valR xs t = (0, 2) by rw [M.valR, hok, hi]; rfl)
      have HM := Lib.hid hok
      have HI := Lib.hid hi
      clear hok hi
      go_enter Try.func39, Try.ntmps39
      go_wp2_with fail
      rw [← HW.out]
      go_wp2_with (first | (go_at_call 74; refine (impl_isCurve _ _ _ _ _ hx2 hn).mono ?_; rw [HM.out]; rintro e w2 ⟨rfl, bel2⟩; have hs2 : w2.cell? ⟨w.heap.size, 0, none⟩ = some (.slice A n c) := (by rw [bel2.cell lx]; exact hself)) | (go_at_call 85; refine (impl_isCount _ _).mono ?_; rw [HI.out]; rintro e w' ⟨rfl, rfl⟩))
      go_ret2
      exact ⟨by rw [R.out]; rfl, bel_trans B0 bel2⟩
    · have R := Lib.hid (show M.valR xs t = (M.atC xs t, 0) by rw [M.valR, hok, hi]; rfl)
      have ht : 0 ≤ t ∧ t ≤ 1000000 := by have := M.inn_iff.1 hi; omega
      have HM := Lib.hid hok
      have HI := Lib.hid hi
      clear hok hi
      go_enter Try.func39, Try.ntmps39
      go_wp2_with fail
      rw [← HW.out]
      go_wp2_with (first | (go_at_call 74; refine (impl_isCurve _ _ _ _ _ hx2 hn).mono ?_; rw [HM.out]; rintro e w2 ⟨rfl, bel2⟩; have hs2 : w2.cell? ⟨w.heap.size, 0, none⟩ = some (.slice A n c) := (by rw [bel2.cell lx]; exact hself)) | (go_at_call 85; refine (impl_isCount _ _).mono ?_; rw [HI.out]; rintro e w' ⟨rfl, rfl⟩) | (go_at_call 96; refine (impl_valueAt _ _ _ _ _ _ (hx2.later bel2) HM.out ht).mono ?_; rintro e w3 ⟨rfl, bel3⟩))
      go_ret2
      exact ⟨by rw [R.out]; rfl, bel_trans (bel_trans B0 bel2) bel3⟩
end Go.Proofs.Ytckihflfjecpbaa
namespace Go.Proofs.Ytckihflfjecpbaa
open Go.RowKit
set_option maxHeartbeats 2000000
set_option maxRecDepth 100000
theorem spec_SameCurve (A A' : Option Addr) (n c n' c' : Nat) (xs ys : List (Int × Int)) (w : World) (hx : RA pt 2 w w.heap.size A n xs) (hy : RA pt 2 w w.heap.size A' n' ys) (hn : n ≤ 1000000000) (hn' : n' ≤ 1000000000) :
    Calls Try.prog 36 #[.agg #[.slice A n c], .agg #[.slice A' n' c']] w fun e w' => e = .returned (.bool (decide (xs = ys))) ∧ Below w.heap.size w w' := by
  have hl := hx.len
  have hl' := hy.len
  have HL := Lib.hid hl
  have HL' := Lib.hid hl'
  obtain ⟨W, hW⟩ : ∃ W, W = (w.alloc (.cells #[.slice A n c] 30)).alloc (.cells #[.slice A' n' c'] 30) := ⟨_, rfl⟩
  have B0 : Below w.heap.size w W := by rw [hW]; exact ((Below.refl _ _).alloc (Nat.le_refl _) _).alloc (by simp) _
  have s0 : W.cell? ⟨w.heap.size, 0, none⟩ = some (.slice A n c) := by rw [hW]; simp [go_sem]
  have s1 : W.cell? ⟨w.heap.size + 1, 0, none⟩ = some (.slice A' n' c') := by rw [hW]; simp [go_sem]
  have lx : w.heap.size + 1 < W.heap.size := by rw [hW]; simp
  have HW := Lib.hid hW
  clear hW hl hl'
  by_cases hlen : n = n'
  · subst hlen
    go_enter Try.func36, Try.ntmps36
    go_wp2
    rw [← HW.out]
    go_loopw [5] (fun i wr => ∃ k : Nat, i = .int .i64 k ∧ k ≤ n ∧ xs.take k = ys.take k ∧ Below W.heap.size W wr) (fun i _ => n - (intOf i).toNat)
    case atStart => exact ⟨0, rfl, by omega, rfl, Below.refl _ _⟩
    case round =>
      obtain ⟨k, rfl, hk, hE, Bw⟩ := hrel
      have HE := Lib.hid hE
      have BW := bel_trans B0 Bw
      have t0 : wr.cell? ⟨w.heap.size, 0, none⟩ = some (.slice A n c) := by rw [Bw.cell (show (⟨w.heap.size, 0, none⟩ : Addr).block < _ by show w.heap.size < W.heap.size; omega)]; exact s0
      have t1 : wr.cell? ⟨w.heap.size + 1, 0, none⟩ = some (.slice A' n c') := by rw [Bw.cell (show (⟨w.heap.size + 1, 0, none⟩ : Addr).block < _ from lx)]; exact s1
      clear hE
      by_cases hlt : k < n
      · obtain ⟨b, o, ⟨p0, p1⟩, rfl, hab, X, hc⟩ := (hx.below BW).at pt_len (by decide) hlt
        obtain ⟨b', o', ⟨q0, q1⟩, rfl, hab', Y, hd⟩ := (hy.below BW).at pt_len (by decide) hlt
        have f0 : wr.cell? ⟨b, o + k * 2, none⟩ = some (.int .i64 p0) := hc 0 _ rfl
        have f1 : wr.cell? ⟨b, o + k * 2 + 1, none⟩ = some (.int .i64 p1) := hc 1 _ rfl
        have g0 : wr.cell? ⟨b', o' + k * 2, none⟩ = some (.int .i64 q0) := hd 0 _ rfl
        have g1 : wr.cell? ⟨b', o' + k * 2 + 1, none⟩ = some (.int .i64 q1) := hd 1 _ rfl
        have hkn : (k : Int) < (n : Int) := by omega
        clear hc hd
        by_cases he : p0 = q0 ∧ p1 = q1
        · obtain ⟨rfl, rfl⟩ := he
          go_wp2
          refine wp_region_still_lit (by kernel_rfl) (by kernel_rfl) ?_
          iterate 11 still_step
          refine wpStill_nil ?_
          go_wp2
          go_roundw
          case rel => exact ⟨k + 1, by go_num, by omega, by rw [M.take_at X.out, M.take_at Y.out, HE.out], Bw.drew⟩
          case measure => simp [intOf]; omega
        · have hne := Lib.hid (show decide (xs = ys) = false by
            simp only [decide_eq_false_iff_not]
            intro h
            subst h
            have := X.out.symm.trans Y.out
            simp only [Option.some.injEq, Prod.mk.injEq] at this
            exact he this)
          by_cases h0 : p0 = q0
          · have h1 : ¬ p1 = q1 := fun h => he ⟨h0, h⟩
            clear he
            go_wp2
            refine wp_region_still_lit (by kernel_rfl) (by kernel_rfl) ?_
            iterate 11 still_step
            refine wpStill_nil ?_
            go_wp2
            go_ret
            exact ⟨ret_bool hne.out.symm, bel_trans B0 Bw.drew⟩
          · clear he
            go_wp2
            refine wp_region_still_lit (by kernel_rfl) (by kernel_rfl) ?_
            iterate 11 still_step
            refine wpStill_nil ?_
            go_wp2
            go_ret
            exact ⟨ret_bool hne.out.symm, bel_trans B0 Bw.drew⟩
      · obtain rfl : k = n := by omega
        have heq := Lib.hid (show decide (xs = ys) = true by
          simp only [decide_eq_true_eq]
          have := HE.out
          rwa [List.take_of_length_le (by rw [HL.out]; exact Nat.le_refl _), List.take_of_length_le (by rw [HL'.out]; exact Nat.le_refl _)] at this)
        go_wp2
        go_ret
        exact ⟨ret_bool heq.out.symm, BW⟩
  · have hne := Lib.hid (show decide (xs = ys) = false by
      simp only [decide_eq_false_iff_not]
      intro h
      subst h
      exact hlen (HL.out.symm.trans HL'.out))
    have hnn : ¬ (n : Int) = (n' : Int) := by omega
    go_enter Try.func36, Try.ntmps36
    go_wp2
    go_ret
    exact ⟨ret_bool hne.out.symm, by rw [← HW.out]; exact B0⟩
end Go.Proofs.Ytckihflfjecpbaa
