import Derived.Test.YtckihflfjecpbaaW67
import Derived.Deep.RegionWith
namespace Go.Proofs.Ytckihflfjecpbaa
open Go.RowKit
set_option maxHeartbeats 2000000
set_option maxRecDepth 100000
def M.later (a : Int) (p : Clip) : Bool := decide (a < p.2.2.2.1)
def M.putK (xs : List Clip) (a : Int) : Nat := (xs.findIdx? (M.later a)).getD xs.length
def M.putP (xs : List Clip) (x : Clip) : List Clip := M.insP xs (M.putK xs x.2.2.2.1) [x]
theorem M.putK_mid {xs : List Clip} {a : Int} {k : Nat} {y : Clip} (hk : xs[k]? = some y) (hy : a < y.2.2.2.1) (h : ∀ j, j < k → ∀ z, xs[j]? = some z → z.2.2.2.1 ≤ a) : M.putK xs a = k := by
  unfold M.putK
  rw [M.find_some hk (by rw [M.later, decide_eq_true_iff]; exact hy) (fun j hj z hz => by rw [M.later, decide_eq_false_iff_not]; have := h j hj z hz; omega)]
  rfl
theorem M.putK_end {xs : List Clip} {a : Int} (h : ∀ j, j < xs.length → ∀ z, xs[j]? = some z → z.2.2.2.1 ≤ a) : M.putK xs a = xs.length := by
  unfold M.putK
  rw [M.find_none (fun j hj z hz => by rw [M.later, decide_eq_false_iff_not]; have := h j hj z hz; omega)]
  rfl
theorem M.putK_le (xs : List Clip) (a : Int) : M.putK xs a ≤ xs.length := by
  unfold M.putK
  cases h : xs.findIdx? (M.later a) with
  | none => exact Nat.le_refl _
  | some i => exact Nat.le_of_lt (List.findIdx?_eq_some_iff_getElem.1 h).1
theorem impl_put (A : Option Addr) (n c : Nat) (xs : List Clip) (x0 x1 x2 x3 x4 : Int) (w : World) (hx : RA cl 5 w w.heap.size A n xs) (hn : n ≤ 100000000) :
    Calls Try.prog 116 #[.agg #[.slice A n c], .agg #[.int .i64 x0, .int .i64 x1, .int .i64 x2, .int .i64 x3, .int .i64 x4]] w fun e w' => ∃ v, e = .returned (.tuple #[.agg #[v], .int .i64 (M.putK xs x3)]) ∧ OA cl 78 5 w.heap.size w'.heap.size w' v (M.putP xs (x0, x1, x2, x3, x4)) ∧ Below w.heap.size w w' := by
  have hl := Lib.hid hx.len
  have hb0 : Below w.heap.size w (((w.alloc (.cells #[.slice A n c] 65)).alloc (.cells #[.int .i64 x0, .int .i64 x1, .int .i64 x2, .int .i64 x3, .int .i64 x4] 78)).alloc (.cells #[.slice none 0 0] 65)) := (((Below.refl _ _).alloc (Nat.le_refl _) _).alloc (by simp) _).alloc (by simp; omega) _
  obtain ⟨W0, hW0⟩ : ∃ W0, W0 = ((w.alloc (.cells #[.slice A n c] 65)).alloc (.cells #[.int .i64 x0, .int .i64 x1, .int .i64 x2, .int .i64 x3, .int .i64 x4] 78)).alloc (.cells #[.slice none 0 0] 65) := ⟨_, rfl⟩
  have hs0 : W0.heap.size = w.heap.size + 3 := by rw [hW0]; simp
  have c0 : W0.cell? ⟨w.heap.size, 0, none⟩ = some (.slice A n c) := by rw [hW0]; simp [go_sem]
  have c10 : W0.cell? ⟨w.heap.size + 1, 0, none⟩ = some (.int .i64 x0) := by rw [hW0]; simp [go_sem]
  have c11 : W0.cell? ⟨w.heap.size + 1, 1, none⟩ = some (.int .i64 x1) := by rw [hW0]; simp [go_sem]
  have c12 : W0.cell? ⟨w.heap.size + 1, 2, none⟩ = some (.int .i64 x2) := by rw [hW0]; simp [go_sem]
  have c13 : W0.cell? ⟨w.heap.size + 1, 3, none⟩ = some (.int .i64 x3) := by rw [hW0]; simp [go_sem]
  have c14 : W0.cell? ⟨w.heap.size + 1, 4, none⟩ = some (.int .i64 x4) := by rw [hW0]; simp [go_sem]
  have c2 : W0.cell? ⟨w.heap.size + 1 + 1, 0, none⟩ = some (.slice none 0 0) := by rw [hW0]; simp [go_sem]
  have f2 : W0.frozen? ⟨w.heap.size + 1 + 1, 0, none⟩ = false := by rw [hW0]; simp [go_sem]
  have HW0 := Lib.hid hW0
  rw [← hW0] at hb0
  clear hW0
  go_enter Try.func116, Try.ntmps116
  go_wp2
  rw [← HW0.out]
  go_loopw [6] (fun i wr => ∃ k : Nat, i = .int .i64 k ∧ k ≤ n ∧ Hid (∀ j, j < k → ∀ z, xs[j]? = some z → z.2.2.2.1 ≤ x3) ∧ Below W0.heap.size W0 wr) (fun i _ => n - (intOf i).toNat)
  case atStart => exact ⟨0, rfl, by omega, Lib.hid (by omega), Below.refl _ _⟩
  case round =>
    obtain ⟨k, rfl, hk, H, hb⟩ := hrel
    have hbb : Below w.heap.size w wr := hb0.trans (hb.mono (by omega))
    have hsz := hb.size
    rw [hs0] at hsz
    have d0 : wr.cell? ⟨w.heap.size, 0, none⟩ = some (.slice A n c) := by rw [hb.cell (by simp; omega)]; exact c0
    have d1 : wr.cell? ⟨w.heap.size + 1, 3, none⟩ = some (.int .i64 x3) := by rw [hb.cell (by simp; omega)]; exact c13
    by_cases hlt : k < n
    · obtain ⟨b, o, ⟨p0, p1, p2, p3, p4⟩, rfl, hab, X, hc⟩ := (hx.below hbb).at cl_len (by decide) hlt
      have hc3 : wr.cell? ⟨b, o + k * 5 + 3, none⟩ = some (.int .i64 p3) := hc 3 _ rfl
      clear hc
      by_cases hle : p3 ≤ x3
      · have H2 : Hid (∀ j, j < k + 1 → ∀ z, xs[j]? = some z → z.2.2.2.1 ≤ x3) := fun j hj z hz => by
          rcases Nat.lt_or_ge j k with h | h
          · exact H.out j h z hz
          · obtain rfl : j = k := by omega
            rw [X.out] at hz
            injection hz with hz
            subst hz
            exact hle
        have hd0 : decide (k < n) = true := by simpa using hlt
        have hd1 : decide (p3 ≤ x3) = true := by simpa using hle
        have hbr : b < wr.heap.size := Nat.lt_of_lt_of_le hab hbb.size
        go_wp2
        go_quiet (fail)
        go_wp2
        go_roundw
        case rel => exact ⟨k + 1, by go_num, by omega, H2, below_drewN hb _⟩
        case measure => first | go_num | omega | (simp only [intOf]; omega)
      · have hd0 : decide (k < n) = true := by simpa using hlt
        have hd1 : decide (p3 ≤ x3) = false := by simpa using hle
        have hK := Lib.hid (M.putK_mid X.out (show x3 < p3 by omega) H.out)
        go_wp2
        go_quiet (fail)
        go_wp2
        obtain ⟨wq, hwq⟩ : ∃ wq : World, wq = wr.drewN nq := ⟨_, rfl⟩
        have bq : Below w.heap.size w wq := by rw [hwq]; exact below_drewN hbb _
        have bq0 : Below W0.heap.size W0 wq := by rw [hwq]; exact below_drewN hb _
        have sq : w.heap.size + 1 + 1 + 1 ≤ wq.heap.size := by have := bq0.size; omega
        have t0 : wq.cell? ⟨w.heap.size, 0, none⟩ = some (.slice (some ⟨b, o, none⟩) n c) := by rw [bq0.cell (by simp; omega)]; exact c0
        have t10 : wq.cell? ⟨w.heap.size + 1, 0, none⟩ = some (.int .i64 x0) := by rw [bq0.cell (by simp; omega)]; exact c10
        have t11 : wq.cell? ⟨w.heap.size + 1, 1, none⟩ = some (.int .i64 x1) := by rw [bq0.cell (by simp; omega)]; exact c11
        have t12 : wq.cell? ⟨w.heap.size + 1, 2, none⟩ = some (.int .i64 x2) := by rw [bq0.cell (by simp; omega)]; exact c12
        have t13 : wq.cell? ⟨w.heap.size + 1, 3, none⟩ = some (.int .i64 x3) := by rw [bq0.cell (by simp; omega)]; exact c13
        have t14 : wq.cell? ⟨w.heap.size + 1, 4, none⟩ = some (.int .i64 x4) := by rw [bq0.cell (by simp; omega)]; exact c14
        have t2 : wq.cell? ⟨w.heap.size + 1 + 1, 0, none⟩ = some (.slice none 0 0) := by rw [bq0.cell (by simp; omega)]; exact c2
        have t3 : wq.frozen? ⟨w.heap.size + 1 + 1, 0, none⟩ = false := by rw [bq0.frozen (by simp; omega)]; exact f2
        have hP := Lib.hid (show M.putP xs (x0, x1, x2, x3, x4) = M.insP xs k [(x0, x1, x2, x3, x4)] by rw [M.putP, hK.out])
        rw [← hwq]
        clear hwq
        have ba : Below wq.heap.size wq wq.drew := below_drewN (Below.refl _ _) 1
        have bb : Below wq.heap.size wq (wq.drew.alloc (.cells #[.int .i64 x0, .int .i64 x1, .int .i64 x2, .int .i64 x3, .int .i64 x4] 78)) := ba.alloc (Nat.le_refl _) _
        have hxa := hx.later (bel_trans bq ba)
        have hxb := hx.later (bel_trans bq bb)
        have z0 : w.heap.size < wq.heap.size := by omega
        have z1 : w.heap.size + 1 < wq.heap.size := by omega
        have z2 : w.heap.size + 1 + 1 < wq.heap.size := by omega
        have esb : (wq.drew.alloc (.cells #[.int .i64 x0, .int .i64 x1, .int .i64 x2, .int .i64 x3, .int .i64 x4] 78)).heap.size = wq.heap.size + 1 := by simp
        have esa : wq.drew.heap.size = wq.heap.size := rfl
        go_region_with (first | (go_at_call 113; refine (slices_Clone_impl_Clip_impl_Clip _ _ _ _ _ hxa (by omega)).mono ?_; rintro e w2 ⟨v2, rfl, own2, bel2⟩; obtain ⟨A2, c2', rfl, -⟩ := own2.shape; have G2 := bel_trans ba bel2; have s2 := G2.size; have k0 : w2.cell? ⟨w.heap.size, 0, none⟩ = some (.slice (some ⟨b, o, none⟩) n c) := (by rw [G2.cell (by first | exact z0 | (simp; omega))]; exact t0); have k10 : w2.cell? ⟨w.heap.size + 1, 0, none⟩ = some (.int .i64 x0) := (by rw [G2.cell (by first | exact z1 | (simp; omega))]; exact t10); have k11 : w2.cell? ⟨w.heap.size + 1, 1, none⟩ = some (.int .i64 x1) := (by rw [G2.cell (by first | exact z1 | (simp; omega))]; exact t11); have k12 : w2.cell? ⟨w.heap.size + 1, 2, none⟩ = some (.int .i64 x2) := (by rw [G2.cell (by first | exact z1 | (simp; omega))]; exact t12); have k13 : w2.cell? ⟨w.heap.size + 1, 3, none⟩ = some (.int .i64 x3) := (by rw [G2.cell (by first | exact z1 | (simp; omega))]; exact t13); have k14 : w2.cell? ⟨w.heap.size + 1, 4, none⟩ = some (.int .i64 x4) := (by rw [G2.cell (by first | exact z1 | (simp; omega))]; exact t14); have k2 : w2.cell? ⟨w.heap.size + 1 + 1, 0, none⟩ = some (.slice none 0 0) := (by rw [G2.cell (by first | exact z2 | (simp; omega))]; exact t2); have k3 : w2.frozen? ⟨w.heap.size + 1 + 1, 0, none⟩ = false := (by rw [G2.frozen (by first | exact z2 | (simp; omega))]; exact t3); have ownA := own2.below (B := w2.heap.size) (w' := w2.alloc (.cells #[.int .i64 x0, .int .i64 x1, .int .i64 x2, .int .i64 x3, .int .i64 x4] 78)) ((Below.refl _ _).alloc (Nat.le_refl _) _) (Nat.le_refl _); have hvA := heap_alloc_new w2 (.cells #[.int .i64 x0, .int .i64 x1, .int .i64 x2, .int .i64 x3, .int .i64 x4] 78); have G3 : Below wq.heap.size wq (w2.alloc (.cells #[.int .i64 x0, .int .i64 x1, .int .i64 x2, .int .i64 x3, .int .i64 x4] 78)) := G2.alloc s2 _) | (go_at_call 113; refine (slices_Clone_impl_Clip_impl_Clip _ _ _ _ _ hxb (by omega)).mono ?_; rintro e w2 ⟨v2, rfl, own2, bel2⟩; obtain ⟨A2, c2', rfl, -⟩ := own2.shape; have G2 := bel_trans bb bel2; have s2 := G2.size; have k0 : w2.cell? ⟨w.heap.size, 0, none⟩ = some (.slice (some ⟨b, o, none⟩) n c) := (by rw [G2.cell (by first | exact z0 | (simp; omega))]; exact t0); have k10 : w2.cell? ⟨w.heap.size + 1, 0, none⟩ = some (.int .i64 x0) := (by rw [G2.cell (by first | exact z1 | (simp; omega))]; exact t10); have k11 : w2.cell? ⟨w.heap.size + 1, 1, none⟩ = some (.int .i64 x1) := (by rw [G2.cell (by first | exact z1 | (simp; omega))]; exact t11); have k12 : w2.cell? ⟨w.heap.size + 1, 2, none⟩ = some (.int .i64 x2) := (by rw [G2.cell (by first | exact z1 | (simp; omega))]; exact t12); have k13 : w2.cell? ⟨w.heap.size + 1, 3, none⟩ = some (.int .i64 x3) := (by rw [G2.cell (by first | exact z1 | (simp; omega))]; exact t13); have k14 : w2.cell? ⟨w.heap.size + 1, 4, none⟩ = some (.int .i64 x4) := (by rw [G2.cell (by first | exact z1 | (simp; omega))]; exact t14); have k2 : w2.cell? ⟨w.heap.size + 1 + 1, 0, none⟩ = some (.slice none 0 0) := (by rw [G2.cell (by first | exact z2 | (simp; omega))]; exact t2); have k3 : w2.frozen? ⟨w.heap.size + 1 + 1, 0, none⟩ = false := (by rw [G2.frozen (by first | exact z2 | (simp; omega))]; exact t3); have hvB : w2.heap[wq.heap.size]? = some (.cells #[.int .i64 x0, .int .i64 x1, .int .i64 x2, .int .i64 x3, .int .i64 x4] 78 (0, 0)) := (by rw [bel2.block _ (by simp)]; exact heap_alloc_new wq.drew _)) | (go_at_call 145; refine (Insert_one _ _ _ _ _ _ _ xs (x0, x1, x2, x3, x4) _ ownA hvA (.inr (Nat.le_refl _)) (by rw [hl.out]; exact hk) (by rw [hl.out]; omega) (by simp; omega) (by simp)).mono ?_; rintro e w3 ⟨v3, rfl, own3, bel3⟩; obtain ⟨A3, c3', rfl, -⟩ := own3.shape; have G4 := G3.trans (bel3.mono (by first | exact Nat.le_refl _ | (simp; done) | (simp; omega))); have q3 : w3.cell? ⟨w.heap.size + 1 + 1, 0, none⟩ = some (.slice none 0 0) := (by rw [G4.cell (by first | exact z2 | (simp; omega))]; exact t2); have r3 : w3.frozen? ⟨w.heap.size + 1 + 1, 0, none⟩ = false := (by rw [G4.frozen (by first | exact z2 | (simp; omega))]; exact t3)) | (go_at_call 145; refine (Insert_one _ _ _ _ _ _ _ xs (x0, x1, x2, x3, x4) _ own2 hvB (.inl (by simp)) (by rw [hl.out]; exact hk) (by rw [hl.out]; omega) bel2.size (Nat.le_refl _)).mono ?_; rintro e w3 ⟨v3, rfl, own3, bel3⟩; obtain ⟨A3, c3', rfl, -⟩ := own3.shape; have G4 := G2.trans (bel3.mono (by first | exact Nat.le_refl _ | (simp; done) | (simp; omega))); have q3 : w3.cell? ⟨w.heap.size + 1 + 1, 0, none⟩ = some (.slice none 0 0) := (by rw [G4.cell (by first | exact z2 | (simp; omega))]; exact t2); have r3 : w3.frozen? ⟨w.heap.size + 1 + 1, 0, none⟩ = false := (by rw [G4.frozen (by first | exact z2 | (simp; omega))]; exact t3)))
        all_goals (go_wp2; refine bodyPost_ret (v := .tuple #[.agg #[.slice A3 (M.insP xs k [(x0, x1, x2, x3, x4)]).length c3'], .int .i64 k]) (by simp [results, Try.results116, go_sem, q3, r3]) rfl ?_; rw [hK.out, hP.out]; exact ⟨_, rfl, (own3.mid (Mid.cell w3 (w.heap.size + 1 + 1) 0 (.slice A3 (M.insP xs k [(x0, x1, x2, x3, x4)]).length c3')) (.inr (by first | omega | (simp; omega))) (Nat.le_refl _)).wide (by first | omega | (simp; omega)) (by simp), (bq.trans (G4.mono (by omega))).setCell (by first | (simp; done) | (simp; omega)) _⟩)
    · have hd0 : decide (k < n) = false := by simpa using hlt
      have hK := Lib.hid (show M.putK xs x3 = k by rw [M.putK_end (fun j hj => H.out j (by have := hl.out; omega))]; have := hl.out; omega)
      go_wp2
      go_quiet (fail)
      go_wp2
      obtain ⟨wq, hwq⟩ : ∃ wq : World, wq = wr.drewN nq := ⟨_, rfl⟩
      have bq : Below w.heap.size w wq := by rw [hwq]; exact below_drewN hbb _
      have bq0 : Below W0.heap.size W0 wq := by rw [hwq]; exact below_drewN hb _
      have sq : w.heap.size + 1 + 1 + 1 ≤ wq.heap.size := by have := bq0.size; omega
      have t0 : wq.cell? ⟨w.heap.size, 0, none⟩ = some (.slice A n c) := by rw [bq0.cell (by simp; omega)]; exact c0
      have t10 : wq.cell? ⟨w.heap.size + 1, 0, none⟩ = some (.int .i64 x0) := by rw [bq0.cell (by simp; omega)]; exact c10
      have t11 : wq.cell? ⟨w.heap.size + 1, 1, none⟩ = some (.int .i64 x1) := by rw [bq0.cell (by simp; omega)]; exact c11
      have t12 : wq.cell? ⟨w.heap.size + 1, 2, none⟩ = some (.int .i64 x2) := by rw [bq0.cell (by simp; omega)]; exact c12
      have t13 : wq.cell? ⟨w.heap.size + 1, 3, none⟩ = some (.int .i64 x3) := by rw [bq0.cell (by simp; omega)]; exact c13
      have t14 : wq.cell? ⟨w.heap.size + 1, 4, none⟩ = some (.int .i64 x4) := by rw [bq0.cell (by simp; omega)]; exact c14
      have t2 : wq.cell? ⟨w.heap.size + 1 + 1, 0, none⟩ = some (.slice none 0 0) := by rw [bq0.cell (by simp; omega)]; exact c2
      have t3 : wq.frozen? ⟨w.heap.size + 1 + 1, 0, none⟩ = false := by rw [bq0.frozen (by simp; omega)]; exact f2
      have hP := Lib.hid (show M.putP xs (x0, x1, x2, x3, x4) = M.insP xs k [(x0, x1, x2, x3, x4)] by rw [M.putP, hK.out])
      rw [← hwq]
      clear hwq
      have ba : Below wq.heap.size wq wq.drew := below_drewN (Below.refl _ _) 1
      have bb : Below wq.heap.size wq (wq.drew.alloc (.cells #[.int .i64 x0, .int .i64 x1, .int .i64 x2, .int .i64 x3, .int .i64 x4] 78)) := ba.alloc (Nat.le_refl _) _
      have hxa := hx.later (bel_trans bq ba)
      have hxb := hx.later (bel_trans bq bb)
      have z0 : w.heap.size < wq.heap.size := by omega
      have z1 : w.heap.size + 1 < wq.heap.size := by omega
      have z2 : w.heap.size + 1 + 1 < wq.heap.size := by omega
      have esb : (wq.drew.alloc (.cells #[.int .i64 x0, .int .i64 x1, .int .i64 x2, .int .i64 x3, .int .i64 x4] 78)).heap.size = wq.heap.size + 1 := by simp
      have esa : wq.drew.heap.size = wq.heap.size := rfl
      go_region_with (first | (go_at_call 113; refine (slices_Clone_impl_Clip_impl_Clip _ _ _ _ _ hxa (by omega)).mono ?_; rintro e w2 ⟨v2, rfl, own2, bel2⟩; obtain ⟨A2, c2', rfl, -⟩ := own2.shape; have G2 := bel_trans ba bel2; have s2 := G2.size; have k0 : w2.cell? ⟨w.heap.size, 0, none⟩ = some (.slice A n c) := (by rw [G2.cell (by first | exact z0 | (simp; omega))]; exact t0); have k10 : w2.cell? ⟨w.heap.size + 1, 0, none⟩ = some (.int .i64 x0) := (by rw [G2.cell (by first | exact z1 | (simp; omega))]; exact t10); have k11 : w2.cell? ⟨w.heap.size + 1, 1, none⟩ = some (.int .i64 x1) := (by rw [G2.cell (by first | exact z1 | (simp; omega))]; exact t11); have k12 : w2.cell? ⟨w.heap.size + 1, 2, none⟩ = some (.int .i64 x2) := (by rw [G2.cell (by first | exact z1 | (simp; omega))]; exact t12); have k13 : w2.cell? ⟨w.heap.size + 1, 3, none⟩ = some (.int .i64 x3) := (by rw [G2.cell (by first | exact z1 | (simp; omega))]; exact t13); have k14 : w2.cell? ⟨w.heap.size + 1, 4, none⟩ = some (.int .i64 x4) := (by rw [G2.cell (by first | exact z1 | (simp; omega))]; exact t14); have k2 : w2.cell? ⟨w.heap.size + 1 + 1, 0, none⟩ = some (.slice none 0 0) := (by rw [G2.cell (by first | exact z2 | (simp; omega))]; exact t2); have k3 : w2.frozen? ⟨w.heap.size + 1 + 1, 0, none⟩ = false := (by rw [G2.frozen (by first | exact z2 | (simp; omega))]; exact t3); have ownA := own2.below (B := w2.heap.size) (w' := w2.alloc (.cells #[.int .i64 x0, .int .i64 x1, .int .i64 x2, .int .i64 x3, .int .i64 x4] 78)) ((Below.refl _ _).alloc (Nat.le_refl _) _) (Nat.le_refl _); have hvA := heap_alloc_new w2 (.cells #[.int .i64 x0, .int .i64 x1, .int .i64 x2, .int .i64 x3, .int .i64 x4] 78); have G3 : Below wq.heap.size wq (w2.alloc (.cells #[.int .i64 x0, .int .i64 x1, .int .i64 x2, .int .i64 x3, .int .i64 x4] 78)) := G2.alloc s2 _) | (go_at_call 113; refine (slices_Clone_impl_Clip_impl_Clip _ _ _ _ _ hxb (by omega)).mono ?_; rintro e w2 ⟨v2, rfl, own2, bel2⟩; obtain ⟨A2, c2', rfl, -⟩ := own2.shape; have G2 := bel_trans bb bel2; have s2 := G2.size; have k0 : w2.cell? ⟨w.heap.size, 0, none⟩ = some (.slice A n c) := (by rw [G2.cell (by first | exact z0 | (simp; omega))]; exact t0); have k10 : w2.cell? ⟨w.heap.size + 1, 0, none⟩ = some (.int .i64 x0) := (by rw [G2.cell (by first | exact z1 | (simp; omega))]; exact t10); have k11 : w2.cell? ⟨w.heap.size + 1, 1, none⟩ = some (.int .i64 x1) := (by rw [G2.cell (by first | exact z1 | (simp; omega))]; exact t11); have k12 : w2.cell? ⟨w.heap.size + 1, 2, none⟩ = some (.int .i64 x2) := (by rw [G2.cell (by first | exact z1 | (simp; omega))]; exact t12); have k13 : w2.cell? ⟨w.heap.size + 1, 3, none⟩ = some (.int .i64 x3) := (by rw [G2.cell (by first | exact z1 | (simp; omega))]; exact t13); have k14 : w2.cell? ⟨w.heap.size + 1, 4, none⟩ = some (.int .i64 x4) := (by rw [G2.cell (by first | exact z1 | (simp; omega))]; exact t14); have k2 : w2.cell? ⟨w.heap.size + 1 + 1, 0, none⟩ = some (.slice none 0 0) := (by rw [G2.cell (by first | exact z2 | (simp; omega))]; exact t2); have k3 : w2.frozen? ⟨w.heap.size + 1 + 1, 0, none⟩ = false := (by rw [G2.frozen (by first | exact z2 | (simp; omega))]; exact t3); have hvB : w2.heap[wq.heap.size]? = some (.cells #[.int .i64 x0, .int .i64 x1, .int .i64 x2, .int .i64 x3, .int .i64 x4] 78 (0, 0)) := (by rw [bel2.block _ (by simp)]; exact heap_alloc_new wq.drew _)) | (go_at_call 145; refine (Insert_one _ _ _ _ _ _ _ xs (x0, x1, x2, x3, x4) _ ownA hvA (.inr (Nat.le_refl _)) (by rw [hl.out]; exact hk) (by rw [hl.out]; omega) (by simp; omega) (by simp)).mono ?_; rintro e w3 ⟨v3, rfl, own3, bel3⟩; obtain ⟨A3, c3', rfl, -⟩ := own3.shape; have G4 := G3.trans (bel3.mono (by first | exact Nat.le_refl _ | (simp; done) | (simp; omega))); have q3 : w3.cell? ⟨w.heap.size + 1 + 1, 0, none⟩ = some (.slice none 0 0) := (by rw [G4.cell (by first | exact z2 | (simp; omega))]; exact t2); have r3 : w3.frozen? ⟨w.heap.size + 1 + 1, 0, none⟩ = false := (by rw [G4.frozen (by first | exact z2 | (simp; omega))]; exact t3)) | (go_at_call 145; refine (Insert_one _ _ _ _ _ _ _ xs (x0, x1, x2, x3, x4) _ own2 hvB (.inl (by simp)) (by rw [hl.out]; exact hk) (by rw [hl.out]; omega) bel2.size (Nat.le_refl _)).mono ?_; rintro e w3 ⟨v3, rfl, own3, bel3⟩; obtain ⟨A3, c3', rfl, -⟩ := own3.shape; have G4 := G2.trans (bel3.mono (by first | exact Nat.le_refl _ | (simp; done) | (simp; omega))); have q3 : w3.cell? ⟨w.heap.size + 1 + 1, 0, none⟩ = some (.slice none 0 0) := (by rw [G4.cell (by first | exact z2 | (simp; omega))]; exact t2); have r3 : w3.frozen? ⟨w.heap.size + 1 + 1, 0, none⟩ = false := (by rw [G4.frozen (by first | exact z2 | (simp; omega))]; exact t3)))
      all_goals (go_wp2; refine bodyPost_ret (v := .tuple #[.agg #[.slice A3 (M.insP xs k [(x0, x1, x2, x3, x4)]).length c3'], .int .i64 k]) (by simp [results, Try.results116, go_sem, q3, r3]) rfl ?_; rw [hK.out, hP.out]; exact ⟨_, rfl, (own3.mid (Mid.cell w3 (w.heap.size + 1 + 1) 0 (.slice A3 (M.insP xs k [(x0, x1, x2, x3, x4)]).length c3')) (.inr (by first | omega | (simp; omega))) (Nat.le_refl _)).wide (by first | omega | (simp; omega)) (by simp), (bq.trans (G4.mono (by omega))).setCell (by first | (simp; done) | (simp; omega)) _⟩)
end Go.Proofs.Ytckihflfjecpbaa
