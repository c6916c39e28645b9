import Derived.Test.YtckihflfjecpbaaW6A
namespace Go.Proofs.Ytckihflfjecpbaa
open Go.RowKit
set_option maxHeartbeats 4000000
set_option maxRecDepth 100000
theorem impl_TrimClip (A : Option Addr) (n c : Nat) (xs : List Clip) (k l r : Int) (w : World) (hx : RA cl 5 w w.heap.size A n xs) (hn : n ≤ 1000000000) (hc : n ≤ c) (hm : c ≤ maxLen) :
    Calls Try.prog 57 #[.agg #[.slice A n c], .int .i64 k, .int .i64 l, .int .i64 r] w (RetT 78 w (M.trimR xs k l r)) := by
  have hl := Lib.hid hx.len
  have hb2 : Below w.heap.size w ((w.alloc (.cells #[.slice A n c] 65)).alloc (.cells #[.slice none 0 0] 65)) := ((Below.refl _ _).alloc (Nat.le_refl _) _).alloc (by simp) _
  have hx1 := hx.later hb2
  have hself : ((w.alloc (.cells #[.slice A n c] 65)).alloc (.cells #[.slice none 0 0] 65)).cell? ⟨w.heap.size, 0, none⟩ = some (.slice A n c) := by simp [go_sem]
  by_cases hask : M.askT xs k = 0
  · obtain ⟨hok, hk0, hk1, h12⟩ := M.askT_zero hask
    obtain ⟨k, rfl⟩ : ∃ q : Nat, k = q := ⟨k.toNat, by omega⟩
    have hk : k < n := by rw [hl.out] at hk1; omega
    rw [hl.out] at h12
    obtain ⟨b, o, ⟨q0, q1, q2, q3, q4⟩, rfl, hab, X, hcc⟩ := hx.at cl_len (by decide) hk
    have hc0 : w.cell? ⟨b, o + k * 5, none⟩ = some (.int .i64 q0) := hcc 0 _ rfl
    have hc1 : w.cell? ⟨b, o + k * 5 + 1, none⟩ = some (.int .i64 q1) := hcc 1 _ rfl
    have hc2 : w.cell? ⟨b, o + k * 5 + 2, none⟩ = some (.int .i64 q2) := hcc 2 _ rfl
    have hc3 : w.cell? ⟨b, o + k * 5 + 3, none⟩ = some (.int .i64 q3) := hcc 3 _ rfl
    have hc4 : w.cell? ⟨b, o + k * 5 + 4, none⟩ = some (.int .i64 q4) := hcc 4 _ rfl
    have hB := M.clip_bd5 (M.track_clip hok X.out)
    obtain ⟨-, hB1, hB2, hB3, -⟩ := hB
    have hCL := Lib.hid (M.track_clip hok X.out)
    have hR := Lib.hid (show M.trimR xs k l r = (if M.trimOk q2 l r then M.chgR xs k (q0, q1 + l, q2 - l - r, q3 + l, q4) else ([], 2)) by rw [M.trimR, if_pos hask, Int.toNat_natCast, X.out]; rfl)
    have hok' := Lib.hid hok
    have hask' := Lib.hid hask
    clear hask hcc hok
    have ASK := Lib.hid (impl_clipCode (some ⟨b, o, none⟩) n c xs k _ hx1 hn)
    go_enter Try.func57, Try.ntmps57
    go_wp2_with fail
    refine (ASK.out).mono ?_
    rw [hask'.out]
    rintro e w2 ⟨rfl, bel2⟩
    have hq : w2.cell? ⟨w.heap.size + 1, 0, none⟩ = some (.slice none 0 0) := by rw [bel2.cell (by simp)]; simp [go_sem]
    have hf : w2.frozen? ⟨w.heap.size + 1, 0, none⟩ = false := by rw [bel2.frozen (by simp)]; simp [go_sem]
    have hs2 : w.heap.size + 1 + 1 ≤ w2.heap.size := by have := bel2.size; simpa using this
    have hv2 : w2.cell? ⟨w.heap.size, 0, none⟩ = some (.slice (some ⟨b, o, none⟩) n c) := by rw [bel2.cell (by simp; omega)]; exact hself
    have B2 := hb2.trans (bel2.mono hb2.size)
    have d0 : w2.cell? ⟨b, o + k * 5, none⟩ = some (.int .i64 q0) := by rw [B2.cell hab]; exact hc0
    have d1 : w2.cell? ⟨b, o + k * 5 + 1, none⟩ = some (.int .i64 q1) := by rw [B2.cell hab]; exact hc1
    have d2 : w2.cell? ⟨b, o + k * 5 + 2, none⟩ = some (.int .i64 q2) := by rw [B2.cell hab]; exact hc2
    have d3 : w2.cell? ⟨b, o + k * 5 + 3, none⟩ = some (.int .i64 q3) := by rw [B2.cell hab]; exact hc3
    have d4 : w2.cell? ⟨b, o + k * 5 + 4, none⟩ = some (.int .i64 q4) := by rw [B2.cell hab]; exact hc4
    have z0 : w.heap.size < w2.heap.size := by omega
    have i1 : (0 : Int) ≤ (k : Int) := by omega
    have i2 : (k : Int) < (n : Int) := by omega
    have hbr : b < w2.heap.size := Nat.lt_of_lt_of_le hab B2.size
    clear hc0 hc1 hc2 hc3 hc4 hself hx1 hb2 ASK bel2
    have z1 : w.heap.size + 1 < w2.heap.size := by omega
    have z2 : ¬ (w.heap.size + 1 = w2.heap.size) := by omega
    have z3 : ¬ (w2.heap.size = w.heap.size + 1) := by omega
    have hbq : Below w2.heap.size w2 (w2.alloc (.cells #[.int .i64 q0, .int .i64 q1, .int .i64 q2, .int .i64 q3, .int .i64 q4] 78)) := (Below.refl _ _).alloc (Nat.le_refl _) _
    have B2q := bel_trans B2 hbq
    by_cases h1 : l < 0
    · have hr := Lib.hid (show M.trimR xs k l r = ([], 2) by rw [hR.out, if_neg (by simp [M.trimOk]; omega)])
      go_wp2
      refine bodyPost_ret (v := .tuple #[.agg #[.slice none 0 0], .int .i64 2]) (by simp [results, Try.results57, go_sem, hq, hf, z1, z2, z3]) rfl ?_
      rw [hr.out]
      exact ⟨_, rfl, OA.nil _, (B2.setCell (by simp) _).alloc (by simp; omega) _⟩
    by_cases h2 : r < 0
    · have hr := Lib.hid (show M.trimR xs k l r = ([], 2) by rw [hR.out, if_neg (by simp [M.trimOk]; omega)])
      go_wp2
      refine bodyPost_ret (v := .tuple #[.agg #[.slice none 0 0], .int .i64 2]) (by simp [results, Try.results57, go_sem, hq, hf, z1, z2, z3]) rfl ?_
      rw [hr.out]
      exact ⟨_, rfl, OA.nil _, (B2.setCell (by simp) _).alloc (by simp; omega) _⟩
    by_cases h3 : q2 ≤ l
    · have hr := Lib.hid (show M.trimR xs k l r = ([], 2) by rw [hR.out, if_neg (by simp [M.trimOk]; omega)])
      go_wp2
      refine bodyPost_ret (v := .tuple #[.agg #[.slice none 0 0], .int .i64 2]) (by simp [results, Try.results57, go_sem, hq, hf, z1, z2, z3]) rfl ?_
      rw [hr.out]
      exact ⟨_, rfl, OA.nil _, (B2.setCell (by simp) _).alloc (by simp; omega) _⟩
    by_cases h4 : q2 - l ≤ r
    · have hr := Lib.hid (show M.trimR xs k l r = ([], 2) by rw [hR.out, if_neg (by simp [M.trimOk]; omega)])
      go_wp2
      refine bodyPost_ret (v := .tuple #[.agg #[.slice none 0 0], .int .i64 2]) (by simp [results, Try.results57, go_sem, hq, hf, z1, z2, z3]) rfl ?_
      rw [hr.out]
      exact ⟨_, rfl, OA.nil _, (B2.setCell (by simp) _).alloc (by simp; omega) _⟩
    · have HC := Lib.hid (M.trim_clip hCL.out (l := l) (r := r) (by omega) (by omega) (by omega))
      have h1 : 0 ≤ l := by omega
      have h2 : 0 ≤ r := by omega
      go_wp2
      obtain ⟨w3, hw3⟩ : ∃ w3, w3 = w2.alloc (.cells #[.int .i64 q0, .int .i64 (q1 + l), .int .i64 (q2 - l - r), .int .i64 (q3 + l), .int .i64 q4] 78) := ⟨_, rfl⟩
      rw [← hw3]
      have u0 : w3.cell? ⟨w2.heap.size, 0, none⟩ = some (.int .i64 q0) := by rw [hw3, cell_of_row _ w2.heap.size 0 _ 78 (0, 0) (heap_alloc_new w2 _)]; rfl
      have u1 : w3.cell? ⟨w2.heap.size, 1, none⟩ = some (.int .i64 (q1 + l)) := by rw [hw3, cell_of_row _ w2.heap.size 1 _ 78 (0, 0) (heap_alloc_new w2 _)]; rfl
      have u2 : w3.cell? ⟨w2.heap.size, 2, none⟩ = some (.int .i64 (q2 - l - r)) := by rw [hw3, cell_of_row _ w2.heap.size 2 _ 78 (0, 0) (heap_alloc_new w2 _)]; rfl
      have u3 : w3.cell? ⟨w2.heap.size, 3, none⟩ = some (.int .i64 (q3 + l)) := by rw [hw3, cell_of_row _ w2.heap.size 3 _ 78 (0, 0) (heap_alloc_new w2 _)]; rfl
      have u4 : w3.cell? ⟨w2.heap.size, 4, none⟩ = some (.int .i64 q4) := by rw [hw3, cell_of_row _ w2.heap.size 4 _ 78 (0, 0) (heap_alloc_new w2 _)]; rfl
      have g3 : Below w2.heap.size w2 w3 := by rw [hw3]; exact (Below.refl _ _).alloc (Nat.le_refl _) _
      have s3 : w2.heap.size + 1 ≤ w3.heap.size := by rw [hw3]; simp
      clear hw3 hbq B2q z1 z2 z3
      have qx3 : w3.cell? ⟨w.heap.size + 1, 0, none⟩ = some (.slice none 0 0) := by rw [g3.cell (by simp; omega)]; exact hq
      have rx3 : w3.frozen? ⟨w.heap.size + 1, 0, none⟩ = false := by rw [g3.frozen (by simp; omega)]; exact hf
      have t3 : w3.cell? ⟨w.heap.size, 0, none⟩ = some (.slice (some ⟨b, o, none⟩) n c) := by rw [g3.cell (by simpa using z0)]; exact hv2
      have B3 := bel_trans B2 g3
      have hr := Lib.hid (show M.trimR xs k l r = (M.putP (M.dropP xs k) (q0, q1 + l, q2 - l - r, q3 + l, q4), 0) by rw [hR.out, if_pos (by simp [M.trimOk]; omega), M.chgR, HC.out]; rfl)
      have hdl := M.dropP_len xs (k := k) (by rw [hl.out]; exact hk)
      rw [hl.out] at hdl
      have HDL := Lib.hid hdl
      clear hdl d0 d1 d2 d3 d4 hv2 hq hf
      have y0 : w.heap.size < w3.heap.size := by omega
      have y1 : w.heap.size + 1 < w3.heap.size := by omega
      have y2 : w2.heap.size < w3.heap.size := by omega
      have ba : Below w3.heap.size w3 w3.drew := below_drewN (Below.refl _ _) 1
      have bb : Below w3.heap.size w3 (w3.drew.alloc (.cells #[.slice none 0 0] 65)) := ba.alloc (Nat.le_refl _) _
      have hxa := hx.later (bel_trans B3 ba)
      have hxb := hx.later (bel_trans B3 bb)
      have esb : (w3.drew.alloc (.cells #[.slice none 0 0] 65)).heap.size = w3.heap.size + 1 := by simp
      have esa : w3.drew.heap.size = w3.heap.size := rfl
      go_region_with (first | ((go_at_call 107; refine (impl_Track_without _ _ _ _ _ _ hxa hn hk).mono ?_; rintro e w4 ⟨v4, rfl, own4, bel4⟩; obtain ⟨A4, c4, rfl, -⟩ := own4.shape; have G4 := bel_trans ba bel4; have s4 := G4.size; have ra4 := own4.ra; have noB : True := trivial; have la4 : w.heap.size < w4.heap.size := (by omega); have lb4 : w.heap.size + 1 < w4.heap.size := (by omega); have lc4 : w2.heap.size < w4.heap.size := (by omega); have t4 : w4.cell? ⟨w.heap.size, 0, none⟩ = some (.slice (some ⟨b, o, none⟩) n c) := (by rw [G4.cell (by first | exact y0 | exact y1 | exact y2 | (simp; done) | (simp; omega))]; exact t3); have u40 : w4.cell? ⟨w2.heap.size, 0, none⟩ = some (.int .i64 (q0)) := (by rw [G4.cell (by first | exact y0 | exact y1 | exact y2 | (simp; done) | (simp; omega))]; exact u0); have u41 : w4.cell? ⟨w2.heap.size, 1, none⟩ = some (.int .i64 (q1 + l)) := (by rw [G4.cell (by first | exact y0 | exact y1 | exact y2 | (simp; done) | (simp; omega))]; exact u1); have u42 : w4.cell? ⟨w2.heap.size, 2, none⟩ = some (.int .i64 (q2 - l - r)) := (by rw [G4.cell (by first | exact y0 | exact y1 | exact y2 | (simp; done) | (simp; omega))]; exact u2); have u43 : w4.cell? ⟨w2.heap.size, 3, none⟩ = some (.int .i64 (q3 + l)) := (by rw [G4.cell (by first | exact y0 | exact y1 | exact y2 | (simp; done) | (simp; omega))]; exact u3); have u44 : w4.cell? ⟨w2.heap.size, 4, none⟩ = some (.int .i64 (q4)) := (by rw [G4.cell (by first | exact y0 | exact y1 | exact y2 | (simp; done) | (simp; omega))]; exact u4); have qx4 : w4.cell? ⟨w.heap.size + 1, 0, none⟩ = some (.slice none 0 0) := (by rw [G4.cell (by first | exact y0 | exact y1 | exact y2 | (simp; done) | (simp; omega))]; exact qx3); have rx4 : w4.frozen? ⟨w.heap.size + 1, 0, none⟩ = false := (by rw [G4.frozen (by first | exact y0 | exact y1 | exact y2 | (simp; done) | (simp; omega))]; exact rx3))) | ((go_at_call 107; refine (impl_Track_without _ _ _ _ _ _ hxb hn hk).mono ?_; rintro e w4 ⟨v4, rfl, own4, bel4⟩; obtain ⟨A4, c4, rfl, -⟩ := own4.shape; have G4 := bel_trans bb bel4; have s4 := bel4.size; rw [esb] at s4; have ra4 := own4.ra; have kb : w4.cell? ⟨w3.heap.size, 0, none⟩ = some (.slice none 0 0) := (by rw [bel4.cell (by simp)]; simp [go_sem]); have kf : w4.frozen? ⟨w3.heap.size, 0, none⟩ = false := (by rw [bel4.frozen (by simp)]; simp [go_sem]); have la4 : w.heap.size < w4.heap.size := (by omega); have lb4 : w.heap.size + 1 < w4.heap.size := (by omega); have lc4 : w2.heap.size < w4.heap.size := (by omega); have t4 : w4.cell? ⟨w.heap.size, 0, none⟩ = some (.slice (some ⟨b, o, none⟩) n c) := (by rw [G4.cell (by first | exact y0 | exact y1 | exact y2 | (simp; done) | (simp; omega))]; exact t3); have u40 : w4.cell? ⟨w2.heap.size, 0, none⟩ = some (.int .i64 (q0)) := (by rw [G4.cell (by first | exact y0 | exact y1 | exact y2 | (simp; done) | (simp; omega))]; exact u0); have u41 : w4.cell? ⟨w2.heap.size, 1, none⟩ = some (.int .i64 (q1 + l)) := (by rw [G4.cell (by first | exact y0 | exact y1 | exact y2 | (simp; done) | (simp; omega))]; exact u1); have u42 : w4.cell? ⟨w2.heap.size, 2, none⟩ = some (.int .i64 (q2 - l - r)) := (by rw [G4.cell (by first | exact y0 | exact y1 | exact y2 | (simp; done) | (simp; omega))]; exact u2); have u43 : w4.cell? ⟨w2.heap.size, 3, none⟩ = some (.int .i64 (q3 + l)) := (by rw [G4.cell (by first | exact y0 | exact y1 | exact y2 | (simp; done) | (simp; omega))]; exact u3); have u44 : w4.cell? ⟨w2.heap.size, 4, none⟩ = some (.int .i64 (q4)) := (by rw [G4.cell (by first | exact y0 | exact y1 | exact y2 | (simp; done) | (simp; omega))]; exact u4); have qx4 : w4.cell? ⟨w.heap.size + 1, 0, none⟩ = some (.slice none 0 0) := (by rw [G4.cell (by first | exact y0 | exact y1 | exact y2 | (simp; done) | (simp; omega))]; exact qx3); have rx4 : w4.frozen? ⟨w.heap.size + 1, 0, none⟩ = false := (by rw [G4.frozen (by first | exact y0 | exact y1 | exact y2 | (simp; done) | (simp; omega))]; exact rx3))) | ((go_at_call 116; have _t := noB; refine (impl_put _ _ _ _ (q0) (q1 + l) (q2 - l - r) (q3 + l) (q4) _ ra4 (by rw [HDL.out]; omega)).mono ?_; rintro e w5 ⟨v5, rfl, own5, bel5⟩; obtain ⟨A5, c5, rfl, -⟩ := own5.shape; have G5 := bel_trans' G4 s4 bel5; have s5 := bel5.size; have la5 : w.heap.size < w5.heap.size := (by omega); have lb5 : w.heap.size + 1 < w5.heap.size := (by omega); have lc5 : w2.heap.size < w5.heap.size := (by omega); have t5 : w5.cell? ⟨w.heap.size, 0, none⟩ = some (.slice (some ⟨b, o, none⟩) n c) := (by rw [G5.cell (by first | exact y0 | exact y1 | exact y2 | (simp; done) | (simp; omega))]; exact t3); have u50 : w5.cell? ⟨w2.heap.size, 0, none⟩ = some (.int .i64 (q0)) := (by rw [G5.cell (by first | exact y0 | exact y1 | exact y2 | (simp; done) | (simp; omega))]; exact u0); have u51 : w5.cell? ⟨w2.heap.size, 1, none⟩ = some (.int .i64 (q1 + l)) := (by rw [G5.cell (by first | exact y0 | exact y1 | exact y2 | (simp; done) | (simp; omega))]; exact u1); have u52 : w5.cell? ⟨w2.heap.size, 2, none⟩ = some (.int .i64 (q2 - l - r)) := (by rw [G5.cell (by first | exact y0 | exact y1 | exact y2 | (simp; done) | (simp; omega))]; exact u2); have u53 : w5.cell? ⟨w2.heap.size, 3, none⟩ = some (.int .i64 (q3 + l)) := (by rw [G5.cell (by first | exact y0 | exact y1 | exact y2 | (simp; done) | (simp; omega))]; exact u3); have u54 : w5.cell? ⟨w2.heap.size, 4, none⟩ = some (.int .i64 (q4)) := (by rw [G5.cell (by first | exact y0 | exact y1 | exact y2 | (simp; done) | (simp; omega))]; exact u4); have qx5 : w5.cell? ⟨w.heap.size + 1, 0, none⟩ = some (.slice none 0 0) := (by rw [G5.cell (by first | exact y0 | exact y1 | exact y2 | (simp; done) | (simp; omega))]; exact qx3); have rx5 : w5.frozen? ⟨w.heap.size + 1, 0, none⟩ = false := (by rw [G5.frozen (by first | exact y0 | exact y1 | exact y2 | (simp; done) | (simp; omega))]; exact rx3))) | ((go_at_call 116; have _t := kb; refine (impl_put _ _ _ _ (q0) (q1 + l) (q2 - l - r) (q3 + l) (q4) _ ra4 (by rw [HDL.out]; omega)).mono ?_; rintro e w5 ⟨v5, rfl, own5, bel5⟩; obtain ⟨A5, c5, rfl, -⟩ := own5.shape; have G5 := bel_trans' G4 (by omega) bel5; have s5 := bel5.size; have kb5 : w5.cell? ⟨w3.heap.size, 0, none⟩ = some (.slice none 0 0) := (by rw [bel5.cell (by simp; omega)]; exact kb); have kf5 : w5.frozen? ⟨w3.heap.size, 0, none⟩ = false := (by rw [bel5.frozen (by simp; omega)]; exact kf); have la5 : w.heap.size < w5.heap.size := (by omega); have lb5 : w.heap.size + 1 < w5.heap.size := (by omega); have lc5 : w2.heap.size < w5.heap.size := (by omega); have t5 : w5.cell? ⟨w.heap.size, 0, none⟩ = some (.slice (some ⟨b, o, none⟩) n c) := (by rw [G5.cell (by first | exact y0 | exact y1 | exact y2 | (simp; done) | (simp; omega))]; exact t3); have u50 : w5.cell? ⟨w2.heap.size, 0, none⟩ = some (.int .i64 (q0)) := (by rw [G5.cell (by first | exact y0 | exact y1 | exact y2 | (simp; done) | (simp; omega))]; exact u0); have u51 : w5.cell? ⟨w2.heap.size, 1, none⟩ = some (.int .i64 (q1 + l)) := (by rw [G5.cell (by first | exact y0 | exact y1 | exact y2 | (simp; done) | (simp; omega))]; exact u1); have u52 : w5.cell? ⟨w2.heap.size, 2, none⟩ = some (.int .i64 (q2 - l - r)) := (by rw [G5.cell (by first | exact y0 | exact y1 | exact y2 | (simp; done) | (simp; omega))]; exact u2); have u53 : w5.cell? ⟨w2.heap.size, 3, none⟩ = some (.int .i64 (q3 + l)) := (by rw [G5.cell (by first | exact y0 | exact y1 | exact y2 | (simp; done) | (simp; omega))]; exact u3); have u54 : w5.cell? ⟨w2.heap.size, 4, none⟩ = some (.int .i64 (q4)) := (by rw [G5.cell (by first | exact y0 | exact y1 | exact y2 | (simp; done) | (simp; omega))]; exact u4); have qx5 : w5.cell? ⟨w.heap.size + 1, 0, none⟩ = some (.slice none 0 0) := (by rw [G5.cell (by first | exact y0 | exact y1 | exact y2 | (simp; done) | (simp; omega))]; exact qx3); have rx5 : w5.frozen? ⟨w.heap.size + 1, 0, none⟩ = false := (by rw [G5.frozen (by first | exact y0 | exact y1 | exact y2 | (simp; done) | (simp; omega))]; exact rx3))) | ((go_at_call 116; refine (impl_put _ _ _ _ (q0) (q1 + l) (q2 - l - r) (q3 + l) (q4) _ (ra4.later (w' := w4.alloc (.cells #[.slice none 0 0] 65)) ((Below.refl _ _).alloc (Nat.le_refl _) _)) (by rw [HDL.out]; omega)).mono ?_; rintro e w5 ⟨v5, rfl, own5, bel5⟩; obtain ⟨A5, c5, rfl, -⟩ := own5.shape; have G5 := bel_trans' (G4.alloc s4 (.cells #[.slice none 0 0] 65)) (by simp; omega) bel5; have s5 : w4.heap.size + 1 ≤ w5.heap.size := (by have := bel5.size; simpa using this); have kb5 : w5.cell? ⟨w4.heap.size, 0, none⟩ = some (.slice none 0 0) := (by rw [bel5.cell (by simp)]; simp [go_sem]); have kf5 : w5.frozen? ⟨w4.heap.size, 0, none⟩ = false := (by rw [bel5.frozen (by simp)]; simp [go_sem]); have la5 : w.heap.size < w5.heap.size := (by omega); have lb5 : w.heap.size + 1 < w5.heap.size := (by omega); have lc5 : w2.heap.size < w5.heap.size := (by omega); have t5 : w5.cell? ⟨w.heap.size, 0, none⟩ = some (.slice (some ⟨b, o, none⟩) n c) := (by rw [G5.cell (by first | exact y0 | exact y1 | exact y2 | (simp; done) | (simp; omega))]; exact t3); have u50 : w5.cell? ⟨w2.heap.size, 0, none⟩ = some (.int .i64 (q0)) := (by rw [G5.cell (by first | exact y0 | exact y1 | exact y2 | (simp; done) | (simp; omega))]; exact u0); have u51 : w5.cell? ⟨w2.heap.size, 1, none⟩ = some (.int .i64 (q1 + l)) := (by rw [G5.cell (by first | exact y0 | exact y1 | exact y2 | (simp; done) | (simp; omega))]; exact u1); have u52 : w5.cell? ⟨w2.heap.size, 2, none⟩ = some (.int .i64 (q2 - l - r)) := (by rw [G5.cell (by first | exact y0 | exact y1 | exact y2 | (simp; done) | (simp; omega))]; exact u2); have u53 : w5.cell? ⟨w2.heap.size, 3, none⟩ = some (.int .i64 (q3 + l)) := (by rw [G5.cell (by first | exact y0 | exact y1 | exact y2 | (simp; done) | (simp; omega))]; exact u3); have u54 : w5.cell? ⟨w2.heap.size, 4, none⟩ = some (.int .i64 (q4)) := (by rw [G5.cell (by first | exact y0 | exact y1 | exact y2 | (simp; done) | (simp; omega))]; exact u4); have qx5 : w5.cell? ⟨w.heap.size + 1, 0, none⟩ = some (.slice none 0 0) := (by rw [G5.cell (by first | exact y0 | exact y1 | exact y2 | (simp; done) | (simp; omega))]; exact qx3); have rx5 : w5.frozen? ⟨w.heap.size + 1, 0, none⟩ = false := (by rw [G5.frozen (by first | exact y0 | exact y1 | exact y2 | (simp; done) | (simp; omega))]; exact rx3))))
      all_goals go_wp2
      all_goals have B5 := bel_trans B3 G5
      all_goals first | (have _t : w5.cell? ⟨w4.heap.size, 0, none⟩ = some (.slice none 0 0) := kb5; refine bodyPost_ret (v := .tuple #[.agg #[(.slice A5 (M.putP (M.dropP xs k) (q0, q1 + l, q2 - l - r, q3 + l, q4)).length c5)], .int .i64 0]) (by simp [results, Try.results57, go_sem, kb5, kf5, qx5, rx5]) rfl ?_; rw [hr.out]; exact ⟨_, rfl, ((own5.mid (Mid.cell w5 w4.heap.size 0 (.slice A5 (M.putP (M.dropP xs k) (q0, q1 + l, q2 - l - r, q3 + l, q4)).length c5)) (.inr (by first | omega | (simp; done) | (simp; omega))) (Nat.le_refl _)).mid (Mid.cell _ (w.heap.size + 1) 0 (.slice A5 (M.putP (M.dropP xs k) (q0, q1 + l, q2 - l - r, q3 + l, q4)).length c5)) (.inr (by first | omega | (simp; done) | (simp; omega))) (by simp)).wide (by first | omega | (simp; done) | (simp; omega)) (by simp), (B5.setCell (by first | omega | (simp; done) | (simp; omega)) _).setCell (by first | omega | (simp; done) | (simp; omega)) _⟩) | (have _t : w5.cell? ⟨w3.heap.size, 0, none⟩ = some (.slice none 0 0) := kb5; refine bodyPost_ret (v := .tuple #[.agg #[(.slice A5 (M.putP (M.dropP xs k) (q0, q1 + l, q2 - l - r, q3 + l, q4)).length c5)], .int .i64 0]) (by simp [results, Try.results57, go_sem, kb5, kf5, qx5, rx5]) rfl ?_; rw [hr.out]; exact ⟨_, rfl, ((own5.mid (Mid.cell w5 w3.heap.size 0 (.slice A5 (M.putP (M.dropP xs k) (q0, q1 + l, q2 - l - r, q3 + l, q4)).length c5)) (.inr (by first | omega | (simp; done) | (simp; omega))) (Nat.le_refl _)).mid (Mid.cell _ (w.heap.size + 1) 0 (.slice A5 (M.putP (M.dropP xs k) (q0, q1 + l, q2 - l - r, q3 + l, q4)).length c5)) (.inr (by first | omega | (simp; done) | (simp; omega))) (by simp)).wide (by first | omega | (simp; done) | (simp; omega)) (by simp), (B5.setCell (by first | omega | (simp; done) | (simp; omega)) _).setCell (by first | omega | (simp; done) | (simp; omega)) _⟩) | (have ne5 : ¬ (w.heap.size + 1 = w5.heap.size) := (by omega); have ne6 : ¬ (w5.heap.size = w.heap.size + 1) := (by omega); refine bodyPost_ret (v := .tuple #[.agg #[(.slice A5 (M.putP (M.dropP xs k) (q0, q1 + l, q2 - l - r, q3 + l, q4)).length c5)], .int .i64 0]) (by simp [results, Try.results57, go_sem, qx5, rx5, ne5, ne6, lb5]) rfl ?_; rw [hr.out]; exact ⟨_, rfl, ((own5.mid (Mid.cell w5 (w.heap.size + 1) 0 (.slice A5 (M.putP (M.dropP xs k) (q0, q1 + l, q2 - l - r, q3 + l, q4)).length c5)) (.inr (by first | omega | (simp; done) | (simp; omega))) (Nat.le_refl _)).below ((Below.refl _ _).alloc (Nat.le_refl _) _) (by simp)).wide (by first | omega | (simp; done) | (simp; omega)) (by simp), (B5.setCell (by first | omega | (simp; done) | (simp; omega)) _).alloc (by first | omega | (simp; done) | (simp; omega)) _⟩)
  · have hr := Lib.hid (show M.trimR xs k l r = ([], M.askT xs k) by rw [M.trimR, if_neg hask])
    have hne : (M.askT xs k != 0) = true := by simpa using hask
    clear hask
    generalize hq : M.askT xs k = q at *
    have hq' := Lib.hid hq
    clear hq
    go_enter Try.func57, Try.ntmps57
    go_wp2_with (go_at_call 106; refine (impl_clipCode _ _ _ _ _ _ hx1 hn).mono ?_; rw [hq'.out]; rintro e w2 ⟨rfl, bel2⟩; have hq : w2.cell? ⟨w.heap.size + 1, 0, none⟩ = some (.slice none 0 0) := (by rw [bel2.cell (by simp)]; simp [go_sem]); have hf : w2.frozen? ⟨w.heap.size + 1, 0, none⟩ = false := (by rw [bel2.frozen (by simp)]; simp [go_sem]); have hs2 : w.heap.size + 1 + 1 ≤ w2.heap.size := (by have := bel2.size; simpa using this); have hv2 : w2.cell? ⟨w.heap.size, 0, none⟩ = some (.slice A n c) := (by rw [bel2.cell (by simp; omega)]; exact hself))
    refine bodyPost_ret (v := .tuple #[.agg #[.slice none 0 0], .int .i64 q]) (by simp [results, Try.results57, go_sem, hq, hf]) rfl ?_
    rw [hr.out]
    exact ⟨_, rfl, OA.nil _, (hb2.trans (bel2.mono hb2.size)).setCell (by simp) _⟩
end Go.Proofs.Ytckihflfjecpbaa
