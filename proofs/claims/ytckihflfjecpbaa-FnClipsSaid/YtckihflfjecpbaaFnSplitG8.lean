import Derived.Test.YtckihflfjecpbaaFnSplitG7
import Derived.Test.YtckihflfjecpbaaFnSplitG5
set_option linter.unusedVariables false
set_option linter.unusedSimpArgs false
namespace Go.Proofs.Ytckihflfjecpbaa
open Go.RowKit
set_option maxHeartbeats 1000000
theorem M.track_one {c : Clip} (h : M.clipOk c = true) : M.trackOk [c] = true := (M.track_iff _).2 ⟨by simpa using h, by simp, by simp⟩
theorem M.putP_nil (c : Clip) : M.putP [] c = [c] := by simp [M.putP_eq]
theorem M.wrap0 : wrap32 0 = 0 := by unfold wrap32; omega
theorem M.moved_law {src : List (List Int)} {s f l a g p : Int} (h : M.clipDr 3 (s, f, l, a, g)) (hp : 0 ≤ p ∧ p ≤ 39) :
    M.moveR [(s, f, l, a, g)] 0 p = ([(s, f, l, p, g)], 0) ∧ M.trackOk [(s, f, l, a, g)] = true ∧ M.trackOk [(s, f, l, p, g)] = true ∧ M.hasS [(s, f, l, a, g)] 3 = true ∧ M.hasS [(s, f, l, p, g)] 3 = true ∧
    ((M.renT src [(s, f, l, a, g)] 100).drop a.toNat).take l.toNat = ((M.renT src [(s, f, l, p, g)] 100).drop p.toNat).take l.toNat := by
  have hc := M.clipDr_ok h (by omega)
  obtain ⟨h0, h1, h2, h3, h4⟩ := h
  simp only at h0 h1 h2 h3 h4
  have hc2 : M.clipOk (s, f, l, p, g) = true := M.clip_of (by omega)
  have t1 := M.track_one hc
  refine ⟨?_, t1, M.track_one hc2, by simp [M.hasS]; omega, by simp [M.hasS]; omega, ?_⟩
  · rw [M.moveR, if_pos (by rw [M.askT, t1, M.inn_iff.2 (by simp)]; rfl)]
    show M.chgR _ _ (s, f, l, p, g) = _
    rw [M.chgR, if_pos hc2]
    show (M.putP [] _, (0 : Int)) = _
    rw [M.putP_nil]
  · apply List.ext_getElem?
    intro i
    rw [List.getElem?_take, List.getElem?_take]
    by_cases hi : i < l.toNat
    · rw [if_pos hi, if_pos hi, List.getElem?_drop, List.getElem?_drop, M.renT_at (by omega), M.renT_at (by omega)]
      simp only [M.trackSum, M.clipAt]
      rw [if_pos (by omega), if_pos (by omega), show ((a.toNat + i : Nat) : Int) - a = ((p.toNat + i : Nat) : Int) - p by omega]
    · rw [if_neg hi, if_neg hi]
theorem M.trim_law {src : List (List Int)} {s f l a g u v : Int} (h : M.clipDr 3 (s, f, l, a, g)) (hu : 0 ≤ u ∧ u < l) (hv : 0 ≤ v ∧ v < l - u) :
    M.trimR [(s, f, l, a, g)] 0 u v = ([(s, f + u, l - u - v, a + u, g)], 0) ∧ M.trackOk [(s, f + u, l - u - v, a + u, g)] = true ∧ M.hasS [(s, f + u, l - u - v, a + u, g)] 3 = true ∧
    ∀ k : Nat, k < 100 → (M.renT src [(s, f + u, l - u - v, a + u, g)] 100)[k]? = some (if a + u ≤ k ∧ (k : Int) < a + l - v then ((M.renT src [(s, f, l, a, g)] 100)[k]?).getD 0 else 0) := by
  have hc := M.clipDr_ok h (by omega)
  obtain ⟨h0, h1, h2, h3, h4⟩ := h
  simp only at h0 h1 h2 h3 h4
  have hc2 : M.clipOk (s, f + u, l - u - v, a + u, g) = true := M.clip_of (by omega)
  have t1 := M.track_one hc
  refine ⟨?_, M.track_one hc2, by simp [M.hasS]; omega, fun k hk => ?_⟩
  · rw [M.trimR, if_pos (by rw [M.askT, t1, M.inn_iff.2 (by simp)]; rfl)]
    show (if M.trimOk l u v then M.chgR _ _ (s, f + u, l - u - v, a + u, g) else _) = _
    rw [if_pos (by simp [M.trimOk]; omega), M.chgR, if_pos hc2]
    show (M.putP [] _, (0 : Int)) = _
    rw [M.putP_nil]
  · rw [M.renT_at hk, M.renT_at hk, Option.getD_some]
    congr 1
    simp only [M.trackSum, M.clipAt]
    by_cases h5 : a + u ≤ (k : Int) ∧ (k : Int) < a + l - v
    · rw [if_pos h5, if_pos (by omega), if_pos (by omega), show f + u + ((k : Int) - (a + u)) = f + ((k : Int) - a) by omega]
    · rw [if_neg h5, if_neg (by omega)]
      exact M.wrap0
end Go.Proofs.Ytckihflfjecpbaa
namespace Go.Proofs.Ytckihflfjecpbaa
open Go.RowKit
set_option maxHeartbeats 4000000
set_option maxRecDepth 100000
theorem impl_MoveClip (A : Option Addr) (n c : Nat) (xs : List Clip) (k t : Int) (w : World) (hx : RA cl 5 w w.heap.size A n xs) (hn : n ≤ 1000000000) (hc : n ≤ c) (hm : c ≤ maxLen) :
    Calls Try.prog 55 #[.agg #[.slice A n c], .int .i64 k, .int .i64 t] w (RetT 78 w (M.moveR xs k t)) := by
  have hl := Lib.hid hx.len
  have hb2 : Below w.heap.size w ((w.alloc (.cells #[.slice A n c] 65)).alloc (.cells #[.slice none 0 0] 65)) := ((Below.refl _ _).alloc (Nat.le_refl _) _).alloc (by simp) _
  have hx1 := hx.later hb2
  have hself : ((w.alloc (.cells #[.slice A n c] 65)).alloc (.cells #[.slice none 0 0] 65)).cell? ⟨w.heap.size, 0, none⟩ = some (.slice A n c) := by simp [go_sem]
  by_cases hask : M.askT xs k = 0
  · obtain ⟨hok, hk0, hk1, h12⟩ := M.askT_zero hask
    obtain ⟨k, rfl⟩ : ∃ q : Nat, k = q := ⟨k.toNat, by omega⟩
    have hk : k < n := by rw [hl.out] at hk1; omega
    rw [hl.out] at h12
    obtain ⟨b, o, ⟨q0, q1, q2, q3, q4⟩, rfl, hab, X, hcc⟩ := hx.at cl_len (by decide) hk
    have hc0 : w.cell? ⟨b, o + k * 5, none⟩ = some (.int .i64 q0) := hcc 0 _ rfl
    have hc1 : w.cell? ⟨b, o + k * 5 + 1, none⟩ = some (.int .i64 q1) := hcc 1 _ rfl
    have hc2 : w.cell? ⟨b, o + k * 5 + 2, none⟩ = some (.int .i64 q2) := hcc 2 _ rfl
    have hc3 : w.cell? ⟨b, o + k * 5 + 3, none⟩ = some (.int .i64 q3) := hcc 3 _ rfl
    have hc4 : w.cell? ⟨b, o + k * 5 + 4, none⟩ = some (.int .i64 q4) := hcc 4 _ rfl
    have hR := Lib.hid (show M.moveR xs k t = M.chgR xs k (q0, q1, q2, t, q4) by rw [M.moveR, if_pos hask, Int.toNat_natCast, X.out]; rfl)
    have hok' := Lib.hid hok
    have hask' := Lib.hid hask
    clear hask hcc hok
    have ASK := Lib.hid (impl_clipCode (some ⟨b, o, none⟩) n c xs k _ hx1 hn)
    go_enter Try.func55, Try.ntmps55
    go_wp2_with fail
    refine (ASK.out).mono ?_
    rw [hask'.out]
    rintro e w2 ⟨rfl, bel2⟩
    have hq : w2.cell? ⟨w.heap.size + 1, 0, none⟩ = some (.slice none 0 0) := by rw [bel2.cell (by simp)]; simp [go_sem]
    have hf : w2.frozen? ⟨w.heap.size + 1, 0, none⟩ = false := by rw [bel2.frozen (by simp)]; simp [go_sem]
    have hs2 : w.heap.size + 1 + 1 ≤ w2.heap.size := by have := bel2.size; simpa using this
    have hv2 : w2.cell? ⟨w.heap.size, 0, none⟩ = some (.slice (some ⟨b, o, none⟩) n c) := by rw [bel2.cell (by simp; omega)]; exact hself
    have B2 := hb2.trans (bel2.mono hb2.size)
    have d0 : w2.cell? ⟨b, o + k * 5, none⟩ = some (.int .i64 q0) := by rw [B2.cell hab]; exact hc0
    have d1 : w2.cell? ⟨b, o + k * 5 + 1, none⟩ = some (.int .i64 q1) := by rw [B2.cell hab]; exact hc1
    have d2 : w2.cell? ⟨b, o + k * 5 + 2, none⟩ = some (.int .i64 q2) := by rw [B2.cell hab]; exact hc2
    have d3 : w2.cell? ⟨b, o + k * 5 + 3, none⟩ = some (.int .i64 q3) := by rw [B2.cell hab]; exact hc3
    have d4 : w2.cell? ⟨b, o + k * 5 + 4, none⟩ = some (.int .i64 q4) := by rw [B2.cell hab]; exact hc4
    have z0 : w.heap.size < w2.heap.size := by omega
    have i1 : (0 : Int) ≤ (k : Int) := by omega
    have i2 : (k : Int) < (n : Int) := by omega
    have hbr : b < w2.heap.size := Nat.lt_of_lt_of_le hab B2.size
    clear hc0 hc1 hc2 hc3 hc4 hself hx1 hb2 ASK bel2
    have hbc : Below w2.heap.size w2 (w2.alloc (.cells #[.int .i64 (q0), .int .i64 (q1), .int .i64 (q2), .int .i64 (t), .int .i64 (q4)] 78)) := (Below.refl _ _).alloc (Nat.le_refl _) _
    have e0 : (w2.alloc (.cells #[.int .i64 (q0), .int .i64 (q1), .int .i64 (q2), .int .i64 (t), .int .i64 (q4)] 78)).cell? ⟨w2.heap.size, 0, none⟩ = some (.int .i64 (q0)) := by rw [cell_of_row _ w2.heap.size 0 _ 78 (0, 0) (heap_alloc_new w2 _)]; rfl
    have e1 : (w2.alloc (.cells #[.int .i64 (q0), .int .i64 (q1), .int .i64 (q2), .int .i64 (t), .int .i64 (q4)] 78)).cell? ⟨w2.heap.size, 1, none⟩ = some (.int .i64 (q1)) := by rw [cell_of_row _ w2.heap.size 1 _ 78 (0, 0) (heap_alloc_new w2 _)]; rfl
    have e2 : (w2.alloc (.cells #[.int .i64 (q0), .int .i64 (q1), .int .i64 (q2), .int .i64 (t), .int .i64 (q4)] 78)).cell? ⟨w2.heap.size, 2, none⟩ = some (.int .i64 (q2)) := by rw [cell_of_row _ w2.heap.size 2 _ 78 (0, 0) (heap_alloc_new w2 _)]; rfl
    have e3 : (w2.alloc (.cells #[.int .i64 (q0), .int .i64 (q1), .int .i64 (q2), .int .i64 (t), .int .i64 (q4)] 78)).cell? ⟨w2.heap.size, 3, none⟩ = some (.int .i64 (t)) := by rw [cell_of_row _ w2.heap.size 3 _ 78 (0, 0) (heap_alloc_new w2 _)]; rfl
    have e4 : (w2.alloc (.cells #[.int .i64 (q0), .int .i64 (q1), .int .i64 (q2), .int .i64 (t), .int .i64 (q4)] 78)).cell? ⟨w2.heap.size, 4, none⟩ = some (.int .i64 (q4)) := by rw [cell_of_row _ w2.heap.size 4 _ 78 (0, 0) (heap_alloc_new w2 _)]; rfl
    have hsc : (w2.alloc (.cells #[.int .i64 (q0), .int .i64 (q1), .int .i64 (q2), .int .i64 (t), .int .i64 (q4)] 78)).heap.size = w2.heap.size + 1 := by simp
    have ISC := Lib.hid (impl_isClip (q0) (q1) (q2) (t) (q4) (w2.alloc (.cells #[.int .i64 (q0), .int .i64 (q1), .int .i64 (q2), .int .i64 (t), .int .i64 (q4)] 78)))
    cases hcl : M.clipOk (q0, q1, q2, t, q4)
    all_goals
      go_wp2_with fail
      refine (ISC.out).mono ?_
      rw [hcl]
      rintro e w3 ⟨rfl, bel3⟩
      have g3 := bel_trans hbc bel3
      have s3 := bel3.size
      rw [hsc] at s3
      have qx3 : w3.cell? ⟨w.heap.size + 1, 0, none⟩ = some (.slice none 0 0) := by rw [g3.cell (by simp; omega)]; exact hq
      have rx3 : w3.frozen? ⟨w.heap.size + 1, 0, none⟩ = false := by rw [g3.frozen (by simp; omega)]; exact hf
      have t3 : w3.cell? ⟨w.heap.size, 0, none⟩ = some (.slice (some ⟨b, o, none⟩) n c) := by rw [g3.cell (by simpa using z0)]; exact hv2
      have u0 : w3.cell? ⟨w2.heap.size, 0, none⟩ = some (.int .i64 (q0)) := by rw [bel3.cell (by rw [hsc]; simp)]; exact e0
      have u1 : w3.cell? ⟨w2.heap.size, 1, none⟩ = some (.int .i64 (q1)) := by rw [bel3.cell (by rw [hsc]; simp)]; exact e1
      have u2 : w3.cell? ⟨w2.heap.size, 2, none⟩ = some (.int .i64 (q2)) := by rw [bel3.cell (by rw [hsc]; simp)]; exact e2
      have u3 : w3.cell? ⟨w2.heap.size, 3, none⟩ = some (.int .i64 (t)) := by rw [bel3.cell (by rw [hsc]; simp)]; exact e3
      have u4 : w3.cell? ⟨w2.heap.size, 4, none⟩ = some (.int .i64 (q4)) := by rw [bel3.cell (by rw [hsc]; simp)]; exact e4
      have B3 := bel_trans B2 g3
    · have hr := Lib.hid (show M.moveR xs k t = ([], 2) by rw [hR.out, M.chgR, hcl]; rfl)
      go_wp2
      refine bodyPost_ret (v := .tuple #[.agg #[.slice none 0 0], .int .i64 2]) (by simp [results, Try.results55, go_sem, qx3, rx3]) rfl ?_
      rw [hr.out]
      exact ⟨_, rfl, OA.nil _, B3.setCell (by simp) _⟩
    · have hr := Lib.hid (show M.moveR xs k t = (M.putP (M.dropP xs k) (q0, q1, q2, t, q4), 0) by rw [hR.out, M.chgR, hcl]; rfl)
      have hdl := M.dropP_len xs (k := k) (by rw [hl.out]; exact hk)
      rw [hl.out] at hdl
      have HDL := Lib.hid hdl
      clear hdl ISC hbc e0 e1 e2 e3 e4 hsc hcl bel3 d0 d1 d2 d3 d4 hv2 hq hf
      have y0 : w.heap.size < w3.heap.size := by omega
      have y1 : w.heap.size + 1 < w3.heap.size := by omega
      have y2 : w2.heap.size < w3.heap.size := by omega
      go_wp2
      have ba : Below w3.heap.size w3 w3.drew := below_drewN (Below.refl _ _) 1
      have bb : Below w3.heap.size w3 (w3.drew.alloc (.cells #[.slice none 0 0] 65)) := ba.alloc (Nat.le_refl _) _
      have hxa := hx.later (bel_trans B3 ba)
      have hxb := hx.later (bel_trans B3 bb)
      have esb : (w3.drew.alloc (.cells #[.slice none 0 0] 65)).heap.size = w3.heap.size + 1 := by simp
      have esa : w3.drew.heap.size = w3.heap.size := rfl
      go_region_with (first | ((go_at_call 107; refine (impl_Track_without _ _ _ _ _ _ hxa hn hk).mono ?_; rintro e w4 ⟨v4, rfl, own4, bel4⟩; obtain ⟨A4, c4, rfl, -⟩ := own4.shape; have G4 := bel_trans ba bel4; have s4 := G4.size; have ra4 := own4.ra; have noB : True := trivial; have la4 : w.heap.size < w4.heap.size := (by omega); have lb4 : w.heap.size + 1 < w4.heap.size := (by omega); have lc4 : w2.heap.size < w4.heap.size := (by omega); have t4 : w4.cell? ⟨w.heap.size, 0, none⟩ = some (.slice (some ⟨b, o, none⟩) n c) := (by rw [G4.cell (by first | exact y0 | exact y1 | exact y2 | (simp; done) | (simp; omega))]; exact t3); have u40 : w4.cell? ⟨w2.heap.size, 0, none⟩ = some (.int .i64 (q0)) := (by rw [G4.cell (by first | exact y0 | exact y1 | exact y2 | (simp; done) | (simp; omega))]; exact u0); have u41 : w4.cell? ⟨w2.heap.size, 1, none⟩ = some (.int .i64 (q1)) := (by rw [G4.cell (by first | exact y0 | exact y1 | exact y2 | (simp; done) | (simp; omega))]; exact u1); have u42 : w4.cell? ⟨w2.heap.size, 2, none⟩ = some (.int .i64 (q2)) := (by rw [G4.cell (by first | exact y0 | exact y1 | exact y2 | (simp; done) | (simp; omega))]; exact u2); have u43 : w4.cell? ⟨w2.heap.size, 3, none⟩ = some (.int .i64 (t)) := (by rw [G4.cell (by first | exact y0 | exact y1 | exact y2 | (simp; done) | (simp; omega))]; exact u3); have u44 : w4.cell? ⟨w2.heap.size, 4, none⟩ = some (.int .i64 (q4)) := (by rw [G4.cell (by first | exact y0 | exact y1 | exact y2 | (simp; done) | (simp; omega))]; exact u4); have qx4 : w4.cell? ⟨w.heap.size + 1, 0, none⟩ = some (.slice none 0 0) := (by rw [G4.cell (by first | exact y0 | exact y1 | exact y2 | (simp; done) | (simp; omega))]; exact qx3); have rx4 : w4.frozen? ⟨w.heap.size + 1, 0, none⟩ = false := (by rw [G4.frozen (by first | exact y0 | exact y1 | exact y2 | (simp; done) | (simp; omega))]; exact rx3))) | ((go_at_call 107; refine (impl_Track_without _ _ _ _ _ _ hxb hn hk).mono ?_; rintro e w4 ⟨v4, rfl, own4, bel4⟩; obtain ⟨A4, c4, rfl, -⟩ := own4.shape; have G4 := bel_trans bb bel4; have s4 := bel4.size; rw [esb] at s4; have ra4 := own4.ra; have kb : w4.cell? ⟨w3.heap.size, 0, none⟩ = some (.slice none 0 0) := (by rw [bel4.cell (by simp)]; simp [go_sem]); have kf : w4.frozen? ⟨w3.heap.size, 0, none⟩ = false := (by rw [bel4.frozen (by simp)]; simp [go_sem]); have la4 : w.heap.size < w4.heap.size := (by omega); have lb4 : w.heap.size + 1 < w4.heap.size := (by omega); have lc4 : w2.heap.size < w4.heap.size := (by omega); have t4 : w4.cell? ⟨w.heap.size, 0, none⟩ = some (.slice (some ⟨b, o, none⟩) n c) := (by rw [G4.cell (by first | exact y0 | exact y1 | exact y2 | (simp; done) | (simp; omega))]; exact t3); have u40 : w4.cell? ⟨w2.heap.size, 0, none⟩ = some (.int .i64 (q0)) := (by rw [G4.cell (by first | exact y0 | exact y1 | exact y2 | (simp; done) | (simp; omega))]; exact u0); have u41 : w4.cell? ⟨w2.heap.size, 1, none⟩ = some (.int .i64 (q1)) := (by rw [G4.cell (by first | exact y0 | exact y1 | exact y2 | (simp; done) | (simp; omega))]; exact u1); have u42 : w4.cell? ⟨w2.heap.size, 2, none⟩ = some (.int .i64 (q2)) := (by rw [G4.cell (by first | exact y0 | exact y1 | exact y2 | (simp; done) | (simp; omega))]; exact u2); have u43 : w4.cell? ⟨w2.heap.size, 3, none⟩ = some (.int .i64 (t)) := (by rw [G4.cell (by first | exact y0 | exact y1 | exact y2 | (simp; done) | (simp; omega))]; exact u3); have u44 : w4.cell? ⟨w2.heap.size, 4, none⟩ = some (.int .i64 (q4)) := (by rw [G4.cell (by first | exact y0 | exact y1 | exact y2 | (simp; done) | (simp; omega))]; exact u4); have qx4 : w4.cell? ⟨w.heap.size + 1, 0, none⟩ = some (.slice none 0 0) := (by rw [G4.cell (by first | exact y0 | exact y1 | exact y2 | (simp; done) | (simp; omega))]; exact qx3); have rx4 : w4.frozen? ⟨w.heap.size + 1, 0, none⟩ = false := (by rw [G4.frozen (by first | exact y0 | exact y1 | exact y2 | (simp; done) | (simp; omega))]; exact rx3))) | ((go_at_call 116; have _t := noB; refine (impl_put _ _ _ _ (q0) (q1) (q2) (t) (q4) _ ra4 (by rw [HDL.out]; omega)).mono ?_; rintro e w5 ⟨v5, rfl, own5, bel5⟩; obtain ⟨A5, c5, rfl, -⟩ := own5.shape; have G5 := bel_trans' G4 s4 bel5; have s5 := bel5.size; have la5 : w.heap.size < w5.heap.size := (by omega); have lb5 : w.heap.size + 1 < w5.heap.size := (by omega); have lc5 : w2.heap.size < w5.heap.size := (by omega); have t5 : w5.cell? ⟨w.heap.size, 0, none⟩ = some (.slice (some ⟨b, o, none⟩) n c) := (by rw [G5.cell (by first | exact y0 | exact y1 | exact y2 | (simp; done) | (simp; omega))]; exact t3); have u50 : w5.cell? ⟨w2.heap.size, 0, none⟩ = some (.int .i64 (q0)) := (by rw [G5.cell (by first | exact y0 | exact y1 | exact y2 | (simp; done) | (simp; omega))]; exact u0); have u51 : w5.cell? ⟨w2.heap.size, 1, none⟩ = some (.int .i64 (q1)) := (by rw [G5.cell (by first | exact y0 | exact y1 | exact y2 | (simp; done) | (simp; omega))]; exact u1); have u52 : w5.cell? ⟨w2.heap.size, 2, none⟩ = some (.int .i64 (q2)) := (by rw [G5.cell (by first | exact y0 | exact y1 | exact y2 | (simp; done) | (simp; omega))]; exact u2); have u53 : w5.cell? ⟨w2.heap.size, 3, none⟩ = some (.int .i64 (t)) := (by rw [G5.cell (by first | exact y0 | exact y1 | exact y2 | (simp; done) | (simp; omega))]; exact u3); have u54 : w5.cell? ⟨w2.heap.size, 4, none⟩ = some (.int .i64 (q4)) := (by rw [G5.cell (by first | exact y0 | exact y1 | exact y2 | (simp; done) | (simp; omega))]; exact u4); have qx5 : w5.cell? ⟨w.heap.size + 1, 0, none⟩ = some (.slice none 0 0) := (by rw [G5.cell (by first | exact y0 | exact y1 | exact y2 | (simp; done) | (simp; omega))]; exact qx3); have rx5 : w5.frozen? ⟨w.heap.size + 1, 0, none⟩ = false := (by rw [G5.frozen (by first | exact y0 | exact y1 | exact y2 | (simp; done) | (simp; omega))]; exact rx3))) | ((go_at_call 116; have _t := kb; refine (impl_put _ _ _ _ (q0) (q1) (q2) (t) (q4) _ ra4 (by rw [HDL.out]; omega)).mono ?_; rintro e w5 ⟨v5, rfl, own5, bel5⟩; obtain ⟨A5, c5, rfl, -⟩ := own5.shape; have G5 := bel_trans' G4 (by omega) bel5; have s5 := bel5.size; have kb5 : w5.cell? ⟨w3.heap.size, 0, none⟩ = some (.slice none 0 0) := (by rw [bel5.cell (by simp; omega)]; exact kb); have kf5 : w5.frozen? ⟨w3.heap.size, 0, none⟩ = false := (by rw [bel5.frozen (by simp; omega)]; exact kf); have la5 : w.heap.size < w5.heap.size := (by omega); have lb5 : w.heap.size + 1 < w5.heap.size := (by omega); have lc5 : w2.heap.size < w5.heap.size := (by omega); have t5 : w5.cell? ⟨w.heap.size, 0, none⟩ = some (.slice (some ⟨b, o, none⟩) n c) := (by rw [G5.cell (by first | exact y0 | exact y1 | exact y2 | (simp; done) | (simp; omega))]; exact t3); have u50 : w5.cell? ⟨w2.heap.size, 0, none⟩ = some (.int .i64 (q0)) := (by rw [G5.cell (by first | exact y0 | exact y1 | exact y2 | (simp; done) | (simp; omega))]; exact u0); have u51 : w5.cell? ⟨w2.heap.size, 1, none⟩ = some (.int .i64 (q1)) := (by rw [G5.cell (by first | exact y0 | exact y1 | exact y2 | (simp; done) | (simp; omega))]; exact u1); have u52 : w5.cell? ⟨w2.heap.size, 2, none⟩ = some (.int .i64 (q2)) := (by rw [G5.cell (by first | exact y0 | exact y1 | exact y2 | (simp; done) | (simp; omega))]; exact u2); have u53 : w5.cell? ⟨w2.heap.size, 3, none⟩ = some (.int .i64 (t)) := (by rw [G5.cell (by first | exact y0 | exact y1 | exact y2 | (simp; done) | (simp; omega))]; exact u3); have u54 : w5.cell? ⟨w2.heap.size, 4, none⟩ = some (.int .i64 (q4)) := (by rw [G5.cell (by first | exact y0 | exact y1 | exact y2 | (simp; done) | (simp; omega))]; exact u4); have qx5 : w5.cell? ⟨w.heap.size + 1, 0, none⟩ = some (.slice none 0 0) := (by rw [G5.cell (by first | exact y0 | exact y1 | exact y2 | (simp; done) | (simp; omega))]; exact qx3); have rx5 : w5.frozen? ⟨w.heap.size + 1, 0, none⟩ = false := (by rw [G5.frozen (by first | exact y0 | exact y1 | exact y2 | (simp; done) | (simp; omega))]; exact rx3))) | ((go_at_call 116; refine (impl_put _ _ _ _ (q0) (q1) (q2) (t) (q4) _ (ra4.later (w' := w4.alloc (.cells #[.slice none 0 0] 65)) ((Below.refl _ _).alloc (Nat.le_refl _) _)) (by rw [HDL.out]; omega)).mono ?_; rintro e w5 ⟨v5, rfl, own5, bel5⟩; obtain ⟨A5, c5, rfl, -⟩ := own5.shape; have G5 := bel_trans' (G4.alloc s4 (.cells #[.slice none 0 0] 65)) (by simp; omega) bel5; have s5 : w4.heap.size + 1 ≤ w5.heap.size := (by have := bel5.size; simpa using this); have kb5 : w5.cell? ⟨w4.heap.size, 0, none⟩ = some (.slice none 0 0) := (by rw [bel5.cell (by simp)]; simp [go_sem]); have kf5 : w5.frozen? ⟨w4.heap.size, 0, none⟩ = false := (by rw [bel5.frozen (by simp)]; simp [go_sem]); have la5 : w.heap.size < w5.heap.size := (by omega); have lb5 : w.heap.size + 1 < w5.heap.size := (by omega); have lc5 : w2.heap.size < w5.heap.size := (by omega); have t5 : w5.cell? ⟨w.heap.size, 0, none⟩ = some (.slice (some ⟨b, o, none⟩) n c) := (by rw [G5.cell (by first | exact y0 | exact y1 | exact y2 | (simp; done) | (simp; omega))]; exact t3); have u50 : w5.cell? ⟨w2.heap.size, 0, none⟩ = some (.int .i64 (q0)) := (by rw [G5.cell (by first | exact y0 | exact y1 | exact y2 | (simp; done) | (simp; omega))]; exact u0); have u51 : w5.cell? ⟨w2.heap.size, 1, none⟩ = some (.int .i64 (q1)) := (by rw [G5.cell (by first | exact y0 | exact y1 | exact y2 | (simp; done) | (simp; omega))]; exact u1); have u52 : w5.cell? ⟨w2.heap.size, 2, none⟩ = some (.int .i64 (q2)) := (by rw [G5.cell (by first | exact y0 | exact y1 | exact y2 | (simp; done) | (simp; omega))]; exact u2); have u53 : w5.cell? ⟨w2.heap.size, 3, none⟩ = some (.int .i64 (t)) := (by rw [G5.cell (by first | exact y0 | exact y1 | exact y2 | (simp; done) | (simp; omega))]; exact u3); have u54 : w5.cell? ⟨w2.heap.size, 4, none⟩ = some (.int .i64 (q4)) := (by rw [G5.cell (by first | exact y0 | exact y1 | exact y2 | (simp; done) | (simp; omega))]; exact u4); have qx5 : w5.cell? ⟨w.heap.size + 1, 0, none⟩ = some (.slice none 0 0) := (by rw [G5.cell (by first | exact y0 | exact y1 | exact y2 | (simp; done) | (simp; omega))]; exact qx3); have rx5 : w5.frozen? ⟨w.heap.size + 1, 0, none⟩ = false := (by rw [G5.frozen (by first | exact y0 | exact y1 | exact y2 | (simp; done) | (simp; omega))]; exact rx3))))
      all_goals go_wp2
      all_goals have B5 := bel_trans B3 G5
      all_goals first | (have _t : w5.cell? ⟨w4.heap.size, 0, none⟩ = some (.slice none 0 0) := kb5; refine bodyPost_ret (v := .tuple #[.agg #[(.slice A5 (M.putP (M.dropP xs k) (q0, q1, q2, t, q4)).length c5)], .int .i64 0]) (by simp [results, Try.results55, go_sem, kb5, kf5, qx5, rx5]) rfl ?_; rw [hr.out]; exact ⟨_, rfl, ((own5.mid (Mid.cell w5 w4.heap.size 0 (.slice A5 (M.putP (M.dropP xs k) (q0, q1, q2, t, q4)).length c5)) (.inr (by first | omega | (simp; done) | (simp; omega))) (Nat.le_refl _)).mid (Mid.cell _ (w.heap.size + 1) 0 (.slice A5 (M.putP (M.dropP xs k) (q0, q1, q2, t, q4)).length c5)) (.inr (by first | omega | (simp; done) | (simp; omega))) (by simp)).wide (by first | omega | (simp; done) | (simp; omega)) (by simp), (B5.setCell (by first | omega | (simp; done) | (simp; omega)) _).setCell (by first | omega | (simp; done) | (simp; omega)) _⟩) | (have _t : w5.cell? ⟨w3.heap.size, 0, none⟩ = some (.slice none 0 0) := kb5; refine bodyPost_ret (v := .tuple #[.agg #[(.slice A5 (M.putP (M.dropP xs k) (q0, q1, q2, t, q4)).length c5)], .int .i64 0]) (by simp [results, Try.results55, go_sem, kb5, kf5, qx5, rx5]) rfl ?_; rw [hr.out]; exact ⟨_, rfl, ((own5.mid (Mid.cell w5 w3.heap.size 0 (.slice A5 (M.putP (M.dropP xs k) (q0, q1, q2, t, q4)).length c5)) (.inr (by first | omega | (simp; done) | (simp; omega))) (Nat.le_refl _)).mid (Mid.cell _ (w.heap.size + 1) 0 (.slice A5 (M.putP (M.dropP xs k) (q0, q1, q2, t, q4)).length c5)) (.inr (by first | omega | (simp; done) | (simp; omega))) (by simp)).wide (by first | omega | (simp; done) | (simp; omega)) (by simp), (B5.setCell (by first | omega | (simp; done) | (simp; omega)) _).setCell (by first | omega | (simp; done) | (simp; omega)) _⟩) | (have ne5 : ¬ (w.heap.size + 1 = w5.heap.size) := (by omega); have ne6 : ¬ (w5.heap.size = w.heap.size + 1) := (by omega); refine bodyPost_ret (v := .tuple #[.agg #[(.slice A5 (M.putP (M.dropP xs k) (q0, q1, q2, t, q4)).length c5)], .int .i64 0]) (by simp [results, Try.results55, go_sem, qx5, rx5, ne5, ne6, lb5]) rfl ?_; rw [hr.out]; exact ⟨_, rfl, ((own5.mid (Mid.cell w5 (w.heap.size + 1) 0 (.slice A5 (M.putP (M.dropP xs k) (q0, q1, q2, t, q4)).length c5)) (.inr (by first | omega | (simp; done) | (simp; omega))) (Nat.le_refl _)).below ((Below.refl _ _).alloc (Nat.le_refl _) _) (by simp)).wide (by first | omega | (simp; done) | (simp; omega)) (by simp), (B5.setCell (by first | omega | (simp; done) | (simp; omega)) _).alloc (by first | omega | (simp; done) | (simp; omega)) _⟩)
  · have hr := Lib.hid (show M.moveR xs k t = ([], M.askT xs k) by rw [M.moveR, if_neg hask])
    have hne : (M.askT xs k != 0) = true := by simpa using hask
    clear hask
    generalize hq : M.askT xs k = q at *
    have hq' := Lib.hid hq
    clear hq
    go_enter Try.func55, Try.ntmps55
    go_wp2_with (go_at_call 106; refine (impl_clipCode _ _ _ _ _ _ hx1 hn).mono ?_; rw [hq'.out]; rintro e w2 ⟨rfl, bel2⟩; have hq : w2.cell? ⟨w.heap.size + 1, 0, none⟩ = some (.slice none 0 0) := (by rw [bel2.cell (by simp)]; simp [go_sem]); have hf : w2.frozen? ⟨w.heap.size + 1, 0, none⟩ = false := (by rw [bel2.frozen (by simp)]; simp [go_sem]); have hs2 : w.heap.size + 1 + 1 ≤ w2.heap.size := (by have := bel2.size; simpa using this); have hv2 : w2.cell? ⟨w.heap.size, 0, none⟩ = some (.slice A n c) := (by rw [bel2.cell (by simp; omega)]; exact hself))
    refine bodyPost_ret (v := .tuple #[.agg #[.slice none 0 0], .int .i64 q]) (by simp [results, Try.results55, go_sem, hq, hf]) rfl ?_
    rw [hr.out]
    exact ⟨_, rfl, OA.nil _, (hb2.trans (bel2.mono hb2.size)).setCell (by simp) _⟩
end Go.Proofs.Ytckihflfjecpbaa
namespace Go.Proofs.Ytckihflfjecpbaa
open Go.RowKit
set_option maxHeartbeats 4000000
set_option maxRecDepth 100000
theorem impl_TrimClip (A : Option Addr) (n c : Nat) (xs : List Clip) (k l r : Int) (w : World) (hx : RA cl 5 w w.heap.size A n xs) (hn : n ≤ 1000000000) (hc : n ≤ c) (hm : c ≤ maxLen) :
    Calls Try.prog 57 #[.agg #[.slice A n c], .int .i64 k, .int .i64 l, .int .i64 r] w (RetT 78 w (M.trimR xs k l r)) := by
  have hl := Lib.hid hx.len
  have hb2 : Below w.heap.size w ((w.alloc (.cells #[.slice A n c] 65)).alloc (.cells #[.slice none 0 0] 65)) := ((Below.refl _ _).alloc (Nat.le_refl _) _).alloc (by simp) _
  have hx1 := hx.later hb2
  have hself : ((w.alloc (.cells #[.slice A n c] 65)).alloc (.cells #[.slice none 0 0] 65)).cell? ⟨w.heap.size, 0, none⟩ = some (.slice A n c) := by simp [go_sem]
  by_cases hask : M.askT xs k = 0
  · obtain ⟨hok, hk0, hk1, h12⟩ := M.askT_zero hask
    obtain ⟨k, rfl⟩ : ∃ q : Nat, k = q := ⟨k.toNat, by omega⟩
    have hk : k < n := by rw [hl.out] at hk1; omega
    rw [hl.out] at h12
    obtain ⟨b, o, ⟨q0, q1, q2, q3, q4⟩, rfl, hab, X, hcc⟩ := hx.at cl_len (by decide) hk
    have hc0 : w.cell? ⟨b, o + k * 5, none⟩ = some (.int .i64 q0) := hcc 0 _ rfl
    have hc1 : w.cell? ⟨b, o + k * 5 + 1, none⟩ = some (.int .i64 q1) := hcc 1 _ rfl
    have hc2 : w.cell? ⟨b, o + k * 5 + 2, none⟩ = some (.int .i64 q2) := hcc 2 _ rfl
    have hc3 : w.cell? ⟨b, o + k * 5 + 3, none⟩ = some (.int .i64 q3) := hcc 3 _ rfl
    have hc4 : w.cell? ⟨b, o + k * 5 + 4, none⟩ = some (.int .i64 q4) := hcc 4 _ rfl
    have hB := M.clip_bd5 (M.track_clip hok X.out)
    obtain ⟨-, hB1, hB2, hB3, -⟩ := hB
    have hCL := Lib.hid (M.track_clip hok X.out)
    have hR := Lib.hid (show M.trimR xs k l r = (if M.trimOk q2 l r then M.chgR xs k (q0, q1 + l, q2 - l - r, q3 + l, q4) else ([], 2)) by rw [M.trimR, if_pos hask, Int.toNat_natCast, X.out]; rfl)
    have hok' := Lib.hid hok
    have hask' := Lib.hid hask
    clear hask hcc hok
    have ASK := Lib.hid (impl_clipCode (some ⟨b, o, none⟩) n c xs k _ hx1 hn)
    go_enter Try.func57, Try.ntmps57
    go_wp2_with fail
    refine (ASK.out).mono ?_
    rw [hask'.out]
    rintro e w2 ⟨rfl, bel2⟩
    have hq : w2.cell? ⟨w.heap.size + 1, 0, none⟩ = some (.slice none 0 0) := by rw [bel2.cell (by simp)]; simp [go_sem]
    have hf : w2.frozen? ⟨w.heap.size + 1, 0, none⟩ = false := by rw [bel2.frozen (by simp)]; simp [go_sem]
    have hs2 : w.heap.size + 1 + 1 ≤ w2.heap.size := by have := bel2.size; simpa using this
    have hv2 : w2.cell? ⟨w.heap.size, 0, none⟩ = some (.slice (some ⟨b, o, none⟩) n c) := by rw [bel2.cell (by simp; omega)]; exact hself
    have B2 := hb2.trans (bel2.mono hb2.size)
    have d0 : w2.cell? ⟨b, o + k * 5, none⟩ = some (.int .i64 q0) := by rw [B2.cell hab]; exact hc0
    have d1 : w2.cell? ⟨b, o + k * 5 + 1, none⟩ = some (.int .i64 q1) := by rw [B2.cell hab]; exact hc1
    have d2 : w2.cell? ⟨b, o + k * 5 + 2, none⟩ = some (.int .i64 q2) := by rw [B2.cell hab]; exact hc2
    have d3 : w2.cell? ⟨b, o + k * 5 + 3, none⟩ = some (.int .i64 q3) := by rw [B2.cell hab]; exact hc3
    have d4 : w2.cell? ⟨b, o + k * 5 + 4, none⟩ = some (.int .i64 q4) := by rw [B2.cell hab]; exact hc4
    have z0 : w.heap.size < w2.heap.size := by omega
    have i1 : (0 : Int) ≤ (k : Int) := by omega
    have i2 : (k : Int) < (n : Int) := by omega
    have hbr : b < w2.heap.size := Nat.lt_of_lt_of_le hab B2.size
    clear hc0 hc1 hc2 hc3 hc4 hself hx1 hb2 ASK bel2
    have z1 : w.heap.size + 1 < w2.heap.size := by omega
    have z2 : ¬ (w.heap.size + 1 = w2.heap.size) := by omega
    have z3 : ¬ (w2.heap.size = w.heap.size + 1) := by omega
    have hbq : Below w2.heap.size w2 (w2.alloc (.cells #[.int .i64 q0, .int .i64 q1, .int .i64 q2, .int .i64 q3, .int .i64 q4] 78)) := (Below.refl _ _).alloc (Nat.le_refl _) _
    have B2q := bel_trans B2 hbq
    by_cases h1 : l < 0
    · have hr := Lib.hid (show M.trimR xs k l r = ([], 2) by rw [hR.out, if_neg (by simp [M.trimOk]; omega)])
      go_wp2
      refine bodyPost_ret (v := .tuple #[.agg #[.slice none 0 0], .int .i64 2]) (by simp [results, Try.results57, go_sem, hq, hf, z1, z2, z3]) rfl ?_
      rw [hr.out]
      exact ⟨_, rfl, OA.nil _, (B2.setCell (by simp) _).alloc (by simp; omega) _⟩
    by_cases h2 : r < 0
    · have hr := Lib.hid (show M.trimR xs k l r = ([], 2) by rw [hR.out, if_neg (by simp [M.trimOk]; omega)])
      go_wp2
      refine bodyPost_ret (v := .tuple #[.agg #[.slice none 0 0], .int .i64 2]) (by simp [results, Try.results57, go_sem, hq, hf, z1, z2, z3]) rfl ?_
      rw [hr.out]
      exact ⟨_, rfl, OA.nil _, (B2.setCell (by simp) _).alloc (by simp; omega) _⟩
    by_cases h3 : q2 ≤ l
    · have hr := Lib.hid (show M.trimR xs k l r = ([], 2) by rw [hR.out, if_neg (by simp [M.trimOk]; omega)])
      go_wp2
      refine bodyPost_ret (v := .tuple #[.agg #[.slice none 0 0], .int .i64 2]) (by simp [results, Try.results57, go_sem, hq, hf, z1, z2, z3]) rfl ?_
      rw [hr.out]
      exact ⟨_, rfl, OA.nil _, (B2.setCell (by simp) _).alloc (by simp; omega) _⟩
    by_cases h4 : q2 - l ≤ r
    · have hr := Lib.hid (show M.trimR xs k l r = ([], 2) by rw [hR.out, if_neg (by simp [M.trimOk]; omega)])
      go_wp2
      refine bodyPost_ret (v := .tuple #[.agg #[.slice none 0 0], .int .i64 2]) (by simp [results, Try.results57, go_sem, hq, hf, z1, z2, z3]) rfl ?_
      rw [hr.out]
      exact ⟨_, rfl, OA.nil _, (B2.setCell (by simp) _).alloc (by simp; omega) _⟩
    · have HC := Lib.hid (M.trim_clip hCL.out (l := l) (r := r) (by omega) (by omega) (by omega))
      have h1 : 0 ≤ l := by omega
      have h2 : 0 ≤ r := by omega
      go_wp2
      obtain ⟨w3, hw3⟩ : ∃ w3, w3 = w2.alloc (.cells #[.int .i64 q0, .int .i64 (q1 + l), .int .i64 (q2 - l - r), .int .i64 (q3 + l), .int .i64 q4] 78) := ⟨_, rfl⟩
      rw [← hw3]
      have u0 : w3.cell? ⟨w2.heap.size, 0, none⟩ = some (.int .i64 q0) := by rw [hw3, cell_of_row _ w2.heap.size 0 _ 78 (0, 0) (heap_alloc_new w2 _)]; rfl
      have u1 : w3.cell? ⟨w2.heap.size, 1, none⟩ = some (.int .i64 (q1 + l)) := by rw [hw3, cell_of_row _ w2.heap.size 1 _ 78 (0, 0) (heap_alloc_new w2 _)]; rfl
      have u2 : w3.cell? ⟨w2.heap.size, 2, none⟩ = some (.int .i64 (q2 - l - r)) := by rw [hw3, cell_of_row _ w2.heap.size 2 _ 78 (0, 0) (heap_alloc_new w2 _)]; rfl
      have u3 : w3.cell? ⟨w2.heap.size, 3, none⟩ = some (.int .i64 (q3 + l)) := by rw [hw3, cell_of_row _ w2.heap.size 3 _ 78 (0, 0) (heap_alloc_new w2 _)]; rfl
      have u4 : w3.cell? ⟨w2.heap.size, 4, none⟩ = some (.int .i64 q4) := by rw [hw3, cell_of_row _ w2.heap.size 4 _ 78 (0, 0) (heap_alloc_new w2 _)]; rfl
      have g3 : Below w2.heap.size w2 w3 := by rw [hw3]; exact (Below.refl _ _).alloc (Nat.le_refl _) _
      have s3 : w2.heap.size + 1 ≤ w3.heap.size := by rw [hw3]; simp
      clear hw3 hbq B2q z1 z2 z3
      have qx3 : w3.cell? ⟨w.heap.size + 1, 0, none⟩ = some (.slice none 0 0) := by rw [g3.cell (by simp; omega)]; exact hq
      have rx3 : w3.frozen? ⟨w.heap.size + 1, 0, none⟩ = false := by rw [g3.frozen (by simp; omega)]; exact hf
      have t3 : w3.cell? ⟨w.heap.size, 0, none⟩ = some (.slice (some ⟨b, o, none⟩) n c) := by rw [g3.cell (by simpa using z0)]; exact hv2
      have B3 := bel_trans B2 g3
      have hr := Lib.hid (show M.trimR xs k l r = (M.putP (M.dropP xs k) (q0, q1 + l, q2 - l - r, q3 + l, q4), 0) by rw [hR.out, if_pos (by simp [M.trimOk]; omega), M.chgR, HC.out]; rfl)
      have hdl := M.dropP_len xs (k := k) (by rw [hl.out]; exact hk)
      rw [hl.out] at hdl
      have HDL := Lib.hid hdl
      clear hdl d0 d1 d2 d3 d4 hv2 hq hf
      have y0 : w.heap.size < w3.heap.size := by omega
      have y1 : w.heap.size + 1 < w3.heap.size := by omega
      have y2 : w2.heap.size < w3.heap.size := by omega
      have ba : Below w3.heap.size w3 w3.drew := below_drewN (Below.refl _ _) 1
      have bb : Below w3.heap.size w3 (w3.drew.alloc (.cells #[.slice none 0 0] 65)) := ba.alloc (Nat.le_refl _) _
      have hxa := hx.later (bel_trans B3 ba)
      have hxb := hx.later (bel_trans B3 bb)
      have esb : (w3.drew.alloc (.cells #[.slice none 0 0] 65)).heap.size = w3.heap.size + 1 := by simp
      have esa : w3.drew.heap.size = w3.heap.size := rfl
      go_region_with (first | ((go_at_call 107; refine (impl_Track_without _ _ _ _ _ _ hxa hn hk).mono ?_; rintro e w4 ⟨v4, rfl, own4, bel4⟩; obtain ⟨A4, c4, rfl, -⟩ := own4.shape; have G4 := bel_trans ba bel4; have s4 := G4.size; have ra4 := own4.ra; have noB : True := trivial; have la4 : w.heap.size < w4.heap.size := (by omega); have lb4 : w.heap.size + 1 < w4.heap.size := (by omega); have lc4 : w2.heap.size < w4.heap.size := (by omega); have t4 : w4.cell? ⟨w.heap.size, 0, none⟩ = some (.slice (some ⟨b, o, none⟩) n c) := (by rw [G4.cell (by first | exact y0 | exact y1 | exact y2 | (simp; done) | (simp; omega))]; exact t3); have u40 : w4.cell? ⟨w2.heap.size, 0, none⟩ = some (.int .i64 (q0)) := (by rw [G4.cell (by first | exact y0 | exact y1 | exact y2 | (simp; done) | (simp; omega))]; exact u0); have u41 : w4.cell? ⟨w2.heap.size, 1, none⟩ = some (.int .i64 (q1 + l)) := (by rw [G4.cell (by first | exact y0 | exact y1 | exact y2 | (simp; done) | (simp; omega))]; exact u1); have u42 : w4.cell? ⟨w2.heap.size, 2, none⟩ = some (.int .i64 (q2 - l - r)) := (by rw [G4.cell (by first | exact y0 | exact y1 | exact y2 | (simp; done) | (simp; omega))]; exact u2); have u43 : w4.cell? ⟨w2.heap.size, 3, none⟩ = some (.int .i64 (q3 + l)) := (by rw [G4.cell (by first | exact y0 | exact y1 | exact y2 | (simp; done) | (simp; omega))]; exact u3); have u44 : w4.cell? ⟨w2.heap.size, 4, none⟩ = some (.int .i64 (q4)) := (by rw [G4.cell (by first | exact y0 | exact y1 | exact y2 | (simp; done) | (simp; omega))]; exact u4); have qx4 : w4.cell? ⟨w.heap.size + 1, 0, none⟩ = some (.slice none 0 0) := (by rw [G4.cell (by first | exact y0 | exact y1 | exact y2 | (simp; done) | (simp; omega))]; exact qx3); have rx4 : w4.frozen? ⟨w.heap.size + 1, 0, none⟩ = false := (by rw [G4.frozen (by first | exact y0 | exact y1 | exact y2 | (simp; done) | (simp; omega))]; exact rx3))) | ((go_at_call 107; refine (impl_Track_without _ _ _ _ _ _ hxb hn hk).mono ?_; rintro e w4 ⟨v4, rfl, own4, bel4⟩; obtain ⟨A4, c4, rfl, -⟩ := own4.shape; have G4 := bel_trans bb bel4; have s4 := bel4.size; rw [esb] at s4; have ra4 := own4.ra; have kb : w4.cell? ⟨w3.heap.size, 0, none⟩ = some (.slice none 0 0) := (by rw [bel4.cell (by simp)]; simp [go_sem]); have kf : w4.frozen? ⟨w3.heap.size, 0, none⟩ = false := (by rw [bel4.frozen (by simp)]; simp [go_sem]); have la4 : w.heap.size < w4.heap.size := (by omega); have lb4 : w.heap.size + 1 < w4.heap.size := (by omega); have lc4 : w2.heap.size < w4.heap.size := (by omega); have t4 : w4.cell? ⟨w.heap.size, 0, none⟩ = some (.slice (some ⟨b, o, none⟩) n c) := (by rw [G4.cell (by first | exact y0 | exact y1 | exact y2 | (simp; done) | (simp; omega))]; exact t3); have u40 : w4.cell? ⟨w2.heap.size, 0, none⟩ = some (.int .i64 (q0)) := (by rw [G4.cell (by first | exact y0 | exact y1 | exact y2 | (simp; done) | (simp; omega))]; exact u0); have u41 : w4.cell? ⟨w2.heap.size, 1, none⟩ = some (.int .i64 (q1 + l)) := (by rw [G4.cell (by first | exact y0 | exact y1 | exact y2 | (simp; done) | (simp; omega))]; exact u1); have u42 : w4.cell? ⟨w2.heap.size, 2, none⟩ = some (.int .i64 (q2 - l - r)) := (by rw [G4.cell (by first | exact y0 | exact y1 | exact y2 | (simp; done) | (simp; omega))]; exact u2); have u43 : w4.cell? ⟨w2.heap.size, 3, none⟩ = some (.int .i64 (q3 + l)) := (by rw [G4.cell (by first | exact y0 | exact y1 | exact y2 | (simp; done) | (simp; omega))]; exact u3); have u44 : w4.cell? ⟨w2.heap.size, 4, none⟩ = some (.int .i64 (q4)) := (by rw [G4.cell (by first | exact y0 | exact y1 | exact y2 | (simp; done) | (simp; omega))]; exact u4); have qx4 : w4.cell? ⟨w.heap.size + 1, 0, none⟩ = some (.slice none 0 0) := (by rw [G4.cell (by first | exact y0 | exact y1 | exact y2 | (simp; done) | (simp; omega))]; exact qx3); have rx4 : w4.frozen? ⟨w.heap.size + 1, 0, none⟩ = false := (by rw [G4.frozen (by first | exact y0 | exact y1 | exact y2 | (simp; done) | (simp; omega))]; exact rx3))) | ((go_at_call 116; have _t := noB; refine (impl_put _ _ _ _ (q0) (q1 + l) (q2 - l - r) (q3 + l) (q4) _ ra4 (by rw [HDL.out]; omega)).mono ?_; rintro e w5 ⟨v5, rfl, own5, bel5⟩; obtain ⟨A5, c5, rfl, -⟩ := own5.shape; have G5 := bel_trans' G4 s4 bel5; have s5 := bel5.size; have la5 : w.heap.size < w5.heap.size := (by omega); have lb5 : w.heap.size + 1 < w5.heap.size := (by omega); have lc5 : w2.heap.size < w5.heap.size := (by omega); have t5 : w5.cell? ⟨w.heap.size, 0, none⟩ = some (.slice (some ⟨b, o, none⟩) n c) := (by rw [G5.cell (by first | exact y0 | exact y1 | exact y2 | (simp; done) | (simp; omega))]; exact t3); have u50 : w5.cell? ⟨w2.heap.size, 0, none⟩ = some (.int .i64 (q0)) := (by rw [G5.cell (by first | exact y0 | exact y1 | exact y2 | (simp; done) | (simp; omega))]; exact u0); have u51 : w5.cell? ⟨w2.heap.size, 1, none⟩ = some (.int .i64 (q1 + l)) := (by rw [G5.cell (by first | exact y0 | exact y1 | exact y2 | (simp; done) | (simp; omega))]; exact u1); have u52 : w5.cell? ⟨w2.heap.size, 2, none⟩ = some (.int .i64 (q2 - l - r)) := (by rw [G5.cell (by first | exact y0 | exact y1 | exact y2 | (simp; done) | (simp; omega))]; exact u2); have u53 : w5.cell? ⟨w2.heap.size, 3, none⟩ = some (.int .i64 (q3 + l)) := (by rw [G5.cell (by first | exact y0 | exact y1 | exact y2 | (simp; done) | (simp; omega))]; exact u3); have u54 : w5.cell? ⟨w2.heap.size, 4, none⟩ = some (.int .i64 (q4)) := (by rw [G5.cell (by first | exact y0 | exact y1 | exact y2 | (simp; done) | (simp; omega))]; exact u4); have qx5 : w5.cell? ⟨w.heap.size + 1, 0, none⟩ = some (.slice none 0 0) := (by rw [G5.cell (by first | exact y0 | exact y1 | exact y2 | (simp; done) | (simp; omega))]; exact qx3); have rx5 : w5.frozen? ⟨w.heap.size + 1, 0, none⟩ = false := (by rw [G5.frozen (by first | exact y0 | exact y1 | exact y2 | (simp; done) | (simp; omega))]; exact rx3))) | ((go_at_call 116; have _t := kb; refine (impl_put _ _ _ _ (q0) (q1 + l) (q2 - l - r) (q3 + l) (q4) _ ra4 (by rw [HDL.out]; omega)).mono ?_; rintro e w5 ⟨v5, rfl, own5, bel5⟩; obtain ⟨A5, c5, rfl, -⟩ := own5.shape; have G5 := bel_trans' G4 (by omega) bel5; have s5 := bel5.size; have kb5 : w5.cell? ⟨w3.heap.size, 0, none⟩ = some (.slice none 0 0) := (by rw [bel5.cell (by simp; omega)]; exact kb); have kf5 : w5.frozen? ⟨w3.heap.size, 0, none⟩ = false := (by rw [bel5.frozen (by simp; omega)]; exact kf); have la5 : w.heap.size < w5.heap.size := (by omega); have lb5 : w.heap.size + 1 < w5.heap.size := (by omega); have lc5 : w2.heap.size < w5.heap.size := (by omega); have t5 : w5.cell? ⟨w.heap.size, 0, none⟩ = some (.slice (some ⟨b, o, none⟩) n c) := (by rw [G5.cell (by first | exact y0 | exact y1 | exact y2 | (simp; done) | (simp; omega))]; exact t3); have u50 : w5.cell? ⟨w2.heap.size, 0, none⟩ = some (.int .i64 (q0)) := (by rw [G5.cell (by first | exact y0 | exact y1 | exact y2 | (simp; done) | (simp; omega))]; exact u0); have u51 : w5.cell? ⟨w2.heap.size, 1, none⟩ = some (.int .i64 (q1 + l)) := (by rw [G5.cell (by first | exact y0 | exact y1 | exact y2 | (simp; done) | (simp; omega))]; exact u1); have u52 : w5.cell? ⟨w2.heap.size, 2, none⟩ = some (.int .i64 (q2 - l - r)) := (by rw [G5.cell (by first | exact y0 | exact y1 | exact y2 | (simp; done) | (simp; omega))]; exact u2); have u53 : w5.cell? ⟨w2.heap.size, 3, none⟩ = some (.int .i64 (q3 + l)) := (by rw [G5.cell (by first | exact y0 | exact y1 | exact y2 | (simp; done) | (simp; omega))]; exact u3); have u54 : w5.cell? ⟨w2.heap.size, 4, none⟩ = some (.int .i64 (q4)) := (by rw [G5.cell (by first | exact y0 | exact y1 | exact y2 | (simp; done) | (simp; omega))]; exact u4); have qx5 : w5.cell? ⟨w.heap.size + 1, 0, none⟩ = some (.slice none 0 0) := (by rw [G5.cell (by first | exact y0 | exact y1 | exact y2 | (simp; done) | (simp; omega))]; exact qx3); have rx5 : w5.frozen? ⟨w.heap.size + 1, 0, none⟩ = false := (by rw [G5.frozen (by first | exact y0 | exact y1 | exact y2 | (simp; done) | (simp; omega))]; exact rx3))) | ((go_at_call 116; refine (impl_put _ _ _ _ (q0) (q1 + l) (q2 - l - r) (q3 + l) (q4) _ (ra4.later (w' := w4.alloc (.cells #[.slice none 0 0] 65)) ((Below.refl _ _).alloc (Nat.le_refl _) _)) (by rw [HDL.out]; omega)).mono ?_; rintro e w5 ⟨v5, rfl, own5, bel5⟩; obtain ⟨A5, c5, rfl, -⟩ := own5.shape; have G5 := bel_trans' (G4.alloc s4 (.cells #[.slice none 0 0] 65)) (by simp; omega) bel5; have s5 : w4.heap.size + 1 ≤ w5.heap.size := (by have := bel5.size; simpa using this); have kb5 : w5.cell? ⟨w4.heap.size, 0, none⟩ = some (.slice none 0 0) := (by rw [bel5.cell (by simp)]; simp [go_sem]); have kf5 : w5.frozen? ⟨w4.heap.size, 0, none⟩ = false := (by rw [bel5.frozen (by simp)]; simp [go_sem]); have la5 : w.heap.size < w5.heap.size := (by omega); have lb5 : w.heap.size + 1 < w5.heap.size := (by omega); have lc5 : w2.heap.size < w5.heap.size := (by omega); have t5 : w5.cell? ⟨w.heap.size, 0, none⟩ = some (.slice (some ⟨b, o, none⟩) n c) := (by rw [G5.cell (by first | exact y0 | exact y1 | exact y2 | (simp; done) | (simp; omega))]; exact t3); have u50 : w5.cell? ⟨w2.heap.size, 0, none⟩ = some (.int .i64 (q0)) := (by rw [G5.cell (by first | exact y0 | exact y1 | exact y2 | (simp; done) | (simp; omega))]; exact u0); have u51 : w5.cell? ⟨w2.heap.size, 1, none⟩ = some (.int .i64 (q1 + l)) := (by rw [G5.cell (by first | exact y0 | exact y1 | exact y2 | (simp; done) | (simp; omega))]; exact u1); have u52 : w5.cell? ⟨w2.heap.size, 2, none⟩ = some (.int .i64 (q2 - l - r)) := (by rw [G5.cell (by first | exact y0 | exact y1 | exact y2 | (simp; done) | (simp; omega))]; exact u2); have u53 : w5.cell? ⟨w2.heap.size, 3, none⟩ = some (.int .i64 (q3 + l)) := (by rw [G5.cell (by first | exact y0 | exact y1 | exact y2 | (simp; done) | (simp; omega))]; exact u3); have u54 : w5.cell? ⟨w2.heap.size, 4, none⟩ = some (.int .i64 (q4)) := (by rw [G5.cell (by first | exact y0 | exact y1 | exact y2 | (simp; done) | (simp; omega))]; exact u4); have qx5 : w5.cell? ⟨w.heap.size + 1, 0, none⟩ = some (.slice none 0 0) := (by rw [G5.cell (by first | exact y0 | exact y1 | exact y2 | (simp; done) | (simp; omega))]; exact qx3); have rx5 : w5.frozen? ⟨w.heap.size + 1, 0, none⟩ = false := (by rw [G5.frozen (by first | exact y0 | exact y1 | exact y2 | (simp; done) | (simp; omega))]; exact rx3))))
      all_goals go_wp2
      all_goals have B5 := bel_trans B3 G5
      all_goals first | (have _t : w5.cell? ⟨w4.heap.size, 0, none⟩ = some (.slice none 0 0) := kb5; refine bodyPost_ret (v := .tuple #[.agg #[(.slice A5 (M.putP (M.dropP xs k) (q0, q1 + l, q2 - l - r, q3 + l, q4)).length c5)], .int .i64 0]) (by simp [results, Try.results57, go_sem, kb5, kf5, qx5, rx5]) rfl ?_; rw [hr.out]; exact ⟨_, rfl, ((own5.mid (Mid.cell w5 w4.heap.size 0 (.slice A5 (M.putP (M.dropP xs k) (q0, q1 + l, q2 - l - r, q3 + l, q4)).length c5)) (.inr (by first | omega | (simp; done) | (simp; omega))) (Nat.le_refl _)).mid (Mid.cell _ (w.heap.size + 1) 0 (.slice A5 (M.putP (M.dropP xs k) (q0, q1 + l, q2 - l - r, q3 + l, q4)).length c5)) (.inr (by first | omega | (simp; done) | (simp; omega))) (by simp)).wide (by first | omega | (simp; done) | (simp; omega)) (by simp), (B5.setCell (by first | omega | (simp; done) | (simp; omega)) _).setCell (by first | omega | (simp; done) | (simp; omega)) _⟩) | (have _t : w5.cell? ⟨w3.heap.size, 0, none⟩ = some (.slice none 0 0) := kb5; refine bodyPost_ret (v := .tuple #[.agg #[(.slice A5 (M.putP (M.dropP xs k) (q0, q1 + l, q2 - l - r, q3 + l, q4)).length c5)], .int .i64 0]) (by simp [results, Try.results57, go_sem, kb5, kf5, qx5, rx5]) rfl ?_; rw [hr.out]; exact ⟨_, rfl, ((own5.mid (Mid.cell w5 w3.heap.size 0 (.slice A5 (M.putP (M.dropP xs k) (q0, q1 + l, q2 - l - r, q3 + l, q4)).length c5)) (.inr (by first | omega | (simp; done) | (simp; omega))) (Nat.le_refl _)).mid (Mid.cell _ (w.heap.size + 1) 0 (.slice A5 (M.putP (M.dropP xs k) (q0, q1 + l, q2 - l - r, q3 + l, q4)).length c5)) (.inr (by first | omega | (simp; done) | (simp; omega))) (by simp)).wide (by first | omega | (simp; done) | (simp; omega)) (by simp), (B5.setCell (by first | omega | (simp; done) | (simp; omega)) _).setCell (by first | omega | (simp; done) | (simp; omega)) _⟩) | (have ne5 : ¬ (w.heap.size + 1 = w5.heap.size) := (by omega); have ne6 : ¬ (w5.heap.size = w.heap.size + 1) := (by omega); refine bodyPost_ret (v := .tuple #[.agg #[(.slice A5 (M.putP (M.dropP xs k) (q0, q1 + l, q2 - l - r, q3 + l, q4)).length c5)], .int .i64 0]) (by simp [results, Try.results57, go_sem, qx5, rx5, ne5, ne6, lb5]) rfl ?_; rw [hr.out]; exact ⟨_, rfl, ((own5.mid (Mid.cell w5 (w.heap.size + 1) 0 (.slice A5 (M.putP (M.dropP xs k) (q0, q1 + l, q2 - l - r, q3 + l, q4)).length c5)) (.inr (by first | omega | (simp; done) | (simp; omega))) (Nat.le_refl _)).below ((Below.refl _ _).alloc (Nat.le_refl _) _) (by simp)).wide (by first | omega | (simp; done) | (simp; omega)) (by simp), (B5.setCell (by first | omega | (simp; done) | (simp; omega)) _).alloc (by first | omega | (simp; done) | (simp; omega)) _⟩)
  · have hr := Lib.hid (show M.trimR xs k l r = ([], M.askT xs k) by rw [M.trimR, if_neg hask])
    have hne : (M.askT xs k != 0) = true := by simpa using hask
    clear hask
    generalize hq : M.askT xs k = q at *
    have hq' := Lib.hid hq
    clear hq
    go_enter Try.func57, Try.ntmps57
    go_wp2_with (go_at_call 106; refine (impl_clipCode _ _ _ _ _ _ hx1 hn).mono ?_; rw [hq'.out]; rintro e w2 ⟨rfl, bel2⟩; have hq : w2.cell? ⟨w.heap.size + 1, 0, none⟩ = some (.slice none 0 0) := (by rw [bel2.cell (by simp)]; simp [go_sem]); have hf : w2.frozen? ⟨w.heap.size + 1, 0, none⟩ = false := (by rw [bel2.frozen (by simp)]; simp [go_sem]); have hs2 : w.heap.size + 1 + 1 ≤ w2.heap.size := (by have := bel2.size; simpa using this); have hv2 : w2.cell? ⟨w.heap.size, 0, none⟩ = some (.slice A n c) := (by rw [bel2.cell (by simp; omega)]; exact hself))
    refine bodyPost_ret (v := .tuple #[.agg #[.slice none 0 0], .int .i64 q]) (by simp [results, Try.results57, go_sem, hq, hf]) rfl ?_
    rw [hr.out]
    exact ⟨_, rfl, OA.nil _, (hb2.trans (bel2.mono hb2.size)).setCell (by simp) _⟩
end Go.Proofs.Ytckihflfjecpbaa
namespace Go.Proofs.Ytckihflfjecpbaa
open Go.RowKit Go.Sort
set_option maxHeartbeats 4000000
set_option maxRecDepth 100000
theorem RI.sub {w : World} {B n lo m c : Nat} {ad : Addr} {xs : List Int} (h : RI w B (some ad) n xs) (hl : lo + m ≤ n) (hc : n ≤ c) (hm : 0 < m) : RI w B (some (ad.add lo)) m ((xs.drop lo).take m) := by
  have hlen := h.len
  refine ⟨by simp; omega, fun _ => ⟨_, rfl, ?_, fun j u hu => ?_⟩⟩
  · obtain ⟨ad', e, hb, _⟩ := h.2 (by omega)
    injection e with e
    subst e
    rw [block_of_add]; exact hb
  · rw [add_of_add]
    obtain ⟨ad', e, hb, hcell⟩ := h.2 (by omega)
    injection e with e
    subst e
    refine hcell _ u ?_
    rw [List.getElem?_map, List.getElem?_take, List.getElem?_drop] at hu
    split at hu
    · rw [List.getElem?_map]; exact hu
    · simp at hu
theorem ret2_cap {e : TypeId} {w w' : World} {r : List Int × Int} {en : Ending} {ys : List Int} (h : Ret2 e w r en w') (hr : r = (ys, 0)) :
    ∃ A c, en = .returned (.tuple #[.slice A ys.length c, .int .i64 0]) ∧ RI w' w'.heap.size A ys.length ys ∧ ys.length ≤ c ∧ c ≤ maxLen ∧ Below w.heap.size w w' := by
  subst hr
  obtain ⟨v, rfl, own, bel⟩ := h
  obtain ⟨A, c, rfl, h1, h2, _⟩ := own_shape own
  exact ⟨A, c, rfl, own.ri, h1, h2, bel⟩
theorem core_FnMoved (A0 : Option Addr) (n0 : Nat) (c0 : Nat) (x0 : List UInt8) (A1 : Option Addr) (n1 : Nat) (c1 : Nat) (x1 : List UInt8) (w : World) (h0 : RS tU8 w w.heap.size (.slice A0 n0 c0) x0) (h1 : RS tU8 w w.heap.size (.slice A1 n1 c1) x1) :
    Calls Try.prog 15 #[.slice A0 n0 c0, .slice A1 n1 c1] w fun e w' => e = .returned (.bool true) ∧ Below w.heap.size w w' := by
  cases hlong : (decide (1048576 < n0) || decide (1048576 < n1))
  case true =>
    go_enter Try.func15, Try.ntmps15
    go_wp2_with fail
    refine (laws_v8Long _ _ _ _ _ _ _).mono ?_
    rw [hlong]
    rintro e w' ⟨rfl, rfl⟩
    go_wp2
    go_ret
    exact ⟨rfl, Below.refl _ _⟩
  have hlong' := Lib.hid hlong
  clear hlong
  go_enter Try.func15, Try.ntmps15
  go_wp2_with fail
  refine (laws_v8Long _ _ _ _ _ _ _).mono ?_
  rw [hlong'.out]
  rintro e w' ⟨rfl, rfl⟩
  go_wp2_with fail
  refine (spec_E8Clip _ _ _ _ _ h0).mono ?_
  rintro e w1 ⟨s, f, l, a, g, rfl, hdr, b1⟩
  obtain ⟨hb0, hb1, hb2, hb3, hb4⟩ := hdr.out
  simp only at hb0 hb1 hb2 hb3 hb4
  obtain ⟨l, rfl⟩ : ∃ q : Nat, l = q := ⟨l.toNat, by omega⟩
  obtain ⟨a, rfl⟩ : ∃ q : Nat, a = q := ⟨a.toNat, by omega⟩
  obtain ⟨W, hW⟩ : ∃ W, W = ((w1.alloc (.cells #[.int .i64 s, .int .i64 f, .int .i64 l, .int .i64 a, .int .i64 g] 78)).alloc (.cells #[.int .i64 s, .int .i64 f, .int .i64 l, .int .i64 a, .int .i64 g] 78)).alloc (.cells #[.slice (some ⟨w1.heap.size + 1, 0, none⟩) 1 1] 65) := ⟨_, rfl⟩
  have bW : Below w1.heap.size w1 W := by rw [hW]; exact (((Below.refl _ _).alloc (Nat.le_refl _) _).alloc (by simp) _).alloc (by simp; omega) _
  have zW : W.heap.size = w1.heap.size + 1 + 1 + 1 := by rw [hW]; simp
  have m2 : W.cell? ⟨w1.heap.size, 2, none⟩ = some (.int .i64 l) := by rw [hW]; simp [go_sem]
  have m3 : W.cell? ⟨w1.heap.size, 3, none⟩ = some (.int .i64 a) := by rw [hW]; simp [go_sem]
  have kt_W : W.cell? ⟨w1.heap.size + 1 + 1, 0, none⟩ = some (.slice (some ⟨w1.heap.size + 1, 0, none⟩) 1 1) := by rw [hW]; simp [go_sem]
  have rt_W : RA cl 5 W W.heap.size (some ⟨w1.heap.size + 1, 0, none⟩) 1 [(s, f, (l : Int), (a : Int), g)] := by
    refine ⟨rfl, by simp [cl], fun _ => ⟨_, rfl, by show w1.heap.size + 1 < _; omega, fun j u hu => ?_⟩⟩
    have hj : j < 5 := by have := (List.getElem?_eq_some_iff.1 hu).1; simpa [cl] using this
    have hadd : (⟨w1.heap.size + 1, 0, none⟩ : Addr).add j = ⟨w1.heap.size + 1, j, none⟩ := by unfold Addr.add; split <;> simp_all
    rw [hadd, hW]
    rcases (show j = 0 ∨ j = 1 ∨ j = 2 ∨ j = 3 ∨ j = 4 by omega) with rfl | rfl | rfl | rfl | rfl <;> (simp [cl] at hu; subst hu; simp [go_sem])
  have B_W := bel_trans b1 bW
  have lc_W : w1.heap.size < W.heap.size := by omega
  have lkt_W : w1.heap.size + 1 + 1 < W.heap.size := by omega
  have HW := Lib.hid hW
  clear hW zW
  go_wp2_with fail
  rw [← HW.out]
  refine (spec_E8Sources _ _ _ _ W (h1.later B_W)).mono ?_
  rintro e w5 ⟨As, cs, src, rfl, rs_w5, hsl, hso, b5⟩
  have hlen := M.srcOk_len hso.out
  have hsli := Lib.hid (show (src.length : Int) = 3 by omega)
  have hs6 : src.length ≤ 6 := by omega
  clear hsl
  have m2_w5 : w5.cell? ⟨w1.heap.size, 2, none⟩ = some (.int .i64 l) := by rw [b5.cell lc_W]; exact m2
  have m3_w5 : w5.cell? ⟨w1.heap.size, 3, none⟩ = some (.int .i64 a) := by rw [b5.cell lc_W]; exact m3
  have lc_w5 := Nat.lt_of_lt_of_le lc_W b5.size
  clear m2 m3 lc_W
  have kt_w5 : w5.cell? ⟨w1.heap.size + 1 + 1, 0, none⟩ = some (.slice (some ⟨w1.heap.size + 1, 0, none⟩) 1 1) := by rw [b5.cell lkt_W]; exact kt_W
  have lkt_w5 := Nat.lt_of_lt_of_le lkt_W b5.size
  clear kt_W lkt_W
  have rt_w5 := rt_W.later b5
  clear rt_W
  have B_w5 := bel_trans B_W b5
  go_wp2_with fail
  refine (laws_v8At _ _ _ x1 0 40 w5 (h1.later B_w5) (by omega) (by omega)).mono ?_
  rintro e w6 ⟨p, rfl, hp, b6⟩
  have hp2 : 0 ≤ p ∧ p ≤ 39 := by omega
  clear hp
  obtain ⟨p, rfl⟩ : ∃ q : Nat, p = q := ⟨p.toNat, by omega⟩
  have m2_w6 : w6.cell? ⟨w1.heap.size, 2, none⟩ = some (.int .i64 l) := by rw [b6.cell lc_w5]; exact m2_w5
  have m3_w6 : w6.cell? ⟨w1.heap.size, 3, none⟩ = some (.int .i64 a) := by rw [b6.cell lc_w5]; exact m3_w5
  have lc_w6 := Nat.lt_of_lt_of_le lc_w5 b6.size
  clear m2_w5 m3_w5 lc_w5
  have kt_w6 : w6.cell? ⟨w1.heap.size + 1 + 1, 0, none⟩ = some (.slice (some ⟨w1.heap.size + 1, 0, none⟩) 1 1) := by rw [b6.cell lkt_w5]; exact kt_w5
  have lkt_w6 := Nat.lt_of_lt_of_le lkt_w5 b6.size
  clear kt_w5 lkt_w5
  have rt_w6 := rt_w5.later b6
  clear rt_w5
  have rs_w6 := rs_w5.later b6
  clear rs_w5
  have B_w6 := bel_trans B_w5 b6
  obtain ⟨g1, g2, g3, g4, g5, g6⟩ := M.moved_law (src := src) hdr.out hp2
  have G1 := Lib.hid g1
  have R1 := Lib.hid (M.renderR_ok (n := 100) hso.out g2 (by rw [hsli.out]; exact g4) (by omega))
  have R2 := Lib.hid (M.renderR_ok (n := 100) hso.out g3 (by rw [hsli.out]; exact g5) (by omega))
  have G6 := Lib.hid g6
  have RL1 := Lib.hid (M.renT_len src [(s, f, (l : Int), (a : Int), g)] 100)
  have RL2 := Lib.hid (M.renT_len src [(s, f, (l : Int), (p : Int), g)] 100)
  clear g1 g2 g3 g4 g5 g6
  go_wp2_with fail
  refine (impl_MoveClip _ _ _ _ 0 (p : Int) w6 rt_w6 (by omega) (Nat.le_refl _) (by simp [maxLen])).mono ?_
  intro e w7 hr
  obtain ⟨Ax, cx, rfl, rx_w7, hx1, hx2, b7⟩ := retT_nil hr G1.out
  clear hr
  rw [show [(s, f, (l : Int), (p : Int), g)].length = 1 from rfl] at rx_w7 hx1 ⊢
  have m2_w7 : w7.cell? ⟨w1.heap.size, 2, none⟩ = some (.int .i64 l) := by rw [b7.cell lc_w6]; exact m2_w6
  have m3_w7 : w7.cell? ⟨w1.heap.size, 3, none⟩ = some (.int .i64 a) := by rw [b7.cell lc_w6]; exact m3_w6
  have lc_w7 := Nat.lt_of_lt_of_le lc_w6 b7.size
  clear m2_w6 m3_w6 lc_w6
  have kt_w7 : w7.cell? ⟨w1.heap.size + 1 + 1, 0, none⟩ = some (.slice (some ⟨w1.heap.size + 1, 0, none⟩) 1 1) := by rw [b7.cell lkt_w6]; exact kt_w6
  have lkt_w7 := Nat.lt_of_lt_of_le lkt_w6 b7.size
  clear kt_w6 lkt_w6
  have rt_w7 := rt_w6.later b7
  clear rt_w6
  have rs_w7 := rs_w6.later b7
  clear rs_w6
  have B_w7 := bel_trans B_w6 b7
  obtain ⟨U7, hU⟩ : ∃ U, U = w7.alloc (.cells #[.slice Ax 1 cx] 65) := ⟨_, rfl⟩
  have bU7 : Below w7.heap.size w7 U7 := by rw [hU]; exact (Below.refl _ _).alloc (Nat.le_refl _) _
  have kx_U7 : U7.cell? ⟨w7.heap.size, 0, none⟩ = some (.slice Ax 1 cx) := by rw [hU]; simp [go_sem]
  have lkx_U7 : w7.heap.size < U7.heap.size := by rw [hU]; simp
  have HU7 := Lib.hid hU
  clear hU
  have m2_U7 : U7.cell? ⟨w1.heap.size, 2, none⟩ = some (.int .i64 l) := by rw [bU7.cell lc_w7]; exact m2_w7
  have m3_U7 : U7.cell? ⟨w1.heap.size, 3, none⟩ = some (.int .i64 a) := by rw [bU7.cell lc_w7]; exact m3_w7
  have lc_U7 := Nat.lt_of_lt_of_le lc_w7 bU7.size
  have kt_U7 : U7.cell? ⟨w1.heap.size + 1 + 1, 0, none⟩ = some (.slice (some ⟨w1.heap.size + 1, 0, none⟩) 1 1) := by rw [bU7.cell lkt_w7]; exact kt_w7
  have lkt_U7 := Nat.lt_of_lt_of_le lkt_w7 bU7.size
  have rt_U7 := rt_w7.later bU7
  have rs_U7 := rs_w7.later bU7
  have rx_U7 := rx_w7.later bU7
  have B_U7 := bel_trans B_w7 bU7
  go_wp2_with fail
  rw [← HU7.out]
  clear m2_w7 m3_w7 lc_w7
  clear kt_w7 lkt_w7
  clear rt_w7
  clear rs_w7
  clear rx_w7
  refine (spec_RenderTrack _ _ _ _ _ _ 100 src _ U7 rs_U7 rt_U7 hlen (by omega) (by omega)).mono ?_
  intro e w8 hr
  obtain ⟨Aa, ca, rfl, ra_w8, hca1, hca2, b8⟩ := ret2_cap hr R1.out
  clear hr
  rw [RL1.out] at ra_w8 hca1 ⊢
  have m2_w8 : w8.cell? ⟨w1.heap.size, 2, none⟩ = some (.int .i64 l) := by rw [b8.cell lc_U7]; exact m2_U7
  have m3_w8 : w8.cell? ⟨w1.heap.size, 3, none⟩ = some (.int .i64 a) := by rw [b8.cell lc_U7]; exact m3_U7
  have lc_w8 := Nat.lt_of_lt_of_le lc_U7 b8.size
  clear m2_U7 m3_U7 lc_U7
  have kt_w8 : w8.cell? ⟨w1.heap.size + 1 + 1, 0, none⟩ = some (.slice (some ⟨w1.heap.size + 1, 0, none⟩) 1 1) := by rw [b8.cell lkt_U7]; exact kt_U7
  have lkt_w8 := Nat.lt_of_lt_of_le lkt_U7 b8.size
  clear kt_U7 lkt_U7
  have kx_w8 : w8.cell? ⟨w7.heap.size, 0, none⟩ = some (.slice Ax 1 cx) := by rw [b8.cell lkx_U7]; exact kx_U7
  have lkx_w8 := Nat.lt_of_lt_of_le lkx_U7 b8.size
  clear kx_U7 lkx_U7
  have rt_w8 := rt_U7.later b8
  clear rt_U7
  have rs_w8 := rs_U7.later b8
  clear rs_U7
  have rx_w8 := rx_U7.later b8
  clear rx_U7
  have B_w8 := bel_trans B_U7 b8
  go_wp2_with fail
  refine (impl_RenderTrack _ _ _ _ _ _ 100 src _ w8 rs_w8 rx_w8 hlen (by omega) (by omega)).mono ?_
  intro e w9 hr
  obtain ⟨Ab, cb, rfl, rb_w9, hcb1, hcb2, b9⟩ := ret2_cap hr R2.out
  clear hr
  rw [RL2.out] at rb_w9 hcb1 ⊢
  have m2_w9 : w9.cell? ⟨w1.heap.size, 2, none⟩ = some (.int .i64 l) := by rw [b9.cell lc_w8]; exact m2_w8
  have m3_w9 : w9.cell? ⟨w1.heap.size, 3, none⟩ = some (.int .i64 a) := by rw [b9.cell lc_w8]; exact m3_w8
  have lc_w9 := Nat.lt_of_lt_of_le lc_w8 b9.size
  clear m2_w8 m3_w8 lc_w8
  have kt_w9 : w9.cell? ⟨w1.heap.size + 1 + 1, 0, none⟩ = some (.slice (some ⟨w1.heap.size + 1, 0, none⟩) 1 1) := by rw [b9.cell lkt_w8]; exact kt_w8
  have lkt_w9 := Nat.lt_of_lt_of_le lkt_w8 b9.size
  clear kt_w8 lkt_w8
  have kx_w9 : w9.cell? ⟨w7.heap.size, 0, none⟩ = some (.slice Ax 1 cx) := by rw [b9.cell lkx_w8]; exact kx_w8
  have lkx_w9 := Nat.lt_of_lt_of_le lkx_w8 b9.size
  clear kx_w8 lkx_w8
  have rt_w9 := rt_w8.later b9
  clear rt_w8
  have rs_w9 := rs_w8.later b9
  clear rs_w8
  have rx_w9 := rx_w8.later b9
  clear rx_w8
  have ra_w9 := ra_w8.later b9
  clear ra_w8
  have B_w9 := bel_trans B_w8 b9
  unfold maxLen at hca2 hcb2
  obtain ⟨ad, z0, rfl, had, -, -⟩ := ra_w9.at (k := 0) (by omega)
  obtain ⟨ad', z1, rfl, had', -, -⟩ := rb_w9.at (k := 0) (by omega)
  obtain ⟨ea, hea⟩ : ∃ q : Nat, q = a + l := ⟨_, rfl⟩
  obtain ⟨ep, hep⟩ : ∃ q : Nat, q = p + l := ⟨_, rfl⟩
  have e5 : IntKind.i64.wrap ((a : Int) + (l : Int)) = (ea : Int) := by rw [IntWalk.i64_in _ (by omega)]; omega
  have e6 : IntKind.i64.wrap ((p : Int) + (l : Int)) = (ep : Int) := by rw [IntWalk.i64_in _ (by omega)]; omega
  have i1 : (a : Int) ≤ (ea : Int) := by omega
  have i2 : (ea : Int) ≤ (ca : Int) := by omega
  have i3 : (p : Int) ≤ (ep : Int) := by omega
  have i4 : (ep : Int) ≤ (cb : Int) := by omega
  have n1 : ¬ ca = a := by omega
  have n2 : ¬ cb = p := by omega
  have n3 : ea - a = l := by omega
  have n4 : ep - p = l := by omega
  have sa := ra_w9.sub (lo := a) (m := l) (c := ca) (by omega) hca1 (by omega)
  have sb := rb_w9.sub (lo := p) (m := l) (c := cb) (by omega) hcb1 (by omega)
  have g6 := G6.out
  simp only [Int.toNat_natCast] at g6
  rw [g6] at sa
  clear g6
  have cP : ∀ d os, Calls Try.prog 43 #[.slice (some (ad.add a)) l (ca - a), .slice (some (ad'.add p)) l (cb - p)] (grow (redrawn w9 d) os) fun e w'' => e = .returned (.bool true) ∧ ∃ p : Regrown, w'' = grow (redrawn w9 p.d) p.os := fun d os => Calls.regrown_of (by
    have h := laws_v8Same _ _ _ (ca - a) _ (cb - p) _ _ (grow (redrawn w9 d) os) (sa.later (below_regrown w9 d os)) (sb.later (below_regrown w9 d os)) (by omega)
    rw [decide_eq_true rfl] at h
    exact h)
  have q1 := cell_regrown m2_w9
  have q2 := cell_regrown m3_w9
  have q3 := cell_regrown kx_w9
  have q4 := cell_regrown kt_w9
  clear m2_w9 m3_w9 kx_w9 kt_w9 hea hep
  go_wp2
  (refine wp_region_quiet_below (by kernel_rfl) (by kernel_rfl) ?_; (repeat (go_big_quiet_step (exact cP _ _))); refine wpQuiet_nil ?_; intro _ hw'; obtain ⟨⟨dq, osq⟩, hw''⟩ := hw'; subst hw'')
  have b10 := below_regrown w9 dq osq
  have m2_w10 := q1 dq osq
  have m3_w10 := q2 dq osq
  have kt_w10 := q4 dq osq
  generalize grow (redrawn w9 dq) osq = w10 at b10 m2_w10 m3_w10 kt_w10 ⊢
  clear q1 q2 q3 q4 cP sa sb e5 e6 i1 i2 i3 i4 n1 n2 n3 n4
  have ra_w10 := ra_w9.later b10
  have rt_w10 := rt_w9.later b10
  have rs_w10 : RS tS w10 w10.heap.size (.slice As src.length cs) src := rs_w9.later b10
  have lc_w10 := Nat.lt_of_lt_of_le lc_w9 b10.size
  have lkt_w10 := Nat.lt_of_lt_of_le lkt_w9 b10.size
  have B_w10 := bel_trans B_w9 b10
  clear ra_w9 rt_w9 rs_w9 lc_w9 lkt_w9 rb_w9 rx_w9 lkx_w9
  go_wp2_with fail
  refine (laws_v8At _ _ _ x1 1 (l : Int) w10 (h1.later B_w10) (by omega) (by omega)).mono ?_
  rintro e w11 ⟨u, rfl, hu, b11⟩
  have hu2 : 0 ≤ u ∧ u < l := by omega
  clear hu
  have m2_w11 : w11.cell? ⟨w1.heap.size, 2, none⟩ = some (.int .i64 l) := by rw [b11.cell lc_w10]; exact m2_w10
  have m3_w11 : w11.cell? ⟨w1.heap.size, 3, none⟩ = some (.int .i64 a) := by rw [b11.cell lc_w10]; exact m3_w10
  have lc_w11 := Nat.lt_of_lt_of_le lc_w10 b11.size
  clear m2_w10 m3_w10 lc_w10
  have kt_w11 : w11.cell? ⟨w1.heap.size + 1 + 1, 0, none⟩ = some (.slice (some ⟨w1.heap.size + 1, 0, none⟩) 1 1) := by rw [b11.cell lkt_w10]; exact kt_w10
  have lkt_w11 := Nat.lt_of_lt_of_le lkt_w10 b11.size
  clear kt_w10 lkt_w10
  have ra_w11 := ra_w10.later b11
  clear ra_w10
  have rt_w11 := rt_w10.later b11
  clear rt_w10
  have rs_w11 := rs_w10.later b11
  clear rs_w10
  have B_w11 := bel_trans B_w10 b11
  go_wp2_with fail
  refine (laws_v8At _ _ _ x1 2 ((l : Int) - u) w11 (h1.later B_w11) (by omega) (by omega)).mono ?_
  rintro e w12 ⟨v, rfl, hv, b12⟩
  have hv2 : 0 ≤ v ∧ v < l - u := by omega
  clear hv
  have m2_w12 : w12.cell? ⟨w1.heap.size, 2, none⟩ = some (.int .i64 l) := by rw [b12.cell lc_w11]; exact m2_w11
  have m3_w12 : w12.cell? ⟨w1.heap.size, 3, none⟩ = some (.int .i64 a) := by rw [b12.cell lc_w11]; exact m3_w11
  have lc_w12 := Nat.lt_of_lt_of_le lc_w11 b12.size
  clear m2_w11 m3_w11 lc_w11
  have kt_w12 : w12.cell? ⟨w1.heap.size + 1 + 1, 0, none⟩ = some (.slice (some ⟨w1.heap.size + 1, 0, none⟩) 1 1) := by rw [b12.cell lkt_w11]; exact kt_w11
  have lkt_w12 := Nat.lt_of_lt_of_le lkt_w11 b12.size
  clear kt_w11 lkt_w11
  have ra_w12 := ra_w11.later b12
  clear ra_w11
  have rt_w12 := rt_w11.later b12
  clear rt_w11
  have rs_w12 := rs_w11.later b12
  clear rs_w11
  have B_w12 := bel_trans B_w11 b12
  obtain ⟨t1, t2, t3, t4⟩ := M.trim_law (src := src) hdr.out hu2 hv2
  have T1 := Lib.hid t1
  have R3 := Lib.hid (M.renderR_ok (n := 100) hso.out t2 (by rw [hsli.out]; exact t3) (by omega))
  have T4 := Lib.hid t4
  have RL3 := Lib.hid (M.renT_len src [(s, f + u, (l : Int) - u - v, (a : Int) + u, g)] 100)
  clear t1 t2 t3 t4
  go_wp2_with fail
  refine (impl_TrimClip _ _ _ _ 0 u v w12 rt_w12 (by omega) (Nat.le_refl _) (by simp [maxLen])).mono ?_
  intro e w13 hr
  obtain ⟨Ay, cy, rfl, ry_w13, hy1, hy2, b13⟩ := retT_nil hr T1.out
  clear hr
  rw [show [(s, f + u, (l : Int) - u - v, (a : Int) + u, g)].length = 1 from rfl] at ry_w13 hy1 ⊢
  have m2_w13 : w13.cell? ⟨w1.heap.size, 2, none⟩ = some (.int .i64 l) := by rw [b13.cell lc_w12]; exact m2_w12
  have m3_w13 : w13.cell? ⟨w1.heap.size, 3, none⟩ = some (.int .i64 a) := by rw [b13.cell lc_w12]; exact m3_w12
  have lc_w13 := Nat.lt_of_lt_of_le lc_w12 b13.size
  clear m2_w12 m3_w12 lc_w12
  have kt_w13 : w13.cell? ⟨w1.heap.size + 1 + 1, 0, none⟩ = some (.slice (some ⟨w1.heap.size + 1, 0, none⟩) 1 1) := by rw [b13.cell lkt_w12]; exact kt_w12
  have lkt_w13 := Nat.lt_of_lt_of_le lkt_w12 b13.size
  clear kt_w12 lkt_w12
  have ra_w13 := ra_w12.later b13
  clear ra_w12
  have rt_w13 := rt_w12.later b13
  clear rt_w12
  have rs_w13 := rs_w12.later b13
  clear rs_w12
  have B_w13 := bel_trans B_w12 b13
  obtain ⟨U13, hU⟩ : ∃ U, U = w13.alloc (.cells #[.slice Ay 1 cy] 65) := ⟨_, rfl⟩
  have bU13 : Below w13.heap.size w13 U13 := by rw [hU]; exact (Below.refl _ _).alloc (Nat.le_refl _) _
  have ky_U13 : U13.cell? ⟨w13.heap.size, 0, none⟩ = some (.slice Ay 1 cy) := by rw [hU]; simp [go_sem]
  have lky_U13 : w13.heap.size < U13.heap.size := by rw [hU]; simp
  have HU13 := Lib.hid hU
  clear hU
  have m2_U13 : U13.cell? ⟨w1.heap.size, 2, none⟩ = some (.int .i64 l) := by rw [bU13.cell lc_w13]; exact m2_w13
  have m3_U13 : U13.cell? ⟨w1.heap.size, 3, none⟩ = some (.int .i64 a) := by rw [bU13.cell lc_w13]; exact m3_w13
  have lc_U13 := Nat.lt_of_lt_of_le lc_w13 bU13.size
  clear m2_w13 m3_w13 lc_w13
  have kt_U13 : U13.cell? ⟨w1.heap.size + 1 + 1, 0, none⟩ = some (.slice (some ⟨w1.heap.size + 1, 0, none⟩) 1 1) := by rw [bU13.cell lkt_w13]; exact kt_w13
  have lkt_U13 := Nat.lt_of_lt_of_le lkt_w13 bU13.size
  clear kt_w13 lkt_w13
  have ra_U13 := ra_w13.later bU13
  clear ra_w13
  have rt_U13 := rt_w13.later bU13
  clear rt_w13
  have rs_U13 := rs_w13.later bU13
  clear rs_w13
  have ry_U13 := ry_w13.later bU13
  clear ry_w13
  have B_U13 := bel_trans B_w13 bU13
  go_wp2_with fail
  rw [← HU13.out]
  refine (impl_RenderTrack _ _ _ _ _ _ 100 src _ U13 rs_U13 ry_U13 hlen (by omega) (by omega)).mono ?_
  intro e w14 hr
  obtain ⟨Ad, cd, rfl, rd_w14, b14⟩ := ret2_nil' hr R3.out
  clear hr
  rw [RL3.out] at rd_w14 ⊢
  have m2_w14 : w14.cell? ⟨w1.heap.size, 2, none⟩ = some (.int .i64 l) := by rw [b14.cell lc_U13]; exact m2_U13
  have m3_w14 : w14.cell? ⟨w1.heap.size, 3, none⟩ = some (.int .i64 a) := by rw [b14.cell lc_U13]; exact m3_U13
  have lc_w14 := Nat.lt_of_lt_of_le lc_U13 b14.size
  clear m2_U13 m3_U13 lc_U13
  have kt_w14 : w14.cell? ⟨w1.heap.size + 1 + 1, 0, none⟩ = some (.slice (some ⟨w1.heap.size + 1, 0, none⟩) 1 1) := by rw [b14.cell lkt_U13]; exact kt_U13
  have lkt_w14 := Nat.lt_of_lt_of_le lkt_U13 b14.size
  clear kt_U13 lkt_U13
  have ky_w14 : w14.cell? ⟨w13.heap.size, 0, none⟩ = some (.slice Ay 1 cy) := by rw [b14.cell lky_U13]; exact ky_U13
  have lky_w14 := Nat.lt_of_lt_of_le lky_U13 b14.size
  clear ky_U13 lky_U13
  have ra_w14 := ra_U13.later b14
  clear ra_U13
  have rt_w14 := rt_U13.later b14
  clear rt_U13
  have rs_w14 := rs_U13.later b14
  clear rs_U13
  have ry_w14 := ry_U13.later b14
  clear ry_U13
  have B_w14 := bel_trans B_U13 b14
  go_wp2_with fail
  go_loop [21, 22] (fun i _ => ∃ k : Nat, i = .int .i64 k ∧ k ≤ 100) (fun i _ => 100 - (intOf i).toNat)
  case atStart => exact ⟨0, rfl, by omega⟩
  case round =>
    obtain ⟨k, rfl, hk⟩ := hrel
    by_cases hlt : k < 100
    · obtain ⟨ad1, za, ea1, hab1, Z1, hc1⟩ := ra_w14.at hlt
      obtain rfl : ad1 = ad := by injection ea1 with ea1; exact ea1.symm
      obtain ⟨ad2, zd, rfl, hab2, Z2, hc2⟩ := rd_w14.at hlt
      have hz := T4.out k hlt
      rw [Z2.out, Z1.out, Option.getD_some, Option.some.injEq] at hz
      have hk1 : (k : Int) < 100 := by omega
      by_cases hin : (a : Int) + u ≤ k ∧ (k : Int) < a + l - v
      · rw [if_pos hin] at hz
        subst hz
        obtain ⟨in1, in2⟩ := hin
        go_wp2
        go_round
        case rel => exact ⟨k + 1, by go_num, by omega⟩
        case measure => simp [intOf]; omega
      · rw [if_neg hin] at hz
        subst hz
        by_cases in1 : (a : Int) + u ≤ k
        · have in2 : ¬ (k : Int) < a + l - v := fun h => hin ⟨in1, h⟩
          clear hin
          go_wp2
          go_round
          case rel => exact ⟨k + 1, by go_num, by omega⟩
          case measure => simp [intOf]; omega
        · clear hin
          go_wp2
          go_round
          case rel => exact ⟨k + 1, by go_num, by omega⟩
          case measure => simp [intOf]; omega
    · go_wp2
      go_ret
      exact ⟨rfl, B_w14⟩
end Go.Proofs.Ytckihflfjecpbaa
