import Derived.Test.YtckihflfjecpbaaW6A
import Derived.Deep.RegionHeld3
namespace Go.Proofs.Ytckihflfjecpbaa
open Go.RowKit
set_option maxHeartbeats 2000000
set_option maxRecDepth 100000
theorem spec_l23Change (vb : Nat) (A : Option Addr) (n c : Nat) (xs : List Clip) (k : Nat) (x0 x1 x2 x3 x4 : Int) (w : World) (hv0 : w.cell? ⟨vb, 0, none⟩ = some (.slice A n c)) (hx : RA cl 5 w w.heap.size A n xs) (hn : n ≤ 12) (hk : k < n) (hc : n ≤ c) (hm : c ≤ maxLen) (hso : M.sortT xs) :
    Calls Try.prog 114 #[.pointer (some ⟨vb, 0, none⟩), .int .i64 k, .agg #[.int .i64 x0, .int .i64 x1, .int .i64 x2, .int .i64 x3, .int .i64 x4]] w (RetT 78 w (M.chgR xs k (x0, x1, x2, x3, x4))) := by
  have hl := Lib.hid hx.len
  have hvb : vb < w.heap.size := World.block_lt_of_cell? w _ hv0
  have hb2 : Below w.heap.size w ((w.alloc (.cells #[.int .i64 x0, .int .i64 x1, .int .i64 x2, .int .i64 x3, .int .i64 x4] 78)).alloc (.cells #[.slice none 0 0] 65)) := ((Below.refl _ _).alloc (Nat.le_refl _) _).alloc (by simp) _
  have hs1 : ((w.alloc (.cells #[.int .i64 x0, .int .i64 x1, .int .i64 x2, .int .i64 x3, .int .i64 x4] 78)).alloc (.cells #[.slice none 0 0] 65)).heap.size = w.heap.size + 1 + 1 := by simp
  have g0 : ((w.alloc (.cells #[.int .i64 x0, .int .i64 x1, .int .i64 x2, .int .i64 x3, .int .i64 x4] 78)).alloc (.cells #[.slice none 0 0] 65)).cell? ⟨w.heap.size, 0, none⟩ = some (.int .i64 x0) := by simp [go_sem]
  have g1 : ((w.alloc (.cells #[.int .i64 x0, .int .i64 x1, .int .i64 x2, .int .i64 x3, .int .i64 x4] 78)).alloc (.cells #[.slice none 0 0] 65)).cell? ⟨w.heap.size, 1, none⟩ = some (.int .i64 x1) := by simp [go_sem]
  have g2 : ((w.alloc (.cells #[.int .i64 x0, .int .i64 x1, .int .i64 x2, .int .i64 x3, .int .i64 x4] 78)).alloc (.cells #[.slice none 0 0] 65)).cell? ⟨w.heap.size, 2, none⟩ = some (.int .i64 x2) := by simp [go_sem]
  have g3 : ((w.alloc (.cells #[.int .i64 x0, .int .i64 x1, .int .i64 x2, .int .i64 x3, .int .i64 x4] 78)).alloc (.cells #[.slice none 0 0] 65)).cell? ⟨w.heap.size, 3, none⟩ = some (.int .i64 x3) := by simp [go_sem]
  have g4 : ((w.alloc (.cells #[.int .i64 x0, .int .i64 x1, .int .i64 x2, .int .i64 x3, .int .i64 x4] 78)).alloc (.cells #[.slice none 0 0] 65)).cell? ⟨w.heap.size, 4, none⟩ = some (.int .i64 x4) := by simp [go_sem]
  have CLIP := Lib.hid (spec_l23Clip w.heap.size 0 (x0, x1, x2, x3, x4) ((w.alloc (.cells #[.int .i64 x0, .int .i64 x1, .int .i64 x2, .int .i64 x3, .int .i64 x4] 78)).alloc (.cells #[.slice none 0 0] 65)) g0 g1 g2 g3 g4)
  have HSO := Lib.hid (M.drop_sort hso (by rw [hl.out]; exact hk))
  have hdl := M.dropP_len xs (k := k) (by rw [hl.out]; exact hk)
  rw [hl.out] at hdl
  have HDL := Lib.hid hdl
  clear hdl hso
  cases hcl : M.clipOk (x0, x1, x2, x3, x4)
  all_goals
    go_enter Try.func114, Try.ntmps114
    go_wp2_with fail
    refine (CLIP.out).mono ?_
    rw [hcl]
    rintro e w2 ⟨rfl, m, hm2⟩
    have bel2 : Below ((w.alloc (.cells #[.int .i64 x0, .int .i64 x1, .int .i64 x2, .int .i64 x3, .int .i64 x4] 78)).alloc (.cells #[.slice none 0 0] 65)).heap.size ((w.alloc (.cells #[.int .i64 x0, .int .i64 x1, .int .i64 x2, .int .i64 x3, .int .i64 x4] 78)).alloc (.cells #[.slice none 0 0] 65)) w2 := by rw [hm2]; exact below_drewN (Below.refl _ _) m
    have B2 := bel_trans hb2 bel2
    have s2 := bel2.size
    rw [hs1] at s2
    have hq : w2.cell? ⟨w.heap.size + 1, 0, none⟩ = some (.slice none 0 0) := by rw [bel2.cell (by simp)]; simp [go_sem]
    have hf : w2.frozen? ⟨w.heap.size + 1, 0, none⟩ = false := by rw [bel2.frozen (by simp)]; simp [go_sem]
    have hv2 : w2.cell? ⟨vb, 0, none⟩ = some (.slice A n c) := by rw [B2.cell (by simpa using hvb)]; exact hv0
    have e0 : w2.cell? ⟨w.heap.size, 0, none⟩ = some (.int .i64 x0) := by rw [bel2.cell (by rw [hs1]; simp; omega)]; exact g0
    have e1 : w2.cell? ⟨w.heap.size, 1, none⟩ = some (.int .i64 x1) := by rw [bel2.cell (by rw [hs1]; simp; omega)]; exact g1
    have e2 : w2.cell? ⟨w.heap.size, 2, none⟩ = some (.int .i64 x2) := by rw [bel2.cell (by rw [hs1]; simp; omega)]; exact g2
    have e3 : w2.cell? ⟨w.heap.size, 3, none⟩ = some (.int .i64 x3) := by rw [bel2.cell (by rw [hs1]; simp; omega)]; exact g3
    have e4 : w2.cell? ⟨w.heap.size, 4, none⟩ = some (.int .i64 x4) := by rw [bel2.cell (by rw [hs1]; simp; omega)]; exact g4
    clear hm2 g0 g1 g2 g3 g4 hs1 CLIP bel2
  · have hr := Lib.hid (show M.chgR xs k (x0, x1, x2, x3, x4) = ([], 2) by rw [M.chgR, hcl]; rfl)
    go_wp2
    refine bodyPost_ret (v := .tuple #[.agg #[.slice none 0 0], .int .i64 2]) (by simp [results, Try.results114, go_sem, hq, hf]) rfl ?_
    rw [hr.out]
    exact ⟨_, rfl, OA.nil _, B2.setCell (by simp) _⟩
  · have hr := Lib.hid (show M.chgR xs k (x0, x1, x2, x3, x4) = (M.putP (M.dropP xs k) (x0, x1, x2, x3, x4), 0) by rw [M.chgR, hcl]; rfl)
    clear hcl
    have l0 : vb < w2.heap.size := by omega
    have l1 : w.heap.size < w2.heap.size := by omega
    have l2 : w.heap.size + 1 < w2.heap.size := by omega
    have D1 : Below w2.heap.size w2 (w2.drewN 1) := below_drewN (Below.refl _ _) 1
    have hxd := hx.later (bel_trans B2 D1)
    have hn2 : n ≤ 1000000000 := by omega
    go_wp2
    go_region_held3 (fun w' => Below w2.heap.size w2 w' ∧ w'.cell? ⟨vb, 0, none⟩ = some (.slice A n c) ∧ w'.cell? ⟨w.heap.size, 0, none⟩ = some (.int .i64 x0) ∧ w'.cell? ⟨w.heap.size, 1, none⟩ = some (.int .i64 x1) ∧ w'.cell? ⟨w.heap.size, 2, none⟩ = some (.int .i64 x2) ∧ w'.cell? ⟨w.heap.size, 3, none⟩ = some (.int .i64 x3) ∧ w'.cell? ⟨w.heap.size, 4, none⟩ = some (.int .i64 x4))
      (first | exact ⟨below_drewN (Below.refl _ _) _, hv2, e0, e1, e2, e3, e4⟩ | exact ⟨G4, (by rw [G4.cell (by first | exact l0 | exact l1 | exact l2)]; exact hv2), (by rw [G4.cell (by first | exact l0 | exact l1 | exact l2)]; exact e0), (by rw [G4.cell (by first | exact l0 | exact l1 | exact l2)]; exact e1), (by rw [G4.cell (by first | exact l0 | exact l1 | exact l2)]; exact e2), (by rw [G4.cell (by first | exact l0 | exact l1 | exact l2)]; exact e3), (by rw [G4.cell (by first | exact l0 | exact l1 | exact l2)]; exact e4)⟩ | exact ⟨G3, (by rw [G3.cell (by first | exact l0 | exact l1 | exact l2)]; exact hv2), (by rw [G3.cell (by first | exact l0 | exact l1 | exact l2)]; exact e0), (by rw [G3.cell (by first | exact l0 | exact l1 | exact l2)]; exact e1), (by rw [G3.cell (by first | exact l0 | exact l1 | exact l2)]; exact e2), (by rw [G3.cell (by first | exact l0 | exact l1 | exact l2)]; exact e3), (by rw [G3.cell (by first | exact l0 | exact l1 | exact l2)]; exact e4)⟩)
      (first | (go_at_call 104; refine (spec_l23Drop _ _ _ _ _ _ hxd hn2 hk hc hm).mono ?_; rintro e w3 ⟨v3, rfl, own3, bel3⟩; obtain ⟨A3, c3, rfl, hc3, hm3, -⟩ := own_shape own3.1; have ra3 := own3.ra; have G3 : Below w2.heap.size w2 w3 := bel_trans D1 bel3; have s3 := G3.size) | (go_at_call 143; refine (spec_l23Put _ _ _ _ x0 x1 x2 x3 x4 _ ra3 (by rw [HDL.out]; omega) hc3 hm3 HSO.out).mono ?_; rintro e w4 ⟨v4, rfl, own4, bel4⟩; obtain ⟨A4, c4, rfl, -⟩ := own4.shape; have G4 : Below w2.heap.size w2 w4 := bel_trans' G3 s3 bel4; have s4 := bel4.size))
    have hq4 : w4.cell? ⟨w.heap.size + 1, 0, none⟩ = some (.slice none 0 0) := by rw [G4.cell (by first | exact l0 | exact l1 | exact l2)]; exact hq
    have hf4 : w4.frozen? ⟨w.heap.size + 1, 0, none⟩ = false := by rw [G4.frozen (by first | exact l0 | exact l1 | exact l2)]; exact hf
    go_wp2
    refine bodyPost_ret (v := .tuple #[.agg #[(.slice A4 (M.putP (M.dropP xs k) (x0, x1, x2, x3, x4)).length c4)], .int .i64 0]) (by simp [results, Try.results114, go_sem, hq4, hf4]) rfl ?_
    rw [hr.out]
    exact ⟨_, rfl, (own4.mid (Mid.cell w4 (w.heap.size + 1) 0 (.slice A4 (M.putP (M.dropP xs k) (x0, x1, x2, x3, x4)).length c4)) (.inr (by first | omega | (simp; done) | (simp; omega))) (Nat.le_refl _)).wide (by first | omega | (simp; done) | (simp; omega)) (by simp), (bel_trans B2 G4).setCell (by simp) _⟩
theorem spec_MoveClip (A : Option Addr) (n c : Nat) (xs : List Clip) (k t : Int) (w : World) (hx : RA cl 5 w w.heap.size A n xs) (hn : n ≤ 1000000000) (hc : n ≤ c) (hm : c ≤ maxLen) :
    Calls Try.prog 54 #[.agg #[.slice A n c], .int .i64 k, .int .i64 t] w (RetT 78 w (M.moveR xs k t)) := by
  have hl := Lib.hid hx.len
  have hb2 : Below w.heap.size w ((w.alloc (.cells #[.slice A n c] 65)).alloc (.cells #[.slice none 0 0] 65)) := ((Below.refl _ _).alloc (Nat.le_refl _) _).alloc (by simp) _
  have hx1 := hx.later hb2
  have hself : ((w.alloc (.cells #[.slice A n c] 65)).alloc (.cells #[.slice none 0 0] 65)).cell? ⟨w.heap.size, 0, none⟩ = some (.slice A n c) := by simp [go_sem]
  by_cases hask : M.askT xs k = 0
  · obtain ⟨hok, hk0, hk1, h12⟩ := M.askT_zero hask
    obtain ⟨k, rfl⟩ : ∃ q : Nat, k = q := ⟨k.toNat, by omega⟩
    have hk : k < n := by rw [hl.out] at hk1; omega
    rw [hl.out] at h12
    obtain ⟨b, o, ⟨q0, q1, q2, q3, q4⟩, rfl, hab, X, hcc⟩ := hx.at cl_len (by decide) hk
    have hc0 : w.cell? ⟨b, o + k * 5, none⟩ = some (.int .i64 q0) := hcc 0 _ rfl
    have hc1 : w.cell? ⟨b, o + k * 5 + 1, none⟩ = some (.int .i64 q1) := hcc 1 _ rfl
    have hc2 : w.cell? ⟨b, o + k * 5 + 2, none⟩ = some (.int .i64 q2) := hcc 2 _ rfl
    have hc3 : w.cell? ⟨b, o + k * 5 + 3, none⟩ = some (.int .i64 q3) := hcc 3 _ rfl
    have hc4 : w.cell? ⟨b, o + k * 5 + 4, none⟩ = some (.int .i64 q4) := hcc 4 _ rfl
    have HSO := Lib.hid (M.track_sort hok)
    have hCL := Lib.hid (M.track_clip hok X.out)
    have hB := M.clip_bd5 (M.track_clip hok X.out)
    obtain ⟨-, hB1, hB2, hB3, -⟩ := hB
    have hR := Lib.hid (show M.moveR xs k t = M.chgR xs k (q0, q1, q2, t, q4) by rw [M.moveR, if_pos hask, Int.toNat_natCast, X.out]; rfl)
    have hask' := Lib.hid hask
    clear hask hcc hok
    go_enter Try.func54, Try.ntmps54
    go_wp2_with fail
    refine (spec_l23Ask _ _ _ _ _ _ _ hself hx1 hn).mono ?_
    rw [hask'.out]
    rintro e w2 ⟨rfl, bel2⟩
    have hq : w2.cell? ⟨w.heap.size + 1, 0, none⟩ = some (.slice none 0 0) := by rw [bel2.cell (by simp)]; simp [go_sem]
    have hf : w2.frozen? ⟨w.heap.size + 1, 0, none⟩ = false := by rw [bel2.frozen (by simp)]; simp [go_sem]
    have hs2 : w.heap.size + 1 + 1 ≤ w2.heap.size := by have := bel2.size; simpa using this
    have hv2 : w2.cell? ⟨w.heap.size, 0, none⟩ = some (.slice (some ⟨b, o, none⟩) n c) := by rw [bel2.cell (by simp; omega)]; exact hself
    have B2 := hb2.trans (bel2.mono hb2.size)
    have d0 : w2.cell? ⟨b, o + k * 5, none⟩ = some (.int .i64 q0) := by rw [B2.cell hab]; exact hc0
    have d1 : w2.cell? ⟨b, o + k * 5 + 1, none⟩ = some (.int .i64 q1) := by rw [B2.cell hab]; exact hc1
    have d2 : w2.cell? ⟨b, o + k * 5 + 2, none⟩ = some (.int .i64 q2) := by rw [B2.cell hab]; exact hc2
    have d3 : w2.cell? ⟨b, o + k * 5 + 3, none⟩ = some (.int .i64 q3) := by rw [B2.cell hab]; exact hc3
    have d4 : w2.cell? ⟨b, o + k * 5 + 4, none⟩ = some (.int .i64 q4) := by rw [B2.cell hab]; exact hc4
    have z0 : w.heap.size < w2.heap.size := by omega
    have z1 : w.heap.size + 1 < w2.heap.size := by omega
    have i1 : (0 : Int) ≤ (k : Int) := by omega
    have i2 : (k : Int) < (n : Int) := by omega
    have hbr : b < w2.heap.size := Nat.lt_of_lt_of_le hab B2.size
    clear hc0 hc1 hc2 hc3 hc4 hself hx1 hb2 bel2
    have g3 : Below w2.heap.size w2 (w2.alloc (.cells #[.int .i64 (q0), .int .i64 (q1), .int .i64 (q2), .int .i64 (t), .int .i64 (q4)] 78)) := (Below.refl _ _).alloc (Nat.le_refl _) _
    have s3 : (w2.alloc (.cells #[.int .i64 (q0), .int .i64 (q1), .int .i64 (q2), .int .i64 (t), .int .i64 (q4)] 78)).heap.size = w2.heap.size + 1 := by simp
    have v3 : (w2.alloc (.cells #[.int .i64 (q0), .int .i64 (q1), .int .i64 (q2), .int .i64 (t), .int .i64 (q4)] 78)).cell? ⟨w.heap.size, 0, none⟩ = some (.slice (some ⟨b, o, none⟩) n c) := by rw [g3.cell (by simpa using z0)]; exact hv2
    have B3 := bel_trans B2 g3
    have CH := Lib.hid (spec_l23Change w.heap.size (some ⟨b, o, none⟩) n c xs k (q0) (q1) (q2) (t) (q4) (w2.alloc (.cells #[.int .i64 (q0), .int .i64 (q1), .int .i64 (q2), .int .i64 (t), .int .i64 (q4)] 78)) v3 (hx.later B3) h12 hk hc hm HSO.out)
    go_wp2_with fail
    refine (CH.out).mono ?_
    rintro e w4 ⟨v4, rfl, own4, bel4⟩
    have G4 := bel_trans g3 bel4
    have s4 := bel4.size
    rw [s3] at s4
    have hq4 : w4.cell? ⟨w.heap.size + 1, 0, none⟩ = some (.slice none 0 0) := by rw [G4.cell (by simpa using z1)]; exact hq
    have hf4 : w4.frozen? ⟨w.heap.size + 1, 0, none⟩ = false := by rw [G4.frozen (by simpa using z1)]; exact hf
    obtain ⟨A4, c4, rfl, -⟩ := own4.shape
    go_wp2
    refine bodyPost_ret (v := .tuple #[.agg #[.slice A4 (M.chgR xs k (q0, q1, q2, t, q4)).1.length c4], .int .i64 (M.chgR xs k (q0, q1, q2, t, q4)).2]) (by simp [results, Try.results54, go_sem, hq4, hf4]) rfl ?_
    rw [hR.out]
    exact ⟨_, rfl, (own4.mid (Mid.cell w4 (w.heap.size + 1) 0 _) (.inr (by first | omega | (simp; done) | (simp; omega))) (Nat.le_refl _)).wide (by first | omega | (simp; done) | (simp; omega)) (by simp), (bel_trans B2 G4).setCell (by simp) _⟩
  · have hr := Lib.hid (show M.moveR xs k t = ([], M.askT xs k) by rw [M.moveR, if_neg hask])
    have hne : (M.askT xs k != 0) = true := by simpa using hask
    clear hask
    generalize hq : M.askT xs k = q at *
    have hq' := Lib.hid hq
    clear hq
    go_enter Try.func54, Try.ntmps54
    go_wp2_with (go_at_call 103; refine (spec_l23Ask _ _ _ _ _ _ _ hself hx1 hn).mono ?_; rw [hq'.out]; rintro e w2 ⟨rfl, bel2⟩; have hq : w2.cell? ⟨w.heap.size + 1, 0, none⟩ = some (.slice none 0 0) := (by rw [bel2.cell (by simp)]; simp [go_sem]); have hf : w2.frozen? ⟨w.heap.size + 1, 0, none⟩ = false := (by rw [bel2.frozen (by simp)]; simp [go_sem]); have hs2 : w.heap.size + 1 + 1 ≤ w2.heap.size := (by have := bel2.size; simpa using this); have hv2 : w2.cell? ⟨w.heap.size, 0, none⟩ = some (.slice A n c) := (by rw [bel2.cell (by simp; omega)]; exact hself))
    refine bodyPost_ret (v := .tuple #[.agg #[.slice none 0 0], .int .i64 q]) (by simp [results, Try.results54, go_sem, hq, hf]) rfl ?_
    rw [hr.out]
    exact ⟨_, rfl, OA.nil _, (hb2.trans (bel2.mono hb2.size)).setCell (by simp) _⟩
theorem spec_TrimClip (A : Option Addr) (n c : Nat) (xs : List Clip) (k l r : Int) (w : World) (hx : RA cl 5 w w.heap.size A n xs) (hn : n ≤ 1000000000) (hc : n ≤ c) (hm : c ≤ maxLen) :
    Calls Try.prog 56 #[.agg #[.slice A n c], .int .i64 k, .int .i64 l, .int .i64 r] w (RetT 78 w (M.trimR xs k l r)) := by
  have hl := Lib.hid hx.len
  have hb2 : Below w.heap.size w ((w.alloc (.cells #[.slice A n c] 65)).alloc (.cells #[.slice none 0 0] 65)) := ((Below.refl _ _).alloc (Nat.le_refl _) _).alloc (by simp) _
  have hx1 := hx.later hb2
  have hself : ((w.alloc (.cells #[.slice A n c] 65)).alloc (.cells #[.slice none 0 0] 65)).cell? ⟨w.heap.size, 0, none⟩ = some (.slice A n c) := by simp [go_sem]
  by_cases hask : M.askT xs k = 0
  · obtain ⟨hok, hk0, hk1, h12⟩ := M.askT_zero hask
    obtain ⟨k, rfl⟩ : ∃ q : Nat, k = q := ⟨k.toNat, by omega⟩
    have hk : k < n := by rw [hl.out] at hk1; omega
    rw [hl.out] at h12
    obtain ⟨b, o, ⟨q0, q1, q2, q3, q4⟩, rfl, hab, X, hcc⟩ := hx.at cl_len (by decide) hk
    have hc0 : w.cell? ⟨b, o + k * 5, none⟩ = some (.int .i64 q0) := hcc 0 _ rfl
    have hc1 : w.cell? ⟨b, o + k * 5 + 1, none⟩ = some (.int .i64 q1) := hcc 1 _ rfl
    have hc2 : w.cell? ⟨b, o + k * 5 + 2, none⟩ = some (.int .i64 q2) := hcc 2 _ rfl
    have hc3 : w.cell? ⟨b, o + k * 5 + 3, none⟩ = some (.int .i64 q3) := hcc 3 _ rfl
    have hc4 : w.cell? ⟨b, o + k * 5 + 4, none⟩ = some (.int .i64 q4) := hcc 4 _ rfl
    have HSO := Lib.hid (M.track_sort hok)
    have hCL := Lib.hid (M.track_clip hok X.out)
    have hB := M.clip_bd5 (M.track_clip hok X.out)
    obtain ⟨-, hB1, hB2, hB3, -⟩ := hB
    have hR := Lib.hid (show M.trimR xs k l r = (if M.trimOk q2 l r then M.chgR xs k (q0, q1 + l, q2 - l - r, q3 + l, q4) else ([], 2)) by rw [M.trimR, if_pos hask, Int.toNat_natCast, X.out]; rfl)
    have hask' := Lib.hid hask
    clear hask hcc hok
    go_enter Try.func56, Try.ntmps56
    go_wp2_with fail
    refine (spec_l23Ask _ _ _ _ _ _ _ hself hx1 hn).mono ?_
    rw [hask'.out]
    rintro e w2 ⟨rfl, bel2⟩
    have hq : w2.cell? ⟨w.heap.size + 1, 0, none⟩ = some (.slice none 0 0) := by rw [bel2.cell (by simp)]; simp [go_sem]
    have hf : w2.frozen? ⟨w.heap.size + 1, 0, none⟩ = false := by rw [bel2.frozen (by simp)]; simp [go_sem]
    have hs2 : w.heap.size + 1 + 1 ≤ w2.heap.size := by have := bel2.size; simpa using this
    have hv2 : w2.cell? ⟨w.heap.size, 0, none⟩ = some (.slice (some ⟨b, o, none⟩) n c) := by rw [bel2.cell (by simp; omega)]; exact hself
    have B2 := hb2.trans (bel2.mono hb2.size)
    have d0 : w2.cell? ⟨b, o + k * 5, none⟩ = some (.int .i64 q0) := by rw [B2.cell hab]; exact hc0
    have d1 : w2.cell? ⟨b, o + k * 5 + 1, none⟩ = some (.int .i64 q1) := by rw [B2.cell hab]; exact hc1
    have d2 : w2.cell? ⟨b, o + k * 5 + 2, none⟩ = some (.int .i64 q2) := by rw [B2.cell hab]; exact hc2
    have d3 : w2.cell? ⟨b, o + k * 5 + 3, none⟩ = some (.int .i64 q3) := by rw [B2.cell hab]; exact hc3
    have d4 : w2.cell? ⟨b, o + k * 5 + 4, none⟩ = some (.int .i64 q4) := by rw [B2.cell hab]; exact hc4
    have z0 : w.heap.size < w2.heap.size := by omega
    have z1 : w.heap.size + 1 < w2.heap.size := by omega
    have i1 : (0 : Int) ≤ (k : Int) := by omega
    have i2 : (k : Int) < (n : Int) := by omega
    have hbr : b < w2.heap.size := Nat.lt_of_lt_of_le hab B2.size
    clear hc0 hc1 hc2 hc3 hc4 hself hx1 hb2 bel2
    have z2 : ¬ (w.heap.size + 1 = w2.heap.size) := by omega
    have z3 : ¬ (w2.heap.size = w.heap.size + 1) := by omega
    by_cases hT : M.trimOk q2 l r = true
    · have h0 := hT
      simp only [M.trimOk, Bool.and_eq_true, decide_eq_true_eq] at h0
      obtain ⟨⟨l0, r0⟩, lr⟩ := h0
      have h1 : M.inn l 0 q2 = true := M.inn_iff.2 ⟨by omega, by omega⟩
      have h2 : M.inn r 0 q2 = true := M.inn_iff.2 ⟨by omega, by omega⟩
      have hR2 := Lib.hid (show M.trimR xs k l r = M.chgR xs k (q0, q1 + l, q2 - (l + r), q3 + l, q4) by rw [hR.out, if_pos hT, Int.sub_sub])
      clear hT
      have g3 : Below w2.heap.size w2 (w2.alloc (.cells #[.int .i64 (q0), .int .i64 (q1 + l), .int .i64 (q2 - (l + r)), .int .i64 (q3 + l), .int .i64 (q4)] 78)) := (Below.refl _ _).alloc (Nat.le_refl _) _
      have s3 : (w2.alloc (.cells #[.int .i64 (q0), .int .i64 (q1 + l), .int .i64 (q2 - (l + r)), .int .i64 (q3 + l), .int .i64 (q4)] 78)).heap.size = w2.heap.size + 1 := by simp
      have v3 : (w2.alloc (.cells #[.int .i64 (q0), .int .i64 (q1 + l), .int .i64 (q2 - (l + r)), .int .i64 (q3 + l), .int .i64 (q4)] 78)).cell? ⟨w.heap.size, 0, none⟩ = some (.slice (some ⟨b, o, none⟩) n c) := by rw [g3.cell (by simpa using z0)]; exact hv2
      have B3 := bel_trans B2 g3
      have CH := Lib.hid (spec_l23Change w.heap.size (some ⟨b, o, none⟩) n c xs k (q0) (q1 + l) (q2 - (l + r)) (q3 + l) (q4) (w2.alloc (.cells #[.int .i64 (q0), .int .i64 (q1 + l), .int .i64 (q2 - (l + r)), .int .i64 (q3 + l), .int .i64 (q4)] 78)) v3 (hx.later B3) h12 hk hc hm HSO.out)
      go_wp2_with (go_at_call 79; refine (spec_l00In _ _ _ _).mono ?_; (first | rw [h1] | rw [h2]); rintro e w' ⟨rfl, rfl⟩)
      refine (CH.out).mono ?_
      rintro e w4 ⟨v4, rfl, own4, bel4⟩
      have G4 := bel_trans g3 bel4
      have s4 := bel4.size
      rw [s3] at s4
      have hq4 : w4.cell? ⟨w.heap.size + 1, 0, none⟩ = some (.slice none 0 0) := by rw [G4.cell (by simpa using z1)]; exact hq
      have hf4 : w4.frozen? ⟨w.heap.size + 1, 0, none⟩ = false := by rw [G4.frozen (by simpa using z1)]; exact hf
      obtain ⟨A4, c4, rfl, -⟩ := own4.shape
      go_wp2
      refine bodyPost_ret (v := .tuple #[.agg #[.slice A4 (M.chgR xs k (q0, q1 + l, q2 - (l + r), q3 + l, q4)).1.length c4], .int .i64 (M.chgR xs k (q0, q1 + l, q2 - (l + r), q3 + l, q4)).2]) (by simp [results, Try.results56, go_sem, hq4, hf4]) rfl ?_
      rw [hR2.out]
      exact ⟨_, rfl, (own4.mid (Mid.cell w4 (w.heap.size + 1) 0 _) (.inr (by first | omega | (simp; done) | (simp; omega))) (Nat.le_refl _)).wide (by first | omega | (simp; done) | (simp; omega)) (by simp), (bel_trans B2 G4).setCell (by simp) _⟩
    · have hr := Lib.hid (show M.trimR xs k l r = ([], 2) by rw [hR.out, if_neg hT])
      cases h1 : M.inn l 0 q2
      · go_wp2_with (go_at_call 79; refine (spec_l00In _ _ _ _).mono ?_; (first | rw [h1] | rw [h2]); rintro e w' ⟨rfl, rfl⟩)
        refine bodyPost_ret (v := .tuple #[.agg #[.slice none 0 0], .int .i64 2]) (by simp [results, Try.results56, go_sem, hq, hf, z1, z2, z3]) rfl ?_
        rw [hr.out]
        exact ⟨_, rfl, OA.nil _, (B2.setCell (by simp) _).alloc (by simp; omega) _⟩
      · have l0 := M.inn_iff.1 h1
        cases h2 : M.inn r 0 q2
        · go_wp2_with (go_at_call 79; refine (spec_l00In _ _ _ _).mono ?_; (first | rw [h1] | rw [h2]); rintro e w' ⟨rfl, rfl⟩)
          refine bodyPost_ret (v := .tuple #[.agg #[.slice none 0 0], .int .i64 2]) (by simp [results, Try.results56, go_sem, hq, hf, z1, z2, z3]) rfl ?_
          rw [hr.out]
          exact ⟨_, rfl, OA.nil _, (B2.setCell (by simp) _).alloc (by simp; omega) _⟩
        · have r0 := M.inn_iff.1 h2
          have lr : q2 ≤ l + r := by
            simp only [M.trimOk, Bool.and_eq_true, decide_eq_true_eq] at hT
            omega
          clear hT
          go_wp2_with (go_at_call 79; refine (spec_l00In _ _ _ _).mono ?_; (first | rw [h1] | rw [h2]); rintro e w' ⟨rfl, rfl⟩)
          refine bodyPost_ret (v := .tuple #[.agg #[.slice none 0 0], .int .i64 2]) (by simp [results, Try.results56, go_sem, hq, hf, z1, z2, z3]) rfl ?_
          rw [hr.out]
          exact ⟨_, rfl, OA.nil _, (B2.setCell (by simp) _).alloc (by simp; omega) _⟩
  · have hr := Lib.hid (show M.trimR xs k l r = ([], M.askT xs k) by rw [M.trimR, if_neg hask])
    have hne : (M.askT xs k != 0) = true := by simpa using hask
    clear hask
    generalize hq : M.askT xs k = q at *
    have hq' := Lib.hid hq
    clear hq
    go_enter Try.func56, Try.ntmps56
    go_wp2_with (go_at_call 103; refine (spec_l23Ask _ _ _ _ _ _ _ hself hx1 hn).mono ?_; rw [hq'.out]; rintro e w2 ⟨rfl, bel2⟩; have hq : w2.cell? ⟨w.heap.size + 1, 0, none⟩ = some (.slice none 0 0) := (by rw [bel2.cell (by simp)]; simp [go_sem]); have hf : w2.frozen? ⟨w.heap.size + 1, 0, none⟩ = false := (by rw [bel2.frozen (by simp)]; simp [go_sem]); have hs2 : w.heap.size + 1 + 1 ≤ w2.heap.size := (by have := bel2.size; simpa using this); have hv2 : w2.cell? ⟨w.heap.size, 0, none⟩ = some (.slice A n c) := (by rw [bel2.cell (by simp; omega)]; exact hself))
    refine bodyPost_ret (v := .tuple #[.agg #[.slice none 0 0], .int .i64 q]) (by simp [results, Try.results56, go_sem, hq, hf]) rfl ?_
    rw [hr.out]
    exact ⟨_, rfl, OA.nil _, (hb2.trans (bel2.mono hb2.size)).setCell (by simp) _⟩
end Go.Proofs.Ytckihflfjecpbaa
