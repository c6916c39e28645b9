import Derived.Test.YtckihflfjecpbaaW37
namespace Go.Proofs.Ytckihflfjecpbaa
open Go.RowKit
set_option maxHeartbeats 1000000
set_option maxRecDepth 100000
theorem impl_ThinCurve (A : Option Addr) (n c : Nat) (xs : List (Int × Int)) (w : World) (hx : RA pt 2 w w.heap.size A n xs) (hn : n ≤ 1000000000) :
    Calls Try.prog 42 #[.agg #[.slice A n c]] w (RetC 34 w (M.thinR xs)) := by
  have hl := Lib.hid hx.len
  have hb2 : Below w.heap.size w ((w.alloc (.cells #[.slice A n c] 30)).alloc (.cells #[.slice none 0 0] 30)) := ((Below.refl _ _).alloc (Nat.le_refl _) _).alloc (by simp) _
  have hx1 := hx.later hb2
  have hself : ((w.alloc (.cells #[.slice A n c] 30)).alloc (.cells #[.slice none 0 0] 30)).cell? ⟨w.heap.size, 0, none⟩ = some (.slice A n c) := by simp [go_sem]
  cases hok : M.curveOk xs
  · have hr := Lib.hid (show M.thinR xs = ([], 1) by rw [M.thinR, hok]; rfl)
    go_enter Try.func42, Try.ntmps42
    go_wp2_with (go_at_call 74; refine (impl_isCurve _ _ _ _ _ hx1 hn).mono ?_; rw [hok]; rintro e w2 ⟨rfl, bel2⟩; have hq : w2.cell? ⟨w.heap.size + 1, 0, none⟩ = some (.slice none 0 0) := (by rw [bel2.cell (by simp)]; simp [go_sem]); have hf : w2.frozen? ⟨w.heap.size + 1, 0, none⟩ = false := (by rw [bel2.frozen (by simp)]; simp [go_sem]))
    refine bodyPost_ret (v := .tuple #[.agg #[.slice none 0 0], .int .i64 1]) (by simp [results, Try.results42, go_sem, hq, hf]) rfl ?_
    rw [hr.out]
    exact ⟨_, rfl, OA.nil _, (hb2.trans (bel2.mono hb2.size)).setCell (by simp) _⟩
  · have hr := Lib.hid (show M.thinR xs = (M.thinGo xs 0, 0) by rw [M.thinR, hok]; rfl)
    have H0 := Lib.hid (show M.thinIn xs xs 0 from ⟨hok, rfl, rfl⟩)
    go_enter Try.func42, Try.ntmps42
    go_wp2_with (first | (go_at_call 74; refine (impl_isCurve _ _ _ _ _ hx1 hn).mono ?_; rw [hok]; rintro e w2 ⟨rfl, bel2⟩; have hq : w2.cell? ⟨w.heap.size + 1, 0, none⟩ = some (.slice none 0 0) := (by rw [bel2.cell (by simp)]; simp [go_sem]); have hf : w2.frozen? ⟨w.heap.size + 1, 0, none⟩ = false := (by rw [bel2.frozen (by simp)]; simp [go_sem]); have hv2 : w2.cell? ⟨w.heap.size, 0, none⟩ = some (.slice A n c) := (by rw [bel2.cell (by simp; omega)]; exact hself); have hs2 : w.heap.size + 1 + 1 ≤ w2.heap.size := (by have := bel2.size; simpa using this); have B2 := hb2.trans (bel2.mono hb2.size)) | (go_at_call 89; refine (slices_Clone_impl_CurvePoint_impl_CurvePoint _ _ _ _ _ (hx.later B2) hn).mono ?_; rintro e w3 ⟨v3, rfl, own3, bel3⟩; obtain ⟨A3, c3, rfl, -⟩ := own3.shape; have s3 := bel3.size; have hv3 : w3.cell? ⟨w.heap.size, 0, none⟩ = some (.slice A n c) := (by rw [bel3.cell (by simp; omega)]; exact hv2); have hz3 : w.heap.size < w3.heap.size := (by omega); have B3 := bel_trans B2 bel3; have hbo : Below w3.heap.size w3 (w3.alloc (.cells #[.slice A3 xs.length c3] 30)) := (Below.refl _ _).alloc (Nat.le_refl _) _) | (go_at_call 86; refine (impl_renderCurve _ _ _ 4001 _ _ (hx.later (bel_trans B3 hbo)) hok (by omega)).mono ?_; rintro e w4 ⟨v4, rfl, own4, bel4⟩; obtain ⟨A4, c4, rfl, ri4⟩ := own4.shape; have ox4 := (OX.of_own own4); rw [M.rend_len] at ri4 ox4 ⊢; have s4 : w3.heap.size + 1 ≤ w4.heap.size := (by have := bel4.size; simpa using this)))
    have co : w4.cell? ⟨w3.heap.size, 0, none⟩ = some (.slice A3 xs.length c3) := by rw [bel4.cell (by simp)]; simp [go_sem]
    have cf : w4.frozen? ⟨w3.heap.size, 0, none⟩ = false := by rw [bel4.frozen (by simp)]; simp [go_sem]
    have own5 := ((own3.below hbo (Nat.le_refl _)).below bel4 (by simp))
    have hq4 : w4.cell? ⟨w.heap.size + 1, 0, none⟩ = some (.slice none 0 0) := by rw [bel4.cell (by simp; omega), hbo.cell (by simp; omega), bel3.cell (by simp; omega)]; exact hq
    have hf4 : w4.frozen? ⟨w.heap.size + 1, 0, none⟩ = false := by rw [bel4.frozen (by simp; omega), hbo.frozen (by simp; omega), bel3.frozen (by simp; omega)]; exact hf
    have ox5 := ox4.wide (lo' := w3.heap.size + 1) (by simp) (Nat.le_refl _)
    have B4 := bel_trans (bel_trans B3 hbo) bel4
    have hrl := Lib.hid (M.rend_len xs 4001)
    clear hx1 hb2 hself bel2 bel3 own3 hbo bel4 own4 ox4 ri4 hv2 hv3 hq hf hok B2 B3
    go_loopw [6] (fun i wr => ∃ k : Nat, i = .int .i64 k ∧ (∃ cur A5 c5 lo hi, wr.cell? ⟨w3.heap.size, 0, none⟩ = some (.slice A5 cur.length c5) ∧ Hid (M.thinIn xs cur k) ∧ OA pt 34 2 lo hi wr (.slice A5 cur.length c5) cur ∧ k ≤ cur.length ∧ w2.heap.size ≤ lo ∧ hi ≤ wr.heap.size ∧ (hi ≤ w3.heap.size ∨ w3.heap.size < lo)) ∧ wr.frozen? ⟨w3.heap.size, 0, none⟩ = false ∧ Mid w3.heap.size (w3.heap.size + 1) w4 wr)
      (fun i wr => lenAt wr ⟨w3.heap.size, 0, none⟩ * 100 - (intOf i).toNat)
    case atStart => exact ⟨0, rfl, ⟨xs, A3, c3, _, _, co, H0, own5, by omega, Nat.le_refl _, by omega, .inl (Nat.le_refl _)⟩, cf, Mid.refl _ _ _⟩
    case round =>
      clear co cf own5
      obtain ⟨k, rfl, ⟨cur, A5, c5, lo, hi, co, H, own, hk, hlo, hhi, hd⟩, cf, hmid⟩ := hrel
      have hl5 := (M.curve_len H.out.1).2
      have hsb := hmid.size
      have hm0 := lenAt_eq co
      have hm0' := Lib.hid hm0
      clear hm0
      have y3 : w3.heap.size < wr.heap.size := by omega
      by_cases hlt : k < cur.length
      · by_cases h1 : 1 < cur.length
        · have hcl : M.curveOk (M.dropP cur k) = true := M.dropP_ok H.out.1 hlt h1
          have hcl' := Lib.hid hcl
          clear hcl
          have oxr := ox5.mid hmid (.inr (Nat.le_refl _)) (Nat.le_refl _)
          have hriW : RI wr wr.heap.size A4 4001 (M.rend xs 4001) := oxr.reads
          cases hid : M.idle cur k
          · have hne := Lib.hid (show ¬ M.rend (M.dropP cur k) 4001 = M.rend xs 4001 by
              intro e
              rw [M.idle, decide_eq_true h1, Bool.true_and, decide_eq_false_iff_not, H.out.2.2] at hid
              exact hid e)
            have H2 := Lib.hid (M.thinIn_no H.out hlt hid)
            clear hid
            go_wp2_with (first | (go_at_call 83; refine (impl_Curve_without _ _ _ _ _ _ own.ra (by omega) hlt).mono ?_; rintro e w6 ⟨v6, rfl, own6, bel6⟩; obtain ⟨A6, c6, rfl, -⟩ := own6.shape; have ra6 := own6.ra; have s6 := bel6.size; have co6 : w6.cell? ⟨w3.heap.size, 0, none⟩ = some (.slice A5 cur.length c5) := (by rw [bel6.cell (by simpa using y3)]; exact co); have cf6 : w6.frozen? ⟨w3.heap.size, 0, none⟩ = false := (by rw [bel6.frozen (by simpa using y3)]; exact cf); have y6 : w3.heap.size < w6.heap.size := (by omega); have hbl : Below w6.heap.size w6 (w6.alloc (.cells #[.slice A6 (M.dropP cur k).length c6] 30)) := (Below.refl _ _).alloc (Nat.le_refl _) _) | (go_at_call 86; refine (impl_renderCurve _ _ _ 4001 _ _ (ra6.later hbl) hcl'.out (by omega)).mono ?_; rintro e w7 ⟨v7, rfl, own7, bel7⟩; obtain ⟨A7, c7, rfl, ri7⟩ := own7.shape; rw [M.rend_len] at ri7 ⊢; have s7 : w6.heap.size + 1 ≤ w7.heap.size := (by have := bel7.size; simpa using this); have y7 : w3.heap.size < w7.heap.size := (by omega); have cl7 : w7.cell? ⟨w6.heap.size, 0, none⟩ = some (.slice A6 (M.dropP cur k).length c6) := (by rw [bel7.cell (by simp)]; simp [go_sem]); have ri8 := hriW.later (bel_trans (bel_trans bel6 hbl) bel7)) | (go_at_call 100; refine (impl_same _ _ _ _ _ _ _ _ _ ri7 ri8 (by omega)).mono ?_; rw [decide_eq_false hne.out]; rintro e w8 ⟨rfl, bel8⟩; have s8 := bel8.size; have G8 := bel_trans (bel_trans (bel_trans bel6 hbl) bel7) bel8; have co8 : w8.cell? ⟨w3.heap.size, 0, none⟩ = some (.slice A5 cur.length c5) := (by rw [G8.cell (by simpa using y3)]; exact co); have cf8 : w8.frozen? ⟨w3.heap.size, 0, none⟩ = false := (by rw [G8.frozen (by simpa using y3)]; exact cf); have cl8 : w8.cell? ⟨w6.heap.size, 0, none⟩ = some (.slice A6 (M.dropP cur k).length c6) := (by rw [bel8.cell (by simp; omega)]; exact cl7)))
            go_roundw
            case rel => exact ⟨k + 1, by go_num, ⟨cur, A5, c5, lo, hi, co8, H2, own.below G8 hhi, by omega, hlo, by omega, hd⟩, cf8, hmid.trans (Mid.of_below G8 _ _)⟩
            case measure =>
              have e1 := hm0'.out
              have e2 := lenAt_eq co8
              simp only [intOf, e1, e2]
              omega
          · have hye := Lib.hid (M.idle_rend hid)
            have H2 := Lib.hid (M.thinIn_yes H.out hlt hid)
            have hdl := Lib.hid (M.dropP_len cur hlt)
            have hrr := Lib.hid H.out.2.2
            clear hid
            go_wp2_with (first | (go_at_call 83; refine (impl_Curve_without _ _ _ _ _ _ own.ra (by omega) hlt).mono ?_; rintro e w6 ⟨v6, rfl, own6, bel6⟩; obtain ⟨A6, c6, rfl, -⟩ := own6.shape; have ra6 := own6.ra; have s6 := bel6.size; have co6 : w6.cell? ⟨w3.heap.size, 0, none⟩ = some (.slice A5 cur.length c5) := (by rw [bel6.cell (by simpa using y3)]; exact co); have cf6 : w6.frozen? ⟨w3.heap.size, 0, none⟩ = false := (by rw [bel6.frozen (by simpa using y3)]; exact cf); have y6 : w3.heap.size < w6.heap.size := (by omega); have hbl : Below w6.heap.size w6 (w6.alloc (.cells #[.slice A6 (M.dropP cur k).length c6] 30)) := (Below.refl _ _).alloc (Nat.le_refl _) _) | (go_at_call 86; refine (impl_renderCurve _ _ _ 4001 _ _ (ra6.later hbl) hcl'.out (by omega)).mono ?_; rintro e w7 ⟨v7, rfl, own7, bel7⟩; obtain ⟨A7, c7, rfl, ri7⟩ := own7.shape; rw [M.rend_len] at ri7 ⊢; have s7 : w6.heap.size + 1 ≤ w7.heap.size := (by have := bel7.size; simpa using this); have y7 : w3.heap.size < w7.heap.size := (by omega); have cl7 : w7.cell? ⟨w6.heap.size, 0, none⟩ = some (.slice A6 (M.dropP cur k).length c6) := (by rw [bel7.cell (by simp)]; simp [go_sem]); have ri8 := hriW.later (bel_trans (bel_trans bel6 hbl) bel7)) | (go_at_call 100; refine (impl_same _ _ _ _ _ _ _ _ _ ri7 ri8 (by omega)).mono ?_; rw [decide_eq_true (hye.out.trans hrr.out)]; rintro e w8 ⟨rfl, bel8⟩; have s8 := bel8.size; have G8 := bel_trans (bel_trans (bel_trans bel6 hbl) bel7) bel8; have co8 : w8.cell? ⟨w3.heap.size, 0, none⟩ = some (.slice A5 cur.length c5) := (by rw [G8.cell (by simpa using y3)]; exact co); have cf8 : w8.frozen? ⟨w3.heap.size, 0, none⟩ = false := (by rw [G8.frozen (by simpa using y3)]; exact cf); have cl8 : w8.cell? ⟨w6.heap.size, 0, none⟩ = some (.slice A6 (M.dropP cur k).length c6) := (by rw [bel8.cell (by simp; omega)]; exact cl7)))
            go_roundw
            case rel =>
              have y8 : w3.heap.size < w8.heap.size := by omega
              have own9 := (((own6.below hbl (Nat.le_refl _)).below bel7 (by simp)).below bel8 (by omega))
              refine ⟨0, rfl, ⟨M.dropP cur k, A6, c6, wr.heap.size, w6.heap.size, by simp [go_sem, *], H2, own9.mid (Mid.cell w8 w3.heap.size 0 (.slice A6 (M.dropP cur k).length c6)) (.inr (by omega)) (by omega), by omega, by omega, by simp; omega, .inr (by omega)⟩, by simp [go_sem, *], (hmid.trans (Mid.of_below G8 _ _)).trans (Mid.cell w8 w3.heap.size 0 (.slice A6 (M.dropP cur k).length c6))⟩
            case measure =>
              have e1 := hm0'.out
              have e2 : lenAt (w8.setCell ⟨w3.heap.size, 0, none⟩ (.slice A6 (M.dropP cur k).length c6)) ⟨w3.heap.size, 0, none⟩ = (M.dropP cur k).length := lenAt_eq (A := A6) (c := c6) (by simp [go_sem, *])
              have e3 := hdl.out
              simp only [intOf, e1, e2]
              omega
        · have hd1 : decide (1 < cur.length) = false := by simpa using h1
          have hfin := Lib.hid (show M.thinGo xs 0 = cur by rw [← H.out.2.1]; exact M.thin_one (by omega))
          have kq : wr.cell? ⟨w.heap.size + 1, 0, none⟩ = some (.slice none 0 0) := by rw [World.cell?_of_block (hmid.block _ (by simp; omega) (.inl (by simp; omega)))]; exact hq4
          have kf : wr.frozen? ⟨w.heap.size + 1, 0, none⟩ = false := by rw [World.frozen?_of_block (hmid.block _ (by simp; omega) (.inl (by simp; omega)))]; exact hf4
          go_wp2
          refine bodyPost_ret (v := .tuple #[.agg #[.slice A5 cur.length c5], .int .i64 0]) (by simp [results, Try.results42, go_sem, kq, kf]) rfl ?_
          rw [hr.out, hfin.out]
          exact ⟨_, rfl, (own.mid (Mid.cell wr (w.heap.size + 1) 0 (.slice A5 cur.length c5)) (.inr (by omega)) hhi).wide (by omega) (by simpa using hhi), (B4.trans ((hmid.toBelow (by omega)).mono (by omega))).setCell (by simp) _⟩
      · have hfin := Lib.hid (show M.thinGo xs 0 = cur by rw [← H.out.2.1]; exact M.thin_end hlt)
        have kq : wr.cell? ⟨w.heap.size + 1, 0, none⟩ = some (.slice none 0 0) := by rw [World.cell?_of_block (hmid.block _ (by simp; omega) (.inl (by simp; omega)))]; exact hq4
        have kf : wr.frozen? ⟨w.heap.size + 1, 0, none⟩ = false := by rw [World.frozen?_of_block (hmid.block _ (by simp; omega) (.inl (by simp; omega)))]; exact hf4
        go_wp2
        refine bodyPost_ret (v := .tuple #[.agg #[.slice A5 cur.length c5], .int .i64 0]) (by simp [results, Try.results42, go_sem, kq, kf]) rfl ?_
        rw [hr.out, hfin.out]
        exact ⟨_, rfl, (own.mid (Mid.cell wr (w.heap.size + 1) 0 (.slice A5 cur.length c5)) (.inr (by omega)) hhi).wide (by omega) (by simpa using hhi), (B4.trans ((hmid.toBelow (by omega)).mono (by omega))).setCell (by simp) _⟩
end Go.Proofs.Ytckihflfjecpbaa
