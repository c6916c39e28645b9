import Derived.Test.YtckihflfjecpbaaW33
namespace Go.Proofs.Ytckihflfjecpbaa
open Go.RowKit
set_option maxHeartbeats 400000
set_option maxRecDepth 100000
theorem impl_DropPoint (A : Option Addr) (n c : Nat) (xs : List (Int × Int)) (k : Int) (w : World) (hx : RA pt 2 w w.heap.size A n xs) (hn : n ≤ 1000000000) (hc : n ≤ c) (hm : c ≤ maxLen) :
    Calls Try.prog 26 #[.agg #[.slice A n c], .int .i64 k] w (RetC 34 w (M.dropR xs k)) := by
  have hl := Lib.hid hx.len
  have hb2 : Below w.heap.size w ((w.alloc (.cells #[.slice A n c] 30)).alloc (.cells #[.slice none 0 0] 30)) := ((Below.refl _ _).alloc (Nat.le_refl _) _).alloc (by simp) _
  have hx1 := hx.later hb2
  have hself : ((w.alloc (.cells #[.slice A n c] 30)).alloc (.cells #[.slice none 0 0] 30)).cell? ⟨w.heap.size, 0, none⟩ = some (.slice A n c) := by simp [go_sem]
  cases hok : M.curveOk xs
  · have hr := Lib.hid (show M.dropR xs k = ([], 1) by rw [M.dropR, hok]; rfl)
    go_enter Try.func26, Try.ntmps26
    go_wp2_with (go_at_call 74; refine (impl_isCurve _ _ _ _ _ hx1 hn).mono ?_; rw [hok]; rintro e w2 ⟨rfl, bel2⟩; have hq : w2.cell? ⟨w.heap.size + 1, 0, none⟩ = some (.slice none 0 0) := (by rw [bel2.cell (by simp)]; simp [go_sem]); have hf : w2.frozen? ⟨w.heap.size + 1, 0, none⟩ = false := (by rw [bel2.frozen (by simp)]; simp [go_sem]); have hs2 : w.heap.size + 1 + 1 ≤ w2.heap.size := (by have := bel2.size; simpa using this); have hv2 : w2.cell? ⟨w.heap.size, 0, none⟩ = some (.slice A n c) := (by rw [bel2.cell (by simp; omega)]; exact hself))
    refine bodyPost_ret (v := .tuple #[.agg #[.slice none 0 0], .int .i64 1]) (by simp [results, Try.results26, go_sem, hq, hf]) rfl ?_
    rw [hr.out]
    exact ⟨_, rfl, OA.nil _, (hb2.trans (bel2.mono hb2.size)).setCell (by simp) _⟩
  · cases hin : M.inn k 0 ((n : Int) - 1)
    · have hr := Lib.hid (show M.dropR xs k = ([], 2) by rw [M.dropR, hok, hl.out, hin]; rfl)
      go_enter Try.func26, Try.ntmps26
      go_wp2_with (first | (go_at_call 82; refine (impl_size_impl_CurvePoint _ _ _ _).mono ?_; rintro e w' ⟨rfl, rfl⟩) | (go_at_call 81; refine (impl_within _ _ _ _).mono ?_; rw [hin]; rintro e w' ⟨rfl, rfl⟩) | (go_at_call 74; refine (impl_isCurve _ _ _ _ _ hx1 hn).mono ?_; rw [hok]; rintro e w2 ⟨rfl, bel2⟩; have hq : w2.cell? ⟨w.heap.size + 1, 0, none⟩ = some (.slice none 0 0) := (by rw [bel2.cell (by simp)]; simp [go_sem]); have hf : w2.frozen? ⟨w.heap.size + 1, 0, none⟩ = false := (by rw [bel2.frozen (by simp)]; simp [go_sem]); have hs2 : w.heap.size + 1 + 1 ≤ w2.heap.size := (by have := bel2.size; simpa using this); have hv2 : w2.cell? ⟨w.heap.size, 0, none⟩ = some (.slice A n c) := (by rw [bel2.cell (by simp; omega)]; exact hself)))
      refine bodyPost_ret (v := .tuple #[.agg #[.slice none 0 0], .int .i64 2]) (by simp [results, Try.results26, go_sem, hq, hf]) rfl ?_
      rw [hr.out]
      exact ⟨_, rfl, OA.nil _, (hb2.trans (bel2.mono hb2.size)).setCell (by simp) _⟩
    · have hi := M.inn_iff.1 hin
      obtain ⟨k, rfl⟩ : ∃ q : Nat, k = q := ⟨k.toNat, by omega⟩
      have hk : k < n := by omega
      have hin' := Lib.hid hin
      clear hi
      by_cases h1 : n = 1
      · have hr := Lib.hid (show M.dropR xs k = ([], 6) by rw [M.dropR, hok, hl.out, hin, h1]; rfl)
        have h1b : ((n : Int) == 1) = true := by simp; omega
        clear h1
        go_enter Try.func26, Try.ntmps26
        go_wp2_with (first | (go_at_call 82; refine (impl_size_impl_CurvePoint _ _ _ _).mono ?_; rintro e w' ⟨rfl, rfl⟩) | (go_at_call 81; refine (impl_within _ _ _ _).mono ?_; rw [hin'.out]; rintro e w' ⟨rfl, rfl⟩) | (go_at_call 74; refine (impl_isCurve _ _ _ _ _ hx1 hn).mono ?_; rw [hok]; rintro e w2 ⟨rfl, bel2⟩; have hq : w2.cell? ⟨w.heap.size + 1, 0, none⟩ = some (.slice none 0 0) := (by rw [bel2.cell (by simp)]; simp [go_sem]); have hf : w2.frozen? ⟨w.heap.size + 1, 0, none⟩ = false := (by rw [bel2.frozen (by simp)]; simp [go_sem]); have hs2 : w.heap.size + 1 + 1 ≤ w2.heap.size := (by have := bel2.size; simpa using this); have hv2 : w2.cell? ⟨w.heap.size, 0, none⟩ = some (.slice A n c) := (by rw [bel2.cell (by simp; omega)]; exact hself)))
        refine bodyPost_ret (v := .tuple #[.agg #[.slice none 0 0], .int .i64 6]) (by simp [results, Try.results26, go_sem, hq, hf]) rfl ?_
        rw [hr.out]
        exact ⟨_, rfl, OA.nil _, (hb2.trans (bel2.mono hb2.size)).setCell (by simp) _⟩
      · have hr := Lib.hid (show M.dropR xs k = (M.dropP xs k, 0) by rw [M.dropR, hok, hl.out, hin]; simp [h1])
        have h1b : ((n : Int) == 1) = false := by simp; omega
        clear h1
        go_enter Try.func26, Try.ntmps26
        go_wp2_with (first | (go_at_call 82; refine (impl_size_impl_CurvePoint _ _ _ _).mono ?_; rintro e w' ⟨rfl, rfl⟩) | (go_at_call 81; refine (impl_within _ _ _ _).mono ?_; rw [hin'.out]; rintro e w' ⟨rfl, rfl⟩) | (go_at_call 74; refine (impl_isCurve _ _ _ _ _ hx1 hn).mono ?_; rw [hok]; rintro e w2 ⟨rfl, bel2⟩; have hq : w2.cell? ⟨w.heap.size + 1, 0, none⟩ = some (.slice none 0 0) := (by rw [bel2.cell (by simp)]; simp [go_sem]); have hf : w2.frozen? ⟨w.heap.size + 1, 0, none⟩ = false := (by rw [bel2.frozen (by simp)]; simp [go_sem]); have hs2 : w.heap.size + 1 + 1 ≤ w2.heap.size := (by have := bel2.size; simpa using this); have hv2 : w2.cell? ⟨w.heap.size, 0, none⟩ = some (.slice A n c) := (by rw [bel2.cell (by simp; omega)]; exact hself)) | (go_at_call 83; refine (impl_Curve_without _ _ _ _ _ _ (hx1.later bel2) hn hk).mono ?_; rintro e w3 ⟨v3, rfl, own3, bel3⟩; obtain ⟨A3, c3', rfl, -⟩ := own3.shape; have hq3 : w3.cell? ⟨w.heap.size + 1, 0, none⟩ = some (.slice none 0 0) := (by rw [bel3.cell (by simp; omega)]; exact hq); have hf3 : w3.frozen? ⟨w.heap.size + 1, 0, none⟩ = false := (by rw [bel3.frozen (by simp; omega)]; exact hf)))
        refine bodyPost_ret (v := .tuple #[.agg #[.slice A3 (M.dropP xs k).length c3'], .int .i64 0]) (by simp [results, Try.results26, go_sem, hq3, hf3]) rfl ?_
        rw [hr.out]
        have B3 := hb2.trans (bel2.mono hb2.size)
        exact ⟨_, rfl, (own3.mid (Mid.cell w3 (w.heap.size + 1) 0 (.slice A3 (M.dropP xs k).length c3')) (.inr hs2) (Nat.le_refl _)).wide (by omega) (by simp), (bel_trans B3 bel3).setCell (by simp) _⟩
theorem spec_DropPoint (A : Option Addr) (n c : Nat) (xs : List (Int × Int)) (k : Int) (w : World) (hx : RA pt 2 w w.heap.size A n xs) (hn : n ≤ 1000000000) (hc : n ≤ c) (hm : c ≤ maxLen) :
    Calls Try.prog 25 #[.agg #[.slice A n c], .int .i64 k] w (RetC 34 w (M.dropR xs k)) := by
  have hl := Lib.hid hx.len
  have hb2 : Below w.heap.size w ((w.alloc (.cells #[.slice A n c] 30)).alloc (.cells #[.slice none 0 0] 30)) := ((Below.refl _ _).alloc (Nat.le_refl _) _).alloc (by simp) _
  have hx1 := hx.later hb2
  have hself : ((w.alloc (.cells #[.slice A n c] 30)).alloc (.cells #[.slice none 0 0] 30)).cell? ⟨w.heap.size, 0, none⟩ = some (.slice A n c) := by simp [go_sem]
  cases hok : M.curveOk xs
  · have hr := Lib.hid (show M.dropR xs k = ([], 1) by rw [M.dropR, hok]; rfl)
    go_enter Try.func25, Try.ntmps25
    go_wp2_with (go_at_call 71; refine (spec_l25Ok _ _ _ _ _ _ hself hx1 hn).mono ?_; rw [hok]; rintro e w2 ⟨rfl, bel2⟩; have hq : w2.cell? ⟨w.heap.size + 1, 0, none⟩ = some (.slice none 0 0) := (by rw [bel2.cell (by simp)]; simp [go_sem]); have hf : w2.frozen? ⟨w.heap.size + 1, 0, none⟩ = false := (by rw [bel2.frozen (by simp)]; simp [go_sem]); have hs2 : w.heap.size + 1 + 1 ≤ w2.heap.size := (by have := bel2.size; simpa using this); have hv2 : w2.cell? ⟨w.heap.size, 0, none⟩ = some (.slice A n c) := (by rw [bel2.cell (by simp; omega)]; exact hself))
    refine bodyPost_ret (v := .tuple #[.agg #[.slice none 0 0], .int .i64 1]) (by simp [results, Try.results25, go_sem, hq, hf]) rfl ?_
    rw [hr.out]
    exact ⟨_, rfl, OA.nil _, (hb2.trans (bel2.mono hb2.size)).setCell (by simp) _⟩
  · cases hin : M.inn k 0 ((n : Int) - 1)
    · have hr := Lib.hid (show M.dropR xs k = ([], 2) by rw [M.dropR, hok, hl.out, hin]; rfl)
      go_enter Try.func25, Try.ntmps25
      go_wp2_with (first | (go_at_call 79; refine (spec_l00In _ _ _ _).mono ?_; rw [hin]; rintro e w' ⟨rfl, rfl⟩) | (go_at_call 71; refine (spec_l25Ok _ _ _ _ _ _ hself hx1 hn).mono ?_; rw [hok]; rintro e w2 ⟨rfl, bel2⟩; have hq : w2.cell? ⟨w.heap.size + 1, 0, none⟩ = some (.slice none 0 0) := (by rw [bel2.cell (by simp)]; simp [go_sem]); have hf : w2.frozen? ⟨w.heap.size + 1, 0, none⟩ = false := (by rw [bel2.frozen (by simp)]; simp [go_sem]); have hs2 : w.heap.size + 1 + 1 ≤ w2.heap.size := (by have := bel2.size; simpa using this); have hv2 : w2.cell? ⟨w.heap.size, 0, none⟩ = some (.slice A n c) := (by rw [bel2.cell (by simp; omega)]; exact hself)))
      refine bodyPost_ret (v := .tuple #[.agg #[.slice none 0 0], .int .i64 2]) (by simp [results, Try.results25, go_sem, hq, hf]) rfl ?_
      rw [hr.out]
      exact ⟨_, rfl, OA.nil _, (hb2.trans (bel2.mono hb2.size)).setCell (by simp) _⟩
    · have hi := M.inn_iff.1 hin
      obtain ⟨k, rfl⟩ : ∃ q : Nat, k = q := ⟨k.toNat, by omega⟩
      have hk : k < n := by omega
      have hin' := Lib.hid hin
      clear hi
      by_cases h1 : n = 1
      · have hr := Lib.hid (show M.dropR xs k = ([], 6) by rw [M.dropR, hok, hl.out, hin, h1]; rfl)
        have h1b : ((n : Int) == 1) = true := by simp; omega
        clear h1
        go_enter Try.func25, Try.ntmps25
        go_wp2_with (first | (go_at_call 79; refine (spec_l00In _ _ _ _).mono ?_; rw [hin'.out]; rintro e w' ⟨rfl, rfl⟩) | (go_at_call 71; refine (spec_l25Ok _ _ _ _ _ _ hself hx1 hn).mono ?_; rw [hok]; rintro e w2 ⟨rfl, bel2⟩; have hq : w2.cell? ⟨w.heap.size + 1, 0, none⟩ = some (.slice none 0 0) := (by rw [bel2.cell (by simp)]; simp [go_sem]); have hf : w2.frozen? ⟨w.heap.size + 1, 0, none⟩ = false := (by rw [bel2.frozen (by simp)]; simp [go_sem]); have hs2 : w.heap.size + 1 + 1 ≤ w2.heap.size := (by have := bel2.size; simpa using this); have hv2 : w2.cell? ⟨w.heap.size, 0, none⟩ = some (.slice A n c) := (by rw [bel2.cell (by simp; omega)]; exact hself)))
        refine bodyPost_ret (v := .tuple #[.agg #[.slice none 0 0], .int .i64 6]) (by simp [results, Try.results25, go_sem, hq, hf]) rfl ?_
        rw [hr.out]
        exact ⟨_, rfl, OA.nil _, (hb2.trans (bel2.mono hb2.size)).setCell (by simp) _⟩
      · have hr := Lib.hid (show M.dropR xs k = (M.dropP xs k, 0) by rw [M.dropR, hok, hl.out, hin]; simp [h1])
        have h1b : ((n : Int) == 1) = false := by simp; omega
        clear h1
        go_enter Try.func25, Try.ntmps25
        go_wp2_with (first | (go_at_call 79; refine (spec_l00In _ _ _ _).mono ?_; rw [hin'.out]; rintro e w' ⟨rfl, rfl⟩) | (go_at_call 71; refine (spec_l25Ok _ _ _ _ _ _ hself hx1 hn).mono ?_; rw [hok]; rintro e w2 ⟨rfl, bel2⟩; have hq : w2.cell? ⟨w.heap.size + 1, 0, none⟩ = some (.slice none 0 0) := (by rw [bel2.cell (by simp)]; simp [go_sem]); have hf : w2.frozen? ⟨w.heap.size + 1, 0, none⟩ = false := (by rw [bel2.frozen (by simp)]; simp [go_sem]); have hs2 : w.heap.size + 1 + 1 ≤ w2.heap.size := (by have := bel2.size; simpa using this); have hv2 : w2.cell? ⟨w.heap.size, 0, none⟩ = some (.slice A n c) := (by rw [bel2.cell (by simp; omega)]; exact hself)) | (go_at_call 80; refine (spec_l25Drop _ _ _ _ _ _ (hx1.later bel2) hn hk hc hm).mono ?_; rintro e w3 ⟨v3, rfl, own3, bel3⟩; obtain ⟨A3, c3', rfl, -⟩ := own3.shape; have hq3 : w3.cell? ⟨w.heap.size + 1, 0, none⟩ = some (.slice none 0 0) := (by rw [bel3.cell (by simp; omega)]; exact hq); have hf3 : w3.frozen? ⟨w.heap.size + 1, 0, none⟩ = false := (by rw [bel3.frozen (by simp; omega)]; exact hf)))
        refine bodyPost_ret (v := .tuple #[.agg #[.slice A3 (M.dropP xs k).length c3'], .int .i64 0]) (by simp [results, Try.results25, go_sem, hq3, hf3]) rfl ?_
        rw [hr.out]
        have B3 := hb2.trans (bel2.mono hb2.size)
        exact ⟨_, rfl, (own3.mid (Mid.cell w3 (w.heap.size + 1) 0 (.slice A3 (M.dropP xs k).length c3')) (.inr hs2) (Nat.le_refl _)).wide (by omega) (by simp), (bel_trans B3 bel3).setCell (by simp) _⟩
end Go.Proofs.Ytckihflfjecpbaa
