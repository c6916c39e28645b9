import Derived.Test.YtckihflfjecpbaaW64
import Derived.Deep.DeepCutAuto
namespace Go.Proofs.Ytckihflfjecpbaa
open Go.RowKit
set_option maxHeartbeats 1000000
set_option maxRecDepth 100000
theorem lay_clip (w : World) (c : Clip) (e : TypeId) : ∀ j u, (cl c)[j]? = some u → (w.alloc (.cells #[.int .i64 c.1, .int .i64 c.2.1, .int .i64 c.2.2.1, .int .i64 c.2.2.2.1, .int .i64 c.2.2.2.2] e)).cell? ⟨w.heap.size, j, none⟩ = some u := by
  intro j u hu
  rw [cell_of_row _ w.heap.size j _ e (0, 0) (heap_alloc_new w _)]
  simpa [cl] using hu
theorem impl_MergeClips (A : Option Addr) (n c : Nat) (xs : List Clip) (k : Int) (w : World) (hx : RA cl 5 w w.heap.size A n xs) (hn : n ≤ 1000000000) (hc : n ≤ c) (hm : c ≤ maxLen) :
    Calls Try.prog 53 #[.agg #[.slice A n c], .int .i64 k] w (RetT 78 w (M.mergeR xs k)) := by
  have hl := Lib.hid hx.len
  have hb2 : Below w.heap.size w ((w.alloc (.cells #[.slice A n c] 65)).alloc (.cells #[.slice none 0 0] 65)) := ((Below.refl _ _).alloc (Nat.le_refl _) _).alloc (by simp) _
  have hx1 := hx.later hb2
  have hself : ((w.alloc (.cells #[.slice A n c] 65)).alloc (.cells #[.slice none 0 0] 65)).cell? ⟨w.heap.size, 0, none⟩ = some (.slice A n c) := by simp [go_sem]
  by_cases hask : M.askT xs k = 0
  · obtain ⟨hok, hk0, hk1, -⟩ := M.askT_zero hask
    obtain ⟨k, rfl⟩ : ∃ q : Nat, k = q := ⟨k.toNat, by omega⟩
    have hk : k < n := by rw [hl.out] at hk1; omega
    obtain ⟨b, o, ⟨q0, q1, q2, q3, q4⟩, rfl, hab, X, hcc⟩ := hx.at cl_len (by decide) hk
    have hc0 : w.cell? ⟨b, o + k * 5, none⟩ = some (.int .i64 q0) := hcc 0 _ rfl
    have hc1 : w.cell? ⟨b, o + k * 5 + 1, none⟩ = some (.int .i64 q1) := hcc 1 _ rfl
    have hc2 : w.cell? ⟨b, o + k * 5 + 2, none⟩ = some (.int .i64 q2) := hcc 2 _ rfl
    have hc3 : w.cell? ⟨b, o + k * 5 + 3, none⟩ = some (.int .i64 q3) := hcc 3 _ rfl
    have hc4 : w.cell? ⟨b, o + k * 5 + 4, none⟩ = some (.int .i64 q4) := hcc 4 _ rfl
    obtain ⟨-, u2, u1, u3, -⟩ := M.clip_bd (M.track_clip hok X.out)
    simp only at u1 u2 u3
    have hR := Lib.hid (show M.mergeR xs k = (match xs.findIdx? (M.joins (q0, q1, q2, q3, q4)) with
      | some i => (M.mergeAt xs k i, 0)
      | none => ([], 3)) by rw [M.mergeR, if_pos hask, Int.toNat_natCast, X.out]; rfl)
    have hok' := Lib.hid hok
    have hask' := Lib.hid hask
    clear hask hcc hok
    have ASK := Lib.hid (impl_clipCode (some ⟨b, o, none⟩) n c xs k _ hx1 hn)
    go_enter Try.func53, Try.ntmps53
    go_wp2_with fail
    refine (ASK.out).mono ?_
    rw [hask'.out]
    rintro e w2 ⟨rfl, bel2⟩
    have hq : w2.cell? ⟨w.heap.size + 1, 0, none⟩ = some (.slice none 0 0) := by rw [bel2.cell (by simp)]; simp [go_sem]
    have hf : w2.frozen? ⟨w.heap.size + 1, 0, none⟩ = false := by rw [bel2.frozen (by simp)]; simp [go_sem]
    have hs2 : w.heap.size + 1 + 1 ≤ w2.heap.size := by have := bel2.size; simpa using this
    have hv2 : w2.cell? ⟨w.heap.size, 0, none⟩ = some (.slice (some ⟨b, o, none⟩) n c) := by rw [bel2.cell (by simp; omega)]; exact hself
    have B2 := hb2.trans (bel2.mono hb2.size)
    have d0 : w2.cell? ⟨b, o + k * 5, none⟩ = some (.int .i64 q0) := by rw [B2.cell hab]; exact hc0
    have d1 : w2.cell? ⟨b, o + k * 5 + 1, none⟩ = some (.int .i64 q1) := by rw [B2.cell hab]; exact hc1
    have d2 : w2.cell? ⟨b, o + k * 5 + 2, none⟩ = some (.int .i64 q2) := by rw [B2.cell hab]; exact hc2
    have d3 : w2.cell? ⟨b, o + k * 5 + 3, none⟩ = some (.int .i64 q3) := by rw [B2.cell hab]; exact hc3
    have d4 : w2.cell? ⟨b, o + k * 5 + 4, none⟩ = some (.int .i64 q4) := by rw [B2.cell hab]; exact hc4
    have z0 : w.heap.size < w2.heap.size := by omega
    have hbc : Below w2.heap.size w2 (w2.alloc (.cells #[.int .i64 q0, .int .i64 q1, .int .i64 q2, .int .i64 q3, .int .i64 q4] 78)) := (Below.refl _ _).alloc (Nat.le_refl _) _
    have IDX := Lib.hid (IndexFunc_merge w2.heap.size (q0, q1, q2, q3, q4) (some ⟨b, o, none⟩) n c xs _ (hx.later (bel_trans B2 hbc)) hn (show 0 ≤ q1 ∧ q1 ≤ 4000 by omega) u2 (show 0 ≤ q3 ∧ q3 ≤ 4000 by omega) (lay_clip w2 (q0, q1, q2, q3, q4) 78))
    clear hc0 hc1 hc2 hc3 hc4 hself hx1 hb2 ASK bel2
    cases hfi : xs.findIdx? (M.joins (q0, q1, q2, q3, q4)) with
    | none =>
      have hr := Lib.hid (show M.mergeR xs k = ([], 3) by rw [hR.out, hfi])
      have hfi' := Lib.hid hfi
      clear hfi
      go_wp2_with (go_at_call 111; refine (IDX.out).mono ?_; rw [hfi'.out]; rintro e w3 ⟨rfl, bel3⟩; have g3 := bel_trans hbc bel3; have hq3 : w3.cell? ⟨w.heap.size + 1, 0, none⟩ = some (.slice none 0 0) := (by rw [g3.cell (by simp; omega)]; exact hq); have hf3 : w3.frozen? ⟨w.heap.size + 1, 0, none⟩ = false := (by rw [g3.frozen (by simp; omega)]; exact hf); simp only [idxInt])
      refine bodyPost_ret (v := .tuple #[.agg #[.slice none 0 0], .int .i64 3]) (by simp [results, Try.results53, go_sem, hq3, hf3]) rfl ?_
      rw [hr.out]
      exact ⟨_, rfl, OA.nil _, (bel_trans B2 g3).setCell (by simp) _⟩
    | some i =>
      have hr := Lib.hid (show M.mergeR xs k = (M.mergeAt xs k i, 0) by rw [hR.out, hfi])
      have hil : i < n := by have := (List.findIdx?_eq_some_iff_getElem.1 hfi).1; rw [hl.out] at this; exact this
      have hfi' := Lib.hid hfi
      clear hfi
      obtain ⟨⟨p0, p1, p2, p3, p4⟩, Y, -⟩ := hx.cells cl_len (by decide) hil
      obtain ⟨-, u5, -, -, -⟩ := M.clip_bd (M.track_clip hok'.out Y.out)
      simp only at u5
      go_wp2_with (first | (go_at_call 111; refine (IDX.out).mono ?_; rw [hfi'.out]; rintro e w3 ⟨rfl, bel3⟩; have g3 := bel_trans hbc bel3; have hq3 : w3.cell? ⟨w.heap.size + 1, 0, none⟩ = some (.slice none 0 0) := (by rw [g3.cell (by simp; omega)]; exact hq); have hf3 : w3.frozen? ⟨w.heap.size + 1, 0, none⟩ = false := (by rw [g3.frozen (by simp; omega)]; exact hf); have hv3 : w3.cell? ⟨w.heap.size, 0, none⟩ = some (.slice (some ⟨b, o, none⟩) n c) := (by rw [g3.cell (by simpa using z0)]; exact hv2); have s3 := g3.size; simp only [idxInt]) | (go_at_call 113; refine (slices_Clone_impl_Clip_impl_Clip _ _ _ _ _ (hx.later (bel_trans B2 g3)) hn).mono ?_; rintro e w4 ⟨v4, rfl, own4, bel4⟩; obtain ⟨A4, c4, rfl, hc4, hm4, -⟩ := own_shape own4.1; rw [hl.out] at hc4 ⊢))
      obtain ⟨g, rfl, hg1, hg2, hg3, -⟩ := own4.form (by omega)
      have X4 := own4.cell cl_len X.out (j := 2) (u := .int .i64 q2) rfl
      have Y4 := (own4.cell cl_len Y.out (j := 2) (u := .int .i64 p2) rfl).1
      have hba : Below w4.heap.size w4 (w4.alloc (.cells #[.slice (some ⟨g, 0, none⟩) n c4] 65)) := (Below.refl _ _).alloc (Nat.le_refl _) _
      have own5 := own4.below hba (Nat.le_refl _)
      have x5 : (w4.alloc (.cells #[.slice (some ⟨g, 0, none⟩) n c4] 65)).cell? ⟨g, k * 5 + 2, none⟩ = some (.int .i64 q2) := by rw [hba.cell (by simpa using hg3)]; exact X4.1
      have x5f : (w4.alloc (.cells #[.slice (some ⟨g, 0, none⟩) n c4] 65)).frozen? ⟨g, k * 5 + 2, none⟩ = false := by rw [hba.frozen (by simpa using hg3)]; exact X4.2
      have y5 : (w4.alloc (.cells #[.slice (some ⟨g, 0, none⟩) n c4] 65)).cell? ⟨g, i * 5 + 2, none⟩ = some (.int .i64 p2) := by rw [hba.cell (by simpa using hg3)]; exact Y4
      have o5 : (w4.alloc (.cells #[.slice (some ⟨g, 0, none⟩) n c4] 65)).cell? ⟨w4.heap.size, 0, none⟩ = some (.slice (some ⟨g, 0, none⟩) n c4) := by simp [go_sem]
      have hwr : IntKind.i64.wrap (q2 + p2) = q2 + p2 := IntWalk.i64_in _ (by omega)
      have i1 : (0 : Int) ≤ (k : Int) := by omega
      have i2 : (k : Int) < (n : Int) := by omega
      have i3 : (0 : Int) ≤ (i : Int) := by omega
      have i4 : (i : Int) < (n : Int) := by omega
      have s4 := bel4.size
      go_cut [] (fun wx => wx = ((w4.setCell ⟨g, k * 5 + 2, none⟩ (.int .i64 (q2 + p2))).alloc (.cells #[.slice (some ⟨g, 0, none⟩) n c4] 65)).drew)
      case first =>
        go_region_law (fail)
        all_goals (go_wp2_with fail; go_meet; exact rfl)
      case rest =>
        have hcut_ := hcut
        clear hcut
        subst hcut_
        have WX : Below w4.heap.size (w4.setCell ⟨g, k * 5 + 2, none⟩ (.int .i64 (q2 + p2))) ((w4.setCell ⟨g, k * 5 + 2, none⟩ (.int .i64 (q2 + p2))).alloc (.cells #[.slice (some ⟨g, 0, none⟩) n c4] 65)).drew := ((Below.refl _ _).alloc (by simp) _).drew
        obtain ⟨own6, m6⟩ := own4.set cl_len X.out (j := 2) (y := (q0, q1, q2 + p2, q3, q4)) (u := .int .i64 (q2 + p2)) (by decide) rfl
        have own7 := own6.below WX (Nat.le_refl _)
        have e0 : (xs.set k (q0, q1, q2 + p2, q3, q4)).length = n := by rw [List.length_set, hl.out]
        have e0' := Lib.hid e0
        rw [OA, e0, hl.out] at own7
        have ra7 : RA cl 5 _ _ _ n (xs.set k (q0, q1, q2 + p2, q3, q4)) := ⟨e0, OX.reads own7⟩
        have B4 := bel_trans (bel_trans B2 g3) bel4
        have B7 : Below w.heap.size w ((w4.setCell ⟨g, k * 5 + 2, none⟩ (.int .i64 (q2 + p2))).alloc (.cells #[.slice (some ⟨g, 0, none⟩) n c4] 65)).drew := (B4.trans ((m6.toBelow (by omega)).mono (by omega))).trans (WX.mono (by have := bel4.size; omega))
        have hq7 : ((w4.setCell ⟨g, k * 5 + 2, none⟩ (.int .i64 (q2 + p2))).alloc (.cells #[.slice (some ⟨g, 0, none⟩) n c4] 65)).drew.cell? ⟨w.heap.size + 1, 0, none⟩ = some (.slice none 0 0) := by
          rw [WX.cell (by simp; omega), World.cell?_of_block (m6.block _ (by simp; omega) (.inl (by simp; omega))), bel4.cell (by simp; omega)]
          exact hq3
        have hf7 : ((w4.setCell ⟨g, k * 5 + 2, none⟩ (.int .i64 (q2 + p2))).alloc (.cells #[.slice (some ⟨g, 0, none⟩) n c4] 65)).drew.frozen? ⟨w.heap.size + 1, 0, none⟩ = false := by
          rw [WX.frozen (by simp; omega), World.frozen?_of_block (m6.block _ (by simp; omega) (.inl (by simp; omega))), bel4.frozen (by simp; omega)]
          exact hf3
        have hfin := Lib.hid (show M.mergeAt xs k i = M.dropP (xs.set k (q0, q1, q2 + p2, q3, q4)) i by rw [M.mergeAt, X.out, Y.out]; rfl)
        clear e0 own7 own6 m6 x5 x5f y5 o5 own5 own4 hba X4 Y4 WX hwr
        go_wp2_with (go_at_call 107; refine (impl_Track_without _ _ _ _ _ _ ra7 hn hil).mono ?_; rintro e w8 ⟨v8, rfl, own8, bel8⟩; obtain ⟨A8, c8, rfl, -⟩ := own8.shape; have hq8 : w8.cell? ⟨w.heap.size + 1, 0, none⟩ = some (.slice none 0 0) := (by rw [bel8.cell (by simp; omega)]; exact hq7); have hf8 : w8.frozen? ⟨w.heap.size + 1, 0, none⟩ = false := (by rw [bel8.frozen (by simp; omega)]; exact hf7))
        refine bodyPost_ret (v := .tuple #[.agg #[.slice A8 (M.dropP (xs.set k (q0, q1, q2 + p2, q3, q4)) i).length c8], .int .i64 0]) (by simp [results, Try.results53, go_sem, hq8, hf8]) rfl ?_
        rw [hr.out, hfin.out]
        exact ⟨_, rfl, (own8.mid (Mid.cell w8 (w.heap.size + 1) 0 (.slice A8 (M.dropP (xs.set k (q0, q1, q2 + p2, q3, q4)) i).length c8)) (.inr (by simp; omega)) (Nat.le_refl _)).wide (by simp; omega) (by simp), (bel_trans B7 bel8).setCell (by simp) _⟩
  · have hr := Lib.hid (show M.mergeR xs k = ([], M.askT xs k) by rw [M.mergeR, if_neg hask])
    have hne : (M.askT xs k != 0) = true := by simpa using hask
    have ASK := Lib.hid (impl_clipCode A n c xs k _ hx1 hn)
    clear hask
    generalize hq : M.askT xs k = q at *
    have hq' := Lib.hid hq
    clear hq
    go_enter Try.func53, Try.ntmps53
    go_wp2_with fail
    refine (ASK.out).mono ?_
    rintro e w2 ⟨rfl, bel2⟩
    have hq : w2.cell? ⟨w.heap.size + 1, 0, none⟩ = some (.slice none 0 0) := by rw [bel2.cell (by simp)]; simp [go_sem]
    have hf : w2.frozen? ⟨w.heap.size + 1, 0, none⟩ = false := by rw [bel2.frozen (by simp)]; simp [go_sem]
    go_wp2_with fail
    refine bodyPost_ret (v := .tuple #[.agg #[.slice none 0 0], .int .i64 q]) (by simp [results, Try.results53, go_sem, hq, hf]) rfl ?_
    rw [hr.out]
    exact ⟨_, rfl, OA.nil _, (hb2.trans (bel2.mono hb2.size)).setCell (by simp) _⟩
end Go.Proofs.Ytckihflfjecpbaa
