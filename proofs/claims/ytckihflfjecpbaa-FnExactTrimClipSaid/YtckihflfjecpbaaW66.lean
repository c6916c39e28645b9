import Derived.Test.YtckihflfjecpbaaW65
namespace Go.Proofs.Ytckihflfjecpbaa
open Go.RowKit
set_option maxHeartbeats 2000000
set_option maxRecDepth 100000
theorem spec_MergeClips (A : Option Addr) (n c : Nat) (xs : List Clip) (k : Int) (w : World) (hx : RA cl 5 w w.heap.size A n xs) (hn : n ≤ 1000000000) (hc : n ≤ c) (hm : c ≤ maxLen) :
    Calls Try.prog 52 #[.agg #[.slice A n c], .int .i64 k] w (RetT 78 w (M.mergeR xs k)) := by
  have hl := Lib.hid hx.len
  have hb2 : Below w.heap.size w ((w.alloc (.cells #[.slice A n c] 65)).alloc (.cells #[.slice none 0 0] 65)) := ((Below.refl _ _).alloc (Nat.le_refl _) _).alloc (by simp) _
  have hx1 := hx.later hb2
  have hself : ((w.alloc (.cells #[.slice A n c] 65)).alloc (.cells #[.slice none 0 0] 65)).cell? ⟨w.heap.size, 0, none⟩ = some (.slice A n c) := by simp [go_sem]
  have ASK := Lib.hid (spec_l23Ask w.heap.size A n c xs k _ hself hx1 hn)
  by_cases hask : M.askT xs k = 0
  · obtain ⟨hok, hk0, hk1, -⟩ := M.askT_zero hask
    obtain ⟨k, rfl⟩ : ∃ q : Nat, k = q := ⟨k.toNat, by omega⟩
    have hk : k < n := by rw [hl.out] at hk1; omega
    obtain ⟨b, o, ⟨q0, q1, q2, q3, q4⟩, rfl, hab, X, hcc⟩ := hx.at cl_len (by decide) hk
    have hc0 : w.cell? ⟨b, o + k * 5, none⟩ = some (.int .i64 q0) := hcc 0 _ rfl
    have hc1 : w.cell? ⟨b, o + k * 5 + 1, none⟩ = some (.int .i64 q1) := hcc 1 _ rfl
    have hc2 : w.cell? ⟨b, o + k * 5 + 2, none⟩ = some (.int .i64 q2) := hcc 2 _ rfl
    have hc3 : w.cell? ⟨b, o + k * 5 + 3, none⟩ = some (.int .i64 q3) := hcc 3 _ rfl
    have hc4 : w.cell? ⟨b, o + k * 5 + 4, none⟩ = some (.int .i64 q4) := hcc 4 _ rfl
    obtain ⟨-, u2, u1, u3, -⟩ := M.clip_bd (M.track_clip hok X.out)
    simp only at u1 u2 u3
    have hR := Lib.hid (show M.mergeR xs k = (match xs.findIdx? (M.joins (q0, q1, q2, q3, q4)) with
      | some i => (M.mergeAt xs k i, 0)
      | none => ([], 3)) by rw [M.mergeR, if_pos hask, Int.toNat_natCast, X.out]; rfl)
    have hok' := Lib.hid hok
    have hask' := Lib.hid hask
    clear hask hcc hok
    go_enter Try.func52, Try.ntmps52
    go_wp2_with fail
    refine (ASK.out).mono ?_
    rw [hask'.out]
    rintro e w2 ⟨rfl, bel2⟩
    have hq : w2.cell? ⟨w.heap.size + 1, 0, none⟩ = some (.slice none 0 0) := by rw [bel2.cell (by simp)]; simp [go_sem]
    have hf : w2.frozen? ⟨w.heap.size + 1, 0, none⟩ = false := by rw [bel2.frozen (by simp)]; simp [go_sem]
    have hs2 : w.heap.size + 1 + 1 ≤ w2.heap.size := by have := bel2.size; simpa using this
    have hv2 : w2.cell? ⟨w.heap.size, 0, none⟩ = some (.slice (some ⟨b, o, none⟩) n c) := by rw [bel2.cell (by simp; omega)]; exact hself
    have B2 := hb2.trans (bel2.mono hb2.size)
    have d0 : w2.cell? ⟨b, o + k * 5, none⟩ = some (.int .i64 q0) := by rw [B2.cell hab]; exact hc0
    have d1 : w2.cell? ⟨b, o + k * 5 + 1, none⟩ = some (.int .i64 q1) := by rw [B2.cell hab]; exact hc1
    have d2 : w2.cell? ⟨b, o + k * 5 + 2, none⟩ = some (.int .i64 q2) := by rw [B2.cell hab]; exact hc2
    have d3 : w2.cell? ⟨b, o + k * 5 + 3, none⟩ = some (.int .i64 q3) := by rw [B2.cell hab]; exact hc3
    have d4 : w2.cell? ⟨b, o + k * 5 + 4, none⟩ = some (.int .i64 q4) := by rw [B2.cell hab]; exact hc4
    have z0 : w.heap.size < w2.heap.size := by omega
    clear hc0 hc1 hc2 hc3 hc4 hself hx1 hb2 ASK bel2
    go_wp2_with fail
    have hbc : Below w2.heap.size w2 (w2.alloc (.cells #[.int .i64 q0, .int .i64 q1, .int .i64 q2, .int .i64 q3, .int .i64 q4] 78)) := (Below.refl _ _).alloc (Nat.le_refl _) _
    have hcs : (w2.alloc (.cells #[.int .i64 q0, .int .i64 q1, .int .i64 q2, .int .i64 q3, .int .i64 q4] 78)).heap.size = w2.heap.size + 1 := by simp
    have hcs' := Lib.hid hcs
    have LC := Lib.hid (lay_clip w2 (q0, q1, q2, q3, q4) 78)
    clear hcs
    go_loopw [8] (fun i wr => ∃ j : Nat, i = .int .i64 j ∧ j ≤ n ∧ Hid (∀ t, t < j → ∀ y, xs[t]? = some y → M.joins (q0, q1, q2, q3, q4) y = false) ∧ Below (w2.heap.size + 1) (w2.alloc (.cells #[.int .i64 q0, .int .i64 q1, .int .i64 q2, .int .i64 q3, .int .i64 q4] 78)) wr) (fun i _ => n - (intOf i).toNat)
    case atStart => exact ⟨0, rfl, by omega, Lib.hid (by omega), Below.refl _ _⟩
    case round =>
      obtain ⟨i, rfl, hi, H, hb⟩ := hrel
      have hsz : w2.heap.size + 1 ≤ wr.heap.size := by rw [← hcs'.out]; exact hb.size
      have hbb : Below w2.heap.size w2 wr := hbc.trans (hb.mono (by omega))
      have BR := bel_trans B2 hbb
      have f0 : wr.cell? ⟨w2.heap.size, 0, none⟩ = some (.int .i64 q0) := by rw [hb.cell (by simp)]; exact LC.out 0 _ rfl
      have f1 : wr.cell? ⟨w2.heap.size, 1, none⟩ = some (.int .i64 q1) := by rw [hb.cell (by simp)]; exact LC.out 1 _ rfl
      have f2 : wr.cell? ⟨w2.heap.size, 2, none⟩ = some (.int .i64 q2) := by rw [hb.cell (by simp)]; exact LC.out 2 _ rfl
      have f3 : wr.cell? ⟨w2.heap.size, 3, none⟩ = some (.int .i64 q3) := by rw [hb.cell (by simp)]; exact LC.out 3 _ rfl
      have f4 : wr.cell? ⟨w2.heap.size, 4, none⟩ = some (.int .i64 q4) := by rw [hb.cell (by simp)]; exact LC.out 4 _ rfl
      have fv : wr.cell? ⟨w.heap.size, 0, none⟩ = some (.slice (some ⟨b, o, none⟩) n c) := by rw [hbb.cell (by simpa using z0)]; exact hv2
      have fq : wr.cell? ⟨w.heap.size + 1, 0, none⟩ = some (.slice none 0 0) := by rw [hbb.cell (by simp; omega)]; exact hq
      have ff : wr.frozen? ⟨w.heap.size + 1, 0, none⟩ = false := by rw [hbb.frozen (by simp; omega)]; exact hf
      have y0 : w.heap.size < wr.heap.size := by omega
      have y1 : w.heap.size + 1 < wr.heap.size := by omega
      have y2 : w2.heap.size < wr.heap.size := by omega
      by_cases hlt : i < n
      · obtain ⟨⟨p0, p1, p2, p3, p4⟩, Y, hcc⟩ := (hx.below BR).cells cl_len (by decide) hlt
        have e0 : wr.cell? ⟨b, o + i * 5, none⟩ = some (.int .i64 p0) := hcc 0 _ rfl
        have e1 : wr.cell? ⟨b, o + i * 5 + 1, none⟩ = some (.int .i64 p1) := hcc 1 _ rfl
        have e2 : wr.cell? ⟨b, o + i * 5 + 2, none⟩ = some (.int .i64 p2) := hcc 2 _ rfl
        have e3 : wr.cell? ⟨b, o + i * 5 + 3, none⟩ = some (.int .i64 p3) := hcc 3 _ rfl
        have e4 : wr.cell? ⟨b, o + i * 5 + 4, none⟩ = some (.int .i64 p4) := hcc 4 _ rfl
        obtain ⟨-, u5, -, -, -⟩ := M.clip_bd (M.track_clip hok'.out Y.out)
        simp only at u5
        clear hcc
        have BA : Below (w2.heap.size + 1) (w2.alloc (.cells #[.int .i64 q0, .int .i64 q1, .int .i64 q2, .int .i64 q3, .int .i64 q4] 78)) ((wr.alloc (.cells #[.int .i64 p0, .int .i64 p1, .int .i64 p2, .int .i64 p3, .int .i64 p4] 78)).alloc (.cells #[.int .i64 q0, .int .i64 q1, .int .i64 (q2 + p2), .int .i64 q3, .int .i64 q4] 78)) := (hb.alloc hsz _).alloc (by simp; omega) _
        by_cases g1 : p0 = q0
        · subst g1
          by_cases g2 : p4 = q4
          · subst g2
            by_cases g3 : p1 = q1 + q2
            · subst g3
              by_cases g4 : p3 = q3 + q2
              · subst g4
                have hfi := M.find_some (p := M.joins (p0, q1, q2, q3, p4)) Y.out (by simp [M.joins]) H.out
                have hr := Lib.hid (show M.mergeR xs k = (M.mergeAt xs k i, 0) by rw [hR.out, hfi])
                have hfin := Lib.hid (show M.mergeAt xs k i = M.dropP (xs.set k (p0, q1, q2 + p2, q3, p4)) i by rw [M.mergeAt, X.out, Y.out]; rfl)
                clear hfi
                have BW := bel_trans B2 (hbc.trans (BA.mono (by omega)))
                have BW' := Lib.hid BW
                have hWs : ((wr.alloc (.cells #[.int .i64 p0, .int .i64 (q1 + q2), .int .i64 p2, .int .i64 (q3 + q2), .int .i64 p4] 78)).alloc (.cells #[.int .i64 p0, .int .i64 q1, .int .i64 (q2 + p2), .int .i64 q3, .int .i64 p4] 78)).heap.size = wr.heap.size + 1 + 1 := by simp
                have own0 : (((wr.alloc (.cells #[.int .i64 p0, .int .i64 (q1 + q2), .int .i64 p2, .int .i64 (q3 + q2), .int .i64 p4] 78)).alloc (.cells #[.int .i64 p0, .int .i64 q1, .int .i64 (q2 + p2), .int .i64 q3, .int .i64 p4] 78)).alloc (.cells #[] 78)).ownsRow (wr.heap.size + 1 + 1) 78 5 (.slice (some ⟨wr.heap.size + 1 + 1, 0, none⟩) 0 0) 0 [] := by
                  have h := World.ownsRow_made (e := 78) (base := wr.heap.size + 1 + 1) (size := 5) ((wr.alloc (.cells #[.int .i64 p0, .int .i64 (q1 + q2), .int .i64 p2, .int .i64 (q3 + q2), .int .i64 p4] 78)).alloc (.cells #[.int .i64 p0, .int .i64 q1, .int .i64 (q2 + p2), .int .i64 q3, .int .i64 p4] 78)) #[] 0 (by rw [hWs]; exact Nat.le_refl _) (by simp [maxLen]) rfl
                  rwa [hWs] at h
                have hb0 : Below ((wr.alloc (.cells #[.int .i64 p0, .int .i64 (q1 + q2), .int .i64 p2, .int .i64 (q3 + q2), .int .i64 p4] 78)).alloc (.cells #[.int .i64 p0, .int .i64 q1, .int .i64 (q2 + p2), .int .i64 q3, .int .i64 p4] 78)).heap.size ((wr.alloc (.cells #[.int .i64 p0, .int .i64 (q1 + q2), .int .i64 p2, .int .i64 (q3 + q2), .int .i64 p4] 78)).alloc (.cells #[.int .i64 p0, .int .i64 q1, .int .i64 (q2 + p2), .int .i64 q3, .int .i64 p4] 78)) (((wr.alloc (.cells #[.int .i64 p0, .int .i64 (q1 + q2), .int .i64 p2, .int .i64 (q3 + q2), .int .i64 p4] 78)).alloc (.cells #[.int .i64 p0, .int .i64 q1, .int .i64 (q2 + p2), .int .i64 q3, .int .i64 p4] 78)).alloc (.cells #[] 78)) := (Below.refl _ _).alloc (Nat.le_refl _) _
                have hrd := ((hx.later BW).reads).below hb0
                have hWs' := Lib.hid hWs
                have hmg : ∀ j u, (cl (p0, q1, q2 + p2, q3, p4))[j]? = some u → (((wr.alloc (.cells #[.int .i64 p0, .int .i64 (q1 + q2), .int .i64 p2, .int .i64 (q3 + q2), .int .i64 p4] 78)).alloc (.cells #[.int .i64 p0, .int .i64 q1, .int .i64 (q2 + p2), .int .i64 q3, .int .i64 p4] 78)).alloc (.cells #[] 78)).cell? ⟨wr.heap.size + 1, j, none⟩ = some u := by
                  intro j u hu
                  have h := lay_clip (wr.alloc (.cells #[.int .i64 p0, .int .i64 (q1 + q2), .int .i64 p2, .int .i64 (q3 + q2), .int .i64 p4] 78)) (p0, q1, q2 + p2, q3, p4) 78 j u hu
                  rw [show (wr.alloc (.cells #[.int .i64 p0, .int .i64 (q1 + q2), .int .i64 p2, .int .i64 (q3 + q2), .int .i64 p4] 78)).heap.size = wr.heap.size + 1 by simp] at h
                  rw [World.cell?_alloc_lt _ _ _ (by simp)]
                  exact h
                have HMG := Lib.hid hmg
                have HB0 := Lib.hid (bel_trans BW hb0)
                have kv : (((wr.alloc (.cells #[.int .i64 p0, .int .i64 (q1 + q2), .int .i64 p2, .int .i64 (q3 + q2), .int .i64 p4] 78)).alloc (.cells #[.int .i64 p0, .int .i64 q1, .int .i64 (q2 + p2), .int .i64 q3, .int .i64 p4] 78)).alloc (.cells #[] 78)).cell? ⟨w.heap.size, 0, none⟩ = some (.slice (some ⟨b, o, none⟩) n c) := by
                  rw [World.cell?_alloc_lt _ _ _ (by simp; omega), World.cell?_alloc_lt _ _ _ (by simp; omega), World.cell?_alloc_lt _ _ _ (by simp; omega)]
                  exact fv
                clear hmg hWs BW hb0 BA
                go_wp2_with (at_builtin; refine wpList_cat ei_cl rfl _ _ rfl own0 rfl hrd rfl (cls_oneCell _) (by unfold maxLen; omega) (by omega) (by simp) ?_; intro v1 w1 own1 gr1 bel1; rw [Nat.zero_add, List.nil_append] at own1; obtain ⟨A1, c1, rfl, hc1, hm1, -⟩ := own_shape own1; have s1 := bel1.size; rw [World.size_alloc, hWs'.out] at s1; have ow1 : OA cl 78 5 (wr.heap.size + 1 + 1) w1.heap.size w1 (.slice A1 n c1) xs := (by unfold OA; rw [hl.out]; exact OX.of_own own1); obtain ⟨g, rfl, hg1, hg2, hg3, -⟩ := ow1.form (by omega); have r0 : w1.cell? ⟨g, k * 5, none⟩ = some (.int .i64 p0) := (ow1.cell cl_len X.out (j := 0) rfl).1; have t0 : w1.frozen? ⟨g, k * 5, none⟩ = false := (ow1.cell cl_len X.out (j := 0) (u := .int .i64 p0) rfl).2; have m0 : w1.cell? ⟨wr.heap.size + 1, 0, none⟩ = some (.int .i64 p0) := (by rw [bel1.cell (by simp)]; exact HMG.out 0 _ rfl); have r1 : w1.cell? ⟨g, k * 5 + 1, none⟩ = some (.int .i64 q1) := (ow1.cell cl_len X.out (j := 1) rfl).1; have t1 : w1.frozen? ⟨g, k * 5 + 1, none⟩ = false := (ow1.cell cl_len X.out (j := 1) (u := .int .i64 q1) rfl).2; have m1 : w1.cell? ⟨wr.heap.size + 1, 1, none⟩ = some (.int .i64 q1) := (by rw [bel1.cell (by simp)]; exact HMG.out 1 _ rfl); have r2 : w1.cell? ⟨g, k * 5 + 2, none⟩ = some (.int .i64 q2) := (ow1.cell cl_len X.out (j := 2) rfl).1; have t2 : w1.frozen? ⟨g, k * 5 + 2, none⟩ = false := (ow1.cell cl_len X.out (j := 2) (u := .int .i64 q2) rfl).2; have m2 : w1.cell? ⟨wr.heap.size + 1, 2, none⟩ = some (.int .i64 (q2 + p2)) := (by rw [bel1.cell (by simp)]; exact HMG.out 2 _ rfl); have r3 : w1.cell? ⟨g, k * 5 + 3, none⟩ = some (.int .i64 q3) := (ow1.cell cl_len X.out (j := 3) rfl).1; have t3 : w1.frozen? ⟨g, k * 5 + 3, none⟩ = false := (ow1.cell cl_len X.out (j := 3) (u := .int .i64 q3) rfl).2; have m3 : w1.cell? ⟨wr.heap.size + 1, 3, none⟩ = some (.int .i64 q3) := (by rw [bel1.cell (by simp)]; exact HMG.out 3 _ rfl); have r4 : w1.cell? ⟨g, k * 5 + 4, none⟩ = some (.int .i64 p4) := (ow1.cell cl_len X.out (j := 4) rfl).1; have t4 : w1.frozen? ⟨g, k * 5 + 4, none⟩ = false := (ow1.cell cl_len X.out (j := 4) (u := .int .i64 p4) rfl).2; have m4 : w1.cell? ⟨wr.heap.size + 1, 4, none⟩ = some (.int .i64 p4) := (by rw [bel1.cell (by simp)]; exact HMG.out 4 _ rfl); have hkq : (0 : Int) ≤ (k : Int) := (by omega))
                have hkx : k < xs.length := by rw [hl.out]; exact hk
                have s0 := ow1.set cl_len X.out (j := 0) (y := (p0, q1, q2, q3, p4)) (u := .int .i64 p0) (by decide) rfl
                have s1' := s0.1.set cl_len (k := k) (x := (p0, q1, q2, q3, p4)) (j := 1) (y := (p0, q1, q2, q3, p4)) (u := .int .i64 q1) (by simp [hkx]) (by decide) rfl
                have s2 := s1'.1.set cl_len (k := k) (x := (p0, q1, q2, q3, p4)) (j := 2) (y := (p0, q1, q2 + p2, q3, p4)) (u := .int .i64 (q2 + p2)) (by simp [hkx]) (by decide) rfl
                have s3 := s2.1.set cl_len (k := k) (x := (p0, q1, q2 + p2, q3, p4)) (j := 3) (y := (p0, q1, q2 + p2, q3, p4)) (u := .int .i64 q3) (by simp [hkx]) (by decide) rfl
                have s4 := s3.1.set cl_len (k := k) (x := (p0, q1, q2 + p2, q3, p4)) (j := 4) (y := (p0, q1, q2 + p2, q3, p4)) (u := .int .i64 p4) (by simp [hkx]) (by decide) rfl
                have own9 := s4.1
                have m9 := (((s0.2.trans s1'.2).trans s2.2).trans s3.2).trans s4.2
                simp only [List.set_set] at own9
                have e9 : (xs.set k (p0, q1, q2 + p2, q3, p4)).length = n := by rw [List.length_set, hl.out]
                rw [OA, e9] at own9
                have ra9 : RA cl 5 _ _ _ n (xs.set k (p0, q1, q2 + p2, q3, p4)) := ⟨e9, OX.reads own9⟩
                have B1 := (HB0.out.trans (bel1.mono (by omega)))
                have B9 := B1.trans ((m9.toBelow (by omega)).mono (by omega))
                have hq9 := fq
                have kq1 : w1.cell? ⟨w.heap.size + 1, 0, none⟩ = some (.slice none 0 0) := by
                  rw [bel1.cell (by simp; omega), World.cell?_alloc_lt _ _ _ (by simp; omega), World.cell?_alloc_lt _ _ _ (by simp; omega), World.cell?_alloc_lt _ _ _ (by simp; omega)]
                  exact fq
                have kf1 : w1.frozen? ⟨w.heap.size + 1, 0, none⟩ = false := by
                  rw [bel1.frozen (by simp; omega), World.frozen?_alloc_old _ _ _ (by simp; omega), World.frozen?_alloc_old _ _ _ (by simp; omega), World.frozen?_alloc_old _ _ _ (by simp; omega)]
                  exact ff
                have kq9 := Lib.hid (show _ = some (Value.slice none 0 0) from (World.cell?_of_block (a := ⟨w.heap.size + 1, 0, none⟩) (m9.block _ (by simp; omega) (.inl (by simp; omega)))).trans kq1)
                have kf9 := Lib.hid (show _ = false from (World.frozen?_of_block (a := ⟨w.heap.size + 1, 0, none⟩) (m9.block _ (by simp; omega) (.inl (by simp; omega)))).trans kf1)
                have z9 := m9.size
                go_wp2_with fail
                refine (spec_l23Drop _ _ _ _ _ _ ra9 hn hlt hc1 hm1).mono ?_
                rintro e w5 ⟨v5, rfl, own5, bel5⟩
                obtain ⟨A5, c5, rfl, -⟩ := own5.shape
                have hq5 : w5.cell? ⟨w.heap.size + 1, 0, none⟩ = some (.slice none 0 0) := by rw [bel5.cell (by simp at z9 ⊢; omega)]; exact kq9.out
                have hf5 : w5.frozen? ⟨w.heap.size + 1, 0, none⟩ = false := by rw [bel5.frozen (by simp at z9 ⊢; omega)]; exact kf9.out
                go_wp2_with fail
                refine bodyPost_ret (v := .tuple #[.agg #[.slice A5 (M.dropP (xs.set k (p0, q1, q2 + p2, q3, p4)) i).length c5], .int .i64 0]) (by simp [results, Try.results52, go_sem, hq5, hf5]) rfl ?_
                rw [hr.out, hfin.out]
                exact ⟨_, rfl, (own5.mid (Mid.cell w5 (w.heap.size + 1) 0 (.slice A5 (M.dropP (xs.set k (p0, q1, q2 + p2, q3, p4)) i).length c5)) (.inr (by simp at z9 ⊢; omega)) (Nat.le_refl _)).wide (by simp at z9 ⊢; omega) (by simp), (bel_trans B9 bel5).setCell (by simp) _⟩
              · have h4 : (p3 == q3 + q2) = false := by simpa using g4
                have hj := Lib.hid (show M.joins (p0, q1, q2, q3, p4) (p0, q1 + q2, p2, p3, p4) = false by simp [M.joins, g4])
                go_wp2
                go_roundw
                case rel => exact ⟨i + 1, by go_num, by omega, Lib.hid (fun t ht y hy => by rcases Nat.lt_succ_iff_lt_or_eq.1 ht with h | h; exact H.out t h y hy; subst h; rw [Y.out] at hy; injection hy with hy; rw [← hy]; exact hj.out), BA⟩
                case measure => simp [intOf]; omega
            · have h3 : (p1 == q1 + q2) = false := by simpa using g3
              have hj := Lib.hid (show M.joins (p0, q1, q2, q3, p4) (p0, p1, p2, p3, p4) = false by simp [M.joins, g3])
              go_wp2
              go_roundw
              case rel => exact ⟨i + 1, by go_num, by omega, Lib.hid (fun t ht y hy => by rcases Nat.lt_succ_iff_lt_or_eq.1 ht with h | h; exact H.out t h y hy; subst h; rw [Y.out] at hy; injection hy with hy; rw [← hy]; exact hj.out), BA⟩
              case measure => simp [intOf]; omega
          · have h2 : (p4 == q4) = false := by simpa using g2
            have hj := Lib.hid (show M.joins (p0, q1, q2, q3, q4) (p0, p1, p2, p3, p4) = false by simp [M.joins, g2])
            go_wp2
            go_roundw
            case rel => exact ⟨i + 1, by go_num, by omega, Lib.hid (fun t ht y hy => by rcases Nat.lt_succ_iff_lt_or_eq.1 ht with h | h; exact H.out t h y hy; subst h; rw [Y.out] at hy; injection hy with hy; rw [← hy]; exact hj.out), BA⟩
            case measure => simp [intOf]; omega
        · have h1 : (p0 == q0) = false := by simpa using g1
          have hj := Lib.hid (show M.joins (q0, q1, q2, q3, q4) (p0, p1, p2, p3, p4) = false by simp [M.joins, g1])
          go_wp2
          go_roundw
          case rel => exact ⟨i + 1, by go_num, by omega, Lib.hid (fun t ht y hy => by rcases Nat.lt_succ_iff_lt_or_eq.1 ht with h | h; exact H.out t h y hy; subst h; rw [Y.out] at hy; injection hy with hy; rw [← hy]; exact hj.out), BA⟩
          case measure => simp [intOf]; omega
      · have hfi := M.find_none (xs := xs) (p := M.joins (q0, q1, q2, q3, q4)) (fun t ht y hy => H.out t (by rw [hl.out] at ht; omega) y hy)
        have hr := Lib.hid (show M.mergeR xs k = ([], 3) by rw [hR.out, hfi])
        clear hfi
        go_wp2
        refine bodyPost_ret (v := .tuple #[.agg #[.slice none 0 0], .int .i64 3]) (by simp [results, Try.results52, go_sem, fq, ff]) rfl ?_
        rw [hr.out]
        exact ⟨_, rfl, OA.nil _, BR.setCell (by simp) _⟩
  · have hr := Lib.hid (show M.mergeR xs k = ([], M.askT xs k) by rw [M.mergeR, if_neg hask])
    have hne : (M.askT xs k != 0) = true := by simpa using hask
    clear hask
    generalize hq : M.askT xs k = q at *
    clear hq
    go_enter Try.func52, Try.ntmps52
    go_wp2_with fail
    refine (ASK.out).mono ?_
    rintro e w2 ⟨rfl, bel2⟩
    have hq : w2.cell? ⟨w.heap.size + 1, 0, none⟩ = some (.slice none 0 0) := by rw [bel2.cell (by simp)]; simp [go_sem]
    have hf : w2.frozen? ⟨w.heap.size + 1, 0, none⟩ = false := by rw [bel2.frozen (by simp)]; simp [go_sem]
    go_wp2_with fail
    refine bodyPost_ret (v := .tuple #[.agg #[.slice none 0 0], .int .i64 q]) (by simp [results, Try.results52, go_sem, hq, hf]) rfl ?_
    rw [hr.out]
    exact ⟨_, rfl, OA.nil _, (hb2.trans (bel2.mono hb2.size)).setCell (by simp) _⟩
end Go.Proofs.Ytckihflfjecpbaa
