import Derived.Test.YtecdendjlgohjaaGreatDoorFnAlignedG3
import Derived.StillTailTactics
import Derived.Deep.RegionWith
import Derived.Test.YtecdendjlgohjaaGreatDoorFnAlignedG2
set_option linter.unusedVariables false
set_option linter.unusedSimpArgs false
namespace Go.Proofs.YtecdendjlgohjaaGreatDoor
open Go.RowKit Go.Sort
set_option maxHeartbeats 4000000
set_option maxRecDepth 100000
set_option linter.unusedVariables false
theorem src_among5 (b lo : Nat) (A : Option Addr) (n c : Nat) (code : List UInt8) (K : Nat) (w : World) (h : Src w b lo A n c code K) (hK : K ≤ 1000000000) :
    Calls Tryz.prog 57 #[.pointer (some ⟨b, 0, none⟩), .slice (some ⟨w.heap.size, 0, none⟩) 5 5] (w.alloc (.cells #[.int .i64 1, .int .i64 2, .int .i64 5, .int .i64 9, .int .i64 3] 2)) (Drew b lo A n c code (K + 2) (fun v => 0 ≤ v ∧ v ≤ 32) w) := by
  have hB : Below w.heap.size w (w.alloc (.cells #[.int .i64 1, .int .i64 2, .int .i64 5, .int .i64 9, .int .i64 3] 2)) := (Below.refl _ _).alloc (Nat.le_refl _) _
  have hb := h.lt
  refine (src_among b lo A n c code K w.heap.size 5 5 [1, 2, 5, 9, 3] _ (h.below hB hb) (by omega) rfl (by omega) (by omega) (by simp) ?_).mono ?_
  · intro j x hx
    rw [cell_of_row _ w.heap.size j _ 2 (0, 0) (heap_alloc_new w _)]
    match j, hx with
    | 0, hx => simp at hx; subst hx; rfl
    | 1, hx => simp at hx; subst hx; rfl
    | 2, hx => simp at hx; subst hx; rfl
    | 3, hx => simp at hx; subst hx; rfl
    | 4, hx => simp at hx; subst hx; rfl
    | j + 5, hx => simp at hx
  · rintro e w2 ⟨x, rfl, hx, s3, m3⟩
    exact ⟨x, rfl, by simp only [List.mem_cons, List.not_mem_nil, or_false] at hx; omega, s3, (Mid.of_below hB _ _).trans m3⟩
theorem spec_l26Draw (b lo : Nat) (A : Option Addr) (n c : Nat) (code : List UInt8) (K : Nat) (w : World) (h : Src w b lo A n c code K) (hK : K ≤ 1000000) :
    Calls Tryz.prog 54 #[.pointer (some ⟨b, 0, none⟩)] w (DrewM b lo A n c code (K + 200) w) := by
  have hbw := h.lt
  obtain ⟨W0, hW0⟩ : ∃ W, W = (w.alloc (.cells #[.slice none 0 0] 24)).alloc (.cells #[.slice none 0 0] 24) := ⟨_, rfl⟩
  have B0 : Below w.heap.size w W0 := by rw [hW0]; exact ((Below.refl _ _).alloc (Nat.le_refl _) _).alloc (by simp) _
  have z0 : W0.heap.size = w.heap.size + 2 := by rw [hW0]; simp
  have c0 : W0.cell? ⟨w.heap.size, 0, none⟩ = some (.slice none 0 0) := by rw [hW0]; simp [go_sem]
  have f0 : W0.frozen? ⟨w.heap.size, 0, none⟩ = false := by rw [hW0]; simp [go_sem]
  have c1 : W0.cell? ⟨w.heap.size + 1, 0, none⟩ = some (.slice none 0 0) := by rw [hW0]; simp [go_sem]
  have f1 : W0.frozen? ⟨w.heap.size + 1, 0, none⟩ = false := by rw [hW0]; simp [go_sem]
  have s0 := h.below B0 hbw
  have HW0 := Lib.hid hW0
  have HZ0 := Lib.hid z0
  clear hW0
  go_enter Tryz.func54, Tryz.ntmps54
  go_wp2_with fail
  rw [← HW0.out]
  refine (src_pick b lo A n c code K 5 W0 s0 (by omega) (by omega)).mono ?_
  rintro e x1 ⟨N1, rfl, ⟨N0, N2⟩, s1, m1⟩
  obtain ⟨N', rfl⟩ : ∃ q : Nat, N1 = q := ⟨N1.toNat, by omega⟩
  have hN' : N' ≤ 4 := by omega
  clear N2 N0
  have t1 := m1.size
  have D1 : DM w b lo A n c code x1.heap.size (K + 2) [] (.slice none 0 0) (x1.alloc (.cells #[.string ⟨#[100, 114, 117, 109, 115]⟩, .string ⟨#[98, 97, 115, 115]⟩, .string ⟨#[98, 117, 115]⟩, .string ⟨#[101, 99, 104, 111]⟩, .string ⟨#[107, 101, 121, 115]⟩, .string ⟨#[99, 104, 111, 105, 114]⟩] 9)) := by
    have hB : Below x1.heap.size x1 (x1.alloc (.cells #[.string ⟨#[100, 114, 117, 109, 115]⟩, .string ⟨#[98, 97, 115, 115]⟩, .string ⟨#[98, 117, 115]⟩, .string ⟨#[101, 99, 104, 111]⟩, .string ⟨#[107, 101, 121, 115]⟩, .string ⟨#[99, 104, 111, 105, 114]⟩] 9)) := (Below.refl _ _).alloc (Nat.le_refl _) _
    have M1 : Mid b (b + 1) W0 _ := m1.thenB' hB m1.size
    refine ⟨M1.cellK (by omega) (.inr (by omega)) c0, M1.frozK (by omega) (.inr (by omega)) f0, M1.cellK (by omega) (.inr (by omega)) c1, M1.frozK (by omega) (.inr (by omega)) f1, Lib.hid (names6_of x1 _ _ ?_), OS.nil _ _ _ _, Lib.hid (fun x hx => by simp at hx), s1.below hB (by omega), (Mid.of_below B0 _ _).trans M1, by simp, by omega⟩
    exact M.nm6_cases rfl rfl rfl rfl rfl rfl
  clear s1 m1 c0 f0 c1 f1 s0
  obtain ⟨NB, hNB⟩ : ∃ q, q = x1.heap.size := ⟨_, rfl⟩
  obtain ⟨x2, hx2⟩ : ∃ u, u = x1.alloc (.cells #[.string ⟨#[100, 114, 117, 109, 115]⟩, .string ⟨#[98, 97, 115, 115]⟩, .string ⟨#[98, 117, 115]⟩, .string ⟨#[101, 99, 104, 111]⟩, .string ⟨#[107, 101, 121, 115]⟩, .string ⟨#[99, 104, 111, 105, 114]⟩] 9) := ⟨_, rfl⟩
  rw [← hx2, ← hNB] at D1
  have HX2 := Lib.hid hx2
  have HNB := Lib.hid hNB
  clear hx2 hNB z0
  obtain ⟨N, hN⟩ : ∃ q : Nat, q = 1 + N' := ⟨_, rfl⟩
  have hN1 : 1 ≤ N ∧ N ≤ 5 := by omega
  have HN := Lib.hid (show 1 + (N' : Int) = (N : Int) by omega)
  clear hN
  go_wp2_with fail
  rw [HN.out, ← HX2.out, ← HNB.out]
  clear hN'
  go_loopw [6] (fun i wr => ∃ (j : Nat) (ms : List Strip) (v : Value), i = .int .i64 j ∧ j + 1 ≤ N ∧ Hid (ms.length = j) ∧ Hid (M.drawOk N ms) ∧ DM w b lo A n c code NB (K + 2 + 40 * j) ms v wr) (fun i _ => N - (intOf i).toNat)
  case atStart => exact ⟨0, [], _, rfl, by omega, Lib.hid rfl, Lib.hid (M.drawOk.nil N), D1⟩
  case round =>
    clear D1
    obtain ⟨j, ms, v, rfl, hj, hml, hdr, D⟩ := hrel
    have HD := Lib.hid D
    have V1 := D.c1
    have V0 := D.c0
    have VF := D.f1
    have VF0 := D.f0
    have VZ := D.sz
    have VL := D.lo
    obtain ⟨Av, cv, ev⟩ := D.own.shape
    subst ev
    by_cases hlt : j + 1 < N
    · have hnm := D.nm.out j (by omega)
      obtain ⟨s, hs⟩ : ∃ s, s = M.nm6 j := ⟨_, rfl⟩
      rw [← hs] at hnm
      have hs6 : s.size ≤ 6 := by rw [hs]; exact M.nm6_size j (by omega)
      have HS6 := Lib.hid hs
      clear hs
      have E0 := DX.start s D.src
      obtain ⟨W1, hW1⟩ : ∃ u, u = wr := ⟨_, rfl⟩
      have hb1 : b < W1.heap.size := by rw [hW1]; omega
      rw [← hW1] at HD hnm E0 V0 V1 VF VF0 VZ ⊢
      clear hW1 D
      obtain ⟨Y1, hY1⟩ : ∃ u, u = W1.alloc (.cells #[.string s, .int .i64 0, .slice none 0 0] 44) := ⟨_, rfl⟩
      rw [← hY1] at E0
      have HY1 := Lib.hid hY1
      have SO := Lib.hid (src_one b lo A n c code _ 2 Y1 E0.src (by omega) (by omega))
      have HE0 := Lib.hid E0
      clear hY1 E0
      go_wp2_with fail
      rw [← HY1.out]
      refine SO.out.mono ?_
      rintro e y2 ⟨r, rfl, s2, m2⟩
      have E0 := HE0.out.step hb1 s2 m2
      cases r
      · obtain ⟨lt, hlt0⟩ : ∃ z : Int, z = 0 := ⟨_, rfl⟩
        rw [← hlt0] at E0
        have HLT := Lib.hid (show 0 ≤ lt ∧ lt ≤ 32 by omega)
        clear hlt0
        go_wp2_with fail
        obtain ⟨wS, hS⟩ : ∃ u, u = y2 := ⟨_, rfl⟩
        rw [← hS] at E0 ⊢
        clear hS
        go_loopw [8] (fun i wx => ∃ (t : Nat) (us : List (Int × Int)) (vu : Value), i = .int .i64 ((j : Int) + 1 + t) ∧ j + 1 + t ≤ N ∧ us.length ≤ 4 ∧ Hid (M.usOk N j t us) ∧ DX W1 b lo A n c code (K + 2 + 40 * j + 4 + 8 * t) s lt us vu wx) (fun i _ => N - (intOf i).toNat)
        case atStart => exact ⟨0, [], _, by simp, by omega, by simp, Lib.hid (M.usOk.zero (by omega)), E0.more (by omega)⟩
        case round =>
          clear E0
          obtain ⟨t, us, vu, rfl, ht, hu4, hus, E⟩ := hrel
          have hTO := Lib.hid (show (j : Int) + 1 + (t : Int) = ((j + 1 + t : Nat) : Int) by omega)
          rw [hTO.out]
          generalize hTT : j + 1 + t = TT at ht hTO ⊢
          have htt : TT ≤ j + 1 + t ∧ j + 1 + t ≤ TT := by omega
          clear hTT
          have HEE := Lib.hid E
          have P0 := E.p0
          have P1 := E.p1
          have P2 := E.p2
          have EX := E.sz
          obtain ⟨Au0, cu0, eu0⟩ := E.own.shape
          subst eu0
          by_cases hlt : TT < N
          · by_cases h4 : us.length < 4
            · have SO := Lib.hid (src_one b lo A n c code _ 2 wr E.src (by omega) (by omega))
              clear E
              go_wp2_with fail
              refine SO.out.mono ?_
              rintro e wx2 ⟨r, rfl, s2, m2⟩
              have E2 := HEE.out.step hb1 s2 m2
              cases r
              · have P22 := E2.p2
                by_cases hl1 : TT + 1 < N
                · have l1 : ¬ (TT : Int) = (N : Int) - 1 := by omega
                  go_wp2_with fail
                  go_roundw
                  case rel => exact ⟨t + 1, us, _, by go_num, by omega, hu4, Lib.hid (hus.out.skip (by omega)), E2.more (by omega)⟩
                  case measure => simp [intOf]; omega
                · have l1 : (TT : Int) = (N : Int) - 1 := by omega
                  by_cases hl2 : us.length = 0
                  · obtain rfl : us = [] := List.eq_nil_of_length_eq_zero hl2
                    clear l1 hl2
                    have l1 : (N : Int) - 1 = (TT : Int) := by omega
                    clear hl1
                    simp only [List.length_nil] at E2 P22 P2
                    obtain ⟨U, hU⟩ : ∃ U, U = wx2 := ⟨_, rfl⟩
                    rw [← hU] at E2 ⊢
                    have HE2 := Lib.hid E2
                    have UP2 := E2.p2
                    have UF2 := E2.f2
                    have UX := E2.sz
                    obtain ⟨G, hG⟩ : ∃ G : Nat → Prop, G = fun k => k = b ∨ Iv (W1.heap.size + 1) U.heap.size k := ⟨_, rfl⟩
                    have HG := Lib.hid hG
                    have GX := Lib.hid (show ¬ G W1.heap.size from fun h => by
                      rw [hG] at h
                      rcases h with h | h
                      · omega
                      · have h1 : W1.heap.size + 1 ≤ W1.heap.size := h.1; omega)
                    have g2 := ChgTo.cell (F := G) UP2 (fun h => GX.out h)
                    have bsU := E2.src.lt
                    clear hU hG
                    have SD := Lib.hid (spec_l01Draw b lo A n c code _ U.drew (E2.src.below (below_drewN (Below.refl U.heap.size _) 1) bsU) (by omega))
                    clear E2
                    go_wp2_with fail
                    (refine wp_region_chg G [0, 2, 3] [1] 5 (.one 4 (.one 5 (.one 6 (.one 7 (.first 8 .rest))))) [9] [9] (by kernel_rfl) (by kernel_rfl) ?_; simp only [pickOps]; simp only [List.filterMap, List.getElem?_cons_succ, List.getElem?_cons_zero]; (repeat (go_big_quiet_step (fail))); refine wpQuiet_nil ?_; (repeat (go_big_quiet_step (fail))); refine wpQuiet_nil ?_)
                    refine seqT_one2 rfl ?_
                    go_wp2_with fail
                    refine SD.out.mono ?_
                    rintro e x5 ⟨gz, rfl, hgz, s5, m5⟩
                    have HGZ := Lib.hid hgz
                    clear hgz
                    have m5' : Mid b (b + 1) U x5 := (Mid.of_below (below_drewN (Below.refl U.heap.size _) 1) b (b + 1)).trans m5
                    have E5 := HE2.out.step hb1 s5 m5'
                    have lt5 := m5'.size
                    have C5 : Chg G U x5 := ⟨m5'.os, m5'.tape, m5'.output, m5'.size, fun i hi hn => m5'.block i hi (by
                      rw [HG.out] at hn
                      rcases Nat.lt_or_ge i b with h | h
                      · exact .inl h
                      · exact .inr (by rcases Nat.lt_or_ge b i with h2 | h2; exact h2; exact absurd (.inl (by omega)) hn))⟩
                    have HE5 := Lib.hid E5
                    have q2 := E5.p2
                    have r2 := E5.f2
                    have o5 := E5.own
                    clear E5
                    go_wp2_with fail
                    refine ⟨⟨⟨x5, C5⟩, rfl⟩, seqT_one2 rfl ?_⟩
                    go_wp2_with fail
                    refine ⟨⟨⟨x5, C5⟩, rfl⟩, seqT_one2 rfl ?_⟩
                    go_wp2_with fail
                    refine ⟨⟨⟨_, C5.trans (Chg.of_below ((Below.refl _ _).alloc (Nat.le_refl _) _) _)⟩, rfl⟩, seqT_one2 rfl ?_⟩
                    go_wp2_with (at_builtin; refine wpList_pushS ei_sd #[.int .i64 (TT : Int), .int .i64 gz] rfl _ _ rfl o5 (Fe := fun _ => False) (y := ((TT : Int), gz)) rfl (fun _ _ h => h) rfl rfl (by unfold maxLen; omega) (by omega) ?_; intro v6 w6 own6 ch6; obtain ⟨A6, c6, e6⟩ := own6.shape; rw [List.length_append, List.length_singleton] at e6; subst e6; have q6 : w6.cell? ⟨W1.heap.size, 2, none⟩ = some (.slice Au0 0 cu0) := (by rw [ch6.cell1 (show W1.heap.size < x5.heap.size by omega) (fun h => by have h1 : W1.heap.size + 1 ≤ W1.heap.size := h.1; omega)]; exact q2); have r6 : w6.frozen? ⟨W1.heap.size, 2, none⟩ = false := (by rw [ch6.frozen1 (show W1.heap.size < x5.heap.size by omega) (fun h => by have h1 : W1.heap.size + 1 ≤ W1.heap.size := h.1; omega)]; exact r2))
                    have CH6 : Chg (fun k => G k ∨ Iv (W1.heap.size + 1) x5.heap.size k) U w6 := (C5.wide (fun _ h => .inl h)).trans (ch6.wide (fun _ h => .inr h))
                    have CG6 : Chg G U w6 := ⟨CH6.os, CH6.tape, CH6.output, CH6.size, fun i hi hn => CH6.block i hi (fun h => by
                      rcases h with h | h
                      · exact hn h
                      · exact hn (by rw [HG.out]; exact .inr ⟨h.1, hi⟩))⟩
                    refine ⟨⟨⟨w6, CG6⟩, rfl⟩, ?_⟩
                    (refine seqT_first2 rfl ?_; (repeat (go_big_quiet_step (fail))); refine wpQuiet_nil ?_)
                    refine seqT_rest2 ?_
                    have E6 := HE5.out.push hb1 own6 ch6
                    go_wp2_with fail
                    go_roundw
                    case rel => exact ⟨t + 1, [] ++ [((TT : Int), gz)], _, by go_num, by omega, by first | (simp; done) | (simp; omega), Lib.hid (hus.out.push (by omega) (by omega) HGZ.out), E6.more (by omega)⟩
                    case measure => simp [intOf]; omega
                  · have l2 : ¬ (us.length : Int) = 0 := by omega
                    go_wp2_with fail
                    go_roundw
                    case rel => exact ⟨t + 1, us, _, by go_num, by omega, hu4, Lib.hid (hus.out.skip (by omega)), E2.more (by omega)⟩
                    case measure => simp [intOf]; omega
              ·
                obtain ⟨U, hU⟩ : ∃ U, U = wx2 := ⟨_, rfl⟩
                rw [← hU] at E2 ⊢
                have HE2 := Lib.hid E2
                have UP2 := E2.p2
                have UF2 := E2.f2
                have UX := E2.sz
                obtain ⟨G, hG⟩ : ∃ G : Nat → Prop, G = fun k => k = b ∨ Iv (W1.heap.size + 1) U.heap.size k := ⟨_, rfl⟩
                have HG := Lib.hid hG
                have GX := Lib.hid (show ¬ G W1.heap.size from fun h => by
                  rw [hG] at h
                  rcases h with h | h
                  · omega
                  · have h1 : W1.heap.size + 1 ≤ W1.heap.size := h.1; omega)
                have g2 := ChgTo.cell (F := G) UP2 (fun h => GX.out h)
                have bsU := E2.src.lt
                clear hU hG
                have SD := Lib.hid (spec_l01Draw b lo A n c code _ U.drew (E2.src.below (below_drewN (Below.refl U.heap.size _) 1) bsU) (by omega))
                clear E2
                go_wp2_with fail
                (refine wp_region_chg G [0, 2, 3] [1] 5 (.one 4 (.one 5 (.one 6 (.one 7 (.first 8 .rest))))) [9] [9] (by kernel_rfl) (by kernel_rfl) ?_; simp only [pickOps]; simp only [List.filterMap, List.getElem?_cons_succ, List.getElem?_cons_zero]; (repeat (go_big_quiet_step (fail))); refine wpQuiet_nil ?_; (repeat (go_big_quiet_step (fail))); refine wpQuiet_nil ?_)
                refine seqT_one2 rfl ?_
                go_wp2_with fail
                refine SD.out.mono ?_
                rintro e x5 ⟨gz, rfl, hgz, s5, m5⟩
                have HGZ := Lib.hid hgz
                clear hgz
                have m5' : Mid b (b + 1) U x5 := (Mid.of_below (below_drewN (Below.refl U.heap.size _) 1) b (b + 1)).trans m5
                have E5 := HE2.out.step hb1 s5 m5'
                have lt5 := m5'.size
                have C5 : Chg G U x5 := ⟨m5'.os, m5'.tape, m5'.output, m5'.size, fun i hi hn => m5'.block i hi (by
                  rw [HG.out] at hn
                  rcases Nat.lt_or_ge i b with h | h
                  · exact .inl h
                  · exact .inr (by rcases Nat.lt_or_ge b i with h2 | h2; exact h2; exact absurd (.inl (by omega)) hn))⟩
                have HE5 := Lib.hid E5
                have q2 := E5.p2
                have r2 := E5.f2
                have o5 := E5.own
                clear E5
                go_wp2_with fail
                refine ⟨⟨⟨x5, C5⟩, rfl⟩, seqT_one2 rfl ?_⟩
                go_wp2_with fail
                refine ⟨⟨⟨x5, C5⟩, rfl⟩, seqT_one2 rfl ?_⟩
                go_wp2_with fail
                refine ⟨⟨⟨_, C5.trans (Chg.of_below ((Below.refl _ _).alloc (Nat.le_refl _) _) _)⟩, rfl⟩, seqT_one2 rfl ?_⟩
                go_wp2_with (at_builtin; refine wpList_pushS ei_sd #[.int .i64 (TT : Int), .int .i64 gz] rfl _ _ rfl o5 (Fe := fun _ => False) (y := ((TT : Int), gz)) rfl (fun _ _ h => h) rfl rfl (by unfold maxLen; omega) (by omega) ?_; intro v6 w6 own6 ch6; obtain ⟨A6, c6, e6⟩ := own6.shape; rw [List.length_append, List.length_singleton] at e6; subst e6; have q6 : w6.cell? ⟨W1.heap.size, 2, none⟩ = some (.slice Au0 us.length cu0) := (by rw [ch6.cell1 (show W1.heap.size < x5.heap.size by omega) (fun h => by have h1 : W1.heap.size + 1 ≤ W1.heap.size := h.1; omega)]; exact q2); have r6 : w6.frozen? ⟨W1.heap.size, 2, none⟩ = false := (by rw [ch6.frozen1 (show W1.heap.size < x5.heap.size by omega) (fun h => by have h1 : W1.heap.size + 1 ≤ W1.heap.size := h.1; omega)]; exact r2))
                have CH6 : Chg (fun k => G k ∨ Iv (W1.heap.size + 1) x5.heap.size k) U w6 := (C5.wide (fun _ h => .inl h)).trans (ch6.wide (fun _ h => .inr h))
                have CG6 : Chg G U w6 := ⟨CH6.os, CH6.tape, CH6.output, CH6.size, fun i hi hn => CH6.block i hi (fun h => by
                  rcases h with h | h
                  · exact hn h
                  · exact hn (by rw [HG.out]; exact .inr ⟨h.1, hi⟩))⟩
                refine ⟨⟨⟨w6, CG6⟩, rfl⟩, ?_⟩
                (refine seqT_first2 rfl ?_; (repeat (go_big_quiet_step (fail))); refine wpQuiet_nil ?_)
                refine seqT_rest2 ?_
                have E6 := HE5.out.push hb1 own6 ch6
                go_wp2_with fail
                go_roundw
                case rel => exact ⟨t + 1, us ++ [((TT : Int), gz)], _, by go_num, by omega, by first | (simp; done) | (simp; omega), Lib.hid (hus.out.push (by omega) (by omega) HGZ.out), E6.more (by omega)⟩
                case measure => simp [intOf]; omega
            · clear E
              have D2 := HD.out.step hbw HEE.out.src HEE.out.mid
              have V12 := D2.c1
              have VF2 := D2.f1
              have oM := HD.out.own.mid HEE.out.mid (.inr (by omega)) (Nat.le_refl _)
              have sO : tSt.O wr (Iv (W1.heap.size + 1) wr.heap.size) [.string s, .int .i64 lt, .slice Au0 us.length cu0] (s, lt, us) := st_O.2 ⟨Au0, us.length, cu0, rfl, by unfold maxLen; omega, sl_O.2 HEE.out.own⟩
              have lW := HEE.out.mid.size
              clear hTO
              have HD2 := Lib.hid D2
              clear D2
              go_wp2_with (at_builtin; refine wpList_pushS ei_st #[.string s, .int .i64 lt, .slice Au0 us.length cu0] rfl _ _ rfl oM sO (fun z h1 h2 => by have a1 : z < W1.heap.size := h1.2; have a2 : W1.heap.size + 1 ≤ z := h2.1; omega) rfl rfl (by have := hml.out; unfold maxLen; omega) (by have := hml.out; omega) ?_; intro v6 w6 own6 ch6; obtain ⟨A6, c6, e6⟩ := own6.shape; rw [List.length_append, List.length_singleton] at e6; subst e6; have q6 : w6.cell? ⟨w.heap.size + 1, 0, none⟩ = some (.slice Av ms.length cv) := (by rw [ch6.cell1 (show w.heap.size + 1 < wr.heap.size by omega) (fun h => by have h1 : NB + 1 ≤ w.heap.size + 1 := h.1; omega)]; exact V12); have r6 : w6.frozen? ⟨w.heap.size + 1, 0, none⟩ = false := (by rw [ch6.frozen1 (show w.heap.size + 1 < wr.heap.size by omega) (fun h => by have h1 : NB + 1 ≤ w.heap.size + 1 := h.1; omega)]; exact VF2))
              have D6 := HD2.out.push hbw (X := W1.heap.size + 1) (own6.wide (fun z h => by
                rcases h with h | h | h
                · exact .inl ⟨h.1, Nat.lt_of_lt_of_le h.2 lW⟩
                · exact .inr (.inl h)
                · exact .inr (.inr h))) (by omega) (ch6.wide (fun z h => ⟨h.1, Nat.lt_of_lt_of_le h.2 lW⟩)) ⟨hs6, hu4⟩
              go_roundw
              case rel => exact ⟨j + 1, ms ++ [(s, lt, us)], _, by go_num, by omega, Lib.hid (by have := hml.out; simp; omega), Lib.hid (hdr.out.push hml.out (by omega) HS6.out HLT.out hus.out hu4 (by omega)), D6.more (by omega)⟩
              case measure => simp [intOf]; omega
          · clear E
            have D2 := HD.out.step hbw HEE.out.src HEE.out.mid
            have V12 := D2.c1
            have VF2 := D2.f1
            have oM := HD.out.own.mid HEE.out.mid (.inr (by omega)) (Nat.le_refl _)
            have sO : tSt.O wr (Iv (W1.heap.size + 1) wr.heap.size) [.string s, .int .i64 lt, .slice Au0 us.length cu0] (s, lt, us) := st_O.2 ⟨Au0, us.length, cu0, rfl, by unfold maxLen; omega, sl_O.2 HEE.out.own⟩
            have lW := HEE.out.mid.size
            clear hTO
            have HD2 := Lib.hid D2
            clear D2
            go_wp2_with (at_builtin; refine wpList_pushS ei_st #[.string s, .int .i64 lt, .slice Au0 us.length cu0] rfl _ _ rfl oM sO (fun z h1 h2 => by have a1 : z < W1.heap.size := h1.2; have a2 : W1.heap.size + 1 ≤ z := h2.1; omega) rfl rfl (by have := hml.out; unfold maxLen; omega) (by have := hml.out; omega) ?_; intro v6 w6 own6 ch6; obtain ⟨A6, c6, e6⟩ := own6.shape; rw [List.length_append, List.length_singleton] at e6; subst e6; have q6 : w6.cell? ⟨w.heap.size + 1, 0, none⟩ = some (.slice Av ms.length cv) := (by rw [ch6.cell1 (show w.heap.size + 1 < wr.heap.size by omega) (fun h => by have h1 : NB + 1 ≤ w.heap.size + 1 := h.1; omega)]; exact V12); have r6 : w6.frozen? ⟨w.heap.size + 1, 0, none⟩ = false := (by rw [ch6.frozen1 (show w.heap.size + 1 < wr.heap.size by omega) (fun h => by have h1 : NB + 1 ≤ w.heap.size + 1 := h.1; omega)]; exact VF2))
            have D6 := HD2.out.push hbw (X := W1.heap.size + 1) (own6.wide (fun z h => by
              rcases h with h | h | h
              · exact .inl ⟨h.1, Nat.lt_of_lt_of_le h.2 lW⟩
              · exact .inr (.inl h)
              · exact .inr (.inr h))) (by omega) (ch6.wide (fun z h => ⟨h.1, Nat.lt_of_lt_of_le h.2 lW⟩)) ⟨hs6, hu4⟩
            go_roundw
            case rel => exact ⟨j + 1, ms ++ [(s, lt, us)], _, by go_num, by omega, Lib.hid (by have := hml.out; simp; omega), Lib.hid (hdr.out.push hml.out (by omega) HS6.out HLT.out hus.out hu4 (by omega)), D6.more (by omega)⟩
            case measure => simp [intOf]; omega
      · go_wp2_with fail
        refine (src_among5 b lo A n c code _ y2 E0.src (by omega)).mono ?_
        rintro e y3 ⟨lt, rfl, hlt32, s3, m3⟩
        have HLT := Lib.hid hlt32
        clear hlt32
        have E1 := E0.step hb1 s3 m3
        have P13 := E1.p1
        have PF3 := E1.f1
        have E2 := E1.lat hb1 lt
        clear E0 E1 s2 m2 s3 m3
        have E0 := E2
        clear E2
        go_wp2_with fail
        obtain ⟨wS, hS⟩ : ∃ u, u = y3.setCell ⟨W1.heap.size, 1, none⟩ (.int .i64 lt) := ⟨_, rfl⟩
        rw [← hS] at E0 ⊢
        clear hS
        go_loopw [8] (fun i wx => ∃ (t : Nat) (us : List (Int × Int)) (vu : Value), i = .int .i64 ((j : Int) + 1 + t) ∧ j + 1 + t ≤ N ∧ us.length ≤ 4 ∧ Hid (M.usOk N j t us) ∧ DX W1 b lo A n c code (K + 2 + 40 * j + 4 + 8 * t) s lt us vu wx) (fun i _ => N - (intOf i).toNat)
        case atStart => exact ⟨0, [], _, by simp, by omega, by simp, Lib.hid (M.usOk.zero (by omega)), E0.more (by omega)⟩
        case round =>
          clear E0
          obtain ⟨t, us, vu, rfl, ht, hu4, hus, E⟩ := hrel
          have hTO := Lib.hid (show (j : Int) + 1 + (t : Int) = ((j + 1 + t : Nat) : Int) by omega)
          rw [hTO.out]
          generalize hTT : j + 1 + t = TT at ht hTO ⊢
          have htt : TT ≤ j + 1 + t ∧ j + 1 + t ≤ TT := by omega
          clear hTT
          have HEE := Lib.hid E
          have P0 := E.p0
          have P1 := E.p1
          have P2 := E.p2
          have EX := E.sz
          obtain ⟨Au0, cu0, eu0⟩ := E.own.shape
          subst eu0
          by_cases hlt : TT < N
          · by_cases h4 : us.length < 4
            · have SO := Lib.hid (src_one b lo A n c code _ 2 wr E.src (by omega) (by omega))
              clear E
              go_wp2_with fail
              refine SO.out.mono ?_
              rintro e wx2 ⟨r, rfl, s2, m2⟩
              have E2 := HEE.out.step hb1 s2 m2
              cases r
              · have P22 := E2.p2
                by_cases hl1 : TT + 1 < N
                · have l1 : ¬ (TT : Int) = (N : Int) - 1 := by omega
                  go_wp2_with fail
                  go_roundw
                  case rel => exact ⟨t + 1, us, _, by go_num, by omega, hu4, Lib.hid (hus.out.skip (by omega)), E2.more (by omega)⟩
                  case measure => simp [intOf]; omega
                · have l1 : (TT : Int) = (N : Int) - 1 := by omega
                  by_cases hl2 : us.length = 0
                  · obtain rfl : us = [] := List.eq_nil_of_length_eq_zero hl2
                    clear l1 hl2
                    have l1 : (N : Int) - 1 = (TT : Int) := by omega
                    clear hl1
                    simp only [List.length_nil] at E2 P22 P2
                    obtain ⟨U, hU⟩ : ∃ U, U = wx2 := ⟨_, rfl⟩
                    rw [← hU] at E2 ⊢
                    have HE2 := Lib.hid E2
                    have UP2 := E2.p2
                    have UF2 := E2.f2
                    have UX := E2.sz
                    obtain ⟨G, hG⟩ : ∃ G : Nat → Prop, G = fun k => k = b ∨ Iv (W1.heap.size + 1) U.heap.size k := ⟨_, rfl⟩
                    have HG := Lib.hid hG
                    have GX := Lib.hid (show ¬ G W1.heap.size from fun h => by
                      rw [hG] at h
                      rcases h with h | h
                      · omega
                      · have h1 : W1.heap.size + 1 ≤ W1.heap.size := h.1; omega)
                    have g2 := ChgTo.cell (F := G) UP2 (fun h => GX.out h)
                    have bsU := E2.src.lt
                    clear hU hG
                    have SD := Lib.hid (spec_l01Draw b lo A n c code _ U.drew (E2.src.below (below_drewN (Below.refl U.heap.size _) 1) bsU) (by omega))
                    clear E2
                    go_wp2_with fail
                    (refine wp_region_chg G [0, 2, 3] [1] 5 (.one 4 (.one 5 (.one 6 (.one 7 (.first 8 .rest))))) [9] [9] (by kernel_rfl) (by kernel_rfl) ?_; simp only [pickOps]; simp only [List.filterMap, List.getElem?_cons_succ, List.getElem?_cons_zero]; (repeat (go_big_quiet_step (fail))); refine wpQuiet_nil ?_; (repeat (go_big_quiet_step (fail))); refine wpQuiet_nil ?_)
                    refine seqT_one2 rfl ?_
                    go_wp2_with fail
                    refine SD.out.mono ?_
                    rintro e x5 ⟨gz, rfl, hgz, s5, m5⟩
                    have HGZ := Lib.hid hgz
                    clear hgz
                    have m5' : Mid b (b + 1) U x5 := (Mid.of_below (below_drewN (Below.refl U.heap.size _) 1) b (b + 1)).trans m5
                    have E5 := HE2.out.step hb1 s5 m5'
                    have lt5 := m5'.size
                    have C5 : Chg G U x5 := ⟨m5'.os, m5'.tape, m5'.output, m5'.size, fun i hi hn => m5'.block i hi (by
                      rw [HG.out] at hn
                      rcases Nat.lt_or_ge i b with h | h
                      · exact .inl h
                      · exact .inr (by rcases Nat.lt_or_ge b i with h2 | h2; exact h2; exact absurd (.inl (by omega)) hn))⟩
                    have HE5 := Lib.hid E5
                    have q2 := E5.p2
                    have r2 := E5.f2
                    have o5 := E5.own
                    clear E5
                    go_wp2_with fail
                    refine ⟨⟨⟨x5, C5⟩, rfl⟩, seqT_one2 rfl ?_⟩
                    go_wp2_with fail
                    refine ⟨⟨⟨x5, C5⟩, rfl⟩, seqT_one2 rfl ?_⟩
                    go_wp2_with fail
                    refine ⟨⟨⟨_, C5.trans (Chg.of_below ((Below.refl _ _).alloc (Nat.le_refl _) _) _)⟩, rfl⟩, seqT_one2 rfl ?_⟩
                    go_wp2_with (at_builtin; refine wpList_pushS ei_sd #[.int .i64 (TT : Int), .int .i64 gz] rfl _ _ rfl o5 (Fe := fun _ => False) (y := ((TT : Int), gz)) rfl (fun _ _ h => h) rfl rfl (by unfold maxLen; omega) (by omega) ?_; intro v6 w6 own6 ch6; obtain ⟨A6, c6, e6⟩ := own6.shape; rw [List.length_append, List.length_singleton] at e6; subst e6; have q6 : w6.cell? ⟨W1.heap.size, 2, none⟩ = some (.slice Au0 0 cu0) := (by rw [ch6.cell1 (show W1.heap.size < x5.heap.size by omega) (fun h => by have h1 : W1.heap.size + 1 ≤ W1.heap.size := h.1; omega)]; exact q2); have r6 : w6.frozen? ⟨W1.heap.size, 2, none⟩ = false := (by rw [ch6.frozen1 (show W1.heap.size < x5.heap.size by omega) (fun h => by have h1 : W1.heap.size + 1 ≤ W1.heap.size := h.1; omega)]; exact r2))
                    have CH6 : Chg (fun k => G k ∨ Iv (W1.heap.size + 1) x5.heap.size k) U w6 := (C5.wide (fun _ h => .inl h)).trans (ch6.wide (fun _ h => .inr h))
                    have CG6 : Chg G U w6 := ⟨CH6.os, CH6.tape, CH6.output, CH6.size, fun i hi hn => CH6.block i hi (fun h => by
                      rcases h with h | h
                      · exact hn h
                      · exact hn (by rw [HG.out]; exact .inr ⟨h.1, hi⟩))⟩
                    refine ⟨⟨⟨w6, CG6⟩, rfl⟩, ?_⟩
                    (refine seqT_first2 rfl ?_; (repeat (go_big_quiet_step (fail))); refine wpQuiet_nil ?_)
                    refine seqT_rest2 ?_
                    have E6 := HE5.out.push hb1 own6 ch6
                    go_wp2_with fail
                    go_roundw
                    case rel => exact ⟨t + 1, [] ++ [((TT : Int), gz)], _, by go_num, by omega, by first | (simp; done) | (simp; omega), Lib.hid (hus.out.push (by omega) (by omega) HGZ.out), E6.more (by omega)⟩
                    case measure => simp [intOf]; omega
                  · have l2 : ¬ (us.length : Int) = 0 := by omega
                    go_wp2_with fail
                    go_roundw
                    case rel => exact ⟨t + 1, us, _, by go_num, by omega, hu4, Lib.hid (hus.out.skip (by omega)), E2.more (by omega)⟩
                    case measure => simp [intOf]; omega
              ·
                obtain ⟨U, hU⟩ : ∃ U, U = wx2 := ⟨_, rfl⟩
                rw [← hU] at E2 ⊢
                have HE2 := Lib.hid E2
                have UP2 := E2.p2
                have UF2 := E2.f2
                have UX := E2.sz
                obtain ⟨G, hG⟩ : ∃ G : Nat → Prop, G = fun k => k = b ∨ Iv (W1.heap.size + 1) U.heap.size k := ⟨_, rfl⟩
                have HG := Lib.hid hG
                have GX := Lib.hid (show ¬ G W1.heap.size from fun h => by
                  rw [hG] at h
                  rcases h with h | h
                  · omega
                  · have h1 : W1.heap.size + 1 ≤ W1.heap.size := h.1; omega)
                have g2 := ChgTo.cell (F := G) UP2 (fun h => GX.out h)
                have bsU := E2.src.lt
                clear hU hG
                have SD := Lib.hid (spec_l01Draw b lo A n c code _ U.drew (E2.src.below (below_drewN (Below.refl U.heap.size _) 1) bsU) (by omega))
                clear E2
                go_wp2_with fail
                (refine wp_region_chg G [0, 2, 3] [1] 5 (.one 4 (.one 5 (.one 6 (.one 7 (.first 8 .rest))))) [9] [9] (by kernel_rfl) (by kernel_rfl) ?_; simp only [pickOps]; simp only [List.filterMap, List.getElem?_cons_succ, List.getElem?_cons_zero]; (repeat (go_big_quiet_step (fail))); refine wpQuiet_nil ?_; (repeat (go_big_quiet_step (fail))); refine wpQuiet_nil ?_)
                refine seqT_one2 rfl ?_
                go_wp2_with fail
                refine SD.out.mono ?_
                rintro e x5 ⟨gz, rfl, hgz, s5, m5⟩
                have HGZ := Lib.hid hgz
                clear hgz
                have m5' : Mid b (b + 1) U x5 := (Mid.of_below (below_drewN (Below.refl U.heap.size _) 1) b (b + 1)).trans m5
                have E5 := HE2.out.step hb1 s5 m5'
                have lt5 := m5'.size
                have C5 : Chg G U x5 := ⟨m5'.os, m5'.tape, m5'.output, m5'.size, fun i hi hn => m5'.block i hi (by
                  rw [HG.out] at hn
                  rcases Nat.lt_or_ge i b with h | h
                  · exact .inl h
                  · exact .inr (by rcases Nat.lt_or_ge b i with h2 | h2; exact h2; exact absurd (.inl (by omega)) hn))⟩
                have HE5 := Lib.hid E5
                have q2 := E5.p2
                have r2 := E5.f2
                have o5 := E5.own
                clear E5
                go_wp2_with fail
                refine ⟨⟨⟨x5, C5⟩, rfl⟩, seqT_one2 rfl ?_⟩
                go_wp2_with fail
                refine ⟨⟨⟨x5, C5⟩, rfl⟩, seqT_one2 rfl ?_⟩
                go_wp2_with fail
                refine ⟨⟨⟨_, C5.trans (Chg.of_below ((Below.refl _ _).alloc (Nat.le_refl _) _) _)⟩, rfl⟩, seqT_one2 rfl ?_⟩
                go_wp2_with (at_builtin; refine wpList_pushS ei_sd #[.int .i64 (TT : Int), .int .i64 gz] rfl _ _ rfl o5 (Fe := fun _ => False) (y := ((TT : Int), gz)) rfl (fun _ _ h => h) rfl rfl (by unfold maxLen; omega) (by omega) ?_; intro v6 w6 own6 ch6; obtain ⟨A6, c6, e6⟩ := own6.shape; rw [List.length_append, List.length_singleton] at e6; subst e6; have q6 : w6.cell? ⟨W1.heap.size, 2, none⟩ = some (.slice Au0 us.length cu0) := (by rw [ch6.cell1 (show W1.heap.size < x5.heap.size by omega) (fun h => by have h1 : W1.heap.size + 1 ≤ W1.heap.size := h.1; omega)]; exact q2); have r6 : w6.frozen? ⟨W1.heap.size, 2, none⟩ = false := (by rw [ch6.frozen1 (show W1.heap.size < x5.heap.size by omega) (fun h => by have h1 : W1.heap.size + 1 ≤ W1.heap.size := h.1; omega)]; exact r2))
                have CH6 : Chg (fun k => G k ∨ Iv (W1.heap.size + 1) x5.heap.size k) U w6 := (C5.wide (fun _ h => .inl h)).trans (ch6.wide (fun _ h => .inr h))
                have CG6 : Chg G U w6 := ⟨CH6.os, CH6.tape, CH6.output, CH6.size, fun i hi hn => CH6.block i hi (fun h => by
                  rcases h with h | h
                  · exact hn h
                  · exact hn (by rw [HG.out]; exact .inr ⟨h.1, hi⟩))⟩
                refine ⟨⟨⟨w6, CG6⟩, rfl⟩, ?_⟩
                (refine seqT_first2 rfl ?_; (repeat (go_big_quiet_step (fail))); refine wpQuiet_nil ?_)
                refine seqT_rest2 ?_
                have E6 := HE5.out.push hb1 own6 ch6
                go_wp2_with fail
                go_roundw
                case rel => exact ⟨t + 1, us ++ [((TT : Int), gz)], _, by go_num, by omega, by first | (simp; done) | (simp; omega), Lib.hid (hus.out.push (by omega) (by omega) HGZ.out), E6.more (by omega)⟩
                case measure => simp [intOf]; omega
            · clear E
              have D2 := HD.out.step hbw HEE.out.src HEE.out.mid
              have V12 := D2.c1
              have VF2 := D2.f1
              have oM := HD.out.own.mid HEE.out.mid (.inr (by omega)) (Nat.le_refl _)
              have sO : tSt.O wr (Iv (W1.heap.size + 1) wr.heap.size) [.string s, .int .i64 lt, .slice Au0 us.length cu0] (s, lt, us) := st_O.2 ⟨Au0, us.length, cu0, rfl, by unfold maxLen; omega, sl_O.2 HEE.out.own⟩
              have lW := HEE.out.mid.size
              clear hTO
              have HD2 := Lib.hid D2
              clear D2
              go_wp2_with (at_builtin; refine wpList_pushS ei_st #[.string s, .int .i64 lt, .slice Au0 us.length cu0] rfl _ _ rfl oM sO (fun z h1 h2 => by have a1 : z < W1.heap.size := h1.2; have a2 : W1.heap.size + 1 ≤ z := h2.1; omega) rfl rfl (by have := hml.out; unfold maxLen; omega) (by have := hml.out; omega) ?_; intro v6 w6 own6 ch6; obtain ⟨A6, c6, e6⟩ := own6.shape; rw [List.length_append, List.length_singleton] at e6; subst e6; have q6 : w6.cell? ⟨w.heap.size + 1, 0, none⟩ = some (.slice Av ms.length cv) := (by rw [ch6.cell1 (show w.heap.size + 1 < wr.heap.size by omega) (fun h => by have h1 : NB + 1 ≤ w.heap.size + 1 := h.1; omega)]; exact V12); have r6 : w6.frozen? ⟨w.heap.size + 1, 0, none⟩ = false := (by rw [ch6.frozen1 (show w.heap.size + 1 < wr.heap.size by omega) (fun h => by have h1 : NB + 1 ≤ w.heap.size + 1 := h.1; omega)]; exact VF2))
              have D6 := HD2.out.push hbw (X := W1.heap.size + 1) (own6.wide (fun z h => by
                rcases h with h | h | h
                · exact .inl ⟨h.1, Nat.lt_of_lt_of_le h.2 lW⟩
                · exact .inr (.inl h)
                · exact .inr (.inr h))) (by omega) (ch6.wide (fun z h => ⟨h.1, Nat.lt_of_lt_of_le h.2 lW⟩)) ⟨hs6, hu4⟩
              go_roundw
              case rel => exact ⟨j + 1, ms ++ [(s, lt, us)], _, by go_num, by omega, Lib.hid (by have := hml.out; simp; omega), Lib.hid (hdr.out.push hml.out (by omega) HS6.out HLT.out hus.out hu4 (by omega)), D6.more (by omega)⟩
              case measure => simp [intOf]; omega
          · clear E
            have D2 := HD.out.step hbw HEE.out.src HEE.out.mid
            have V12 := D2.c1
            have VF2 := D2.f1
            have oM := HD.out.own.mid HEE.out.mid (.inr (by omega)) (Nat.le_refl _)
            have sO : tSt.O wr (Iv (W1.heap.size + 1) wr.heap.size) [.string s, .int .i64 lt, .slice Au0 us.length cu0] (s, lt, us) := st_O.2 ⟨Au0, us.length, cu0, rfl, by unfold maxLen; omega, sl_O.2 HEE.out.own⟩
            have lW := HEE.out.mid.size
            clear hTO
            have HD2 := Lib.hid D2
            clear D2
            go_wp2_with (at_builtin; refine wpList_pushS ei_st #[.string s, .int .i64 lt, .slice Au0 us.length cu0] rfl _ _ rfl oM sO (fun z h1 h2 => by have a1 : z < W1.heap.size := h1.2; have a2 : W1.heap.size + 1 ≤ z := h2.1; omega) rfl rfl (by have := hml.out; unfold maxLen; omega) (by have := hml.out; omega) ?_; intro v6 w6 own6 ch6; obtain ⟨A6, c6, e6⟩ := own6.shape; rw [List.length_append, List.length_singleton] at e6; subst e6; have q6 : w6.cell? ⟨w.heap.size + 1, 0, none⟩ = some (.slice Av ms.length cv) := (by rw [ch6.cell1 (show w.heap.size + 1 < wr.heap.size by omega) (fun h => by have h1 : NB + 1 ≤ w.heap.size + 1 := h.1; omega)]; exact V12); have r6 : w6.frozen? ⟨w.heap.size + 1, 0, none⟩ = false := (by rw [ch6.frozen1 (show w.heap.size + 1 < wr.heap.size by omega) (fun h => by have h1 : NB + 1 ≤ w.heap.size + 1 := h.1; omega)]; exact VF2))
            have D6 := HD2.out.push hbw (X := W1.heap.size + 1) (own6.wide (fun z h => by
              rcases h with h | h | h
              · exact .inl ⟨h.1, Nat.lt_of_lt_of_le h.2 lW⟩
              · exact .inr (.inl h)
              · exact .inr (.inr h))) (by omega) (ch6.wide (fun z h => ⟨h.1, Nat.lt_of_lt_of_le h.2 lW⟩)) ⟨hs6, hu4⟩
            go_roundw
            case rel => exact ⟨j + 1, ms ++ [(s, lt, us)], _, by go_num, by omega, Lib.hid (by have := hml.out; simp; omega), Lib.hid (hdr.out.push hml.out (by omega) HS6.out HLT.out hus.out hu4 (by omega)), D6.more (by omega)⟩
            case measure => simp [intOf]; omega
    ·
      obtain ⟨W1, hW1⟩ : ∃ u, u = wr := ⟨_, rfl⟩
      have hb1 : b < W1.heap.size := by rw [hW1]; omega
      have E0 := DX.start ⟨#[109, 97, 115, 116, 101, 114]⟩ D.src
      rw [← hW1] at HD E0 V0 V1 VF VF0 VZ ⊢
      clear hW1 D
      obtain ⟨Y1, hY1⟩ : ∃ u, u = W1.alloc (.cells #[.string ⟨#[109, 97, 115, 116, 101, 114]⟩, .int .i64 0, .slice none 0 0] 44) := ⟨_, rfl⟩
      rw [← hY1] at E0
      have HY1 := Lib.hid hY1
      have SO := Lib.hid (src_one b lo A n c code _ 3 Y1 E0.src (by omega) (by omega))
      have HE0 := Lib.hid E0
      clear hY1 E0
      go_wp2_with fail
      rw [← HY1.out]
      refine SO.out.mono ?_
      rintro e y2 ⟨r, rfl, s2, m2⟩
      have E0 := HE0.out.step hb1 s2 m2
      cases r
      · obtain ⟨lt, hlt0⟩ : ∃ z : Int, z = 0 := ⟨_, rfl⟩
        obtain ⟨wS, hS⟩ : ∃ u, u = y2 := ⟨_, rfl⟩
        rw [← hS] at E0 ⊢
        rw [← hlt0] at E0
        have HLT := Lib.hid (show 0 ≤ lt ∧ lt ≤ 32 by omega)
        clear hlt0 hS s2 m2
        have D2 := HD.out.step hbw E0.src E0.mid
        have V12 := D2.c1
        have VF2 := D2.f1
        have V02 := D2.c0
        have VF02 := D2.f0
        have oM := HD.out.own.mid E0.mid (.inr (by omega)) (Nat.le_refl _)
        have sO : tSt.O wS (Iv (W1.heap.size + 1) wS.heap.size) [.string ⟨#[109, 97, 115, 116, 101, 114]⟩, .int .i64 lt, .slice none 0 0] (⟨#[109, 97, 115, 116, 101, 114]⟩, lt, []) := st_O.2 ⟨none, 0, 0, rfl, by decide, sl_O.2 E0.own⟩
        have lW := E0.mid.size
        have P0 := E0.p0
        have P1 := E0.p1
        have P2 := E0.p2
        have lX := E0.sz
        have HD2 := Lib.hid D2
        clear D2 E0
        go_wp2_with (at_builtin; refine wpList_pushS ei_st #[.string ⟨#[109, 97, 115, 116, 101, 114]⟩, .int .i64 lt, .slice none 0 0] rfl _ _ rfl oM sO (fun z h1 h2 => by have a1 : z < W1.heap.size := h1.2; have a2 : W1.heap.size + 1 ≤ z := h2.1; omega) rfl rfl (by have := hml.out; unfold maxLen; omega) (by have := hml.out; omega) ?_; intro v6 w6 own6 ch6; obtain ⟨A6, c6, e6⟩ := own6.shape; rw [List.length_append, List.length_singleton] at e6; subst e6; have q6 : w6.cell? ⟨w.heap.size + 1, 0, none⟩ = some (.slice Av ms.length cv) := (by rw [ch6.cell1 (show w.heap.size + 1 < wS.heap.size by omega) (fun h => by have h1 : NB + 1 ≤ w.heap.size + 1 := h.1; omega)]; exact V12); have r6 : w6.frozen? ⟨w.heap.size + 1, 0, none⟩ = false := (by rw [ch6.frozen1 (show w.heap.size + 1 < wS.heap.size by omega) (fun h => by have h1 : NB + 1 ≤ w.heap.size + 1 := h.1; omega)]; exact VF2); have q60 : w6.cell? ⟨w.heap.size, 0, none⟩ = some (.slice none 0 0) := (by rw [ch6.cell1 (show w.heap.size < wS.heap.size by omega) (fun h => by have h1 : NB + 1 ≤ w.heap.size := h.1; omega)]; exact V02); have r60 : w6.frozen? ⟨w.heap.size, 0, none⟩ = false := (by rw [ch6.frozen1 (show w.heap.size < wS.heap.size by omega) (fun h => by have h1 : NB + 1 ≤ w.heap.size := h.1; omega)]; exact VF02))
        have D6 := HD2.out.push hbw (X := W1.heap.size + 1) (own6.wide (fun z h => by
          rcases h with h | h | h
          · exact .inl ⟨h.1, Nat.lt_of_lt_of_le h.2 lW⟩
          · exact .inr (.inl h)
          · exact .inr (.inr h))) (by omega) (ch6.wide (fun z h => ⟨h.1, Nat.lt_of_lt_of_le h.2 lW⟩)) ⟨by show (⟨#[109, 97, 115, 116, 101, 114]⟩ : ByteArray).size ≤ 6; decide, by simp⟩
        refine bodyPost_ret (v := .agg #[.slice A6 (ms.length + 1) c6]) (by simp [results, Tryz.results54, go_sem, q60, r60]) rfl ?_
        have hm : Mid w.heap.size (w.heap.size + 1) (w6.setCell ⟨w.heap.size + 1, 0, none⟩ (.slice A6 (ms.length + 1) c6)) ((w6.setCell ⟨w.heap.size + 1, 0, none⟩ (.slice A6 (ms.length + 1) c6)).setCell ⟨w.heap.size, 0, none⟩ (.slice A6 (ms.length + 1) c6)) := Mid.cell _ w.heap.size 0 _
        have eL : (ms ++ [((⟨#[109, 97, 115, 116, 101, 114]⟩ : ByteArray), lt, ([] : List (Int × Int)))]).length = ms.length + 1 := by simp
        have HL := hml.out
        refine ⟨A6, c6, ms ++ [(⟨#[109, 97, 115, 116, 101, 114]⟩, lt, [])], by rw [eL], ?_, by omega, by omega, D6.tiny, Lib.hid (hdr.out.mix (by omega) (by omega) HLT.out), (D6.src.mid hm hbw).more (by omega), D6.mid.thenB' ((Below.refl w.heap.size _).setCell (Nat.le_refl _) _) (Nat.le_refl _)⟩
        rw [eL]
        exact (D6.own.mid hm (.inr (by omega)) (Nat.le_refl _)).iv (by omega) hm.size
      · go_wp2_with fail
        refine (src_pick b lo A n c code _ 4 y2 E0.src (by omega) (by omega)).mono ?_
        rintro e y3 ⟨lt, rfl, hlt4, s3, m3⟩
        have HLT := Lib.hid (show 0 ≤ lt ∧ lt ≤ 32 by omega)
        clear hlt4
        have E1 := E0.step hb1 s3 m3
        have P13 := E1.p1
        have PF3 := E1.f1
        have E2 := E1.lat hb1 lt
        obtain ⟨wS, hS⟩ : ∃ u, u = y3.setCell ⟨W1.heap.size, 1, none⟩ (.int .i64 lt) := ⟨_, rfl⟩
        rw [← hS] at E2
        have HS := Lib.hid hS
        clear hS E0 E1 s2 m2 s3 m3
        have E0 := E2
        clear E2
        go_upto_region 19 with fail
        rw [← HS.out]
        have D2 := HD.out.step hbw E0.src E0.mid
        have V12 := D2.c1
        have VF2 := D2.f1
        have V02 := D2.c0
        have VF02 := D2.f0
        have oM := HD.out.own.mid E0.mid (.inr (by omega)) (Nat.le_refl _)
        have sO : tSt.O wS (Iv (W1.heap.size + 1) wS.heap.size) [.string ⟨#[109, 97, 115, 116, 101, 114]⟩, .int .i64 lt, .slice none 0 0] (⟨#[109, 97, 115, 116, 101, 114]⟩, lt, []) := st_O.2 ⟨none, 0, 0, rfl, by decide, sl_O.2 E0.own⟩
        have lW := E0.mid.size
        have P0 := E0.p0
        have P1 := E0.p1
        have P2 := E0.p2
        have lX := E0.sz
        have HD2 := Lib.hid D2
        clear D2 E0
        go_wp2_with (at_builtin; refine wpList_pushS ei_st #[.string ⟨#[109, 97, 115, 116, 101, 114]⟩, .int .i64 lt, .slice none 0 0] rfl _ _ rfl oM sO (fun z h1 h2 => by have a1 : z < W1.heap.size := h1.2; have a2 : W1.heap.size + 1 ≤ z := h2.1; omega) rfl rfl (by have := hml.out; unfold maxLen; omega) (by have := hml.out; omega) ?_; intro v6 w6 own6 ch6; obtain ⟨A6, c6, e6⟩ := own6.shape; rw [List.length_append, List.length_singleton] at e6; subst e6; have q6 : w6.cell? ⟨w.heap.size + 1, 0, none⟩ = some (.slice Av ms.length cv) := (by rw [ch6.cell1 (show w.heap.size + 1 < wS.heap.size by omega) (fun h => by have h1 : NB + 1 ≤ w.heap.size + 1 := h.1; omega)]; exact V12); have r6 : w6.frozen? ⟨w.heap.size + 1, 0, none⟩ = false := (by rw [ch6.frozen1 (show w.heap.size + 1 < wS.heap.size by omega) (fun h => by have h1 : NB + 1 ≤ w.heap.size + 1 := h.1; omega)]; exact VF2); have q60 : w6.cell? ⟨w.heap.size, 0, none⟩ = some (.slice none 0 0) := (by rw [ch6.cell1 (show w.heap.size < wS.heap.size by omega) (fun h => by have h1 : NB + 1 ≤ w.heap.size := h.1; omega)]; exact V02); have r60 : w6.frozen? ⟨w.heap.size, 0, none⟩ = false := (by rw [ch6.frozen1 (show w.heap.size < wS.heap.size by omega) (fun h => by have h1 : NB + 1 ≤ w.heap.size := h.1; omega)]; exact VF02))
        have D6 := HD2.out.push hbw (X := W1.heap.size + 1) (own6.wide (fun z h => by
          rcases h with h | h | h
          · exact .inl ⟨h.1, Nat.lt_of_lt_of_le h.2 lW⟩
          · exact .inr (.inl h)
          · exact .inr (.inr h))) (by omega) (ch6.wide (fun z h => ⟨h.1, Nat.lt_of_lt_of_le h.2 lW⟩)) ⟨by show (⟨#[109, 97, 115, 116, 101, 114]⟩ : ByteArray).size ≤ 6; decide, by simp⟩
        refine bodyPost_ret (v := .agg #[.slice A6 (ms.length + 1) c6]) (by simp [results, Tryz.results54, go_sem, q60, r60]) rfl ?_
        have hm : Mid w.heap.size (w.heap.size + 1) (w6.setCell ⟨w.heap.size + 1, 0, none⟩ (.slice A6 (ms.length + 1) c6)) ((w6.setCell ⟨w.heap.size + 1, 0, none⟩ (.slice A6 (ms.length + 1) c6)).setCell ⟨w.heap.size, 0, none⟩ (.slice A6 (ms.length + 1) c6)) := Mid.cell _ w.heap.size 0 _
        have eL : (ms ++ [((⟨#[109, 97, 115, 116, 101, 114]⟩ : ByteArray), lt, ([] : List (Int × Int)))]).length = ms.length + 1 := by simp
        have HL := hml.out
        refine ⟨A6, c6, ms ++ [(⟨#[109, 97, 115, 116, 101, 114]⟩, lt, [])], by rw [eL], ?_, by omega, by omega, D6.tiny, Lib.hid (hdr.out.mix (by omega) (by omega) HLT.out), (D6.src.mid hm hbw).more (by omega), D6.mid.thenB' ((Below.refl w.heap.size _).setCell (Nat.le_refl _) _) (Nat.le_refl _)⟩
        rw [eL]
        exact (D6.own.mid hm (.inr (by omega)) (Nat.le_refl _)).iv (by omega) hm.size
end Go.Proofs.YtecdendjlgohjaaGreatDoor
namespace Go.Proofs.YtecdendjlgohjaaGreatDoor
open Go.RowKit Go.Sort
set_option maxHeartbeats 4000000
set_option maxRecDepth 100000
set_option linter.unusedVariables false
/-- How the bending of a mixer stands. -/
structure BE (w : World) (b lo : Nat) (A : Option Addr) (n c : Nat) (code : List UInt8) (X K : Nat) (v : Value) (Y : World) : Prop where
  q0 : Y.cell? ⟨w.heap.size, 0, none⟩ = some (.slice none 0 0)
  f0 : Y.frozen? ⟨w.heap.size, 0, none⟩ = false
  qX : Y.cell? ⟨X, 0, none⟩ = some v
  fX : Y.frozen? ⟨X, 0, none⟩ = false
  src : Src Y b lo A n c code K
  mid : Mid b (b + 1) w Y
  sz : X < Y.heap.size
  lo : w.heap.size < X
theorem BE.step {w Y Y' : World} {b lo : Nat} {A : Option Addr} {n c : Nat} {code : List UInt8} {X K K' : Nat} {v : Value} (h : BE w b lo A n c code X K v Y) (hb : b < w.heap.size) (hs : Src Y' b lo A n c code K') (hm : Mid b (b + 1) Y Y') : BE w b lo A n c code X K' v Y' := by
  have hz := h.sz
  have hl := h.lo
  exact ⟨hm.cellK (by omega) (.inr (by omega)) h.q0, hm.frozK (by omega) (.inr (by omega)) h.f0, hm.cellK (by omega) (.inr (by omega)) h.qX, hm.frozK (by omega) (.inr (by omega)) h.fX, hs, h.mid.trans hm, Nat.lt_of_lt_of_le hz hm.size, hl⟩
theorem BE.chg {w Y Y' : World} {b lo : Nat} {A : Option Addr} {n c : Nat} {code : List UInt8} {X K : Nat} {v : Value} (h : BE w b lo A n c code X K v Y) (hb : b < w.heap.size) {G : Nat → Prop} (hG : ∀ z, G z → w.heap.size < z ∧ z ≠ X) (hc : Chg G Y Y') : BE w b lo A n c code X K v Y' := by
  have hz := h.sz
  have hl := h.lo
  have n0 : ¬ G w.heap.size := fun hg => by have := hG _ hg; omega
  have nX : ¬ G X := fun hg => (hG _ hg).2 rfl
  have MB : Below (w.heap.size + 1) Y Y' := hc.toBelow (fun z h => by have := hG z h; omega) (by omega)
  exact ⟨(hc.cell1 (show w.heap.size < _ by omega) n0).trans h.q0, (hc.frozen1 (show w.heap.size < _ by omega) n0).trans h.f0, (hc.cell1 hz nX).trans h.qX, (hc.frozen1 hz nX).trans h.fX, h.src.below MB (by omega), ⟨MB.os.trans h.mid.os, MB.tape.trans h.mid.tape, MB.output.trans h.mid.output, Nat.le_trans h.mid.size MB.size, fun i hi' hm => (MB.block i (by omega)).trans (h.mid.block i hi' hm)⟩, Nat.lt_of_lt_of_le hz MB.size, hl⟩
def BentM (b : Nat) (w : World) (e : Ending) (w' : World) : Prop :=
  ∃ A1 c1 ms, e = .returned (.agg #[.slice A1 (List.length ms) c1]) ∧ OS tSt 44 w' (fun z => w.heap.size < z) (.slice A1 ms.length c1) ms ∧ ms.length ≤ 6 ∧ Hid (M.tiny 5 ms) ∧ Mid b (b + 1) w w'
theorem BE.fin {w Y : World} {b lo : Nat} {A : Option Addr} {n c : Nat} {code : List UInt8} {X K : Nat} {v : Value} {A1 : Option Addr} {m c1 : Nat} {ms : List Strip} {F : Nat → Prop} (h : BE w b lo A n c code X K v Y)
    (own : OS tSt 44 Y F (.slice A1 m c1) ms) (hF : ∀ z, F z → w.heap.size < z) (hl : m ≤ 6) (ht : M.tiny 5 ms) (hm : ms.length = m) :
    BentM b w (.returned (.agg #[.slice A1 m c1])) (Y.setCell ⟨w.heap.size, 0, none⟩ (.slice A1 m c1)) := by
  subst hm
  have CB : Chg (fun b => b = w.heap.size) Y (Y.setCell ⟨w.heap.size, 0, none⟩ (.slice A1 ms.length c1)) := Chg.set Y w.heap.size 0 _ rfl
  exact ⟨A1, c1, ms, rfl, (own.chg CB (fun z h1 (h2 : z = w.heap.size) => by have := hF z h1; omega)).wide hF, hl, Lib.hid ht, h.mid.thenB' ((Below.refl w.heap.size _).setCell (Nat.le_refl _) _) (Nat.le_refl _)⟩
section
variable {Y : World} {F : Nat → Prop} {g m c k : Nat} {ms : List Strip} {s0 : ByteArray} {l0 : Int} {us : List (Int × Int)}
theorem bent_set0 (own : OS tSt 44 Y F (.slice (some ⟨g, 0, none⟩) m c) ms) (hx : ms[k]? = some (s0, l0, us)) (s : ByteArray) (hs : s.size ≤ maxLen) :
    OS tSt 44 (Y.setCell ⟨g, k * 3, none⟩ (.string s)) F (.slice (some ⟨g, 0, none⟩) m c) (ms.set k (s, l0, us)) := by
  obtain ⟨css, Fs, hole, cs, hcs, hE⟩ := own.openAt hx
  obtain ⟨A0, n0, c0, rfl, -, hE⟩ := st_O.1 hE
  obtain ⟨g', e, hFg, hFn, -, -⟩ := hole.form (List.getElem?_eq_some_iff.1 hx).1
  injection e with e; injection e with e _ _
  have h1 := hole.set hcs 0 (by decide) (.string s)
  exact h1.1.fill h1.2 (y := (s, l0, us)) (st_O.2 ⟨A0, n0, c0, rfl, hs, tSdS.okeep (fun b hb => heap_setCell_other Y ⟨g, k * 3, none⟩ b _ (fun e2 => hFn (by simp only at e2; rw [← e, ← e2]; exact hb))) hE⟩)
theorem bent_set1 (own : OS tSt 44 Y F (.slice (some ⟨g, 0, none⟩) m c) ms) (hx : ms[k]? = some (s0, l0, us)) (l : Int) :
    OS tSt 44 (Y.setCell ⟨g, k * 3 + 1, none⟩ (.int .i64 l)) F (.slice (some ⟨g, 0, none⟩) m c) (ms.set k (s0, l, us)) := by
  obtain ⟨css, Fs, hole, cs, hcs, hE⟩ := own.openAt hx
  obtain ⟨A0, n0, c0, rfl, hs, hE⟩ := st_O.1 hE
  obtain ⟨g', e, hFg, hFn, -, -⟩ := hole.form (List.getElem?_eq_some_iff.1 hx).1
  injection e with e; injection e with e _ _
  have h1 := hole.set hcs 1 (by decide) (.int .i64 l)
  exact h1.1.fill h1.2 (y := (s0, l, us)) (st_O.2 ⟨A0, n0, c0, rfl, hs, tSdS.okeep (fun b hb => heap_setCell_other Y ⟨g, k * 3 + 1, none⟩ b _ (fun e2 => hFn (by simp only at e2; rw [← e, ← e2]; exact hb))) hE⟩)
theorem bent_set2 (own : OS tSt 44 Y F (.slice (some ⟨g, 0, none⟩) m c) ms) (hx : ms[k]? = some (s0, l0, us)) :
    OS tSt 44 (Y.setCell ⟨g, k * 3 + 2, none⟩ (.slice none 0 0)) F (.slice (some ⟨g, 0, none⟩) m c) (ms.set k (s0, l0, [])) := by
  obtain ⟨css, Fs, hole, cs, hcs, hE⟩ := own.openAt hx
  obtain ⟨A0, n0, c0, rfl, hs, hE⟩ := st_O.1 hE
  have h1 := hole.set hcs 2 (by decide) (.slice none 0 0)
  exact h1.1.fill h1.2 (y := (s0, l0, [])) (st_O.2 ⟨none, 0, 0, rfl, hs, sl_O.2 (OS.nil _ _ _ _)⟩)
/-- What a strip's cells hold. -/
theorem bent_cells {A : Option Addr} (own : OS tSt 44 Y F (.slice A m c) ms) (hx : ms[k]? = some (s0, l0, us)) :
    ∃ g A0 c0, A = some ⟨g, 0, none⟩ ∧ F g ∧ g < Y.heap.size ∧ (Y.cell? ⟨g, k * 3, none⟩ = some (.string s0) ∧ Y.frozen? ⟨g, k * 3, none⟩ = false) ∧ (Y.cell? ⟨g, k * 3 + 1, none⟩ = some (.int .i64 l0) ∧ Y.frozen? ⟨g, k * 3 + 1, none⟩ = false) ∧ (Y.cell? ⟨g, k * 3 + 2, none⟩ = some (.slice A0 us.length c0) ∧ Y.frozen? ⟨g, k * 3 + 2, none⟩ = false) ∧
      ∃ css Fs, OH tSt 44 Y F (.slice A m c) ms css Fs k ∧ css[k]? = some [.string s0, .int .i64 l0, .slice A0 us.length c0] ∧ OS tSd 47 Y (Fs k) (.slice A0 us.length c0) us ∧ ¬ Fs k g ∧ s0.size ≤ maxLen := by
  obtain ⟨css, Fs, hole, cs, hcs, hE⟩ := own.openAt hx
  obtain ⟨A0, n0, c0, rfl, hs, hE⟩ := st_O.1 hE
  have ow := sl_O.1 hE
  obtain rfl : us.length = n0 := ow.read.cap.1
  obtain ⟨g, rfl, hFg, hFn, hgw, -⟩ := hole.form (List.getElem?_eq_some_iff.1 hx).1
  exact ⟨g, A0, c0, rfl, hFg, hgw, hole.cell hcs (j := 0) rfl, hole.cell hcs (j := 1) rfl, hole.cell hcs (j := 2) rfl, css, Fs, hole, hcs, ow, hFn, hs⟩
end
theorem src_among3 (b lo : Nat) (A : Option Addr) (n c : Nat) (code : List UInt8) (K : Nat) (w : World) (h : Src w b lo A n c code K) (hK : K ≤ 1000000000) :
    Calls Tryz.prog 57 #[.pointer (some ⟨b, 0, none⟩), .slice (some ⟨w.heap.size, 0, none⟩) 3 3] (w.alloc (.cells #[.int .i64 (-1), .int .i64 32, .int .i64 33] 2)) (Drew b lo A n c code (K + 2) (fun v => True) w) := by
  have hB : Below w.heap.size w (w.alloc (.cells #[.int .i64 (-1), .int .i64 32, .int .i64 33] 2)) := (Below.refl _ _).alloc (Nat.le_refl _) _
  have hb := h.lt
  refine (src_among b lo A n c code K w.heap.size 3 3 [-1, 32, 33] _ (h.below hB hb) (by omega) rfl (by omega) (by omega) (by simp) ?_).mono ?_
  · intro j x hx
    rw [cell_of_row _ w.heap.size j _ 2 (0, 0) (heap_alloc_new w _)]
    match j, hx with
    | 0, hx => simp at hx; subst hx; rfl
    | 1, hx => simp at hx; subst hx; rfl
    | 2, hx => simp at hx; subst hx; rfl
    | j + 3, hx => simp at hx
  · rintro e w2 ⟨x, rfl, -, s3, m3⟩
    exact ⟨x, rfl, trivial, s3, (Mid.of_below hB _ _).trans m3⟩
theorem src_text4 (b lo : Nat) (A : Option Addr) (n c : Nat) (code : List UInt8) (K : Nat) (w : World) (h : Src w b lo A n c code K) (hK : K ≤ 1000000000) :
    Calls Tryz.prog 56 #[.pointer (some ⟨b, 0, none⟩), .slice (some ⟨w.heap.size, 0, none⟩) 4 4] (w.alloc (.cells #[.string ⟨#[]⟩, .string ⟨#[100, 114, 117, 109, 115]⟩, .string ⟨#[77, 97, 115, 116, 101, 114]⟩, .string ⟨#[97]⟩] 9)) fun e w' => ∃ s : ByteArray, e = .returned (.string s) ∧ s.size ≤ 6 ∧ Src w' b lo A n c code (K + 2) ∧ Mid b (b + 1) w w' := by
  have hB : Below w.heap.size w (w.alloc (.cells #[.string ⟨#[]⟩, .string ⟨#[100, 114, 117, 109, 115]⟩, .string ⟨#[77, 97, 115, 116, 101, 114]⟩, .string ⟨#[97]⟩] 9)) := (Below.refl _ _).alloc (Nat.le_refl _) _
  have hb := h.lt
  refine (src_text b lo A n c code K w.heap.size 4 4 _ (h.below hB hb) (by omega) (by omega) (by omega) (by simp) (names_of w _ _ 4 ?_)).mono ?_
  · intro j hj
    match j, hj with
    | 0, _ => exact ⟨_, by decide, rfl⟩
    | 1, _ => exact ⟨_, by decide, rfl⟩
    | 2, _ => exact ⟨_, by decide, rfl⟩
    | 3, _ => exact ⟨_, by decide, rfl⟩
    | j + 4, hj => omega
  · rintro e w2 ⟨x, rfl, h1, s3, m3⟩
    exact ⟨x, rfl, h1, s3, (Mid.of_below hB _ _).trans m3⟩
end Go.Proofs.YtecdendjlgohjaaGreatDoor
namespace Go.Proofs.YtecdendjlgohjaaGreatDoor
open Go.RowKit Go.Sort
set_option maxHeartbeats 4000000
set_option maxRecDepth 100000
set_option linter.unusedVariables false
theorem OS.made00 {α : Type} (t : Ty α) (e : TypeId) (w : World) : OS t e (w.alloc (.cells #[] e)) (Iv w.heap.size (w.alloc (.cells #[] e)).heap.size) (.slice (some ⟨w.heap.size, 0, none⟩) 0 0) [] :=
  ⟨[], fun _ _ => False, World.ownsRow_made _ _ _ (Nat.zero_le _) (by simp [maxLen]) (by simp), rfl, fun g hg => by simp only [Value.ownBlock, Option.some.injEq] at hg; subst hg; exact ⟨Nat.le_refl _, by simp⟩, fun _ _ h => h.elim, fun _ _ _ _ h => h.elim, fun k h => by simp at h⟩
theorem spec_l26Bent (b lo : Nat) (A : Option Addr) (n c : Nat) (code : List UInt8) (K : Nat) (w : World) (h : Src w b lo A n c code K) (hK : K ≤ 100000) :
    Calls Tryz.prog 29 #[.pointer (some ⟨b, 0, none⟩)] w (BentM b w) := by
  have hbw := h.lt
  obtain ⟨U0, hU0⟩ : ∃ W, W = w.alloc (.cells #[.slice none 0 0] 24) := ⟨_, rfl⟩
  have B0 : Below w.heap.size w U0 := by rw [hU0]; exact (Below.refl _ _).alloc (Nat.le_refl _) _
  have z0 : U0.heap.size = w.heap.size + 1 := by rw [hU0]; simp
  have c0 : U0.cell? ⟨w.heap.size, 0, none⟩ = some (.slice none 0 0) := by rw [hU0]; simp [go_sem]
  have f0 : U0.frozen? ⟨w.heap.size, 0, none⟩ = false := by rw [hU0]; simp [go_sem]
  have s0 := h.below B0 hbw
  have HU0 := Lib.hid hU0
  have lU : U0.heap.size ≤ w.heap.size + 1 ∧ w.heap.size + 1 ≤ U0.heap.size := by omega
  clear hU0 z0
  go_enter Tryz.func29, Tryz.ntmps29
  go_wp2_with fail
  rw [← HU0.out]
  refine (spec_l26Draw b lo A n c code K U0 s0 (by omega)).mono ?_
  rintro e w1 ⟨A1, c1, ms, rfl, own1, hl6, hl1, tiny, -, s1, m1⟩
  have t1 := m1.size
  obtain ⟨W2, hW2⟩ : ∃ W, W = w1.alloc (.cells #[.slice A1 ms.length c1] 24) := ⟨_, rfl⟩
  have B2 : Below w1.heap.size w1 W2 := by rw [hW2]; exact (Below.refl _ _).alloc (Nat.le_refl _) _
  have E0 : BE w b lo A n c code w1.heap.size (K + 200) (.slice A1 ms.length c1) W2 := by
    have M2 : Mid b (b + 1) U0 W2 := m1.thenB' B2 m1.size
    exact ⟨M2.cellK (by omega) (.inr (by omega)) c0, M2.frozK (by omega) (.inr (by omega)) f0, by rw [hW2]; simp [go_sem], by rw [hW2]; simp [go_sem], s1.below B2 (by omega), (Mid.of_below B0 _ _).trans M2, by rw [hW2]; simp, by omega⟩
  have O0 : OS tSt 44 W2 (Iv U0.heap.size w1.heap.size) (.slice A1 ms.length c1) ms := own1.below B2 (Nat.le_refl _)
  have HW2 := Lib.hid hW2
  obtain ⟨X, hX⟩ : ∃ q, q = w1.heap.size := ⟨_, rfl⟩
  have HX := Lib.hid hX
  rw [← hX] at E0 O0 t1
  clear hW2 own1 s1 m1 c0 f0 s0 B2 hX
  have q1 := E0.qX
  have lX0 := E0.sz
  go_wp2_with fail
  rw [← HW2.out, ← HX.out]
  refine (src_pick b lo A n c code (K + 200) (ms.length : Int) W2 E0.src (by omega) (by omega)).mono ?_
  rintro e y1 ⟨k0, rfl, ⟨hk0, hk1⟩, s2, m2⟩
  obtain ⟨k, rfl⟩ : ∃ q : Nat, k0 = q := ⟨k0.toNat, by omega⟩
  have hk : k < ms.length := by omega
  have E1 := E0.step hbw s2 m2
  have O1 := O0.mid m2 (.inr (by omega)) (by omega)
  have lX := E1.sz
  have hx := Lib.hid (List.getElem?_eq_getElem hk)
  generalize ms[k] = x at hx
  obtain ⟨n0, l0, us⟩ := x
  have ht0 := tiny.out _ (List.mem_of_getElem? hx.out)
  obtain ⟨g, -, -, rfl, hFg, -⟩ := bent_cells O1 hx.out
  have gU : U0.heap.size ≤ g := hFg.1
  have gX : g < X := hFg.2
  have q2 := E1.qX
  clear E0 O0 hk0 hk1 s2 m2 q1
  go_wp2_with fail
  refine (src_pick b lo A n c code _ 20 y1 E1.src (by omega) (by omega)).mono ?_
  rintro e y2 ⟨vv, rfl, -, s3, m3⟩
  have E2 := E1.step hbw s3 m3
  have O2 := O1.mid m3 (.inr (by omega)) (by omega)
  clear E1 O1 q2 s3 m3
  have ltY := E2.sz
  obtain ⟨g', Au, cu, eg, -, -, C0, C1, C2, css, Fs, hole, hcs, oU, hFn, hsz0⟩ := bent_cells O2 hx.out
  obtain rfl : g = g' := by injection eg with eg; injection eg
  clear eg
  have k1 := E2.qX
  have k2 := E2.fX
  have k3 := E2.q0
  have k4 := E2.f0
  by_cases v0 : vv = 0
  · subst v0
    have HT := Lib.hid (src_text4 b lo A n c code _ y2 E2.src (by omega))
    go_wp2_with fail
    refine HT.out.mono ?_
    rintro e y3 ⟨s, rfl, hs6, s4, m4⟩
    have E3 := E2.step hbw s4 m4
    have O3 := O2.mid m4 (.inr (by omega)) (by omega)
    obtain ⟨g', Au3, cu3, eg, -, -, ⟨D0, D0f⟩, -, -, -⟩ := bent_cells O3 hx.out
    obtain rfl : g = g' := by injection eg with eg; injection eg
    clear eg
    have EY := E3.chg hbw (G := fun z => z = g) (fun z h => by omega) (Chg.set y3 g (k * 3) (.string s) rfl)
    have OY := bent_set0 O3 hx.out s (by unfold maxLen; omega)
    obtain ⟨Y, hY⟩ : ∃ u, u = y3.setCell ⟨g, k * 3, none⟩ (.string s) := ⟨_, rfl⟩
    rw [← hY] at EY OY
    have HY := Lib.hid hY
    clear hY
    have z0 := EY.q0
    have z1 := EY.f0
    have z2 := EY.qX
    have hfin := Lib.hid (EY.fin OY (fun z h => by have h1 : U0.heap.size ≤ z := h.1; omega) hl6 (M.tiny_set (fun x hx => ⟨(tiny.out x hx).1, Nat.le_succ_of_le (tiny.out x hx).2⟩) ⟨hs6, by have := ht0.2; simp only at this ⊢; omega⟩) (by simp))
    clear EY OY
    go_upto_region 18 with fail
    rw [← HY.out]
    go_wp2
    refine bodyPost_ret (v := .agg #[.slice (some ⟨g, 0, none⟩) ms.length c1]) (by simp [results, Tryz.results29, go_sem, z0, z1]) rfl ?_
    exact hfin.out
  by_cases v1 : vv = 1
  · subst v1
    have HT := Lib.hid (src_among3 b lo A n c code _ y2 E2.src (by omega))
    go_wp2_with fail
    refine HT.out.mono ?_
    rintro e y3 ⟨lz, rfl, -, s4, m4⟩
    have E3 := E2.step hbw s4 m4
    have O3 := O2.mid m4 (.inr (by omega)) (by omega)
    obtain ⟨g', Au3, cu3, eg, -, -, -, ⟨D0, D0f⟩, -, -⟩ := bent_cells O3 hx.out
    obtain rfl : g = g' := by injection eg with eg; injection eg
    clear eg
    have EY := E3.chg hbw (G := fun z => z = g) (fun z h => by omega) (Chg.set y3 g (k * 3 + 1) (.int .i64 lz) rfl)
    have OY := bent_set1 O3 hx.out lz
    obtain ⟨Y, hY⟩ : ∃ u, u = y3.setCell ⟨g, k * 3 + 1, none⟩ (.int .i64 lz) := ⟨_, rfl⟩
    rw [← hY] at EY OY
    have HY := Lib.hid hY
    clear hY
    have z0 := EY.q0
    have z1 := EY.f0
    have z2 := EY.qX
    have hfin := Lib.hid (EY.fin OY (fun z h => by have h1 : U0.heap.size ≤ z := h.1; omega) hl6 (M.tiny_set (fun x hx => ⟨(tiny.out x hx).1, Nat.le_succ_of_le (tiny.out x hx).2⟩) ⟨ht0.1, by have := ht0.2; simp only at this ⊢; omega⟩) (by simp))
    clear EY OY
    go_upto_region 18 with fail
    rw [← HY.out]
    go_wp2
    refine bodyPost_ret (v := .agg #[.slice (some ⟨g, 0, none⟩) ms.length c1]) (by simp [results, Tryz.results29, go_sem, z0, z1]) rfl ?_
    exact hfin.out
  by_cases v2 : vv = 2
  · subst v2
    obtain ⟨D2, D2f⟩ := C2
    have HE2 := Lib.hid E2
    have ghx : Hid (∀ z, Fs k z → z < X ∧ U0.heap.size ≤ z ∧ z ≠ g) := Lib.hid (fun z h => by
      have := hole.fits z h
      exact ⟨this.2, this.1, fun e => hFn (e ▸ h)⟩)
    obtain ⟨G, hG⟩ : ∃ G : Nat → Prop, G = fun z => z = b ∨ Fs k z := ⟨_, rfl⟩
    have HG := Lib.hid hG
    have GN := Lib.hid (show ¬ G g from fun h => by
      rw [hG] at h
      rcases h with h | h
      · omega
      · exact hFn h)
    have w2c := ChgTo.cell (F := G) D2 (fun h => GN.out h)
    have SP := Lib.hid (src_pick b lo A n c code _ 8 y2.drew (E2.src.below (below_drewN (Below.refl y2.heap.size _) 1) (by omega)) (by omega) (by omega))
    clear hG E2 v0 v1
    go_wp2_with fail
    (refine wp_region_chg G [0, 1, 2, 3, 5] [4] 6 (.one 6 (.one 7 (.one 8 (.one 9 (.first 10 (.first 11 .rest)))))) [12] [12] (by kernel_rfl) (by kernel_rfl) ?_; simp only [pickOps]; simp only [List.filterMap, List.getElem?_cons_succ, List.getElem?_cons_zero]; (repeat (go_big_quiet_step (fail))); refine wpQuiet_nil ?_; (repeat (go_big_quiet_step (fail))); refine wpQuiet_nil ?_)
    refine seqT_one2 rfl ?_
    go_wp2_with fail
    refine SP.out.mono ?_
    rintro e y3 ⟨tz, rfl, -, s5, m5⟩
    have m5' : Mid b (b + 1) y2 y3 := (Mid.of_below (below_drewN (Below.refl y2.heap.size _) 1) b (b + 1)).trans m5
    have E3 := HE2.out.step hbw s5 m5'
    have lt5 := m5'.size
    have KP : ∀ z, Iv U0.heap.size X z → y3.heap[z]? = y2.heap[z]? := fun z h => m5'.block z (by have h1 : z < X := h.2; omega) (.inr (by have h1 : U0.heap.size ≤ z := h.1; omega))
    have C5 : Chg G y2 y3 := ⟨m5'.os, m5'.tape, m5'.output, m5'.size, fun i hi hn => m5'.block i hi (by
      rw [HG.out] at hn
      rcases Nat.lt_or_ge i b with h | h
      · exact .inl h
      · exact .inr (by rcases Nat.lt_or_ge b i with h2 | h2; exact h2; exact absurd (.inl (by omega)) hn))⟩
    have hole3 := hole.keep KP
    have oU3 := oU.keep (fun z h => KP z (hole.fits z h))
    have D3 := (hole3.cell hcs (j := 2) rfl).1
    have D3f := (hole3.cell hcs (j := 2) rfl).2
    change y3.cell? ⟨g, k * 3 + 2, none⟩ = _ at D3
    change y3.frozen? ⟨g, k * 3 + 2, none⟩ = _ at D3f
    have HKP := Lib.hid KP
    clear KP
    go_wp2_with fail
    refine ⟨⟨⟨y3, C5⟩, rfl⟩, seqT_one2 rfl ?_⟩
    go_wp2_with fail
    refine ⟨⟨⟨y3, C5⟩, rfl⟩, seqT_one2 rfl ?_⟩
    go_wp2_with fail
    refine ⟨⟨⟨_, C5.trans (Chg.of_below ((Below.refl _ _).alloc (Nat.le_refl _) _) _)⟩, rfl⟩, seqT_one2 rfl ?_⟩
    have oU4 := oU3.real
    go_wp2_with (at_builtin; refine wpList_pushS ei_sd #[.int .i64 tz, .int .i64 1] rfl _ _ rfl oU3.real (Fe := fun _ => False) (y := (tz, 1)) rfl (fun _ _ h => h) rfl rfl (by unfold maxLen; omega) (by omega) ?_; intro v6 w6 own6 ch6; obtain ⟨A6, c6, e6⟩ := own6.shape; rw [List.length_append, List.length_singleton] at e6; subst e6; have q6 : w6.cell? ⟨g, k * 3 + 2, none⟩ = some (.slice Au us.length cu) := (by rw [ch6.cell1 (show g < y3.heap.size by omega) (fun h => hFn h.1)]; exact D3); have r6 : w6.frozen? ⟨g, k * 3 + 2, none⟩ = false := (by rw [ch6.frozen1 (show g < y3.heap.size by omega) (fun h => hFn h.1)]; exact D3f))
    have CG6 : Chg G y2 w6 := C5.trans (ch6.wide (fun z h => by rw [HG.out]; exact .inr h.1))
    refine ⟨⟨⟨w6, CG6⟩, rfl⟩, ?_⟩
    (refine seqT_first2 rfl ?_; (repeat (go_big_quiet_step (fail))); refine wpQuiet_nil ?_)
    (refine seqT_first2 rfl ?_; (repeat (go_big_quiet_step (fail))); refine wpQuiet_nil ?_)
    refine seqT_rest2 ?_
    have hs6 := (hole3.chg (ch6.wide (fun z h => h.1))).set hcs 2 (by decide) (.slice A6 (us.length + 1) c6)
    rw [show k * tSt.s + 2 = k * 3 + 2 from rfl] at hs6
    have CS : Chg (fun z => z = g) w6 (w6.setCell ⟨g, k * 3 + 2, none⟩ (.slice A6 (us.length + 1) c6)) := Chg.set w6 g (k * 3 + 2) _ rfl
    have e95 : (w6.setCell ⟨g, k * 3 + 2, none⟩ (.slice A6 (us.length + 1) c6)).heap.size = w6.heap.size := by simp
    have own7 := own6.chg CS (fun z h1 (h2 : z = g) => by
      rcases h1 with h1 | h1 | h1
      · exact hFn (h2 ▸ h1.1)
      · exact h1
      · omega)
    have st7 := hs6.1.fill2 hs6.2 (y := (n0, l0, us ++ [(tz, 1)])) (Fe := fun z => Fs k z ∨ y3.heap.size < z) (st_O.2 ⟨A6, us.length + 1, c6, rfl, hsz0, sl_O.2 (own7.wide (fun z h1 => by
      rcases h1 with h1 | h1 | h1
      · exact .inl h1.1
      · exact h1.elim
      · exact .inr h1.1))⟩) (fun z h1 => by
        rcases h1 with h1 | h1
        · exact .inl h1
        · exact .inr (fun h2 => by have h3 : z < X := h2.2; omega))
    have EY := (E3.chg hbw (G := fun z => Fs k z) (fun z h => by have := ghx.out z h; omega) (ch6.wide (fun z h => h.1))).chg hbw (G := fun z => z = g) (fun z h => by omega) CS
    have OY := st7
    clear st7 hs6
    obtain ⟨Y, hY⟩ : ∃ u, u = w6.setCell ⟨g, k * 3 + 2, none⟩ (.slice A6 (us.length + 1) c6) := ⟨_, rfl⟩
    rw [← hY] at EY OY
    have HY := Lib.hid hY
    clear hY
    have z0 := EY.q0
    have z1 := EY.f0
    have z2 := EY.qX
    have hfin := Lib.hid (EY.fin OY (fun z h => by have h1 : U0.heap.size ≤ z := (by rcases h with h | h | h; exact h.1; exact (ghx.out z h).2.1; omega); omega) hl6 (M.tiny_set (fun x hx => ⟨(tiny.out x hx).1, Nat.le_succ_of_le (tiny.out x hx).2⟩) ⟨ht0.1, by have := ht0.2; simp only at this ⊢; rw [List.length_append, List.length_singleton]; omega⟩) (by simp))
    clear EY OY
    go_upto_region 18 with fail
    rw [← HY.out]
    go_wp2
    refine bodyPost_ret (v := .agg #[.slice (some ⟨g, 0, none⟩) ms.length c1]) (by simp [results, Tryz.results29, go_sem, z0, z1]) rfl ?_
    exact hfin.out
  by_cases v3 : vv = 3
  · subst v3
    obtain ⟨D2, D2f⟩ := C2
    have EY := E2.chg hbw (G := fun z => z = g) (fun z h => by omega) (Chg.set y2 g (k * 3 + 2) (.slice none 0 0) rfl)
    have OY := bent_set2 O2 hx.out
    obtain ⟨Y, hY⟩ : ∃ u, u = y2.setCell ⟨g, k * 3 + 2, none⟩ (.slice none 0 0) := ⟨_, rfl⟩
    rw [← hY] at EY OY
    have HY := Lib.hid hY
    clear hY
    have z0 := EY.q0
    have z1 := EY.f0
    have z2 := EY.qX
    have hfin := Lib.hid (EY.fin OY (fun z h => by have h1 : U0.heap.size ≤ z := h.1; omega) hl6 (M.tiny_set (fun x hx => ⟨(tiny.out x hx).1, Nat.le_succ_of_le (tiny.out x hx).2⟩) ⟨ht0.1, by simp⟩) (by simp))
    clear EY OY
    go_upto_region 18 with fail
    rw [← HY.out]
    go_wp2
    refine bodyPost_ret (v := .agg #[.slice (some ⟨g, 0, none⟩) ms.length c1]) (by simp [results, Tryz.results29, go_sem, z0, z1]) rfl ?_
    exact hfin.out
  by_cases v4 : vv = 4
  · subst v4
    obtain ⟨D2, D2f⟩ := C2
    by_cases hu : us.length = 0
    · have hu2 : ¬ (0 : Int) < (us.length : Int) := by omega
      have EY := E2
      have OY := O2
      clear E2 O2
      obtain ⟨Y, hY⟩ : ∃ u, u = y2 := ⟨_, rfl⟩
      rw [← hY] at EY OY
      have HY := Lib.hid hY
      clear hY
      have z0 := EY.q0
      have z1 := EY.f0
      have z2 := EY.qX
      have hfin := Lib.hid (EY.fin OY (fun z h => by have h1 : U0.heap.size ≤ z := h.1; omega) hl6 (fun x hx => ⟨(tiny.out x hx).1, Nat.le_succ_of_le (tiny.out x hx).2⟩) (by simp))
      clear EY OY
      go_upto_region 18 with fail
      rw [← HY.out]
      go_wp2
      refine bodyPost_ret (v := .agg #[.slice (some ⟨g, 0, none⟩) ms.length c1]) (by simp [results, Tryz.results29, go_sem, z0, z1]) rfl ?_
      exact hfin.out
    · have hup : 0 < us.length := by omega
      have hu2 : (0 : Int) < (us.length : Int) := by omega
      have hY0 := Lib.hid (List.getElem?_eq_getElem hup)
      generalize us[0] = y0 at hY0
      obtain ⟨cs2, Fs2, hole2, cz, hcz, hz⟩ := oU.openAt hY0.out
      obtain ⟨p0, p1⟩ := y0
      obtain rfl : cz = [.int .i64 p0, .int .i64 p1] := hz
      obtain ⟨g2, rfl, hFg2, -, hgw2, -⟩ := hole2.form hup
      have D5 := (hole2.cell hcz (j := 1) rfl).1
      have D5f := (hole2.cell hcz (j := 1) rfl).2
      change y2.cell? ⟨g2, 1, none⟩ = _ at D5
      change y2.frozen? ⟨g2, 1, none⟩ = _ at D5f
      have g2n : g2 ≠ g := fun e => hFn (e ▸ hFg2)
      have g2b := hole.fits g2 hFg2
      have g2U : U0.heap.size ≤ g2 := g2b.1
      have g2X : g2 < X := g2b.2
      have CS : Chg (Fs k) y2 (y2.setCell ⟨g2, 1, none⟩ (.int .i64 2147483648)) := Chg.set y2 g2 1 _ hFg2
      have h2s := hole2.set hcz 1 (by decide) (.int .i64 2147483648)
      have own5 := h2s.1.fill h2s.2 (y := (p0, 2147483648)) rfl
      have EY := E2.chg hbw (G := fun z => z = g2) (fun z h => by omega) (Chg.set y2 g2 1 (.int .i64 2147483648) rfl)
      have OY := (hole.chg CS).fill hcs (y := (n0, l0, us.set 0 (p0, 2147483648))) (st_O.2 ⟨_, us.length, cu, rfl, hsz0, sl_O.2 own5⟩)
      clear E2 O2 h2s own5
      obtain ⟨Y, hY⟩ : ∃ u, u = y2.setCell ⟨g2, 1, none⟩ (.int .i64 2147483648) := ⟨_, rfl⟩
      rw [← hY] at EY OY
      have HY := Lib.hid hY
      clear hY
      have z0 := EY.q0
      have z1 := EY.f0
      have z2 := EY.qX
      have hfin := Lib.hid (EY.fin OY (fun z h => by have h1 : U0.heap.size ≤ z := h.1; omega) hl6 (M.tiny_set (fun x hx => ⟨(tiny.out x hx).1, Nat.le_succ_of_le (tiny.out x hx).2⟩) ⟨ht0.1, by have := ht0.2; simp only at this ⊢; rw [List.length_set]; omega⟩) (by simp))
      clear EY OY
      go_upto_region 18 with fail
      rw [← HY.out]
      go_wp2
      refine bodyPost_ret (v := .agg #[.slice (some ⟨g, 0, none⟩) ms.length c1]) (by simp [results, Tryz.results29, go_sem, z0, z1]) rfl ?_
      exact hfin.out
  by_cases v5 : vv = 5
  · subst v5
    obtain ⟨V, hV⟩ : ∃ u : Value, u = .slice (some ⟨y2.heap.size, 0, none⟩) 0 0 := ⟨_, rfl⟩
    obtain ⟨Y0, hY0⟩ : ∃ u, u = y2.setCell ⟨X, 0, none⟩ V := ⟨_, rfl⟩
    have MX : Mid X (X + 1) y2 Y0 := by rw [hY0]; exact Mid.cell _ X 0 _
    have eS : Y0.heap.size = y2.heap.size := by rw [hY0]; simp
    have E6 : BE w b lo A n c code X _ V Y0 :=
      ⟨MX.cellK (by omega) (.inl (by omega)) E2.q0, MX.frozK (by omega) (.inl (by omega)) E2.f0, by rw [hY0]; exact World.cell?_setCell_same _ _ _ k1, by rw [hY0]; exact (World.frozen?_setCell _ _ _ _).trans k2, E2.src.mid MX (by omega), E2.mid.thenB' (by rw [hY0]; exact (Below.refl w.heap.size _).setCell (p := ⟨X, 0, none⟩) (by show w.heap.size ≤ X; omega) _) (by have := E2.mid.size; omega), by omega, by omega⟩
    have B5 : Below Y0.heap.size Y0 (Y0.alloc (.cells #[] 44)) := (Below.refl _ _).alloc (Nat.le_refl _) _
    have OZ := OS.made00 tSt 44 Y0
    have lY := E6.sz
    have E7 := E6.step hbw (E6.src.below B5 (by omega)) (Mid.of_below B5 _ _)
    rw [eS] at OZ
    obtain ⟨Y, hY⟩ : ∃ u, u = Y0.alloc (.cells #[] 44) := ⟨_, rfl⟩
    rw [← hY] at E7 OZ
    have HY := Lib.hid (show Y = (y2.setCell ⟨X, 0, none⟩ (.slice (some ⟨y2.heap.size, 0, none⟩) 0 0)).alloc (.cells #[] 44) by rw [hY, hY0, hV])
    have z9 := E7.q0
    have z8 := E7.f0
    have z7 := E7.qX
    rw [hV] at z7
    have hfin := Lib.hid (E7.fin OZ (fun z h => by have h1 : y2.heap.size ≤ z := h.1; omega) (by omega) (fun x hx => by simp at hx) rfl)
    clear hY hY0 hV E7 E6 OZ B5 MX eS lY E2 O2
    go_upto_region 18 with fail
    rw [← HY.out]
    go_wp2
    refine bodyPost_ret (v := .agg #[.slice (some ⟨y2.heap.size, 0, none⟩) 0 0]) (by simp [results, Tryz.results29, go_sem, z9, z8]) rfl ?_
    exact hfin.out
  · have EY := E2
    have OY := O2
    clear E2 O2
    obtain ⟨Y, hY⟩ : ∃ u, u = y2 := ⟨_, rfl⟩
    rw [← hY] at EY OY
    have HY := Lib.hid hY
    clear hY
    have z0 := EY.q0
    have z1 := EY.f0
    have z2 := EY.qX
    have hfin := Lib.hid (EY.fin OY (fun z h => by have h1 : U0.heap.size ≤ z := h.1; omega) hl6 (fun x hx => ⟨(tiny.out x hx).1, Nat.le_succ_of_le (tiny.out x hx).2⟩) (by simp))
    clear EY OY
    go_upto_region 18 with fail
    rw [← HY.out]
    go_wp2
    refine bodyPost_ret (v := .agg #[.slice (some ⟨g, 0, none⟩) ms.length c1]) (by simp [results, Tryz.results29, go_sem, z0, z1]) rfl ?_
    exact hfin.out
end Go.Proofs.YtecdendjlgohjaaGreatDoor
namespace Go.Proofs.YtecdendjlgohjaaGreatDoor
open Go.RowKit Go.Sort
set_option maxHeartbeats 4000000
set_option maxRecDepth 100000
theorem laws_b10Long (A : Option Addr) (n c : Nat) (w : World) :
    Calls Tryz.prog 10 #[.slice A n c] w fun e w' => e = .returned (.bool (decide (1048576 < n))) ∧ w = w' := by
  by_cases h1 : 1048576 < n
  · have h2 : (1048576 : Int) < (n : Int) := by omega
    go_enter Tryz.func10, Tryz.ntmps10
    go_wp2
    go_ret
    exact ⟨by simp [h1, h2], rfl⟩
  · have h2 : ¬ (1048576 : Int) < (n : Int) := by omega
    go_enter Tryz.func10, Tryz.ntmps10
    go_wp2
    go_ret
    exact ⟨by simp [h1, h2], rfl⟩
/-- A small mixer. -/
def MixL (w : World) (e : Ending) (w' : World) : Prop :=
  ∃ A1 c1 ms, e = .returned (.agg #[.slice A1 (List.length ms) c1]) ∧ tM.R w' w'.heap.size [.slice A1 ms.length c1] ms ∧ ms.length ≤ 6 ∧ Hid (M.tiny 5 ms) ∧ Below w.heap.size w w'
theorem spec_DrawDelaysOf (A : Option Addr) (n c : Nat) (code : List UInt8) (w : World) (hr : RS tU8 w w.heap.size (.slice A n c) code) :
    Calls Tryz.prog 11 #[.slice A n c] w (MixL w) := by
  obtain ⟨W, hW⟩ : ∃ W, W = w.alloc (.cells #[.slice none 0 0] 24) := ⟨_, rfl⟩
  have B0 : Below w.heap.size w W := by rw [hW]; exact (Below.refl _ _).alloc (Nat.le_refl _) _
  have z0 : w.heap.size + 1 ≤ W.heap.size := by rw [hW]; simp
  have q0 : W.cell? ⟨w.heap.size, 0, none⟩ = some (.slice none 0 0) := by rw [hW]; simp [go_sem]
  have f0 : W.frozen? ⟨w.heap.size, 0, none⟩ = false := by rw [hW]; simp [go_sem]
  have HW := Lib.hid hW
  clear hW
  have hr0 := hr.later B0
  go_enter Tryz.func11, Tryz.ntmps11
  go_wp2_with fail
  rw [← HW.out]
  refine (spec_l00From A n c code W hr0).mono ?_
  rintro e w1 ⟨b, rfl, hb, s1, b1, z1⟩
  have hbl : w.heap.size + 1 ≤ b := by omega
  have lt1 : b + 1 ≤ w1.heap.size := by omega
  have hb' := Lib.hid hb
  clear z1 hb
  go_wp2_with fail
  refine (spec_l26Bent _ _ A n c code 0 w1 s1 (by omega)).mono ?_
  rintro e w2 ⟨A1, c1, ms, rfl, o2, hl, ht, m2⟩
  have lt2 := m2.size
  have q2 : w2.cell? ⟨w.heap.size, 0, none⟩ = some (.slice none 0 0) := m2.cellK (by omega) (.inl (by omega)) (by rw [b1.cell (by show w.heap.size < _; omega)]; exact q0)
  have f2 : w2.frozen? ⟨w.heap.size, 0, none⟩ = false := m2.frozK (by omega) (.inl (by omega)) (by rw [b1.frozen (by show w.heap.size < _; omega)]; exact f0)
  go_wp2
  refine bodyPost_ret (v := .agg #[.slice A1 ms.length c1]) (by simp [results, Tryz.results11, go_sem, q2, f2]) rfl ?_
  have hb1 := hb'.out
  have CB : Chg (fun z => z = w.heap.size) w2 (w2.setCell ⟨w.heap.size, 0, none⟩ (.slice A1 ms.length c1)) := Chg.set w2 w.heap.size 0 _ rfl
  exact ⟨A1, c1, ms, rfl, sl_R.2 (o2.chg CB (fun z h1 (h2 : z = w.heap.size) => by omega)).read, hl, ht, ((B0.trans (b1.mono B0.size)).trans ((m2.toBelow (by omega)).mono (by omega))).setCell (Nat.le_refl _) _⟩
end Go.Proofs.YtecdendjlgohjaaGreatDoor
namespace Go.Proofs.YtecdendjlgohjaaGreatDoor
open Go.RowKit
set_option maxHeartbeats 4000000
set_option maxRecDepth 100000
theorem M.has_no {xs : List Strip} {k : Nat} {s : ByteArray} (h : ∀ j, j < k → ∀ y, xs[j]? = some y → ¬ y.1 = s) : M.has s ((xs.take k).map (·.1)) = false := by
  rw [M.has, List.any_eq_false]
  intro t ht
  obtain ⟨y, hy, rfl⟩ := List.mem_map.1 ht
  obtain ⟨j, hj⟩ := List.getElem?_of_mem hy
  have hj2 : j < k := by
    have := (List.getElem?_eq_some_iff.1 hj).1
    rw [List.length_take] at this
    omega
  rw [List.getElem?_take, if_pos hj2] at hj
  simpa using h j hj2 y hj
theorem M.has_yes {xs : List Strip} {k j : Nat} {y : Strip} (hj : j < k) (h : xs[j]? = some y) : M.has y.1 ((xs.take k).map (·.1)) = true := by
  rw [M.has, List.any_eq_true]
  refine ⟨y.1, List.mem_map.2 ⟨y, List.mem_of_getElem? (i := j) (by rw [List.getElem?_take, if_pos hj]; exact h), rfl⟩, by simp⟩
theorem spec_l26Ok_at (vb vo : Nat) (A : Option Addr) (n c : Nat) (xs : List Strip) (w : World) (hv0 : w.cell? ⟨vb, vo, none⟩ = some (.slice A n c)) (hx : tM.R w w.heap.size [.slice A n c] xs) (hn : hM.sz xs ≤ 100000000) :
    Calls Tryz.prog 21 #[.pointer (some ⟨vb, vo, none⟩)] w fun e w' => e = .returned (.bool (M.mixOk xs)) ∧ Below w.heap.size w w' := by
  have hvb : vb < w.heap.size := World.block_lt_of_cell? w _ hv0
  have rx := sl_R.1 hx
  have hlx := rx.cap.1
  have hm1 : xs.length + hSt.szL xs ≤ 100000000 := hn
  have hnb : n ≤ 100000000 := by omega
  have HLX := Lib.hid hlx
  have HM1 := Lib.hid hm1
  clear hlx hx hn hm1
  cases hI : M.inn n 1 8
  · have R := Lib.hid (show M.mixOk xs = false by rw [M.mixOk, HLX.out, hI]; rfl)
    go_enter Tryz.func21, Tryz.ntmps21
    go_wp2_with (go_at_call 39; refine (spec_l00In _ _ _ _).mono ?_; rintro e w' ⟨rfl, rfl⟩)
    go_ret
    exact ⟨ret_bool (by rw [R.out]), Below.refl _ _⟩
  · have hb8 := M.inn_iffM.1 hI
    have HI := Lib.hid hI
    go_enter Tryz.func21, Tryz.ntmps21
    go_wp2_with (go_at_call 39; refine (spec_l00In _ _ _ _).mono ?_; rintro e w' ⟨rfl, rfl⟩)
    clear hI
    go_loopw [4, 5] (fun i _ wr => ∃ k : Nat, i = .int .i64 k ∧ k ≤ n ∧ Hid (∀ j, j < k → M.stepM xs j = true) ∧ Below w.heap.size w wr) (fun i _ _ => n - (intOf i).toNat)
    case atStart => exact ⟨0, rfl, by omega, Lib.hid (by omega), Below.refl _ _⟩
    case round =>
      obtain ⟨k, rfl, hk, H, Bw⟩ := hrel
      have c0 : wr.cell? ⟨vb, vo, none⟩ = some (.slice A n c) := by rw [Bw.cell hvb]; exact hv0
      by_cases hlt : k < n
      · have hX := Lib.hid (List.getElem?_eq_getElem (l := xs) (i := k) (by rw [HLX.out]; exact hlt))
        obtain ⟨b, o1, cc, cs, hv, hab, -, hE, hcc⟩ := (rx.below Bw).atX hX.out
        simp only [Value.slice.injEq] at hv
        obtain ⟨rfl, -, rfl⟩ := hv
        have hU := hSt.szL_at hX.out
        generalize xs[k]'(by rw [HLX.out]; exact hlt) = x at hX hE hU
        obtain ⟨s, l, us⟩ := x
        rw [hSt_sz] at hU
        obtain ⟨A1, n1, c1, rfl, hs, hE⟩ := st_R.1 hE
        have n1b : n1 ≤ 1000000000 := by have := (tSdS_ra hE).1.1; have := HM1.out; omega
        have e0 : wr.cell? ⟨b, o1 + k * 3, none⟩ = some (.string s) := hcc 0 _ rfl
        have e1 : wr.cell? ⟨b, o1 + k * 3 + 1, none⟩ = some (.int .i64 l) := hcc 1 _ rfl
        have e2 : wr.cell? ⟨b, o1 + k * 3 + 2, none⟩ = some (.slice A1 n1 c1) := hcc 2 _ rfl
        have hra := (tSdS_ra (tSdS.more Bw.size hE)).1
        have hS := Lib.hid (M.stepM_eq hX.out)
        have HNO := Lib.hid (fun h => M.mix_no (xs := xs) (k := k) (by rw [HLX.out]; exact hlt) h)
        have HC := Lib.hid (spec_l26Strip b (o1 + k * 3) s l A1 n1 c1 us k n wr e0 e1 e2 hs hra n1b ⟨by omega, by omega⟩ ⟨by omega, by omega⟩)
        clear hcc hU hE
        cases hST : M.stripOk (s, l, us) k n
        · have R := Lib.hid (show M.mixOk xs = false from HNO.out (by rw [hS.out, HLX.out, hST]; rfl))
          go_wp2_with (go_at_call 40; refine HC.out.mono ?_; rw [hST]; rintro e w' ⟨rfl, rfl⟩)
          go_ret
          exact ⟨ret_bool (by rw [R.out]), Bw⟩
        · have HST := Lib.hid hST
          clear hST
          go_wp2_with (go_at_call 40; refine HC.out.mono ?_; rw [HST.out]; rintro e w' ⟨rfl, rfl⟩)
          obtain ⟨wo, rfl⟩ : ∃ wo : World, wo = wr := ⟨_, rfl⟩
          clear HC e1 e2 hra
          go_loopw [5] (fun i wr => ∃ j : Nat, i = .int .i64 j ∧ j ≤ k ∧ Hid (∀ q, q < j → ∀ y, xs[q]? = some y → ¬ y.1 = s) ∧ Below w.heap.size w wr) (fun i _ => k - (intOf i).toNat)
          case atStart => exact ⟨0, rfl, by omega, Lib.hid (by omega), Bw⟩
          case round =>
            obtain ⟨j, rfl, hj, HJ, Bw2⟩ := hrel
            have d0 : wr.cell? ⟨vb, vo, none⟩ = some (.slice (some ⟨b, o1, none⟩) n c) := by rw [Bw2.cell hvb]; exact hv0
            by_cases hlt2 : j < k
            · have hY := Lib.hid (List.getElem?_eq_getElem (l := xs) (i := j) (by rw [HLX.out]; omega))
              obtain ⟨b', o2, cc', cs', hv', -, -, hE', hdd⟩ := (rx.below Bw2).atX hY.out
              simp only [Value.slice.injEq, Option.some.injEq, Addr.mk.injEq] at hv'
              obtain ⟨⟨rfl, rfl, -⟩, -, rfl⟩ := hv'
              generalize xs[j]'(by rw [HLX.out]; omega) = y at hY hE'
              obtain ⟨s', l', vs⟩ := y
              obtain ⟨A2, n2, c2, rfl, -, -⟩ := st_R.1 hE'
              have f0 : wr.cell? ⟨b, o1 + j * 3, none⟩ = some (.string s') := hdd 0 _ rfl
              have f1 : wr.cell? ⟨b, o1 + k * 3, none⟩ = some (.string s) := by
                obtain ⟨b2, o3, cc2, cs2, hv2, -, -, hE2, hgg⟩ := (rx.below Bw2).atX hX.out
                simp only [Value.slice.injEq, Option.some.injEq, Addr.mk.injEq] at hv2
                obtain ⟨⟨rfl, rfl, -⟩, -, rfl⟩ := hv2
                obtain ⟨A3, n3, c3, rfl, -, -⟩ := st_R.1 hE2
                exact hgg 0 _ rfl
              have hjn : (j : Int) < (n : Int) := by omega
              have hj0 : (0 : Int) ≤ (j : Int) := by omega
              have hkn : (k : Int) < (n : Int) := by omega
              clear hdd hE'
              by_cases hss : s' = s
              · have R := Lib.hid (show M.mixOk xs = false from HNO.out (by
                  have h1 := M.has_yes hlt2 hY.out
                  rw [hss] at h1
                  rw [hS.out, h1, Bool.not_true, Bool.and_false]))
                have h1 : s'.toList = s.toList := by rw [hss]
                subst hss
                go_wp2
                go_quiet (fail)
                go_wp2
                go_ret
                exact ⟨ret_bool (by rw [R.out]), below_drewN Bw2 _⟩
              · have h1 := str_ne hss
                have h2 : (s'.toList == s.toList) = false := by simpa using h1
                have HSS := Lib.hid hss
                clear hss
                go_wp2
                go_quiet (fail)
                go_wp2
                go_roundw
                case rel => exact ⟨j + 1, by go_num, by omega, Lib.hid (fun q hq y hy => by
                    rcases Nat.lt_or_ge q j with h3 | h3
                    · exact HJ.out q h3 y hy
                    · obtain rfl : q = j := by omega
                      rw [hY.out] at hy
                      injection hy with hy
                      subst hy
                      exact HSS.out), below_drewN Bw2 _⟩
                case measure => simp [intOf]; omega
            · obtain rfl : j = k := by omega
              have HGO := Lib.hid (show M.stepM xs j = true by rw [hS.out, HLX.out, HST.out, M.has_no HJ.out]; rfl)
              go_wp2
              go_roundw
              case rel => exact ⟨j + 1, by go_num, by omega, Lib.hid (fun q hq => by
                  rcases Nat.lt_or_ge q j with h3 | h3
                  · exact H.out q h3
                  · obtain rfl : q = j := by omega
                    exact HGO.out), Bw2⟩
              case measure => simp [intOf]; omega
      · have R := Lib.hid (show M.mixOk xs = true by rw [M.mix_end (fun j hj => H.out j (by rw [HLX.out] at hj; omega)), HLX.out, HI.out])
        go_wp2
        go_ret
        exact ⟨ret_bool (by rw [R.out]), Bw⟩
theorem spec_l26Ok (vb : Nat) (A : Option Addr) (n c : Nat) (xs : List Strip) (w : World) (hv0 : w.cell? ⟨vb, 0, none⟩ = some (.slice A n c)) (hx : tM.R w w.heap.size [.slice A n c] xs) (hn : hM.sz xs ≤ 100000000) :
    Calls Tryz.prog 21 #[.pointer (some ⟨vb, 0, none⟩)] w fun e w' => e = .returned (.bool (M.mixOk xs)) ∧ Below w.heap.size w w' :=
  spec_l26Ok_at vb 0 A n c xs w hv0 hx hn
theorem spec_ValidMixer (A : Option Addr) (n c : Nat) (xs : List Strip) (w : World) (hx : tM.R w w.heap.size [.slice A n c] xs) (hn : hM.sz xs ≤ 100000000) :
    Calls Tryz.prog 15 #[.agg #[.slice A n c]] w fun e w' => e = .returned (.bool (M.mixOk xs)) ∧ Below w.heap.size w w' := by
  have hb : Below w.heap.size w (w.alloc (.cells #[.slice A n c] 24)) := (Below.refl _ _).alloc (Nat.le_refl _) _
  have hx2 := tM.later hx hb
  have hself : (w.alloc (.cells #[.slice A n c] 24)).cell? ⟨w.heap.size, 0, none⟩ = some (.slice A n c) := by simp [go_sem]
  go_enter Tryz.func15, Tryz.ntmps15
  go_wp2_with (go_at_call 21; refine (spec_l26Ok _ _ _ _ _ _ hself hx2 hn).mono ?_; rintro e w2 ⟨rfl, bel2⟩)
  go_ret
  exact ⟨rfl, bel_trans hb bel2⟩
end Go.Proofs.YtecdendjlgohjaaGreatDoor
namespace Go.Proofs.YtecdendjlgohjaaGreatDoor
open Go.RowKit
set_option maxHeartbeats 4000000
set_option maxRecDepth 100000
/-- The strip with a name. -/
def M.named (xs : List Strip) (s : ByteArray) : Int := match xs.findIdx? (fun x => decide (x.1 = s)) with
  | some i => (i : Int)
  | none => -1
theorem M.named_at {xs : List Strip} {s : ByteArray} {k : Nat} {x : Strip} (h : xs[k]? = some x) (hx : x.1 = s) (hb : ∀ j, j < k → ∀ y, xs[j]? = some y → ¬ y.1 = s) : M.named xs s = k := by
  obtain ⟨hk, rfl⟩ := List.getElem?_eq_some_iff.1 h
  have : xs.findIdx? (fun x => decide (x.1 = s)) = some k := by
    rw [List.findIdx?_eq_some_iff_getElem]
    exact ⟨hk, by simpa using hx, fun j hj => by simpa using hb j hj _ (List.getElem?_eq_getElem (by omega))⟩
  rw [M.named, this]
theorem M.named_none {xs : List Strip} {s : ByteArray} (hb : ∀ j, j < xs.length → ∀ y, xs[j]? = some y → ¬ y.1 = s) : M.named xs s = -1 := by
  have : xs.findIdx? (fun x => decide (x.1 = s)) = none := by
    rw [List.findIdx?_eq_none_iff]
    intro x hx
    obtain ⟨j, hj⟩ := List.getElem?_of_mem hx
    simpa using hb j (List.getElem?_eq_some_iff.1 hj).1 x hj
  rw [M.named, this]
theorem impl_stripNamed (A : Option Addr) (n c : Nat) (xs : List Strip) (s : ByteArray) (w : World) (hx : tM.R w w.heap.size [.slice A n c] xs) (hn : hM.sz xs ≤ 100000000) :
    Calls Tryz.prog 45 #[.agg #[.slice A n c], .string s] w fun e w' => e = .returned (.int .i64 (M.named xs s)) ∧ Below w.heap.size w w' := by
  have rx := sl_R.1 hx
  have hlx := rx.cap.1
  have hm1 : xs.length + hSt.szL xs ≤ 100000000 := hn
  have hnb : n ≤ 100000000 := by omega
  have HLX := Lib.hid hlx
  clear hlx hx hn hm1
  go_enter Tryz.func45, Tryz.ntmps45
  go_wp2
  go_loopw [5, 6, 10] (fun _ _ i wr => ∃ k : Nat, i = .int .i64 k ∧ k ≤ n ∧ Hid (∀ j, j < k → ∀ y, xs[j]? = some y → ¬ y.1 = s) ∧ Below w.heap.size w wr) (fun _ _ i _ => n - (intOf i).toNat)
  case atStart => exact ⟨0, rfl, by omega, Lib.hid (by omega), (Below.refl _ _).alloc (Nat.le_refl _) _⟩
  case round =>
    obtain ⟨k, rfl, hk, H, Bw⟩ := hrel
    by_cases hlt : k < n
    · have hX := Lib.hid (List.getElem?_eq_getElem (l := xs) (i := k) (by rw [HLX.out]; exact hlt))
      obtain ⟨b, o1, cc, cs, hv, hab, -, hE, hcc⟩ := (rx.below Bw).atX hX.out
      simp only [Value.slice.injEq] at hv
      obtain ⟨rfl, -, rfl⟩ := hv
      generalize xs[k]'(by rw [HLX.out]; exact hlt) = x at hX hE
      obtain ⟨s', l, us⟩ := x
      obtain ⟨A1, n1, c1, rfl, -, -⟩ := st_R.1 hE
      have e0 : wr.cell? ⟨b, o1 + k * 3, none⟩ = some (.string s') := hcc 0 _ rfl
      have e1 : wr.cell? ⟨b, o1 + k * 3 + 1, none⟩ = some (.int .i64 l) := hcc 1 _ rfl
      have e2 : wr.cell? ⟨b, o1 + k * 3 + 2, none⟩ = some (.slice A1 n1 c1) := hcc 2 _ rfl
      clear hcc hE
      by_cases hss : s' = s
      · have R := Lib.hid (M.named_at hX.out hss H.out)
        subst hss
        go_wp2
        go_ret
        exact ⟨ret_int (by rw [R.out]), Bw.alloc Bw.size _⟩
      · have h1 := str_ne hss
        have h2 : (s'.toList == s.toList) = false := by simpa using h1
        have HSS := Lib.hid hss
        clear hss
        go_wp2
        go_roundw
        case rel => exact ⟨k + 1, by go_num, by omega, Lib.hid (fun q hq y hy => by
            rcases Nat.lt_or_ge q k with h3 | h3
            · exact H.out q h3 y hy
            · obtain rfl : q = k := by omega
              rw [hX.out] at hy
              injection hy with hy
              subst hy
              exact HSS.out), Bw.alloc Bw.size _⟩
        case measure => simp [intOf]; omega
    · have R := Lib.hid (M.named_none (xs := xs) (s := s) (fun j hj => H.out j (by rw [HLX.out] at hj; omega)))
      go_wp2
      go_ret
      exact ⟨ret_int (by rw [R.out]), Bw⟩
end Go.Proofs.YtecdendjlgohjaaGreatDoor
namespace Go.Proofs.YtecdendjlgohjaaGreatDoor
open Go.RowKit
set_option maxHeartbeats 1000000
/-- One send: the strip that it leads to is entered no earlier than this one ends. -/
def M.entSend (k : Nat) (l : Int) (acc : List Int) (p : Int × Int) : List Int := acc.set p.1.toNat (max ((acc[p.1.toNat]?).getD 0) ((acc[k]?).getD 0 + l))
/-- The entry times after the first k strips, and j sends of the next. -/
def M.entN (xs : List Strip) : Nat → List Int
  | 0 => List.replicate xs.length 0
  | k + 1 => ((xs[k]?).getD M.sz).2.2.foldl (M.entSend k ((xs[k]?).getD M.sz).2.1) (M.entN xs k)
def M.entS (xs : List Strip) (k : Nat) (l : Int) (us : List (Int × Int)) (j : Nat) : List Int := (us.take j).foldl (M.entSend k l) (M.entN xs k)
def M.entries (xs : List Strip) : List Int := M.entN xs xs.length
theorem M.entSend_len (k : Nat) (l : Int) (acc : List Int) (p : Int × Int) : (M.entSend k l acc p).length = acc.length := by simp [M.entSend]
theorem M.fold_len (k : Nat) (l : Int) (us : List (Int × Int)) : ∀ acc, (us.foldl (M.entSend k l) acc).length = acc.length := by
  induction us with
  | nil => intro acc; rfl
  | cons u us ih => intro acc; rw [List.foldl_cons, ih, M.entSend_len]
theorem M.entN_len (xs : List Strip) : ∀ k, (M.entN xs k).length = xs.length := by
  intro k
  induction k with
  | zero => simp [M.entN]
  | succ k ih => rw [M.entN, M.fold_len, ih]
theorem M.entS_len (xs : List Strip) (k : Nat) (l : Int) (us : List (Int × Int)) (j : Nat) : (M.entS xs k l us j).length = xs.length := by rw [M.entS, M.fold_len, M.entN_len]
theorem M.entS_next {xs : List Strip} {k : Nat} {l : Int} {us : List (Int × Int)} {j : Nat} {p : Int × Int} (h : us[j]? = some p) : M.entS xs k l us (j + 1) = M.entSend k l (M.entS xs k l us j) p := by
  rw [M.entS, M.take_at h, List.foldl_append]; rfl
theorem M.entS_end {xs : List Strip} {k : Nat} {s : ByteArray} {l : Int} {us : List (Int × Int)} (h : xs[k]? = some (s, l, us)) : M.entS xs k l us us.length = M.entN xs (k + 1) := by
  rw [M.entS, M.entN, h, List.take_of_length_le (Nat.le_refl _)]; rfl
/-- All values lie from 0 to b. -/
def M.upTo (b : Int) (acc : List Int) : Prop := ∀ v ∈ acc, 0 ≤ v ∧ v ≤ b
theorem M.upTo_at {b : Int} {acc : List Int} {i : Nat} {v : Int} (h : M.upTo b acc) (hv : acc[i]? = some v) : 0 ≤ v ∧ v ≤ b := h v (List.mem_of_getElem? hv)
theorem M.upTo_get {b : Int} {acc : List Int} (hb : 0 ≤ b) (h : M.upTo b acc) (i : Nat) : 0 ≤ (acc[i]?).getD 0 ∧ (acc[i]?).getD 0 ≤ b := by
  cases hv : acc[i]? with
  | none => simp; exact hb
  | some v => exact M.upTo_at h hv
theorem M.upTo_mono {b b' : Int} {acc : List Int} (h : M.upTo b acc) (hb : b ≤ b') : M.upTo b' acc := fun v hv => ⟨(h v hv).1, Int.le_trans (h v hv).2 hb⟩
theorem M.upTo_send {b : Int} {acc : List Int} {k : Nat} {l : Int} {p : Int × Int} (hb : 0 ≤ b) (h : M.upTo b acc) (hl : 0 ≤ l ∧ l ≤ 32) : M.upTo (b + 32) (M.entSend k l acc p) := by
  intro v hv
  rcases List.mem_or_eq_of_mem_set hv with h1 | rfl
  · have := h v h1; omega
  · have h1 := M.upTo_get hb h p.1.toNat
    have h2 := M.upTo_get hb h k
    omega
theorem M.upTo_fold {k : Nat} {l : Int} (hl : 0 ≤ l ∧ l ≤ 32) (us : List (Int × Int)) : ∀ {b : Int} {acc : List Int}, 0 ≤ b → M.upTo b acc → M.upTo (b + 32 * us.length) (us.foldl (M.entSend k l) acc) := by
  induction us with
  | nil => intro b acc _ h; simpa using h
  | cons u us ih =>
    intro b acc hb h
    have := ih (b := b + 32) (acc := M.entSend k l acc u) (by omega) (M.upTo_send hb h hl)
    refine M.upTo_mono this ?_
    simp only [List.length_cons]
    omega
theorem M.mix_n {xs : List Strip} (h : M.mixOk xs = true) : 1 ≤ xs.length ∧ xs.length ≤ 8 := by
  rw [M.mixOk, Bool.and_eq_true] at h
  have := M.inn_iffM.1 h.1
  omega
theorem M.mix_strip {xs : List Strip} (h : M.mixOk xs = true) {k : Nat} {s : ByteArray} {l : Int} {us : List (Int × Int)} (hk : xs[k]? = some (s, l, us)) : (0 ≤ l ∧ l ≤ 32) ∧ us.length ≤ 4 ∧ M.sendsB xs.length k us = true := by
  rw [M.mixOk, Bool.and_eq_true, List.all_eq_true] at h
  have h1 := h.2 k (List.mem_range.2 (List.getElem?_eq_some_iff.1 hk).1)
  rw [M.stepM_eq hk, Bool.and_eq_true] at h1
  have h2 := h1.1
  rw [M.stripOk, Bool.and_eq_true, Bool.and_eq_true, M.areSends, Bool.and_eq_true] at h2
  refine ⟨M.inn_iffM.1 h2.1.2, ?_, h2.2.1⟩
  have h3 := h2.2.2
  split at h3
  · have : us.length = 0 := by simpa using h3
    omega
  · have := M.inn_iffM.1 h3
    simp only at this
    omega
theorem M.sends_at {m : Int} {us : List (Int × Int)} : ∀ {last : Int} {j : Nat} {p0 p1 : Int}, M.sendsB m last us = true → us[j]? = some (p0, p1) → last < p0 ∧ p0 ≤ m - 1 ∧ M.smp p1 = true := by
  induction us with
  | nil => intro last j p0 p1 _ h; simp at h
  | cons u us ih =>
    intro last j p0 p1 h hj
    rw [M.sendsB, Bool.and_eq_true, Bool.and_eq_true] at h
    have h1 := M.inn_iffM.1 h.1.1
    cases j with
    | zero =>
      simp only [List.getElem?_cons_zero, Option.some.injEq] at hj
      subst hj
      exact ⟨by simp only at h1; omega, h1.2, h.1.2⟩
    | succ j =>
      simp only [List.getElem?_cons_succ] at hj
      have := ih h.2 hj
      exact ⟨by omega, this.2⟩
theorem M.entN_upTo {xs : List Strip} (h : M.mixOk xs = true) : ∀ k, k ≤ xs.length → M.upTo (128 * k) (M.entN xs k) := by
  intro k
  induction k with
  | zero => intro _ v hv; rw [M.entN] at hv; have := (List.mem_replicate.1 hv).2; omega
  | succ k ih =>
    intro hk
    have hx : xs[k]? = some xs[k] := List.getElem?_eq_getElem (by omega)
    generalize xs[k] = x at hx
    obtain ⟨s, l, us⟩ := x
    obtain ⟨h1, h2, _⟩ := M.mix_strip h hx
    rw [M.entN, hx]
    refine M.upTo_mono (M.upTo_fold h1 us (by omega) (ih (by omega))) ?_
    omega
theorem M.entS_upTo {xs : List Strip} (h : M.mixOk xs = true) {k : Nat} {s : ByteArray} {l : Int} {us : List (Int × Int)} (hx : xs[k]? = some (s, l, us)) (j : Nat) : M.upTo 2000 (M.entS xs k l us j) := by
  obtain ⟨h1, h2, _⟩ := M.mix_strip h hx
  have h3 := M.entN_upTo h k (by have := (List.getElem?_eq_some_iff.1 hx).1; omega)
  have h4 := M.mix_n h
  have h5 := (List.getElem?_eq_some_iff.1 hx).1
  refine M.upTo_mono (M.upTo_fold (k := k) h1 (us.take j) (by omega) h3) ?_
  have : (us.take j).length ≤ 4 := by rw [List.length_take]; omega
  omega
theorem M.entSend_eq {acc : List Int} {k q : Nat} {l g a b : Int} (ha : acc[q]? = some a) (hb : acc[k]? = some b) : M.entSend k l acc ((q : Int), g) = acc.set q (max a (b + l)) := by
  rw [M.entSend]
  simp only [Int.toNat_natCast]
  rw [ha, hb]; rfl
end Go.Proofs.YtecdendjlgohjaaGreatDoor
namespace Go.Proofs.YtecdendjlgohjaaGreatDoor
open Go.RowKit
set_option maxHeartbeats 4000000
set_option maxRecDepth 100000
theorem impl_entries (A : Option Addr) (n c : Nat) (xs : List Strip) (w : World) (hx : tM.R w w.heap.size [.slice A n c] xs) (hok : M.mixOk xs = true) :
    Calls Tryz.prog 30 #[.agg #[.slice A n c]] w (Ret1 2 w (M.entries xs)) := by
  have rx := sl_R.1 hx
  have hlx := rx.cap.1
  have hmn := M.mix_n hok
  have hnb : 1 ≤ n ∧ n ≤ 8 := by omega
  have HLX := Lib.hid hlx
  have HOK := Lib.hid hok
  have B0 : Below w.heap.size w (w.alloc (.cells #[.slice A n c] 24)) := (Below.refl _ _).alloc (Nat.le_refl _) _
  have hself : (w.alloc (.cells #[.slice A n c] 24)).cell? ⟨w.heap.size, 0, none⟩ = some (.slice A n c) := by simp [go_sem]
  have hsz : (w.alloc (.cells #[.slice A n c] 24)).heap.size = w.heap.size + 1 := by simp
  have HSZ := Lib.hid hsz
  clear hsz hlx hmn hok
  go_enter Tryz.func30, Tryz.ntmps30
  go_wp2_with (first | (go_at_call 46; refine (impl_size_impl_Strip _ _ _ _).mono ?_; rintro e w' ⟨rfl, rfl⟩) | (go_at_call 58; refine (impl_zeros _ _ (by omega) (by omega)).mono ?_; rintro e w1 ⟨v1, rfl, own1, bel1⟩; have hv1 : w1.cell? ⟨w.heap.size, 0, none⟩ = some (.slice A n c) := (by rw [bel1.cell (by rw [HSZ.out]; simp)]; exact hself)))
  rw [Int.toNat_natCast] at own1
  obtain ⟨A1, c1, rfl, -⟩ := own1.shape
  rw [List.length_replicate] at own1 ⊢
  have own1' : OI 2 (w.heap.size + 1) w1 (.slice A1 n c1) (M.entN xs 0) := by
    have h1 := own1
    rw [HSZ.out] at h1
    show OI 2 (w.heap.size + 1) w1 (.slice A1 n c1) (List.replicate xs.length 0)
    rw [HLX.out]
    exact h1
  have B1 := bel_trans B0 bel1
  clear own1 bel1 hself B0 hv1
  go_loopw [4, 5, 15] (fun _ _ i wr => ∃ k : Nat, i = .int .i64 k ∧ k ≤ n ∧ OI 2 (w.heap.size + 1) wr (.slice A1 n c1) (M.entN xs k) ∧ Below w.heap.size w wr) (fun _ _ i _ => n - (intOf i).toNat)
  case atStart => exact ⟨0, rfl, by omega, own1', B1⟩
  case round =>
    obtain ⟨k, rfl, hk, own, Bw⟩ := hrel
    by_cases hlt : k < n
    · have hX := Lib.hid (List.getElem?_eq_getElem (l := xs) (i := k) (by rw [HLX.out]; exact hlt))
      obtain ⟨b, o1, cc, cs, hv, hab, -, hE, hcc⟩ := (rx.below Bw).atX hX.out
      simp only [Value.slice.injEq] at hv
      obtain ⟨rfl, -, rfl⟩ := hv
      generalize xs[k]'(by rw [HLX.out]; exact hlt) = x at hX hE
      obtain ⟨s, l, us⟩ := x
      obtain ⟨A2, n2, c2, rfl, -, hE⟩ := st_R.1 hE
      have e0 : wr.cell? ⟨b, o1 + k * 3, none⟩ = some (.string s) := hcc 0 _ rfl
      have e1 : wr.cell? ⟨b, o1 + k * 3 + 1, none⟩ = some (.int .i64 l) := hcc 1 _ rfl
      have e2 : wr.cell? ⟨b, o1 + k * 3 + 2, none⟩ = some (.slice A2 n2 c2) := hcc 2 _ rfl
      have hbr : b < wr.heap.size := Nat.lt_of_lt_of_le hab Bw.size
      have rs := (tSdS_ra hE).1
      have hn2 := rs.1
      obtain ⟨hlat, hu4, hsb⟩ := M.mix_strip HOK.out hX.out
      have HN2 := Lib.hid hn2
      have HSB := Lib.hid hsb
      have HUP := Lib.hid (fun j => M.entS_upTo HOK.out hX.out j)
      obtain ⟨g, rfl, hg1, hg2⟩ := own.form' (by omega)
      have Bu := Bw.alloc Bw.size (.cells #[.string s, .int .i64 l, .slice A2 n2 c2] 44)
      have ownu := own.below ((Below.refl wr.heap.size wr).alloc (Nat.le_refl _) (.cells #[.string s, .int .i64 l, .slice A2 n2 c2] 44))
      have lb : (wr.alloc (.cells #[.string s, .int .i64 l, .slice A2 n2 c2] 44)).cell? ⟨wr.heap.size, 1, none⟩ = some (.int .i64 l) := by rw [cell_of_row _ wr.heap.size 1 _ 44 (0, 0) (heap_alloc_new wr _)]; rfl
      have hlu : (wr.alloc (.cells #[.string s, .int .i64 l, .slice A2 n2 c2] 44)).heap.size = wr.heap.size + 1 := by simp
      have n2b : n2 ≤ 4 := by omega
      clear hcc hE hn2 hu4 hsb
      go_wp2
      obtain ⟨wo, rfl⟩ : ∃ wo : World, wo = wr := ⟨_, rfl⟩
      go_loopw [7, 23] (fun _ i wr => ∃ j : Nat, i = .int .i64 j ∧ j ≤ n2 ∧ OI 2 (w.heap.size + 1) wr (.slice (some ⟨g, 0, none⟩) n c1) (M.entS xs k l us j) ∧ wr.cell? ⟨wo.heap.size, 1, none⟩ = some (.int .i64 l) ∧ wo.heap.size + 1 ≤ wr.heap.size ∧ Below w.heap.size w wr ∧ Below w.heap.size wo wr) (fun _ i _ => n2 - (intOf i).toNat)
      case atStart => exact ⟨0, rfl, by omega, ownu, lb, by omega, Bu, (Below.refl _ _).alloc Bw.size _⟩
      case round =>
        obtain ⟨j, rfl, hj, ownj, lj, hszj, Bj, Bo⟩ := hrel
        by_cases hlt2 : j < n2
        · obtain ⟨b2, o2, ⟨p0, p1⟩, rfl, hab2, X2, hdd⟩ := (rs.below Bo).at sd_len (by decide) hlt2
          have f0 : wr.cell? ⟨b2, o2 + j * 2, none⟩ = some (.int .i64 p0) := hdd 0 _ rfl
          have f1 : wr.cell? ⟨b2, o2 + j * 2 + 1, none⟩ = some (.int .i64 p1) := hdd 1 _ rfl
          obtain ⟨hp1, hp2, -⟩ := M.sends_at HSB.out X2.out
          obtain ⟨q, rfl⟩ : ∃ q : Nat, p0 = q := ⟨p0.toNat, by omega⟩
          have hqn : q < n := by have := HLX.out; omega
          obtain ⟨x, hxx, cx, fx, -, -⟩ := ownj.at' hqn
          obtain ⟨y, hyy, cy, fy, -, -⟩ := ownj.at' hlt
          have bx := M.upTo_at (HUP.out j) hxx.out
          have by_ := M.upTo_at (HUP.out j) hyy.out
          have hgw : g < wr.heap.size := by omega
          have hng : ¬ g = wo.heap.size := by omega
          have hE2 := Lib.hid (M.entS_next (xs := xs) (k := k) (l := l) X2.out)
          have hE3 := Lib.hid (M.entSend_eq (k := k) (l := l) (g := p1) hxx.out hyy.out)
          have lw : wo.heap.size < wr.heap.size := by omega
          have hb2w : b2 < wr.heap.size := Nat.lt_of_lt_of_le hab2 Bj.size
          clear hdd hp1 hp2
          obtain ⟨U, hU⟩ : ∃ U, U = wr.alloc (.cells #[.int .i64 (q : Int), .int .i64 p1] 47) := ⟨_, rfl⟩
          have G0 : Below wr.heap.size wr U := by rw [hU]; exact (Below.refl _ _).alloc (Nat.le_refl _) _
          have u0 : U.cell? ⟨wr.heap.size, 0, none⟩ = some (.int .i64 (q : Int)) := by rw [hU, cell_of_row _ wr.heap.size 0 _ 47 (0, 0) (heap_alloc_new wr _)]; rfl
          have ux : U.cell? ⟨g, q, none⟩ = some (.int .i64 x) := by rw [G0.cell hgw]; exact cx
          have vx : U.frozen? ⟨g, q, none⟩ = false := by rw [G0.frozen hgw]; exact fx
          have uy : U.cell? ⟨g, k, none⟩ = some (.int .i64 y) := by rw [G0.cell hgw]; exact cy
          have ul : U.cell? ⟨wo.heap.size, 1, none⟩ = some (.int .i64 l) := by rw [G0.cell lw]; exact lj
          have ownU := ownj.below G0
          have HU := Lib.hid hU
          have hqn2 : (q : Int) < (n : Int) := by omega
          have hkn2 : (k : Int) < (n : Int) := by omega
          clear hU
          go_wp2
          rw [← HU.out]
          refine wp_region_still_tail 17 (by kernel_rfl) (by kernel_rfl) ?_
          simp only [List.take_succ_cons, List.take_zero, List.drop_succ_cons, List.drop_zero]
          iterate 17 still_step
          refine wpStill_nil ?_
          change wpList _ _ _ _ _ U.drew
          go_wp2
          go_roundw
          case rel =>
            have h3 := OI.stored' ownU q (if x < y + l then y + l else x)
            have e3 : (M.entS xs k l us j).set q (if x < y + l then y + l else x) = M.entS xs k l us (j + 1) := by
              rw [hE2.out, hE3.out]
              congr 1
              split <;> omega
            rw [e3] at h3
            have z0 : w.heap.size ≤ wr.heap.size := by omega
            have z1 := G0.size
            have z2 : (U.setCell ⟨g, q, none⟩ (.int .i64 (if x < y + l then y + l else x))).heap.size = U.heap.size := by simp
            have z3 : (U.setCell ⟨g, q, none⟩ (.int .i64 (if x < y + l then y + l else x))).cell? ⟨wo.heap.size, 1, none⟩ = some (.int .i64 l) := by
              rw [World.cell?_of_block (heap_setCell_other U ⟨g, q, none⟩ wo.heap.size _ (fun e => hng e.symm))]
              exact ul
            exact ⟨j + 1, by go_num, by omega, h3, z3, by show wo.heap.size + 1 ≤ (U.setCell ⟨g, q, none⟩ (.int .i64 (if x < y + l then y + l else x))).heap.size; omega, ((Bj.trans (G0.mono z0)).setCell (Nat.le_trans (Nat.le_succ _) hg1) _).drew, ((Bo.trans (G0.mono z0)).setCell (Nat.le_trans (Nat.le_succ _) hg1) _).drew⟩
          case measure => simp [intOf]; omega
        · obtain rfl : j = n2 := by omega
          have hend := M.entS_end hX.out
          rw [HN2.out] at hend
          have HE := Lib.hid hend
          clear hend
          go_wp2
          go_roundw
          case rel => exact ⟨k + 1, by go_num, by omega, by rw [← HE.out]; exact ownj, Bj⟩
          case measure => simp [intOf]; omega
    · obtain rfl : k = n := by omega
      go_wp2
      go_ret
      exact ⟨_, rfl, by rw [M.entries, HLX.out]; exact own.base (by omega), Bw⟩
end Go.Proofs.YtecdendjlgohjaaGreatDoor
namespace Go.Proofs.YtecdendjlgohjaaGreatDoor
open Go.RowKit
set_option maxHeartbeats 4000000
set_option maxRecDepth 100000
end Go.Proofs.YtecdendjlgohjaaGreatDoor
namespace Go.Proofs.YtecdendjlgohjaaGreatDoor
open Go.RowKit
set_option maxHeartbeats 4000000
set_option maxRecDepth 100000
def M.total (xs : List Strip) : Int := ((M.entries xs)[xs.length - 1]?).getD 0 + ((xs[xs.length - 1]?).getD M.sz).2.1
def M.totalR (xs : List Strip) : Int × Int := if M.mixOk xs then (M.total xs, 0) else (0, 1)
def M.entryR (xs : List Strip) : List Int × Int := if M.mixOk xs then (M.entries xs, 0) else ([], 1)
theorem M.entries_len (xs : List Strip) : (M.entries xs).length = xs.length := M.entN_len _ _
theorem M.entries_upTo {xs : List Strip} (h : M.mixOk xs = true) : M.upTo 2000 (M.entries xs) := M.upTo_mono (M.entN_upTo h xs.length (Nat.le_refl _)) (by have := M.mix_n h; omega)
theorem impl_latency (A : Option Addr) (n c : Nat) (xs : List Strip) (w : World) (hx : tM.R w w.heap.size [.slice A n c] xs) (hok : M.mixOk xs = true) :
    Calls Tryz.prog 32 #[.agg #[.slice A n c]] w fun e w' => e = .returned (.int .i64 (M.total xs)) ∧ Below w.heap.size w w' := by
  have rx := sl_R.1 hx
  have hlx := rx.cap.1
  have hmn := M.mix_n hok
  have hnb : 1 ≤ n ∧ n ≤ 8 := by omega
  have HLX := Lib.hid hlx
  have HOK := Lib.hid hok
  obtain ⟨W, hW⟩ : ∃ W, W = w.alloc (.cells #[.slice A n c] 24) := ⟨_, rfl⟩
  have B0 : Below w.heap.size w W := by rw [hW]; exact (Below.refl _ _).alloc (Nat.le_refl _) _
  have hself : W.cell? ⟨w.heap.size, 0, none⟩ = some (.slice A n c) := by rw [hW]; simp [go_sem]
  have lx : w.heap.size < W.heap.size := by rw [hW]; simp
  have HW := Lib.hid hW
  have hX := Lib.hid (List.getElem?_eq_getElem (l := xs) (i := n - 1) (by omega))
  obtain ⟨b, o1, cc, cs, hv, hab, -, hE, hcc⟩ := (rx.below B0).atX hX.out
  simp only [Value.slice.injEq] at hv
  obtain ⟨rfl, -, rfl⟩ := hv
  generalize xs[n - 1]'(by omega) = x at hX hE
  obtain ⟨s, l, us⟩ := x
  obtain ⟨A2, n2, c2, rfl, -, -⟩ := st_R.1 hE
  have e1 : W.cell? ⟨b, o1 + (n - 1) * 3 + 1, none⟩ = some (.int .i64 l) := hcc 1 _ rfl
  obtain ⟨hlat, -, -⟩ := M.mix_strip HOK.out hX.out
  have hEl := Lib.hid (List.getElem?_eq_getElem (l := M.entries xs) (i := n - 1) (by rw [M.entries_len]; omega))
  generalize (M.entries xs)[n - 1]'(by rw [M.entries_len]; omega) = t at hEl
  have hbt := M.upTo_at (M.entries_upTo HOK.out) hEl.out
  have HT := Lib.hid (show M.total xs = t + l by rw [M.total, HLX.out, hEl.out, hX.out]; rfl)
  have hkk : IntKind.i64.wrap ((n : Int) - 1) = ((n - 1 : Nat) : Int) := by rw [IntWalk.i64_in _ (by omega)]; omega
  have i0 : (0 : Int) ≤ ((n - 1 : Nat) : Int) := by omega
  have i1 : ((n - 1 : Nat) : Int) < (n : Int) := by omega
  have i2 : n - 1 < n := by omega
  have htl : IntKind.i64.wrap (t + l) = t + l := IntWalk.i64_in _ (by omega)
  have D1 : Below W.heap.size W (W.drewN 1) := below_drewN (Below.refl _ _) 1
  have hxd := tM.later hx (bel_trans B0 D1)
  have lb : b < W.heap.size := Nat.lt_of_lt_of_le hab B0.size
  clear hcc hE hlx hmn hok hW
  go_enter Tryz.func32, Tryz.ntmps32
  go_wp2
  rw [← HW.out]
  go_region_with
    (first | (go_at_call 30; refine (impl_entries _ _ _ _ _ hxd HOK.out).mono ?_; rintro e w2 ⟨v2, rfl, own2, bel2⟩; obtain ⟨A3, c3, rfl, -⟩ := own2.shape; have hl3 := M.entries_len xs; rw [HLX.out] at hl3; rw [hl3] at own2 ⊢; clear hl3; obtain ⟨g, rfl, -, -⟩ := own2.form' (show 0 < n by omega); obtain ⟨t2, hT2, hct, -, -, -⟩ := own2.at' i2; have e9 := hT2.out; rw [hEl.out] at e9; injection e9 with e9; rw [← e9] at hct; clear e9; have G2 := bel_trans D1 bel2; have hself2 : w2.cell? ⟨w.heap.size, 0, none⟩ = some (.slice (some ⟨b, o1, none⟩) n c) := (by rw [G2.cell lx]; exact hself); have e12 : w2.cell? ⟨b, o1 + (n - 1) * 3 + 1, none⟩ = some (.int .i64 l) := (by rw [G2.cell lb]; exact e1)))
  all_goals
    go_wp2
    go_ret
    exact ⟨ret_int (by rw [HT.out]), bel_trans B0 G2⟩
end Go.Proofs.YtecdendjlgohjaaGreatDoor
namespace Go.Proofs.YtecdendjlgohjaaGreatDoor
open Go.RowKit
set_option maxHeartbeats 400000
end Go.Proofs.YtecdendjlgohjaaGreatDoor
