import Derived.Test.YtfkcoiefkjmdeaaGreatFnGainsG11
import Derived.Test.YtfkcoiefkjmdeaaGreatFnGainsG9
import Derived.Deep.DeepCutAuto
import Derived.Deep.CutRange
import Derived.Lib.QuietBelow
set_option linter.unusedVariables false
set_option linter.unusedSimpArgs false
namespace Go.Proofs.YtfkcoiefkjmdeaaGreat
open Go.RowKit Go.Sort
set_option maxHeartbeats 4000000
set_option maxRecDepth 100000
set_option linter.unusedVariables false
set_option linter.unusedSimpArgs false
set_option synthInstance.maxSize 2000
set_option synthInstance.maxHeartbeats 400000
theorem CR.made {F : Nat → Prop} {w w1 : World} {n : Nat} (own1 : w1.ownsRow w.heap.size 26 1 (.slice (some ⟨w.heap.size, 0, none⟩) n n) n (madeCells (Value.slice none 0 0).cells (n * 1)).toList) : CR F 26 w.heap.size w1 (.slice (some ⟨w.heap.size, 0, none⟩) n n) (List.replicate n []) := by
  have e := toList_madeCells_one (.slice none 0 0) n
  simp only [Nat.mul_one, Value.cells] at own1
  rw [e] at own1
  refine ⟨List.replicate n (.slice none 0 0), by rw [List.length_replicate]; exact own1, fun k x hx => ?_⟩
  have hk : k < n := by have := (List.getElem?_eq_some_iff.1 hx).1; simpa using this
  obtain rfl : x = [] := by rw [List.getElem?_replicate, if_pos hk] at hx; exact (Option.some.inj hx).symm
  exact ⟨none, 0, by simp [hk], Nat.le_refl _, RI.nil _ _ _, fun ad hn => absurd hn (by simp)⟩
theorem rep_set {α : Type} (z y : α) (k n : Nat) (h : k < n) : (List.replicate k z ++ List.replicate (n - k) y).set k z = List.replicate (k + 1) z ++ List.replicate (n - (k + 1)) y := by
  rw [List.set_append_right _ _ (by simp), List.length_replicate, Nat.sub_self, show n - k = (n - (k + 1)) + 1 by omega, List.replicate_succ, List.set_cons_zero, List.replicate_succ']
  simp
theorem M.cel_of {cs : List (List Int)} {i : Nat} {s : List Int} (h : cs[i]? = some s) : M.cel cs i = s := M.cel_some h
theorem newbox2 (w : World) (z0 z1 : Value) (t : TypeId) : ∃ U, U = w.alloc (.cells #[z0, z1] t) ∧ Below w.heap.size w U ∧ U.heap.size = w.heap.size + 1 ∧ U.cell? ⟨w.heap.size, 0, none⟩ = some z0 ∧ U.cell? ⟨w.heap.size, 1, none⟩ = some z1 ∧ (∀ j, U.frozen? ⟨w.heap.size, j, none⟩ = false) :=
  ⟨_, rfl, (Below.refl _ _).alloc (Nat.le_refl _) _, by simp, by simp [go_sem], by simp [go_sem], fun j => by simp [go_sem]⟩
theorem impl_strips (L : Nat) (A1 : Option Addr) (n1 c1 : Nat) (A2 : Option Addr) (n2 c2 : Nat) (A3 : Option Addr) (n3 c3 : Nat) (A4 : Option Addr) (n4 c4 : Nat) (A5 : Option Addr) (n5 c5 : Nat) (src : List (List Int)) (ts : List (List Clip_)) (fs : List Int) (ps : List Patch) (ms : List Strip) (w : World)
    (h1 : tSS.R w w.heap.size [.slice A1 n1 c1] src) (h2 : tTS.R w w.heap.size [.slice A2 n2 c2] ts) (h3 : tS.R w w.heap.size [.slice A3 n3 c3] fs) (h4 : tPS.R w w.heap.size [.slice A4 n4 c4] ps) (h5 : tM.R w w.heap.size [.slice A5 n5 c5] ms) (hn : hZ.sz (((L : Int), src, ts, fs, ps, ms) : Sess) ≤ 100000000) (hO : M.SO L src ts fs ps ms) :
    Calls Tryz.prog 60 #[.agg #[.int .i64 L, .slice A1 n1 c1, .slice A2 n2 c2, .slice A3 n3 c3, .slice A4 n4 c4, .slice A5 n5 c5]] w fun e w' => ∃ (vO vR : Value) (G : Nat → Prop), e = .returned (.tuple #[vO, vR]) ∧ OS tS 26 w' G vO (M.outs L src ts fs ps ms) ∧ OI 2 w.heap.size w' vR (M.rdyL ms) ∧ (∀ k, G k → w.heap.size ≤ k ∧ k < w'.heap.size ∧ vR.ownBlock ≠ some k) ∧ Below w.heap.size w w' := by
  obtain ⟨W, hW, B0, sW, p0, p1, p2, p3, p4, p5, pf⟩ := newbox6 w (.int .i64 L) (.slice A1 n1 c1) (.slice A2 n2 c2) (.slice A3 n3 c3) (.slice A4 n4 c4) (.slice A5 n5 c5) 32
  have HW := Lib.hid hW
  have lW : w.heap.size < W.heap.size := by omega
  have k1 := sl_R.1 h1
  have k2 := sl_R.1 h2
  have k3 := (tS_R.1 h3).ri
  have k4 := sl_R.1 h4
  have k5 := sl_R.1 h5
  have Q1 := Lib.hid k1.cap.1
  have Q2 := Lib.hid k2.cap.1
  have Q3 := Lib.hid k3.len
  have Q4 := Lib.hid k4.cap.1
  have Q5 := Lib.hid k5.cap.1
  rw [hZ_sz] at hn
  have z1 : hSS.sz src ≤ 100000000 := by omega
  have z2 : hTS.sz ts ≤ 100000000 := by omega
  have z4 : hPS.sz ps ≤ 100000000 := by omega
  have z5 : hM.sz ms ≤ 100000000 := by omega
  have hmn := M.mix_n hO.mix
  have hm5 : 1 ≤ n5 ∧ n5 ≤ 8 := by rw [← Q5.out]; exact hmn
  have ht2 : n2 ≤ 6 := by rw [← Q2.out]; exact hO.tl
  have ht3 : n3 = n2 := by rw [← Q3.out, ← Q2.out]; exact hO.fl
  have ht4 : n4 = n5 := by rw [← Q4.out, ← Q5.out]; exact hO.pl
  subst ht3 ht4
  have hL := hO.l
  have hT := M.total_bd hO.mix
  have hnT := M.nT_le hO
  have HNI := Lib.hid (M.nT_int hO)
  obtain ⟨n, hnn⟩ : ∃ n, n = M.nT L ms := ⟨_, rfl⟩
  have HN := Lib.hid hnn
  rw [← hnn] at hnT
  obtain ⟨T, hTT⟩ : ∃ T, T = M.total ms := ⟨_, rfl⟩
  rw [← hTT] at hT
  have HT := Lib.hid hTT
  have hLn : ((L : Int) + T) = (n : Int) := by rw [hTT, ← HNI.out, hnn]
  have HLN := Lib.hid hLn
  have hLn' : L ≤ n := by omega
  have HWR := Lib.hid (IntWalk.i64_in ((L : Int) + T) (by omega))
  have m0 := cell_regrown p0
  have m5 := cell_regrown p5
  have D1 : Below W.heap.size W W.drew := below_drewN (Below.refl _ _) 1
  have BD : Below w.heap.size w W.drew := below_drewN B0 1
  clear hn hW sW hnn hTT hLn hmn
  go_enter Tryz.func60, Tryz.ntmps60
  go_wp2_with fail
  rw [← HW.out]
  (refine wp_region_fresh2 [0, 2] [1, 3] 1 (.one 4 .rest) [5] [5, 6] (by kernel_rfl) (by kernel_rfl) ?_; simp only [pickOps]; simp only [List.filterMap, List.getElem?_cons_succ, List.getElem?_cons_zero]; (repeat (go_big_quiet_step (fail))); refine wpQuiet_nil ?_; (repeat (go_big_quiet_step (fail))); refine wpQuiet_nil ?_)
  refine seqT_one2 rfl ?_
  go_wp2_with fail
  refine (impl_latency _ _ _ ms _ (tM.later h5 BD) hO.mix).mono ?_
  rw [← HT.out]
  rintro e w1 ⟨rfl, bel1⟩
  have B1 := bel_trans D1 bel1
  have s1 := bel1.size
  go_wp2_with fail
  refine ⟨regrown_of_below B1, ?_⟩
  refine seqT_rest2 ?_
  have q5 : w1.cell? ⟨w.heap.size, 5, none⟩ = some (.slice A5 n4 c5) := by rw [B1.cell (by show w.heap.size < _; omega)]; exact p5
  have m5 := cell_regrown q5
  have D2 : Below w1.heap.size w1 w1.drew := below_drewN (Below.refl _ _) 1
  have hd1 : w1.drew.heap.size = w1.heap.size := rfl
  have BB1 := bel_trans B0 B1
  have BD2 : Below w.heap.size w w1.drew := below_drewN BB1 1
  go_wp2_with fail
  rw [HLN.out]
  (refine wp_region_fresh2 [0, 3] [1, 4] 2 (.one 2 (.one 5 .rest)) [6] [6, 7] (by kernel_rfl) (by kernel_rfl) ?_; simp only [pickOps]; simp only [List.filterMap, List.getElem?_cons_succ, List.getElem?_cons_zero]; (repeat (go_big_quiet_step (fail))); refine wpQuiet_nil ?_; (repeat (go_big_quiet_step (fail))); refine wpQuiet_nil ?_)
  refine seqT_one2 rfl ?_
  go_wp2_with fail
  refine (impl_entries _ _ _ ms _ (tM.later h5 BD2) hO.mix).mono ?_
  rintro e w2 ⟨vE, rfl, ownE, bel2⟩
  have B2 := bel_trans D2 bel2
  have s2 := bel2.size
  go_wp2_with fail
  refine ⟨regrown_of_below B2, ?_⟩
  refine seqT_one2 rfl ?_
  go_wp2_with fail
  refine (impl_delays _ _ _ ms _ (tM.later h5 (bel_trans BB1 B2)) hO.mix).mono ?_
  rintro e K ⟨vD, rfl, ownD, bel3⟩
  have B3 := bel_trans B2 bel3
  have s3 := bel3.size
  go_wp2_with fail
  refine ⟨regrown_of_below B3, ?_⟩
  refine seqT_rest2 ?_
  have hle : (M.entries ms).length = n4 := by rw [M.entries, M.entN_len]; exact Q5.out
  have hld : (M.delays ms).length = n4 := by rw [M.delays_len]; exact Q5.out
  obtain ⟨AE, cE, eE, -⟩ := ownE.shape
  rw [hle] at eE
  subst eE
  have HLE := Lib.hid hle
  have RE : RI K K.heap.size AE n4 (M.entries ms) := ownE.ri'.later bel3
  have RD : RSN (fun _ => False) K vD (M.delays ms) := RSN.of_os ownD (fun _ h => h.elim)
  obtain ⟨AD, cD, eD⟩ := RD.shape
  rw [hld] at eD
  subst eD
  have HLD := Lib.hid hld
  have BK := bel_trans BB1 B3
  have sK := BK.size
  have BWK : Below W.heap.size W K := bel_trans B1 B3
  have lK : w.heap.size < K.heap.size := by have := BWK.size; omega
  have q0 : K.cell? ⟨w.heap.size, 0, none⟩ = some (.int .i64 L) := by rw [BWK.cell (by show w.heap.size < _; omega)]; exact p0
  have q1 : K.cell? ⟨w.heap.size, 1, none⟩ = some (.slice A1 n1 c1) := by rw [BWK.cell (by show w.heap.size < _; omega)]; exact p1
  have q2 : K.cell? ⟨w.heap.size, 2, none⟩ = some (.slice A2 n3 c2) := by rw [BWK.cell (by show w.heap.size < _; omega)]; exact p2
  have q3 : K.cell? ⟨w.heap.size, 3, none⟩ = some (.slice A3 n3 c3) := by rw [BWK.cell (by show w.heap.size < _; omega)]; exact p3
  have q4 : K.cell? ⟨w.heap.size, 4, none⟩ = some (.slice A4 n4 c4) := by rw [BWK.cell (by show w.heap.size < _; omega)]; exact p4
  have q5 : K.cell? ⟨w.heap.size, 5, none⟩ = some (.slice A5 n4 c5) := by rw [BWK.cell (by show w.heap.size < _; omega)]; exact p5
  replace k1 := k1.later BK
  replace k2 := k2.later BK
  replace k3 := k3.later BK
  replace k4 := k4.later BK
  replace k5 := k5.later BK
  obtain ⟨bE, oE, rfl, hbE, hcE⟩ := ri_lit RE (by omega)
  have HCE := Lib.hid hcE
  clear p0 p1 p2 p3 p4 p5 pf m0 m5 D1 BD hcE B1 s1 B2 s2 bel2 bel3 B3 s3 hle hld ownE ownD BB1 BD2 BWK hd1 D2 h1 h2 h3 h4 h5 HWR bel1 B0 lW
  go_wp2_with (at_make; refine wpList_mk ei_S rfl _ _ rfl n4 _ _ rfl rfl rfl rfl (by omega) (by unfold maxLen; omega) ?_; intro w1 own1 bel1)
  have C1 := CR.made (F := fun x => x = K.heap.size) own1
  have s1 := bel1.size
  have s1' := (World.ownsRow.lt own1 _ rfl).2
  clear own1
  go_wp2_with fail
  go_loopw [39] (fun i wr => ∃ k : Nat, i = .int .i64 k ∧ k ≤ n4 ∧ CR (fun x => x = K.heap.size) 26 K.heap.size wr (.slice (some ⟨K.heap.size, 0, none⟩) n4 n4) (List.replicate k (List.replicate n 0) ++ List.replicate (n4 - k) []) ∧ Below K.heap.size K wr ∧ w1.heap.size ≤ wr.heap.size) (fun i _ => n4 - (intOf i).toNat)
  case atStart => exact ⟨0, rfl, by omega, by simpa using C1, bel1, Nat.le_refl _⟩
  case round =>
    obtain ⟨k, rfl, hk, oc, B, sz⟩ := hrel
    by_cases hlt : k < n4
    · have hk0 : (0 : Int) ≤ (k : Int) := by omega
      have hk1 : (k : Int) < (n4 : Int) := by omega
      go_wp2_with fail
      refine (impl_zeros n _ (by omega) (by omega)).mono ?_
      rintro e w2 ⟨v2, rfl, own2, bel2⟩
      rw [Int.toNat_natCast] at own2
      obtain ⟨A6, c6, e6, h6, -⟩ := own_shape own2
      rw [List.length_replicate] at e6 h6
      subst e6
      have s2 := bel2.size
      obtain ⟨A', c', x, hx1, hx2, hx3, hx4, hx5⟩ := (oc.below bel2).at hlt
      have C2 := (oc.below bel2).set rfl k (A' := A6) (c' := c6) (y := List.replicate n 0) (by rw [List.length_replicate]; exact h6) (by
        rw [List.length_replicate]
        exact RN.of_oi own2 (fun j hj => by omega))
      rw [List.length_replicate, rep_set _ _ _ _ hlt] at C2
      have HC2 := Lib.hid C2
      clear C2 hx1
      go_wp2_with fail
      go_roundw
      case rel => exact ⟨k + 1, by go_num, by omega, HC2.out, (B.trans (bel2.mono (by omega))).setCell (Nat.le_refl _) _, by simp; omega⟩
      case measure => simp [intOf]; omega
    · obtain rfl : n4 = k := by omega
      rw [Nat.sub_self, List.replicate_zero, List.append_nil] at oc
      obtain ⟨wp, rfl⟩ : ∃ wp : World, wp = wr := ⟨_, rfl⟩
      clear C1
      replace oc : CR (fun x => x = K.heap.size) 26 K.heap.size wp (.slice (some ⟨K.heap.size, 0, none⟩) n4 n4) (M.trk L src ts fs ms 0) := by
        rw [M.trk, ← HN.out, Q5.out]; exact oc
      have q2p : wp.cell? ⟨w.heap.size, 2, none⟩ = some (.slice A2 n3 c2) := by rw [B.cell (by show w.heap.size < _; omega)]; exact q2
      have sp := B.size
      go_wp2_with fail
      go_loopw [51] (fun i wr => ∃ t : Nat, i = .int .i64 t ∧ t ≤ n3 ∧ CR (fun x => x = K.heap.size) 26 K.heap.size wr (.slice (some ⟨K.heap.size, 0, none⟩) n4 n4) (M.trk L src ts fs ms t) ∧ Below K.heap.size K wr ∧ wp.heap.size ≤ wr.heap.size) (fun i _ => n3 - (intOf i).toNat)
      case atStart => exact ⟨0, rfl, by omega, oc, B, Nat.le_refl _⟩
      case round =>
        clear oc B q2p
        obtain ⟨t, rfl, ht, oc, B, sz2⟩ := hrel
        have sB := B.size
        by_cases hlt : t < n3
        · obtain ⟨b3, o3, rfl, hb3, hc3⟩ := ri_lit k3 (by omega)
          have hft : fs[t]? = some (M.i_ fs t) := by
            have : t < fs.length := by rw [Q3.out]; exact hlt
            rw [M.i_, List.getElem?_eq_getElem this]; rfl
          have hfr := hO.fr _ (List.mem_of_getElem? hft)
          rw [Q5.out] at hfr
          obtain ⟨q, hq⟩ : ∃ q : Nat, M.i_ fs t = (q : Int) := ⟨(M.i_ fs t).toNat, by omega⟩
          have hqn : q < n4 := by omega
          rw [hq] at hft
          have cf3 : wr.cell? ⟨b3, o3 + t, none⟩ = some (.int .i64 (q : Int)) := by rw [B.cell (by show b3 < _; omega)]; exact hc3 t _ hft
          obtain ⟨ee, hee⟩ : ∃ ee : Nat, M.ent ms q = (ee : Int) := ⟨(M.ent ms q).toNat, by have := (M.ent_bd hO.mix q).1; omega⟩
          have hee2 : ee ≤ 1024 := by have := (M.ent_bd hO.mix q).2; omega
          have hqe : (M.entries ms)[q]? = some (ee : Int) := by
            have : q < (M.entries ms).length := by rw [HLE.out]; exact hqn
            rw [← hee, M.ent, M.i_, List.getElem?_eq_getElem this]; rfl
          have HCQ := HCE.out q _ hqe
          obtain ⟨bb, o, A7, n7, c7, x, rfl, hbb, X, ct, -, hra, hn7⟩ := track_cell (k2.below B) z2 hlt
          have htr := hO.tr x (List.mem_of_getElem? X.out)
          have hxl : n7 ≤ 100000000 := hn7
          obtain ⟨U, hU, GU, sU, u0, uf⟩ := newbox1 wr (.slice A7 n7 c7) 42
          have HU := Lib.hid hU
          have BU := B.trans (GU.mono sB)
          have g0 : U.cell? ⟨w.heap.size, 0, none⟩ = some (.int .i64 L) := by rw [BU.cell (by show w.heap.size < _; omega)]; exact q0
          have g1 : U.cell? ⟨w.heap.size, 1, none⟩ = some (.slice A1 n1 c1) := by rw [BU.cell (by show w.heap.size < _; omega)]; exact q1
          have g3 : U.cell? ⟨w.heap.size, 3, none⟩ = some (.slice (some ⟨b3, o3, none⟩) n3 c3) := by rw [BU.cell (by show w.heap.size < _; omega)]; exact q3
          have cf3U : U.cell? ⟨b3, o3 + t, none⟩ = some (.int .i64 (q : Int)) := by rw [GU.cell (by show b3 < _; omega)]; exact cf3
          have lU : wr.heap.size < U.heap.size := by omega
          have y0 := cell_regrown g0
          have y1 := cell_regrown g1
          have yu := cell_regrown u0
          have D1 : Below U.heap.size U U.drew := below_drewN (Below.refl _ _) 1
          have BUD : Below K.heap.size K U.drew := below_drewN BU 1
          have hdU : U.drew.heap.size = U.heap.size := rfl
          have t0 : (0 : Int) ≤ (t : Int) := by omega
          have t1 : (t : Int) < (n3 : Int) := by omega
          have hq0 : (0 : Int) ≤ (q : Int) := by omega
          have hq1 : (q : Int) < (n4 : Int) := by omega
          have HX := X
          have HTRA := Lib.hid (M.tra_at X.out)
          have HQ := Lib.hid hq
          have HEE := Lib.hid hee
          have HTR := Lib.hid htr
          have q3r : wr.cell? ⟨w.heap.size, 3, none⟩ = some (.slice (some ⟨b3, o3, none⟩) n3 c3) := by rw [B.cell (by show w.heap.size < _; omega)]; exact q3
          have lw1 : w.heap.size < wr.heap.size := by omega
          have lw2 : b3 < wr.heap.size := by omega
          have lw3 : bb < wr.heap.size := by omega
          clear hU hft hq hqe hee htr sU uf hc3
          go_wp2_with fail
          rw [← HU.out]
          (refine wp_region_fresh2 [0, 3, 6, 7] [1, 2, 4, 8, 9] 2 (.one 5 (.one 10 .rest)) [11] [11, 12] (by kernel_rfl) (by kernel_rfl) ?_; simp only [pickOps]; simp only [List.filterMap, List.getElem?_cons_succ, List.getElem?_cons_zero]; (repeat (go_big_quiet_step (fail))); refine wpQuiet_nil ?_; (repeat (go_big_quiet_step (fail))); refine wpQuiet_nil ?_)
          refine seqT_one2 rfl ?_
          go_wp2_with fail
          refine (impl_renderTrack _ _ _ c1 _ c7 L src x _ ((k1.below BUD).more (by omega)) ((hra.below (below_drewN (GU.mono sB) 1)).more (by omega)) hO.so HTR.out.1 HTR.out.2 (by omega)).mono ?_
          rintro e w2 ⟨v2, rfl, own2, bel2⟩
          rw [← HTRA.out] at own2
          generalize hR : M.renT src (M.tra ts t) L = ren at *
          have B2 := bel_trans D1 bel2
          have s2 := bel2.size
          have hrl : ren.length = L := by rw [← hR]; exact M.renT_len _ _ _
          have HRL := Lib.hid hrl
          have HRR := Lib.hid hR
          have nl : (0 : Int) ≤ (n : Int) - (L : Int) := by omega
          have nl2 : (n : Int) - (L : Int) ≤ 1000000000 := by omega
          clear hrl hR
          go_wp2_with fail
          refine ⟨regrown_of_below B2, ?_⟩
          refine seqT_one2 rfl ?_
          go_wp2_with fail
          refine (impl_zeros ((n : Int) - (L : Int)) _ nl nl2).mono ?_
          rintro e w3 ⟨v3, rfl, own3, bel3⟩
          rw [show ((n : Int) - (L : Int)).toNat = n - L by omega] at own3
          obtain ⟨A3', c3', e3, r3⟩ := own3.shape
          rw [List.length_replicate] at e3 r3
          subst e3
          have B3 := bel_trans B2 bel3
          have s3 := bel3.size
          have own2' := own2.below bel3
          have HL8 := Lib.hid (show (ren ++ List.replicate (n - L) (0 : Int)).length = n by rw [List.length_append, List.length_replicate, HRL.out]; omega)
          have hrl2 : ren.length + (n - L) ≤ 1000000 := by rw [HRL.out]; omega
          go_wp2_with fail
          refine ⟨regrown_of_below B3, ?_⟩
          refine seqT_rest2 ?_
          go_wp2_with (at_builtin; refine wpList_cat ei_i64 rfl _ _ rfl own2' rfl r3 rfl (ints_oneCell _ _) (by unfold maxLen; omega) (by omega) (by omega) ?_; intro v4 w4 own4 gr4 bel4; have op4 : OI 2 U.drew.heap.size w4 v4 (ren ++ List.replicate (n - L) 0) := (by unfold OI; rw [List.map_append, List.length_append, List.length_replicate]; exact own4); obtain ⟨A8, c8, e8, r8⟩ := op4.shape; rw [HL8.out] at e8 r8; subst e8)
          have s4 := bel4.size
          have BW4 : Below wr.heap.size wr w4 := GU.trans ((B3.trans bel4).mono (by omega))
          have BK4 : Below K.heap.size K w4 := B.trans (BW4.mono sB)
          have sW4 := BW4.size
          have hio := M.trk_ok hO t (by rw [Q2.out]; omega)
          have oc4 := oc.below BW4
          obtain ⟨A', c', xq, hx1, hx2, hx3, hx4, hx5⟩ := oc4.at (k := q) hqn
          have hxq : M.cel (M.trk L src ts fs ms t) q = xq := M.cel_of hx1
          have hxl2 : xq.length = n := by rw [← hxq, (hio.cel (by rw [Q5.out]; exact hqn)).1, HN.out]
          rw [hxl2] at hx2 hx3 hx4
          have HXQ := Lib.hid hxq
          have cE4 : w4.cell? ⟨bE, oE + q, none⟩ = some (.int .i64 (ee : Int)) := by rw [BK4.cell (by show bE < _; omega)]; exact HCQ
          have yI := cell_regrown hx4
          have yE := cell_regrown cE4
          have D4 : Below w4.heap.size w4 w4.drew := below_drewN (Below.refl _ _) 1
          have hd4 : w4.drew.heap.size = w4.heap.size := rfl
          have r8' := r8.later D4
          clear hx1 hxq hxl2 HCQ r8 y0 y1 yu D1 BUD hdU
          (refine wp_region_fresh2 [0, 1, 2, 3, 4, 6, 7, 8, 9] [5, 10] 3 (.one 11 (.one 12 (.first 13 .rest))) [14] [14] (by kernel_rfl) (by kernel_rfl) ?_; simp only [pickOps]; simp only [List.filterMap, List.getElem?_cons_succ, List.getElem?_cons_zero]; (repeat (go_big_quiet_step (fail))); refine wpQuiet_nil ?_; (repeat (go_big_quiet_step (fail))); refine wpQuiet_nil ?_)
          refine seqT_one2 rfl ?_
          go_wp2_with fail
          refine (impl_delayed A8 n c8 _ ee _ r8' (by omega) (by omega)).mono ?_
          rintro e w5 ⟨v5, rfl, own5, bel5⟩
          rw [M.late_tail] at own5
          obtain ⟨A9, c9, e9, r9⟩ := own5.shape
          rw [M.late_len] at e9 r9
          subst e9
          have B5 := bel_trans D4 bel5
          have s5 := bel5.size
          go_wp2_with fail
          refine ⟨regrown_of_below B5, ?_⟩
          refine seqT_one2 rfl ?_
          go_wp2_with fail
          refine (impl_addTimes A' A9 n c' n c9 xq _ 1 _ (hx3.below B5).1 r9 (by omega) (by omega)).mono ?_
          rintro e w6 ⟨v6, rfl, own6, bel6⟩
          have hal : (M.addS xq (M.late ren (ee : Int) n) 1).length = n := by rw [M.addS_len, hx3.1.len, M.late_len, Nat.max_self]
          obtain ⟨A6, c6, e6, h6, -⟩ := own_shape own6
          rw [hal] at e6 h6
          subst e6
          have HAL := Lib.hid hal
          have B6 := bel_trans B5 bel6
          have s6 := bel6.size
          clear hal
          go_wp2_with fail
          refine ⟨regrown_of_below B6, ?_⟩
          (refine seqT_first2 rfl ?_; (repeat (go_big_quiet_step (fail))); refine wpQuiet_nil ?_)
          refine seqT_rest2 ?_
          obtain ⟨A'', c'', xq2, hv1, hv2, hv3, hv4, hv5⟩ := (oc4.below B6).at (k := q) hqn
          have C6 := (oc4.below B6).set rfl q (A' := A6) (c' := c6) (y := M.addS xq (M.late ren (ee : Int) n) 1) (by rw [HAL.out]; exact h6) (by
            rw [HAL.out]
            exact RN.of_oi own6 (fun j hj => by omega))
          rw [HAL.out] at C6
          have HC6 := Lib.hid C6
          clear C6 hv1
          go_wp2_with fail
          refine ⟨⟨t + 1, by go_num, by omega, ?_, (BK4.trans (B6.mono (by omega))).setCell (Nat.le_refl _) _, by simp; omega⟩, by simp [intOf]; omega⟩
          rw [M.trk, M.addAt, HQ.out, Int.toNat_natCast, HXQ.out, HEE.out, HRR.out, ← HN.out]
          exact HC6.out
        · obtain rfl : n3 = t := by omega
          have oc0 : CR (fun x => x = K.heap.size) 26 K.heap.size wr (.slice (some ⟨K.heap.size, 0, none⟩) n4 n4) (M.stp L src ts fs ps ms 0).1 := by
            rw [M.stp, Q2.out]; exact oc
          obtain ⟨V, rfl⟩ : ∃ V : World, V = wr := ⟨_, rfl⟩
          have q5V : V.cell? ⟨w.heap.size, 5, none⟩ = some (.slice A5 n4 c5) := by rw [B.cell (by show w.heap.size < _; omega)]; exact q5
          obtain ⟨X, hX⟩ : ∃ X, X = V.alloc (.cells #[] 26) := ⟨_, rfl⟩
          have BX : Below V.heap.size V X := by rw [hX]; exact (Below.refl _ _).alloc (Nat.le_refl _) _
          have sX : X.heap.size = V.heap.size + 1 := by rw [hX]; simp
          have O0 : OS tS 26 X (fun b => b = V.heap.size) (.slice (some ⟨V.heap.size, 0, none⟩) 0 0) [] := by
            rw [hX]
            exact ⟨[], fun _ _ => False, own_base (World.ownsRow_made _ _ _ (Nat.le_refl _) (by simp [maxLen]) rfl) (Nat.zero_le _), rfl, fun g hg => by simp only [Value.ownBlock, Option.some.injEq] at hg; exact hg.symm, fun _ _ h => h.elim, fun _ _ _ _ h => h.elim, fun k h => by simp at h⟩
          obtain ⟨Y, hY⟩ : ∃ Y, Y = X.alloc (.cells #[] 2) := ⟨_, rfl⟩
          have BY : Below X.heap.size X Y := by rw [hY]; exact (Below.refl _ _).alloc (Nat.le_refl _) _
          have sY : Y.heap.size = V.heap.size + 2 := by rw [hY]; simp; omega
          have R0 : OI 2 X.heap.size Y (.slice (some ⟨X.heap.size, 0, none⟩) 0 0) [] := by rw [hY]; exact OI.made _ _
          rw [sX] at R0
          have O1 := O0.keep (w' := Y) (fun b hb => BY.block b (by omega))
          have oc1 := (oc0.more (F' := fun k => k = K.heap.size ∨ V.heap.size ≤ k) (fun k hk => hk)).below (BX.trans (BY.mono (by omega)))
          have BYK : Below K.heap.size K Y := (B.trans (BX.mono sB)).trans (BY.mono (by omega))
          have q5Y : Y.cell? ⟨w.heap.size, 5, none⟩ = some (.slice A5 n4 c5) := by rw [BYK.cell (by show w.heap.size < _; omega)]; exact q5
          rw [hX] at hY
          have HY := Lib.hid hY
          have lwV : w.heap.size < V.heap.size := by omega
          clear hY hX oc oc0 O0 BX BY
          go_wp2_with fail
          rw [← HY.out]
          go_loopw [13, 14, 94] (fun vO vR i wr => ∃ k : Nat, i = .int .i64 k ∧ k ≤ n4 ∧ ∃ G : Nat → Prop, OS tS 26 wr G vO (M.stp L src ts fs ps ms k).2 ∧ OI 2 V.heap.size wr vR ((M.rdyL ms).take k) ∧ (∀ x, G x → V.heap.size ≤ x ∧ x < wr.heap.size ∧ vR.ownBlock ≠ some x) ∧
            CR (fun x => x = K.heap.size ∨ G x ∨ vR.ownBlock = some x) 26 K.heap.size wr (.slice (some ⟨K.heap.size, 0, none⟩) n4 n4) (M.stp L src ts fs ps ms k).1 ∧ Below K.heap.size K wr ∧ V.heap.size + 2 ≤ wr.heap.size) (fun _ _ i _ => n4 - (intOf i).toNat)
          case atStart =>
            refine ⟨0, rfl, by omega, fun b => b = V.heap.size, O1, R0.base (by omega), fun x hx => ⟨by omega, by omega, by simp only [Value.ownBlock, ne_eq, Option.some.injEq]; omega⟩, ?_, BYK, by omega⟩
            refine oc1.sub (fun x hx => ?_)
            rcases hx with h | h | h
            · exact .inl h
            · exact .inr (by omega)
            · simp only [Value.ownBlock, Option.some.injEq] at h
              exact .inr (by omega)
          case round =>
            clear O1 R0 oc1 BYK q5Y
            obtain ⟨k, rfl, hk, G, oO, oR, hG, oc, B3K, sz3⟩ := hrel
            obtain ⟨vR, rfl⟩ : ∃ v_ : Value, v_ = u14 := ⟨_, rfl⟩
            obtain ⟨vO, rfl⟩ : ∃ v_ : Value, v_ = u13 := ⟨_, rfl⟩
            by_cases hlt : k < n4
            · obtain ⟨b5, o5, s_, l, A9, n9, c9, us, rfl, hb5, XS, e0, e1, e2, hsz_, hra, hn9⟩ := strip_cell (k5.below B3K) z5 hlt
              obtain ⟨b4, o4, a0, Ap1, np1, cp1, Ap2, np2, cp2, Ap3, np3, cp3, x1, x2, x3, rfl, hb4, XP, f0, f1, f2, f3, hp1, hp2, hp3, hpz⟩ := patch_cell (k4.below B3K) z4 hlt
              have hst := Lib.hid (M.stri_at XS.out)
              have hpa := Lib.hid (M.pat_at XP.out)
              obtain ⟨io1, io2⟩ := M.stp_ok hO k (by rw [Q5.out]; omega)
              obtain ⟨ic1, ic2⟩ := io1.cel (k := k) (by rw [Q5.out]; exact hlt)
              rw [← HN.out] at ic1
              obtain ⟨Ai, ci, xi, hx1, hx2, hx3, hx4, hx5⟩ := oc.at hlt
              have hxi : M.cel (M.stp L src ts fs ps ms k).1 k = xi := M.cel_of hx1
              rw [hxi] at ic1 ic2
              rw [ic1] at hx2 hx3 hx4
              have HXI := Lib.hid hxi
              have HI2 := Lib.hid ic2
              have heff : M.effOk (a0, x1, x2, x3) = true := hO.ef _ (List.mem_of_getElem? XP.out)
              have HEF := Lib.hid heff
              have sB3 := B3K.size
              obtain ⟨U, hU, GU, sU, u0, u1, u2, uf⟩ := newbox3 wr (.string s_) (.int .i64 l) (.slice A9 n9 c9) 100
              have HU := Lib.hid hU
              have q4r : wr.cell? ⟨w.heap.size, 4, none⟩ = some (.slice (some ⟨b4, o4, none⟩) n4 c4) := by rw [B3K.cell (by show w.heap.size < _; omega)]; exact q4
              have lw1 : w.heap.size < wr.heap.size := by omega
              have lw2 : b5 < wr.heap.size := by omega
              have lw3 : b4 < wr.heap.size := by omega
              have lw4 : K.heap.size < wr.heap.size := by omega
              have kk0 : (0 : Int) ≤ (k : Int) := by omega
              have kk1 : (k : Int) < (n4 : Int) := by omega
              have GUK : Below K.heap.size wr U := GU.mono sB3
              have hp1U := tSS.more (show K.heap.size ≤ U.heap.size by omega) (tSS.below hp1 GUK)
              have hp2U := tNS.more (show K.heap.size ≤ U.heap.size by omega) (tNS.below hp2 GUK)
              have hp3U := tS.more (show K.heap.size ≤ U.heap.size by omega) (tS.below hp3 GUK)
              clear hU hxi hx1 ic1 ic2 heff
              go_wp2_with fail
              rw [← HU.out]
              obtain ⟨bz, hbz⟩ : ∃ bz : Bool, bz = decide (((a0, x1, x2, x3) : Patch) = M.p0) := ⟨_, rfl⟩
              refine (impl_isEmpty a0 _ _ cp1 _ _ cp2 _ _ cp3 x1 x2 x3 _ hp1U hp2U hp3U hpz).mono ?_
              rw [← hbz]
              rintro e w1' ⟨rfl, bel1⟩
              have HBZ := Lib.hid hbz
              clear hbz
              have BUw := GU.trans (bel1.mono (by omega))
              have s1' := bel1.size
              go_upto_if 109 with fail
              go_cut [17] from 110 to 122 (fun q17 wx => ∃ (A10 : Option Addr) (c10 : Nat), q17 = .slice A10 n c10 ∧ RI wx wx.heap.size A10 n (M.fx (a0, x1, x2, x3) xi n) ∧ Below w1'.heap.size w1' wx)
              case first =>
                cases bz
                case true =>
                  have E := Lib.hid (show M.fx (a0, x1, x2, x3) xi n = xi by rw [M.fx, if_pos (of_decide_eq_true HBZ.out.symm)])
                  go_wp2_with fail
                  go_meet
                  rw [E.out]
                  exact ⟨Ai, ci, rfl, (hx3.below BUw).1, Below.refl _ _⟩
                case false =>
                  have hp : ((a0, x1, x2, x3) : Patch) ≠ M.p0 := of_decide_eq_false HBZ.out.symm
                  obtain ⟨h1, h2, h3⟩ := M.play_ok HEF.out hp
                  simp only at h2
                  subst h2
                  obtain ⟨o_, rfl⟩ := len1 (show x3.length = 1 from h3)
                  have hPF := M.PF_of h1 rfl
                  have ho := M.outs_of h1 o_ (by simp)
                  have E := Lib.hid (show M.fx (1, x1, x2, [o_]) xi n = M.playO x2 x1 (M.ord x2) xi o_ n by rw [M.fx, if_neg hp]; rfl)
                  have hnp2 := (sl_R.1 hp2U).cap.1
                  have hnp3 := tS_len hp3U
                  simp only [List.length_singleton] at hnp3
                  subst hnp3
                  simp only at ho
                  rw [hnp2] at ho
                  have hnz2 : hNS.sz x2 ≤ 100000000 := by rw [hP_sz] at hpz; omega
                  clear hp h1 h3 hnp2
                  have q4w : w1'.cell? ⟨w.heap.size, 4, none⟩ = some (.slice (some ⟨b4, o4, none⟩) n4 c4) := by rw [BUw.cell (by show w.heap.size < _; omega)]; exact q4r
                  have f0w : w1'.cell? ⟨b4, o4 + k * 4, none⟩ = some (.int .i64 1) := by rw [BUw.cell (by show b4 < _; omega)]; exact f0
                  have f1w : w1'.cell? ⟨b4, o4 + k * 4 + 1, none⟩ = some (.slice Ap1 np1 cp1) := by rw [BUw.cell (by show b4 < _; omega)]; exact f1
                  have f2w : w1'.cell? ⟨b4, o4 + k * 4 + 2, none⟩ = some (.slice Ap2 np2 cp2) := by rw [BUw.cell (by show b4 < _; omega)]; exact f2
                  have f3w : w1'.cell? ⟨b4, o4 + k * 4 + 3, none⟩ = some (.slice Ap3 1 cp3) := by rw [BUw.cell (by show b4 < _; omega)]; exact f3
                  have y4 := cell_regrown q4w
                  have yf0 := cell_regrown f0w
                  have yf1 := cell_regrown f1w
                  have yf2 := cell_regrown f2w
                  have yf3 := cell_regrown f3w
                  have D1 : Below w1'.heap.size w1' w1'.drew := below_drewN (Below.refl _ _) 1
                  have hd1 : w1'.drew.heap.size = w1'.heap.size := rfl
                  have hxw := hx3.below BUw
                  go_wp2_with fail
                  (refine wp_region_fresh2 [1, 3, 6, 8] [2, 4, 5] 3 (.two 0 (.one 7 (.one 9 .rest)) 7 (.one 0 (.one 9 .rest))) [10] [10, 11, 12, 13] (by kernel_rfl) (by kernel_rfl) ?_; simp only [pickOps]; simp only [List.filterMap, List.getElem?_cons_succ, List.getElem?_cons_zero]; (repeat (go_big_quiet_step (fail))); refine wpQuiet_nil ?_; (repeat (go_big_quiet_step (fail))); refine wpQuiet_nil ?_)
                  refine seqT_two2 rfl rfl ?_ ?_
                  · go_wp2_with fail
                    refine (impl_zeros 0 _ (by omega) (by omega)).mono ?_
                    rintro e w2 ⟨v2, rfl, own2, bel2⟩
                    replace own2 : OI 2 w1'.drew.heap.size w2 v2 [] := own2
                    have B2 := bel_trans D1 bel2
                    have s2 := bel2.size
                    go_wp2_with fail
                    refine ⟨regrown_of_below B2, ?_⟩
                    refine seqT_one2 rfl ?_
                    obtain ⟨X, hX, BX, sX, x0, xf⟩ := newbox1 w2 (.slice Ai n ci) 26
                    have HX := Lib.hid hX
                    have B3 := bel_trans B2 BX
                    have BUX := BUw.trans (B3.mono (by omega))
                    clear hX
                    go_wp2_with fail
                    rw [← HX.out]
                    refine ⟨regrown_of_below B3, ?_⟩
                    refine seqT_one2 rfl ?_
                    go_wp2_with fail
                    refine (impl_render _ _ cp1 _ _ cp2 _ cp3 x2 x1 o_ w2.heap.size 0 1 Ai n ci xi n X ((sl_R.1 (tSS.later hp1U (bel_trans bel1 B3)))) ((sl_R.1 (tNS.later hp2U (bel_trans bel1 B3)))) ((tS_R.1 (tS.later hp3U (bel_trans bel1 B3))).ri) hPF ho hnz2 x0 (hxw.below B3).1 HI2.out (by omega) (by omega)).mono ?_
                    rintro e w4 ⟨g4, c4', A4', c4'', rfl, cg4, rg4, bel4⟩
                    have B4 := bel_trans B3 bel4
                    have s4 := bel4.size
                    have own4 := own2.below (bel_trans BX bel4)
                    go_wp2_with fail
                    refine ⟨regrown_of_below B4, ?_⟩
                    refine seqT_rest2 ?_
                    go_wp2_with (at_builtin; refine wpList_cat ei_i64 rfl _ _ rfl own4 rfl rg4 rfl (ints_oneCell _ _) (by unfold maxLen; simp; omega) (by simp; omega) (by omega) ?_; intro v5 w5 own5 gr5 bel5)
                    go_meet
                    have op5 : OI 2 w1'.drew.heap.size w5 v5 (M.playO x2 x1 (M.ord x2) xi o_ n) := by
                      unfold OI
                      rw [M.playO_len]
                      simpa using own5
                    obtain ⟨A10, c10, e10, r10⟩ := op5.shape
                    rw [M.playO_len] at e10 r10
                    exact ⟨A10, c10, e10, by rw [E.out]; exact r10, B4.trans bel5⟩
                  · obtain ⟨X, hX, BX, sX, x0, xf⟩ := newbox1 w1' (.slice Ai n ci) 26
                    have BXd : Below w1'.heap.size w1' X.drew := below_drewN BX 1
                    replace x0 : X.drew.cell? ⟨w1'.heap.size, 0, none⟩ = some (.slice Ai n ci) := x0
                    have sXd : X.drew.heap.size = w1'.heap.size + 1 := sX
                    obtain ⟨X2, hX2⟩ : ∃ X2, X2 = X.drew := ⟨_, rfl⟩
                    rw [← hX2] at x0 BXd sXd
                    rw [hX] at hX2
                    have HX := Lib.hid hX2
                    clear hX2 hX BX sX xf
                    go_wp2_with fail
                    rw [← HX.out]
                    refine ⟨regrown_of_below BXd, ?_⟩
                    refine seqT_one2 rfl ?_
                    go_wp2_with fail
                    refine (impl_zeros 0 _ (by omega) (by omega)).mono ?_
                    rintro e w2 ⟨v2, rfl, own2, bel2⟩
                    replace own2 : OI 2 X2.heap.size w2 v2 [] := own2
                    have B3 := bel_trans BXd bel2
                    have s2 := bel2.size
                    have x02 : w2.cell? ⟨w1'.heap.size, 0, none⟩ = some (.slice Ai n ci) := by rw [bel2.cell (by show w1'.heap.size < _; omega)]; exact x0
                    go_wp2_with fail
                    refine ⟨regrown_of_below B3, ?_⟩
                    refine seqT_one2 rfl ?_
                    go_wp2_with fail
                    refine (impl_render _ _ cp1 _ _ cp2 _ cp3 x2 x1 o_ w1'.heap.size 0 1 Ai n ci xi n w2 ((sl_R.1 (tSS.later hp1U (bel_trans bel1 B3)))) ((sl_R.1 (tNS.later hp2U (bel_trans bel1 B3)))) ((tS_R.1 (tS.later hp3U (bel_trans bel1 B3))).ri) hPF ho hnz2 x02 (hxw.below B3).1 HI2.out (by omega) (by omega)).mono ?_
                    rintro e w4 ⟨g4, c4', A4', c4'', rfl, cg4, rg4, bel4⟩
                    have B4 := bel_trans B3 bel4
                    have s4 := bel4.size
                    have own4 := own2.below bel4
                    go_wp2_with fail
                    refine ⟨regrown_of_below B4, ?_⟩
                    refine seqT_rest2 ?_
                    go_wp2_with (at_builtin; refine wpList_cat ei_i64 rfl _ _ rfl own4 rfl rg4 rfl (ints_oneCell _ _) (by unfold maxLen; simp; omega) (by simp; omega) (by omega) ?_; intro v5 w5 own5 gr5 bel5)
                    go_meet
                    have op5 : OI 2 X2.heap.size w5 v5 (M.playO x2 x1 (M.ord x2) xi o_ n) := by
                      unfold OI
                      rw [M.playO_len]
                      simpa using own5
                    obtain ⟨A10, c10, e10, r10⟩ := op5.shape
                    rw [M.playO_len] at e10 r10
                    exact ⟨A10, c10, e10, by rw [E.out]; exact r10, B4.trans (bel5.mono (by omega))⟩
              case rest =>
                obtain ⟨wx, rfl⟩ : ∃ u_ : World, u_ = wc := ⟨_, rfl⟩
                obtain ⟨A10, c10, rfl, r10, Bx⟩ := hcut
                obtain ⟨Wq, rfl⟩ : ∃ Wq : World, Wq = wr := ⟨_, rfl⟩
                have sBx := Bx.size
                have BUx : Below Wq.heap.size Wq wx := BUw.trans (Bx.mono (by omega))
                have u1x : wx.cell? ⟨Wq.heap.size, 1, none⟩ = some (.int .i64 l) := by rw [Bx.cell (by show Wq.heap.size < _; omega), bel1.cell (by show Wq.heap.size < _; omega)]; exact u1
                have u2x : wx.cell? ⟨Wq.heap.size, 2, none⟩ = some (.slice A9 n9 c9) := by rw [Bx.cell (by show Wq.heap.size < _; omega), bel1.cell (by show Wq.heap.size < _; omega)]; exact u2
                obtain ⟨so1, so2, so3⟩ := M.stri_ok hO.mix (i := k) (by rw [Q5.out]; exact hlt)
                rw [hst.out] at so1 so2 so3
                simp only at so1 so2 so3
                obtain ⟨ln, rfl⟩ : ∃ ln : Nat, l = (ln : Int) := ⟨l.toNat, by omega⟩
                have husl : us.length = n9 := hra.len
                have HUSL := Lib.hid husl
                have HSO := Lib.hid so3
                have hn9b : n9 ≤ 4 := by omega
                have HOUT := Lib.hid (show M.outI L ps ms k (M.stp L src ts fs ps ms k).1 = M.late (M.fx (a0, x1, x2, x3) xi n) (ln : Int) n by rw [M.outI, hpa.out, hst.out, HXI.out, ← HN.out])
                clear so3 husl u0 u1 u2 uf hp1U hp2U hp3U hp1 hp2 hp3 f0 f1 f2 f3 e0 e1 e2
                go_wp2_with fail
                refine (impl_delayed A10 n c10 _ ln wx r10 (by omega) (by omega)).mono ?_
                rintro e Z ⟨v2, rfl, own2, bel2⟩
                rw [← HOUT.out] at own2
                generalize hOU : M.outI L ps ms k (M.stp L src ts fs ps ms k).1 = OUT at *
                have hol : OUT.length = n := by rw [HOUT.out, M.late_len]
                have HOL := Lib.hid hol
                have HOU := Lib.hid hOU
                obtain ⟨A11, c11, e11, hle11, -⟩ := own_shape own2
                rw [hol] at e11 hle11
                subst e11
                have os2 := tS_O.2 (OI.os own2)
                have sZ := bel2.size
                have BZq : Below Wq.heap.size Wq Z := BUx.trans (bel2.mono BUx.size)
                have BZK : Below K.heap.size K Z := B3K.trans (BZq.mono sB3)
                have sqx := BUx.size
                have ocZ : CR (fun x => x = K.heap.size ∨ G x ∨ vR.ownBlock = some x ∨ Iv wx.heap.size Z.heap.size x) 26 K.heap.size Z (.slice (some ⟨K.heap.size, 0, none⟩) n4 n4) (M.snd L ms k OUT (M.stp L src ts fs ps ms k).1 0) := ((oc.below BUx).more (F' := fun x => x = K.heap.size ∨ G x ∨ vR.ownBlock = some x ∨ Iv wx.heap.size Z.heap.size x) (fun x hx => by
                  rcases hx with h | h | h | h
                  · exact .inl (.inl h)
                  · exact .inl (.inr (.inl h))
                  · exact .inl (.inr (.inr h))
                  · exact .inr h.1)).below bel2
                have u2Z : Z.cell? ⟨Wq.heap.size, 2, none⟩ = some (.slice A9 n9 c9) := by rw [bel2.cell (by show Wq.heap.size < _; omega)]; exact u2x
                have u1Z : Z.cell? ⟨Wq.heap.size, 1, none⟩ = some (.int .i64 (ln : Int)) := by rw [bel2.cell (by show Wq.heap.size < _; omega)]; exact u1x
                have hvR : ∀ x, vR.ownBlock = some x → V.heap.size ≤ x ∧ x < Wq.heap.size := fun x hx => World.ownsRow.lt oR x hx
                clear hol hOU oc
                go_wp2_with fail
                go_loopw [130] (fun i wr => ∃ j : Nat, i = .int .i64 j ∧ j ≤ n9 ∧ CR (fun x => x = K.heap.size ∨ G x ∨ vR.ownBlock = some x ∨ Iv wx.heap.size Z.heap.size x) 26 K.heap.size wr (.slice (some ⟨K.heap.size, 0, none⟩) n4 n4) (M.snd L ms k OUT (M.stp L src ts fs ps ms k).1 j) ∧ Chg (fun x => x = K.heap.size) Z wr) (fun i _ => n9 - (intOf i).toNat)
                case atStart => exact ⟨0, rfl, by omega, ocZ, Chg.refl _ _⟩
                case round =>
                  clear ocZ
                  obtain ⟨j, rfl, hj, oc, ch⟩ := hrel
                  have sch := ch.size
                  have BKr : Below K.heap.size K wr := BZK.trans (ch.toBelow (fun x hx => by omega) (by omega))
                  by_cases hlt2 : j < n9
                  · obtain ⟨b2, o2, ⟨p0_, p1_⟩, rfl, hab2, X2, hdd⟩ := (hra.below ((BZq.mono sB3).trans (ch.toBelow (fun x hx => by omega) (by omega)))).at sd_len (by decide) hlt2
                    have d0 : wr.cell? ⟨b2, o2 + j * 2, none⟩ = some (.int .i64 p0_) := hdd 0 _ rfl
                    have d1 : wr.cell? ⟨b2, o2 + j * 2 + 1, none⟩ = some (.int .i64 p1_) := hdd 1 _ rfl
                    have hso := HSO.out j p0_ p1_ X2.out
                    rw [Q5.out] at hso
                    have hdl := M.delay_at hO.mix (i := k) (j := j) (by rw [Q5.out]; exact hlt) (p0 := p0_) (p1 := p1_) (by rw [hst.out]; exact X2.out)
                    have HSD := Lib.hid (show ((M.stri ms k).2.2[j]?).getD (0, 0) = (p0_, p1_) by rw [hst.out, X2.out]; rfl)
                    obtain ⟨q, rfl⟩ : ∃ q : Nat, p0_ = (q : Int) := ⟨p0_.toNat, by omega⟩
                    have hqn : q < n4 := by omega
                    obtain ⟨dd, hdd2⟩ : ∃ dd : Nat, M.ent ms (q : Int).toNat - M.ent ms k - (M.stri ms k).2.1 = (dd : Int) := ⟨(M.ent ms (q : Int).toNat - M.ent ms k - (M.stri ms k).2.1).toNat, by omega⟩
                    rw [hdd2] at hdl
                    have hddb : dd ≤ 1024 := by omega
                    obtain ⟨bD, oD, cD', AD', cDD, xD, eD', hbD, -, hD1, hD2, hD3, hD4⟩ := RD.at (k := k) (by rw [HLD.out]; exact hlt)
                    simp only [Value.slice.injEq] at eD'
                    obtain ⟨rfl, -, -⟩ := eD'
                    have hxD : M.cel (M.delays ms) k = xD := M.cel_of hD1
                    rw [hxD] at hdl
                    have hjD : j < xD.length := (List.getElem?_eq_some_iff.1 hdl.1).1
                    obtain ⟨bd, od, yD, rfl, hbd, -, hyD, hcD⟩ := hD3.at hjD
                    obtain rfl : yD = (dd : Int) := Option.some.inj (hyD.symm.trans hdl.1)
                    obtain ⟨lD, hlD⟩ : ∃ lD, lD = xD.length := ⟨_, rfl⟩
                    rw [← hlD] at hD4 hjD
                    have HDL := Lib.hid (show M.i_ (M.cel (M.delays ms) k) j = (dd : Int) by rw [hxD, M.i_, hdl.1]; rfl)
                    obtain ⟨U2, hU2, GU2, sU2, t0, t1, tf⟩ := newbox2 wr (.int .i64 (q : Int)) (.int .i64 p1_) 68
                    have HU2 := Lib.hid hU2
                    have BKU : Below K.heap.size K U2 := BKr.trans (GU2.mono BKr.size)
                    have hio := M.snd_ok hO.mix (i := k) (by rw [Q5.out]; exact hlt) (out := OUT) io1 j (by rw [hst.out]; show j ≤ us.length; rw [HUSL.out]; omega)
                    have ocU := oc.below GU2
                    obtain ⟨A', c', xq, hx1, hx2, hx3, hx4, hx5⟩ := ocU.at (k := q) hqn
                    have hxq : M.cel (M.snd L ms k OUT (M.stp L src ts fs ps ms k).1 j) q = xq := M.cel_of hx1
                    have hxl2 : xq.length = n := by rw [← hxq, (hio.cel (by rw [Q5.out]; exact hqn)).1, HN.out]
                    rw [hxl2] at hx2 hx3 hx4
                    have HXQ := Lib.hid hxq
                    have cD1 : U2.cell? ⟨bD, oD + k, none⟩ = some (.slice (some ⟨bd, od, none⟩) lD cDD) := by rw [BKU.cell (by show bD < _; omega)]; exact hD4
                    have cD2 : U2.cell? ⟨bd, od + j, none⟩ = some (.int .i64 (dd : Int)) := by rw [BKU.cell (by show bd < _; omega)]; exact hcD
                    have y1 := cell_regrown t0
                    have y2 := cell_regrown t1
                    have yI := cell_regrown hx4
                    have yD1 := cell_regrown cD1
                    have yD2 := cell_regrown cD2
                    have D4 : Below U2.heap.size U2 U2.drew := below_drewN (Below.refl _ _) 1
                    have hd4 : U2.drew.heap.size = U2.heap.size := rfl
                    have ownd : OI 2 wx.heap.size U2 (.slice A11 n c11) OUT := (own2.chg ch (fun x hx => by have := (World.ownsRow.lt own2 x hx).1; omega)).below GU2
                    have r11 := (ownd.below D4).ri'
                    have k0 : (0 : Int) ≤ (j : Int) := by omega
                    have k1_ : (j : Int) < (n9 : Int) := by omega
                    have k2_ : (j : Int) < (lD : Int) := by omega
                    have k3_ : (0 : Int) ≤ (q : Int) := by omega
                    have k4_ : (q : Int) < (n4 : Int) := by omega
                    have lwb : b2 < wr.heap.size := by have := BKr.size; omega
                    have lwu : wr.heap.size < U2.heap.size := by omega
                    clear hU2 hx1 hxq hxl2 hD1 hxD hyD hdl hdd2 hlD sU2 tf hdd ownd
                    go_wp2_with fail
                    rw [← HU2.out]
                    (refine wp_region_fresh2 [0, 1, 3, 4, 8, 10, 11, 12, 13, 15] [2, 5, 6, 7, 9, 14, 16, 17] 3 (.one 18 (.one 19 (.first 20 .rest))) [21] [21] (by kernel_rfl) (by kernel_rfl) ?_; simp only [pickOps]; simp only [List.filterMap, List.getElem?_cons_succ, List.getElem?_cons_zero]; (repeat (go_big_quiet_step (fail))); refine wpQuiet_nil ?_; (repeat (go_big_quiet_step (fail))); refine wpQuiet_nil ?_)
                    refine seqT_one2 rfl ?_
                    go_wp2_with fail
                    refine (impl_delayed A11 n c11 OUT dd _ r11 (by omega) (by omega)).mono ?_
                    rintro e w5 ⟨v5, rfl, own5, bel5⟩
                    obtain ⟨A12, c12, e12, r12⟩ := own5.shape
                    rw [M.late_len] at e12 r12
                    subst e12
                    have B5 := bel_trans D4 bel5
                    have s5 := bel5.size
                    go_wp2_with fail
                    refine ⟨regrown_of_below B5, ?_⟩
                    refine seqT_one2 rfl ?_
                    go_wp2_with fail
                    refine (impl_addTimes A' A12 n c' n c12 xq _ p1_ _ (hx3.below B5).1 r12 (by omega) (by omega)).mono ?_
                    rintro e w6 ⟨v6, rfl, own6, bel6⟩
                    have hal : (M.addS xq (M.late OUT (dd : Int) n) p1_).length = n := by rw [M.addS_len, hx3.1.len, M.late_len, Nat.max_self]
                    obtain ⟨A6, c6, e6, h6, -⟩ := own_shape own6
                    rw [hal] at e6 h6
                    subst e6
                    have HAL := Lib.hid hal
                    have B6 := bel_trans B5 bel6
                    have s6 := bel6.size
                    clear hal
                    go_wp2_with fail
                    refine ⟨regrown_of_below B6, ?_⟩
                    (refine seqT_first2 rfl ?_; (repeat (go_big_quiet_step (fail))); refine wpQuiet_nil ?_)
                    refine seqT_rest2 ?_
                    obtain ⟨A'', c'', xq2, hv1, hv2, hv3, hv4, hv5⟩ := (ocU.below B6).at (k := q) hqn
                    have C6 := (ocU.below B6).set (.inl rfl) q (A' := A6) (c' := c6) (y := M.addS xq (M.late OUT (dd : Int) n) p1_) (by rw [HAL.out]; exact h6) (by
                      rw [HAL.out]
                      refine RN.of_oi own6 (fun x hx => ?_)
                      rcases hx with h | h | h | h
                      · omega
                      · have := (hG x h).2.1; omega
                      · have := (hvR x h).2; omega
                      · have := h.2; omega)
                    rw [HAL.out] at C6
                    have HC6 := Lib.hid C6
                    clear C6 hv1
                    go_wp2_with fail
                    refine ⟨⟨j + 1, by go_num, by omega, ?_, ((ch.trans (grow_chg GU2)).trans (grow_chg B6)).trans (Chg.set w6 _ q _ rfl)⟩, by simp [intOf]; omega⟩
                    rw [M.snd, M.addAt, HSD.out, HDL.out]
                    simp only [Int.toNat_natCast]
                    rw [HXQ.out, ← HN.out]
                    exact HC6.out
                  · obtain rfl : n9 = j := by omega
                    have hstp : M.stp L src ts fs ps ms (k + 1) = (M.snd L ms k OUT (M.stp L src ts fs ps ms k).1 n9, (M.stp L src ts fs ps ms k).2 ++ [OUT]) := by
                      rw [M.stp, HOU.out, hst.out]
                      show (M.snd L ms k OUT _ us.length, _) = _
                      rw [HUSL.out]
                    have HSTP := Lib.hid hstp
                    have chq : Chg (fun x => x = K.heap.size) Wq wr := (grow_chg BZq).trans ch
                    have swr := chq.size
                    have oO' := oO.chg chq (fun b hb (e : b = _) => by have := (hG b hb).1; omega)
                    have os2' := Ty.ochg tS os2 ch (fun b hb (e : b = _) => by have := hb.1; omega)
                    have oR' := oR.chg chq (fun x hx (e : x = _) => by have := (hvR x hx).1; omega)
                    have hll : ((M.stp L src ts fs ps ms k).2).length = k := io2.len
                    have hll' : ((M.stp L src ts fs ps ms k).2).length ≤ 1000000 := by omega
                    have hee0 := M.ent_bd hO.mix k
                    obtain ⟨ee, hee⟩ : ∃ ee : Nat, M.ent ms k = (ee : Int) := ⟨(M.ent ms k).toNat, by omega⟩
                    have hee2 : ee ≤ 1024 := by omega
                    have hqe : (M.entries ms)[k]? = some (ee : Int) := by
                      have : k < (M.entries ms).length := by rw [HLE.out]; exact hlt
                      rw [← hee, M.ent, M.i_, List.getElem?_eq_getElem this]; rfl
                    have HCQ := HCE.out k _ hqe
                    have u1r : wr.cell? ⟨Wq.heap.size, 1, none⟩ = some (.int .i64 (ln : Int)) := by rw [ch.cell (by omega) (by omega)]; exact u1Z
                    have hrk : (M.rdyL ms)[k]? = some ((ee : Int) + (ln : Int)) := by
                      have : k < ms.length := by rw [Q5.out]; exact hlt
                      rw [M.rdyL, List.getElem?_map, List.getElem?_range this]
                      simp only [Option.map_some]
                      rw [hee, hst.out]
                    have HRK := Lib.hid (M.take_at hrk)
                    have hrl : ((M.rdyL ms).take k).length ≤ 1000000 := by rw [List.length_take]; omega
                    clear hstp hll hee0 hee hqe hrk
                    go_wp2_with (at_builtin; refine wpList_pushS ei_S #[.slice A11 n c11] rfl _ _ rfl oO' os2' (fun b hb hb2 => by have := (hG b hb).2.1; have := hb2.1; omega) rfl rfl (by unfold maxLen; omega) (by omega) ?_; intro v3 w4 own4 ch4)
                    have s4 := ch4.size
                    have BK4 : Below K.heap.size K w4 := BKr.trans (ch4.toBelow (fun b hb => by have := (hG b hb).1; omega) (by omega))
                    have cE4 : w4.cell? ⟨bE, oE + k, none⟩ = some (.int .i64 (ee : Int)) := by rw [BK4.cell (by show bE < _; omega)]; exact HCQ
                    have u14 : w4.cell? ⟨Wq.heap.size, 1, none⟩ = some (.int .i64 (ln : Int)) := by rw [ch4.cell (by omega) (fun h => by have := (hG _ h).2.1; omega)]; exact u1r
                    have oR4 := oR'.chg ch4 (fun x hx h => (hG x h).2.2 hx)
                    have yE := cell_regrown cE4
                    have yl := cell_regrown u14
                    have D4 : Below w4.heap.size w4 w4.drew := below_drewN (Below.refl _ _) 1
                    have hd4 : w4.drew.heap.size = w4.heap.size := rfl
                    have oRd := oR4.below D4
                    have hwr_ := IntWalk.i64_in ((ee : Int) + (ln : Int)) (by omega)
                    (refine wp_region_fresh2 [0, 1, 2, 3, 5] [4, 6, 7] 1 (.one 8 .rest) [9] [9, 10] (by kernel_rfl) (by kernel_rfl) ?_; simp only [pickOps]; simp only [List.filterMap, List.getElem?_cons_succ, List.getElem?_cons_zero]; (repeat (go_big_quiet_step (fail))); refine wpQuiet_nil ?_; (repeat (go_big_quiet_step (fail))); refine wpQuiet_nil ?_)
                    refine seqT_one2 rfl ?_
                    go_wp2_with fail
                    refine ⟨regrown_of_below (bel_trans D4 ((Below.refl _ _).alloc (Nat.le_refl _) _)), ?_⟩
                    refine seqT_rest2 ?_
                    go_wp2_with (at_builtin; refine wpList_push1b ei_i64 rfl _ _ rfl oRd rfl rfl rfl (by unfold maxLen; omega) (by omega) (by omega) ?_; intro v5 w5 own5 gr5 bel5 hb5)
                    have op5 := OI.push own5
                    have s5 := gr5.size
                    have ch5 : Chg (fun x => vR.ownBlock = some x) w4 w5 := (grow_chg D4).trans (Chg.of_grown gr5 (fun x hx => hx))
                    have own5' := own4.chg ch5 (fun b hb e => by
                      rcases hb with h | h | h
                      · exact (hG b h).2.2 e
                      · have := (hvR b e).2; have := h.1; omega
                      · have := (hvR b e).2; omega)
                    have nG : ∀ x, (G x ∨ Iv wx.heap.size Z.heap.size x ∨ wr.heap.size < x ∧ x < w4.heap.size) → V.heap.size ≤ x ∧ x < w4.heap.size := fun x hx => by
                      rcases hx with h | h | h
                      · have := hG x h; omega
                      · have := h.1; have := h.2; omega
                      · omega
                    have oc5 := (((oc.more (F' := fun x => x = K.heap.size ∨ (G x ∨ Iv wx.heap.size Z.heap.size x ∨ wr.heap.size < x ∧ x < w4.heap.size) ∨ v5.ownBlock = some x ∨ vR.ownBlock = some x) (fun x hx => by
                      rcases hx with h | (h | h | h) | h | h
                      · exact .inl (.inl h)
                      · exact .inl (.inr (.inl h))
                      · exact .inl (.inr (.inr (.inr h)))
                      · exact .inr (by omega)
                      · rcases hb5 with h5 | h5
                        · exact .inl (.inr (.inr (.inl (h5 ▸ h))))
                        · have := h5 x h; exact .inr (by omega)
                      · exact .inl (.inr (.inr (.inl h))))).chg ch4 (fun x hx => .inr (.inl (.inl hx))) (fun x hx h => by simp only [Value.ownBlock, Option.some.injEq] at hx; have := (hG x h).1; omega)).chg ch5 (fun x hx => .inr (.inr (.inr hx))) (fun x hx h => by simp only [Value.ownBlock, Option.some.injEq] at hx; have := (hvR x h).1; omega)).sub (F' := fun x => x = K.heap.size ∨ (G x ∨ Iv wx.heap.size Z.heap.size x ∨ wr.heap.size < x ∧ x < w4.heap.size) ∨ v5.ownBlock = some x) (fun x hx => by
                      rcases hx with h | h | h
                      · exact .inl h
                      · exact .inr (.inl h)
                      · exact .inr (.inr (.inl h)))
                    refine ⟨⟨k + 1, by go_num, by omega, _, ?_, ?_, fun x hx => ⟨(nG x hx).1, by have := (nG x hx).2; omega, fun e => ?_⟩, ?_, BK4.trans (ch5.toBelow (fun b hb => by have := (hvR b hb).1; omega) (by omega)), by omega⟩, by simp [intOf]; omega⟩
                    · rw [HSTP.out]
                      exact own5'
                    · rw [HRK.out]
                      exact op5
                    · rcases hb5 with h5 | h5
                      · rw [h5] at e
                        rcases hx with h | h | h
                        · exact (hG x h).2.2 e
                        · have := (hvR x e).2; have := h.1; omega
                        · have := (hvR x e).2; omega
                      · have := h5 x e; have := (nG x hx).2; omega
                    · rw [HSTP.out]
                      exact oc5
            · obtain rfl : n4 = k := by omega
              have hlen : (M.rdyL ms).length = n4 := by rw [M.rdyL, List.length_map, List.length_range]; exact Q5.out
              rw [List.take_of_length_le (by rw [hlen]; exact Nat.le_refl _)] at oR
              clear hlen
              go_wp2_with fail
              go_ret2
              refine ⟨_, _, G, rfl, ?_, oR.base (by omega), fun x hx => ⟨by have := (hG x hx).1; omega, (hG x hx).2.1, (hG x hx).2.2⟩, BK.trans (B3K.mono sK)⟩
              rw [M.outs, Q5.out]
              exact oO
end Go.Proofs.YtfkcoiefkjmdeaaGreat
namespace Go.Proofs.YtfkcoiefkjmdeaaGreat
open Go.RowKit Go.Sort
set_option maxHeartbeats 4000000
set_option maxRecDepth 100000
set_option linter.unusedVariables false
set_option linter.unusedSimpArgs false
set_option synthInstance.maxSize 2000
set_option synthInstance.maxHeartbeats 400000
theorem M.renderR_ok {src : List (List Int)} {x : List Clip} {t : Nat} (h1 : M.srcOk src = true) (h2 : M.trackOk x = true) (h3 : M.hasS x src.length = true) (ht : t ≤ 4000) : M.renderR src x (t : Int) = (M.renT src x t, 0) := by
  rw [M.renderR, h1, h2, h3, M.inn_iff.2 (show (0 : Int) ≤ (t : Int) ∧ (t : Int) ≤ 4000 by omega), Int.toNat_natCast]
  rfl
end Go.Proofs.YtfkcoiefkjmdeaaGreat
namespace Go.Proofs.YtfkcoiefkjmdeaaGreat
open Go.RowKit Go.Sort
set_option maxHeartbeats 4000000
set_option maxRecDepth 100000
set_option linter.unusedVariables false
set_option linter.unusedSimpArgs false
set_option synthInstance.maxSize 2000
set_option synthInstance.maxHeartbeats 400000
theorem impl_size_impl_Patch (A : Option Addr) (n c : Nat) (w : World) : Calls Tryz.prog 67 #[.slice A n c] w fun e w' => e = .returned (.int .i64 n) ∧ w = w' := by
  go_enter Tryz.func67, Tryz.ntmps67
  go_wp2
  go_ret
  exact ⟨rfl, rfl⟩
theorem impl_isSession (a0 : Int) (A1 : Option Addr) (n1 c1 : Nat) (A2 : Option Addr) (n2 c2 : Nat) (A3 : Option Addr) (n3 c3 : Nat) (A4 : Option Addr) (n4 c4 : Nat) (A5 : Option Addr) (n5 c5 : Nat) (x1 : List (List Int)) (x2 : List (List Clip_)) (x3 : List Int) (x4 : List Patch) (x5 : List Strip) (w : World) (h1 : tSS.R w w.heap.size [.slice A1 n1 c1] x1) (h2 : tTS.R w w.heap.size [.slice A2 n2 c2] x2) (h3 : tS.R w w.heap.size [.slice A3 n3 c3] x3) (h4 : tPS.R w w.heap.size [.slice A4 n4 c4] x4) (h5 : tM.R w w.heap.size [.slice A5 n5 c5] x5) (hn : hZ.sz ((a0, x1, x2, x3, x4, x5) : Sess) ≤ 100000000) :
    Calls Tryz.prog 36 #[.agg #[.int .i64 a0, .slice A1 n1 c1, .slice A2 n2 c2, .slice A3 n3 c3, .slice A4 n4 c4, .slice A5 n5 c5]] w fun e w' => e = .returned (.bool (M.sessOk (a0, x1, x2, x3, x4, x5))) ∧ Below w.heap.size w w' := by
  obtain ⟨W, hW⟩ : ∃ W, W = w.alloc (.cells #[.int .i64 a0, .slice A1 n1 c1, .slice A2 n2 c2, .slice A3 n3 c3, .slice A4 n4 c4, .slice A5 n5 c5] 32) := ⟨_, rfl⟩
  have B0 : Below w.heap.size w W := by rw [hW]; exact (Below.refl _ _).alloc (Nat.le_refl _) _
  have p0 : W.cell? ⟨w.heap.size, 0, none⟩ = some (.int .i64 a0) := by rw [hW]; simp [go_sem]
  have p1 : W.cell? ⟨w.heap.size, 1, none⟩ = some (.slice A1 n1 c1) := by rw [hW]; simp [go_sem]
  have p2 : W.cell? ⟨w.heap.size, 2, none⟩ = some (.slice A2 n2 c2) := by rw [hW]; simp [go_sem]
  have p3 : W.cell? ⟨w.heap.size, 3, none⟩ = some (.slice A3 n3 c3) := by rw [hW]; simp [go_sem]
  have p4 : W.cell? ⟨w.heap.size, 4, none⟩ = some (.slice A4 n4 c4) := by rw [hW]; simp [go_sem]
  have p5 : W.cell? ⟨w.heap.size, 5, none⟩ = some (.slice A5 n5 c5) := by rw [hW]; simp [go_sem]
  have lx : w.heap.size < W.heap.size := by rw [hW]; simp
  have HW := Lib.hid hW
  clear hW
  have k1 := tSS.later h1 B0
  have k2 := tTS.later h2 B0
  have k3 := tS.later h3 B0
  have k4 := tPS.later h4 B0
  have k5 := tM.later h5 B0
  rw [hZ_sz] at hn
  have r1 := sl_R.1 k1
  have L1 := Lib.hid r1.cap.1
  have r2 := sl_R.1 k2
  have L2 := Lib.hid r2.cap.1
  have r3 := sl_R.1 k3
  have L3 := Lib.hid r3.cap.1
  have r4 := sl_R.1 k4
  have L4 := Lib.hid r4.cap.1
  have r5 := sl_R.1 k5
  have L5 := Lib.hid r5.cap.1
  have z1 : hSS.sz x1 ≤ 100000000 := by omega
  have bn1 : n1 ≤ 100000000 := by have e : x1.length + hS.szL x1 = hSS.sz x1 := rfl; have := L1.out; omega
  have z2 : hTS.sz x2 ≤ 100000000 := by omega
  have bn2 : n2 ≤ 100000000 := by have e : x2.length + hT.szL x2 = hTS.sz x2 := rfl; have := L2.out; omega
  have z3 : hS.sz x3 ≤ 100000000 := by omega
  have bn3 : n3 ≤ 100000000 := by have e : x3.length + hI.szL x3 = hS.sz x3 := rfl; have := L3.out; omega
  have z4 : hPS.sz x4 ≤ 100000000 := by omega
  have bn4 : n4 ≤ 100000000 := by have e : x4.length + hP.szL x4 = hPS.sz x4 := rfl; have := L4.out; omega
  have z5 : hM.sz x5 ≤ 100000000 := by omega
  have bn5 : n5 ≤ 100000000 := by have e : x5.length + hSt.szL x5 = hM.sz x5 := rfl; have := L5.out; omega
  have hb1 : Hid (∀ x ∈ x1, x.length ≤ 1000000000) := Lib.hid (fun x hx => by
    have hq1 : x1.length + hS.szL x1 = hSS.sz x1 := rfl
    obtain ⟨i, hi⟩ := List.getElem?_of_mem hx
    have := hS.szL_at hi
    rw [hS_sz] at this
    omega)
  have hx3 := (tS_R.1 k3).ri
  clear hn
  clear h1 h2 h3 h4 h5
  have HS := Lib.hid (show M.sessOk (a0, x1, x2, x3, x4, x5) = (M.inn a0 0 1000 && M.srcOk x1 && decide (n2 ≤ 6) && M.mixOk x5 && decide (n3 = n2) && x3.all (M.idx n5) && decide (n4 = n5) && x2.all (fun t => M.trackOk t && M.hasS t n1) && x4.all M.effOk) by rw [M.sessOk]; simp only [L1.out, L2.out, L3.out, L4.out, L5.out])
  generalize M.sessOk (a0, x1, x2, x3, x4, x5) = ok at HS ⊢
  cases g0 : M.inn a0 0 1000
  · have R := Lib.hid (show ok = false by rw [HS.out]; simp only [g0, Bool.false_and, Bool.and_false, Bool.true_and])
    have G0 := Lib.hid g0
    clear g0
    go_enter Tryz.func36, Tryz.ntmps36
    go_wp2_with fail
    rw [← HW.out]
    go_wp2_with (first | (go_at_call 55; refine (impl_size_impl_Strip _ _ _ _).mono ?_; rintro e w' ⟨rfl, rfl⟩) | (go_at_call 67; refine (impl_size_impl_Patch _ _ _ _).mono ?_; rintro e w' ⟨rfl, rfl⟩) | (go_at_call 56; refine (impl_within _ _ _ _).mono ?_; rw [G0.out]; rintro e w' ⟨rfl, rfl⟩))
    go_ret
    exact ⟨ret_bool (by rw [R.out]), B0⟩
  have G0 := Lib.hid g0
  clear g0
  cases g1 : M.srcOk x1
  · have R := Lib.hid (show ok = false by rw [HS.out]; simp only [G0.out, g1, Bool.false_and, Bool.and_false, Bool.true_and])
    have G1 := Lib.hid g1
    clear g1
    go_enter Tryz.func36, Tryz.ntmps36
    go_wp2_with fail
    rw [← HW.out]
    go_wp2_with (first | (go_at_call 55; refine (impl_size_impl_Strip _ _ _ _).mono ?_; rintro e w' ⟨rfl, rfl⟩) | (go_at_call 67; refine (impl_size_impl_Patch _ _ _ _).mono ?_; rintro e w' ⟨rfl, rfl⟩) | (go_at_call 56; refine (impl_within _ _ _ _).mono ?_; rw [G0.out]; rintro e w' ⟨rfl, rfl⟩) | (go_at_call 66; refine (impl_areSources _ _ _ _ _ r1 hb1 (by omega)).mono ?_; rw [G1.out]; rintro e w' ⟨rfl, rfl⟩))
    go_ret
    exact ⟨ret_bool (by rw [R.out]), B0⟩
  have G1 := Lib.hid g1
  clear g1
  by_cases g2 : ¬ n2 ≤ 6
  · have R := Lib.hid (show ok = false by rw [HS.out]; simp only [G0.out, G1.out, decide_eq_false g2, Bool.false_and, Bool.and_false, Bool.true_and])
    have gg : decide ((6 : Int) < (n2 : Int)) = true := decide_eq_true (by omega)
    go_enter Tryz.func36, Tryz.ntmps36
    go_wp2_with fail
    rw [← HW.out]
    go_wp2_with (first | (go_at_call 55; refine (impl_size_impl_Strip _ _ _ _).mono ?_; rintro e w' ⟨rfl, rfl⟩) | (go_at_call 67; refine (impl_size_impl_Patch _ _ _ _).mono ?_; rintro e w' ⟨rfl, rfl⟩) | (go_at_call 56; refine (impl_within _ _ _ _).mono ?_; rw [G0.out]; rintro e w' ⟨rfl, rfl⟩) | (go_at_call 66; refine (impl_areSources _ _ _ _ _ r1 hb1 (by omega)).mono ?_; rw [G1.out]; rintro e w' ⟨rfl, rfl⟩))
    go_ret
    exact ⟨ret_bool (by rw [R.out]), B0⟩
  replace g2 : n2 ≤ 6 := Decidable.not_not.1 g2
  have gd2 : decide ((6 : Int) < (n2 : Int)) = false := decide_eq_false (by omega)
  cases g3 : M.mixOk x5
  · have R := Lib.hid (show ok = false by rw [HS.out]; simp only [G0.out, G1.out, decide_eq_true g2, g3, Bool.false_and, Bool.and_false, Bool.true_and])
    have G3 := Lib.hid g3
    clear g3
    go_enter Tryz.func36, Tryz.ntmps36
    go_wp2_with fail
    rw [← HW.out]
    go_wp2_with (first | (go_at_call 55; refine (impl_size_impl_Strip _ _ _ _).mono ?_; rintro e w' ⟨rfl, rfl⟩) | (go_at_call 67; refine (impl_size_impl_Patch _ _ _ _).mono ?_; rintro e w' ⟨rfl, rfl⟩) | (go_at_call 56; refine (impl_within _ _ _ _).mono ?_; rw [G0.out]; rintro e w' ⟨rfl, rfl⟩) | (go_at_call 66; refine (impl_areSources _ _ _ _ _ r1 hb1 (by omega)).mono ?_; rw [G1.out]; rintro e w' ⟨rfl, rfl⟩) | (go_at_call 54; refine (impl_isMixer _ _ _ _ _ k5 z5).mono ?_; rw [G3.out]; rintro e w2 ⟨rfl, bel2⟩; have s0 : w2.cell? ⟨w.heap.size, 0, none⟩ = some (.int .i64 a0) := (by rw [bel2.cell lx]; exact p0); have s1 : w2.cell? ⟨w.heap.size, 1, none⟩ = some (.slice A1 n1 c1) := (by rw [bel2.cell lx]; exact p1); have s2 : w2.cell? ⟨w.heap.size, 2, none⟩ = some (.slice A2 n2 c2) := (by rw [bel2.cell lx]; exact p2); have s3 : w2.cell? ⟨w.heap.size, 3, none⟩ = some (.slice A3 n3 c3) := (by rw [bel2.cell lx]; exact p3); have s4 : w2.cell? ⟨w.heap.size, 4, none⟩ = some (.slice A4 n4 c4) := (by rw [bel2.cell lx]; exact p4); have s5 : w2.cell? ⟨w.heap.size, 5, none⟩ = some (.slice A5 n5 c5) := (by rw [bel2.cell lx]; exact p5); have hy3 := hx3.later bel2))
    go_ret
    exact ⟨ret_bool (by rw [R.out]), bel_trans B0 bel2⟩
  have G3 := Lib.hid g3
  clear g3
  by_cases g4 : ¬ n3 = n2
  · have R := Lib.hid (show ok = false by rw [HS.out]; simp only [G0.out, G1.out, decide_eq_true g2, G3.out, decide_eq_false g4, Bool.false_and, Bool.and_false, Bool.true_and])
    have gg : ((n3 : Int) != (n2 : Int)) = true := by simp; omega
    go_enter Tryz.func36, Tryz.ntmps36
    go_wp2_with fail
    rw [← HW.out]
    go_wp2_with (first | (go_at_call 55; refine (impl_size_impl_Strip _ _ _ _).mono ?_; rintro e w' ⟨rfl, rfl⟩) | (go_at_call 67; refine (impl_size_impl_Patch _ _ _ _).mono ?_; rintro e w' ⟨rfl, rfl⟩) | (go_at_call 56; refine (impl_within _ _ _ _).mono ?_; rw [G0.out]; rintro e w' ⟨rfl, rfl⟩) | (go_at_call 66; refine (impl_areSources _ _ _ _ _ r1 hb1 (by omega)).mono ?_; rw [G1.out]; rintro e w' ⟨rfl, rfl⟩) | (go_at_call 54; refine (impl_isMixer _ _ _ _ _ k5 z5).mono ?_; rw [G3.out]; rintro e w2 ⟨rfl, bel2⟩; have s0 : w2.cell? ⟨w.heap.size, 0, none⟩ = some (.int .i64 a0) := (by rw [bel2.cell lx]; exact p0); have s1 : w2.cell? ⟨w.heap.size, 1, none⟩ = some (.slice A1 n1 c1) := (by rw [bel2.cell lx]; exact p1); have s2 : w2.cell? ⟨w.heap.size, 2, none⟩ = some (.slice A2 n2 c2) := (by rw [bel2.cell lx]; exact p2); have s3 : w2.cell? ⟨w.heap.size, 3, none⟩ = some (.slice A3 n3 c3) := (by rw [bel2.cell lx]; exact p3); have s4 : w2.cell? ⟨w.heap.size, 4, none⟩ = some (.slice A4 n4 c4) := (by rw [bel2.cell lx]; exact p4); have s5 : w2.cell? ⟨w.heap.size, 5, none⟩ = some (.slice A5 n5 c5) := (by rw [bel2.cell lx]; exact p5); have hy3 := hx3.later bel2))
    go_ret
    exact ⟨ret_bool (by rw [R.out]), bel_trans B0 bel2⟩
  replace g4 : n3 = n2 := Decidable.not_not.1 g4
  subst g4
  cases g5 : x3.all (M.idx n5)
  · have R := Lib.hid (show ok = false by rw [HS.out]; simp only [G0.out, G1.out, decide_eq_true g2, G3.out, decide_true, g5, Bool.false_and, Bool.and_false, Bool.true_and])
    have G5 := Lib.hid g5
    clear g5
    go_enter Tryz.func36, Tryz.ntmps36
    go_wp2_with fail
    rw [← HW.out]
    go_wp2_with (first | (go_at_call 55; refine (impl_size_impl_Strip _ _ _ _).mono ?_; rintro e w' ⟨rfl, rfl⟩) | (go_at_call 67; refine (impl_size_impl_Patch _ _ _ _).mono ?_; rintro e w' ⟨rfl, rfl⟩) | (go_at_call 56; refine (impl_within _ _ _ _).mono ?_; rw [G0.out]; rintro e w' ⟨rfl, rfl⟩) | (go_at_call 66; refine (impl_areSources _ _ _ _ _ r1 hb1 (by omega)).mono ?_; rw [G1.out]; rintro e w' ⟨rfl, rfl⟩) | (go_at_call 54; refine (impl_isMixer _ _ _ _ _ k5 z5).mono ?_; rw [G3.out]; rintro e w2 ⟨rfl, bel2⟩; have s0 : w2.cell? ⟨w.heap.size, 0, none⟩ = some (.int .i64 a0) := (by rw [bel2.cell lx]; exact p0); have s1 : w2.cell? ⟨w.heap.size, 1, none⟩ = some (.slice A1 n1 c1) := (by rw [bel2.cell lx]; exact p1); have s2 : w2.cell? ⟨w.heap.size, 2, none⟩ = some (.slice A2 n3 c2) := (by rw [bel2.cell lx]; exact p2); have s3 : w2.cell? ⟨w.heap.size, 3, none⟩ = some (.slice A3 n3 c3) := (by rw [bel2.cell lx]; exact p3); have s4 : w2.cell? ⟨w.heap.size, 4, none⟩ = some (.slice A4 n4 c4) := (by rw [bel2.cell lx]; exact p4); have s5 : w2.cell? ⟨w.heap.size, 5, none⟩ = some (.slice A5 n5 c5) := (by rw [bel2.cell lx]; exact p5); have hy3 := hx3.later bel2) | (go_at_call 47; refine (impl_areIndices _ _ _ _ _ _ hy3 (by omega) (by omega)).mono ?_; rw [G5.out]; rintro e w' ⟨rfl, rfl⟩))
    go_ret
    exact ⟨ret_bool (by rw [R.out]), bel_trans B0 bel2⟩
  have G5 := Lib.hid g5
  clear g5
  by_cases g6 : ¬ n4 = n5
  · have R := Lib.hid (show ok = false by rw [HS.out]; simp only [G0.out, G1.out, decide_eq_true g2, G3.out, decide_true, G5.out, decide_eq_false g6, Bool.false_and, Bool.and_false, Bool.true_and])
    have gg : ((n4 : Int) != (n5 : Int)) = true := by simp; omega
    go_enter Tryz.func36, Tryz.ntmps36
    go_wp2_with fail
    rw [← HW.out]
    go_wp2_with (first | (go_at_call 55; refine (impl_size_impl_Strip _ _ _ _).mono ?_; rintro e w' ⟨rfl, rfl⟩) | (go_at_call 67; refine (impl_size_impl_Patch _ _ _ _).mono ?_; rintro e w' ⟨rfl, rfl⟩) | (go_at_call 56; refine (impl_within _ _ _ _).mono ?_; rw [G0.out]; rintro e w' ⟨rfl, rfl⟩) | (go_at_call 66; refine (impl_areSources _ _ _ _ _ r1 hb1 (by omega)).mono ?_; rw [G1.out]; rintro e w' ⟨rfl, rfl⟩) | (go_at_call 54; refine (impl_isMixer _ _ _ _ _ k5 z5).mono ?_; rw [G3.out]; rintro e w2 ⟨rfl, bel2⟩; have s0 : w2.cell? ⟨w.heap.size, 0, none⟩ = some (.int .i64 a0) := (by rw [bel2.cell lx]; exact p0); have s1 : w2.cell? ⟨w.heap.size, 1, none⟩ = some (.slice A1 n1 c1) := (by rw [bel2.cell lx]; exact p1); have s2 : w2.cell? ⟨w.heap.size, 2, none⟩ = some (.slice A2 n3 c2) := (by rw [bel2.cell lx]; exact p2); have s3 : w2.cell? ⟨w.heap.size, 3, none⟩ = some (.slice A3 n3 c3) := (by rw [bel2.cell lx]; exact p3); have s4 : w2.cell? ⟨w.heap.size, 4, none⟩ = some (.slice A4 n4 c4) := (by rw [bel2.cell lx]; exact p4); have s5 : w2.cell? ⟨w.heap.size, 5, none⟩ = some (.slice A5 n5 c5) := (by rw [bel2.cell lx]; exact p5); have hy3 := hx3.later bel2) | (go_at_call 47; refine (impl_areIndices _ _ _ _ _ _ hy3 (by omega) (by omega)).mono ?_; rw [G5.out]; rintro e w' ⟨rfl, rfl⟩))
    go_ret
    exact ⟨ret_bool (by rw [R.out]), bel_trans B0 bel2⟩
  replace g6 : n4 = n5 := Decidable.not_not.1 g6
  subst g6
  have HS2 := Lib.hid (show ok = (x2.all (fun t => M.trackOk t && M.hasS t n1) && x4.all M.effOk) by rw [HS.out]; simp only [G0.out, G1.out, decide_eq_true g2, G3.out, G5.out, decide_true, Bool.true_and, Bool.and_true])
  clear HS
  go_enter Tryz.func36, Tryz.ntmps36
  go_wp2_with fail
  rw [← HW.out]
  go_wp2_with (first | (go_at_call 55; refine (impl_size_impl_Strip _ _ _ _).mono ?_; rintro e w' ⟨rfl, rfl⟩) | (go_at_call 67; refine (impl_size_impl_Patch _ _ _ _).mono ?_; rintro e w' ⟨rfl, rfl⟩) | (go_at_call 56; refine (impl_within _ _ _ _).mono ?_; rw [G0.out]; rintro e w' ⟨rfl, rfl⟩) | (go_at_call 66; refine (impl_areSources _ _ _ _ _ r1 hb1 (by omega)).mono ?_; rw [G1.out]; rintro e w' ⟨rfl, rfl⟩) | (go_at_call 54; refine (impl_isMixer _ _ _ _ _ k5 z5).mono ?_; rw [G3.out]; rintro e w2 ⟨rfl, bel2⟩; have s0 : w2.cell? ⟨w.heap.size, 0, none⟩ = some (.int .i64 a0) := (by rw [bel2.cell lx]; exact p0); have s1 : w2.cell? ⟨w.heap.size, 1, none⟩ = some (.slice A1 n1 c1) := (by rw [bel2.cell lx]; exact p1); have s2 : w2.cell? ⟨w.heap.size, 2, none⟩ = some (.slice A2 n3 c2) := (by rw [bel2.cell lx]; exact p2); have s3 : w2.cell? ⟨w.heap.size, 3, none⟩ = some (.slice A3 n3 c3) := (by rw [bel2.cell lx]; exact p3); have s4 : w2.cell? ⟨w.heap.size, 4, none⟩ = some (.slice A4 n4 c4) := (by rw [bel2.cell lx]; exact p4); have s5 : w2.cell? ⟨w.heap.size, 5, none⟩ = some (.slice A5 n4 c5) := (by rw [bel2.cell lx]; exact p5); have hy3 := hx3.later bel2) | (go_at_call 47; refine (impl_areIndices _ _ _ _ _ _ hy3 (by omega) (by omega)).mono ?_; rw [G5.out]; rintro e w' ⟨rfl, rfl⟩))
  have B2 := bel_trans B0 bel2
  have lV : w.heap.size < w2.heap.size := by have := bel2.size; omega
  replace r2 := r2.later bel2
  replace r4 := r4.later bel2
  go_loopw [60] (fun i wr => ∃ k : Nat, i = .int .i64 k ∧ k ≤ n3 ∧ Hid (ok = ((x2.drop k).all (fun t => M.trackOk t && M.hasS t n1) && x4.all M.effOk)) ∧ Below w2.heap.size w2 wr) (fun i _ => n3 - (intOf i).toNat)
  case atStart => exact ⟨0, rfl, by omega, Lib.hid HS2.out, Below.refl _ _⟩
  case round =>
    obtain ⟨k, rfl, hk, H, Bw⟩ := hrel
    have BW := bel_trans B2 Bw
    by_cases hlt : k < n3
    · obtain ⟨bt, ot, A7, n7, c7, t, rfl, hbt, Y, e0, hT, hra, h7⟩ := track_cell (r2.below Bw) z2 hlt
      have hd := Lib.hid (M.drop_at Y.out)
      have hk0 : (0 : Int) ≤ (k : Int) := by omega
      have hkn : (k : Int) < (n3 : Int) := by omega
      obtain ⟨U, hU⟩ : ∃ U, U = wr.alloc (.cells #[.slice A7 n7 c7] 42) := ⟨_, rfl⟩
      have GU : Below wr.heap.size wr U := by rw [hU]; exact (Below.refl _ _).alloc (Nat.le_refl _) _
      have u0 : U.cell? ⟨wr.heap.size, 0, none⟩ = some (.slice A7 n7 c7) := by rw [hU, cell_of_row _ wr.heap.size 0 _ 42 (0, 0) (heap_alloc_new wr _)]; rfl
      have BU := bel_trans Bw GU
      have q1 : U.cell? ⟨w.heap.size, 1, none⟩ = some (.slice A1 n1 c1) := by rw [BU.cell lV]; exact s1
      have HU := Lib.hid hU
      clear hU
      have hry := (hra.more Bw.size).later GU
      have uu0 := cell_regrown u0
      have qq1 := cell_regrown q1
      have cS : ∀ d os, Calls Tryz.prog 70 #[.slice A1 n1 c1] (grow (redrawn U d) os) fun e w'' => e = .returned (.int .i64 n1) ∧ ∃ p : Regrown, w'' = grow (redrawn U p.d) p.os := fun d os => Calls.regrown_of (to_bel (impl_size_int64S _ _ _ _))
      have cT : ∀ d os, Calls Tryz.prog 68 #[.agg #[.slice A7 n7 c7]] (grow (redrawn U d) os) fun e w'' => e = .returned (.bool (M.trackOk t)) ∧ ∃ p : Regrown, w'' = grow (redrawn U p.d) p.os := fun d os => Calls.regrown_of (impl_isTrack _ _ _ _ _ (hry.later (below_regrown U d os)) (by omega))
      have cH : ∀ d os, Calls Tryz.prog 69 #[.agg #[.slice A7 n7 c7], .int .i64 n1] (grow (redrawn U d) os) fun e w'' => e = .returned (.bool (M.hasS t n1)) ∧ ∃ p : Regrown, w'' = grow (redrawn U p.d) p.os := fun d os => Calls.regrown_of (impl_hasSources _ _ _ _ _ _ (hry.later (below_regrown U d os)) (by omega))
      clear u0 q1
      cases ht : M.trackOk t
      · have R := Lib.hid (show ok = false by rw [H.out, hd.out, List.all_cons]; simp only [ht, Bool.false_and])
        rw [ht] at cT
        clear ht
        go_wp2_with fail
        rw [← HU.out]
        clear e0
        (refine wp_region_quiet_below (by kernel_rfl) (by kernel_rfl) ?_; (repeat (go_big_quiet_step ((first | exact cS _ _ | exact cT _ _ | exact cH _ _)))); refine wpQuiet_nil ?_; intro _ hw'; obtain ⟨⟨dq, osq⟩, hw''⟩ := hw'; subst hw'')
        go_wp2
        go_ret
        exact ⟨ret_bool (by rw [R.out]), bel_trans BW (bel_trans GU (below_regrown U dq osq))⟩
      · rw [ht] at cT
        cases hh : M.hasS t n1
        · have R := Lib.hid (show ok = false by rw [H.out, hd.out, List.all_cons]; simp only [ht, hh, Bool.false_and, Bool.and_false])
          rw [hh] at cH
          clear ht hh
          go_wp2_with fail
          rw [← HU.out]
          clear e0
          (refine wp_region_quiet_below (by kernel_rfl) (by kernel_rfl) ?_; (repeat (go_big_quiet_step ((first | exact cS _ _ | exact cT _ _ | exact cH _ _)))); refine wpQuiet_nil ?_; intro _ hw'; obtain ⟨⟨dq, osq⟩, hw''⟩ := hw'; subst hw'')
          go_wp2
          go_ret
          exact ⟨ret_bool (by rw [R.out]), bel_trans BW (bel_trans GU (below_regrown U dq osq))⟩
        · have R := Lib.hid (show ok = ((x2.drop (k + 1)).all (fun t => M.trackOk t && M.hasS t n1) && x4.all M.effOk) by rw [H.out, hd.out, List.all_cons]; simp only [ht, hh, Bool.true_and])
          rw [hh] at cH
          clear ht hh
          go_wp2_with fail
          rw [← HU.out]
          clear e0
          (refine wp_region_quiet_below (by kernel_rfl) (by kernel_rfl) ?_; (repeat (go_big_quiet_step ((first | exact cS _ _ | exact cT _ _ | exact cH _ _)))); refine wpQuiet_nil ?_; intro _ hw'; obtain ⟨⟨dq, osq⟩, hw''⟩ := hw'; subst hw'')
          go_wp2
          go_roundw
          case rel => exact ⟨k + 1, by go_num, by omega, R, bel_trans Bw (bel_trans GU (below_regrown U dq osq))⟩
          case measure => simp [intOf]; omega
    · have HS4 := Lib.hid (show ok = x4.all M.effOk by rw [H.out, List.drop_eq_nil_of_le (by rw [L2.out]; omega)]; rfl)
      have q4 : wr.cell? ⟨w.heap.size, 4, none⟩ = some (.slice A4 n4 c4) := by rw [Bw.cell lV]; exact s4
      go_wp2_with fail
      clear H hk hlt
      obtain ⟨wo, rfl⟩ : ∃ wo : World, wo = wr := ⟨_, rfl⟩
      go_loopw [79] (fun i wr => ∃ k : Nat, i = .int .i64 k ∧ k ≤ n4 ∧ Hid (ok = (x4.drop k).all M.effOk) ∧ Below w2.heap.size w2 wr) (fun i _ => n4 - (intOf i).toNat)
      case atStart => exact ⟨0, rfl, by omega, Lib.hid HS4.out, Bw⟩
      case round =>
        obtain ⟨k, rfl, hk, H, Bw2⟩ := hrel
        have BW := bel_trans B2 Bw2
        by_cases hlt2 : k < n4
        · obtain ⟨bp, op, b0, B1, m1, d1, B2, m2, d2, B3, m3, d3, y1, y2, y3, rfl, hbp, Y, e0, e1, e2, e3, t1, t2, t3, hz⟩ := patch_cell (r4.below Bw2) z4 hlt2
          have hd := Lib.hid (M.drop_at Y.out)
          obtain ⟨U, hU⟩ : ∃ U, U = wr.alloc (.cells #[.int .i64 b0, .slice B1 m1 d1, .slice B2 m2 d2, .slice B3 m3 d3] 36) := ⟨_, rfl⟩
          have GU : Below wr.heap.size wr U := by rw [hU]; exact (Below.refl _ _).alloc (Nat.le_refl _) _
          have HU := Lib.hid hU
          clear hU
          have s1 := tSS.later (tSS.more Bw2.size t1) GU
          have s2 := tNS.later (tNS.more Bw2.size t2) GU
          have s3 := tS.later (tS.more Bw2.size t3) GU
          have hk0 : (0 : Int) ≤ (k : Int) := by omega
          have hkn : (k : Int) < (n4 : Int) := by omega
          cases he : M.effOk (b0, y1, y2, y3)
          · have R := Lib.hid (show ok = false by rw [H.out, hd.out, List.all_cons, he]; rfl)
            have HE := Lib.hid he
            clear he
            go_wp2_with fail
            rw [← HU.out]
            refine (impl_isEffect _ _ _ _ _ _ _ _ _ _ _ _ _ U s1 s2 s3 hz).mono ?_
            rw [HE.out]
            rintro e w5 ⟨rfl, bel5⟩
            go_wp2
            go_ret
            exact ⟨ret_bool (by rw [R.out]), bel_trans BW (bel_trans GU bel5)⟩
          · have R := Lib.hid (show ok = (x4.drop (k + 1)).all M.effOk by rw [H.out, hd.out, List.all_cons, he]; rfl)
            have HE := Lib.hid he
            clear he
            go_wp2_with fail
            rw [← HU.out]
            refine (impl_isEffect _ _ _ _ _ _ _ _ _ _ _ _ _ U s1 s2 s3 hz).mono ?_
            rw [HE.out]
            rintro e w5 ⟨rfl, bel5⟩
            go_wp2
            go_roundw
            case rel => exact ⟨k + 1, by go_num, by omega, R, bel_trans Bw2 (bel_trans GU bel5)⟩
            case measure => simp [intOf]; omega
        · have R := Lib.hid (show ok = true by rw [H.out, List.drop_eq_nil_of_le (by rw [L4.out]; omega)]; rfl)
          go_wp2
          go_ret
          exact ⟨ret_bool (by rw [R.out]), BW⟩
end Go.Proofs.YtfkcoiefkjmdeaaGreat
namespace Go.Proofs.YtfkcoiefkjmdeaaGreat
open Go.RowKit Go.Sort
set_option maxHeartbeats 4000000
set_option maxRecDepth 100000
set_option linter.unusedVariables false
set_option linter.unusedSimpArgs false
set_option synthInstance.maxSize 2000
set_option synthInstance.maxHeartbeats 400000
section
variable {L : Nat} {src : List (List Int)} {ts : List (List Clip_)} {fs : List Int} {ps : List Patch} {ms : List Strip}
theorem M.outs_len (h : M.SO L src ts fs ps ms) : (M.outs L src ts fs ps ms).length = ms.length := (M.stp_ok h _ (Nat.le_refl _)).2.len
theorem M.outs_cel (h : M.SO L src ts fs ps ms) {k : Nat} (hk : k < ms.length) : (M.cel (M.outs L src ts fs ps ms) k).length = M.nT L ms := ((M.stp_ok h _ (Nat.le_refl _)).2.cel hk).1
theorem M.rdyL_at {k : Nat} (hk : k < ms.length) : (M.rdyL ms)[k]? = some (M.ent ms k + (M.stri ms k).2.1) := by
  rw [M.rdyL, List.getElem?_map, List.getElem?_range hk]
  rfl
theorem M.rdyL_len : (M.rdyL ms).length = ms.length := by rw [M.rdyL, List.length_map, List.length_range]
end
theorem impl_mix (L : Nat) (A1 : Option Addr) (n1 c1 : Nat) (A2 : Option Addr) (n2 c2 : Nat) (A3 : Option Addr) (n3 c3 : Nat) (A4 : Option Addr) (n4 c4 : Nat) (A5 : Option Addr) (n5 c5 : Nat) (src : List (List Int)) (ts : List (List Clip_)) (fs : List Int) (ps : List Patch) (ms : List Strip) (w : World)
    (h1 : tSS.R w w.heap.size [.slice A1 n1 c1] src) (h2 : tTS.R w w.heap.size [.slice A2 n2 c2] ts) (h3 : tS.R w w.heap.size [.slice A3 n3 c3] fs) (h4 : tPS.R w w.heap.size [.slice A4 n4 c4] ps) (h5 : tM.R w w.heap.size [.slice A5 n5 c5] ms) (hn : hZ.sz (((L : Int), src, ts, fs, ps, ms) : Sess) ≤ 100000000) (hO : M.SO L src ts fs ps ms) :
    Calls Tryz.prog 32 #[.agg #[.int .i64 L, .slice A1 n1 c1, .slice A2 n2 c2, .slice A3 n3 c3, .slice A4 n4 c4, .slice A5 n5 c5]] w (Ret1 2 w (M.mixS L src ts fs ps ms)) := by
  obtain ⟨W, hW, B0, sW, p0, p1, p2, p3, p4, p5, pf⟩ := newbox6 w (.int .i64 L) (.slice A1 n1 c1) (.slice A2 n2 c2) (.slice A3 n3 c3) (.slice A4 n4 c4) (.slice A5 n5 c5) 32
  have HW := Lib.hid hW
  have lW : w.heap.size < W.heap.size := by omega
  have Q5 := Lib.hid (sl_R.1 h5).cap.1
  have hmn := M.mix_n hO.mix
  rw [Q5.out] at hmn
  obtain ⟨m, hm⟩ : ∃ m : Nat, m = n5 - 1 := ⟨_, rfl⟩
  have HM := Lib.hid (show ((n5 : Int) - 1) = (m : Int) by omega)
  have hmw : IntKind.i64.wrap ((n5 : Int) - 1) = (n5 : Int) - 1 := IntWalk.i64_in _ (by omega)
  have hm' : m < n5 := by omega
  have hMM := Lib.hid (show ms.length - 1 = m by rw [Q5.out]; omega)
  have hT := M.total_bd hO.mix
  obtain ⟨T, hTT⟩ : ∃ T : Nat, M.total ms = (T : Int) := ⟨(M.total ms).toNat, by omega⟩
  have hTb : T ≤ 1100 := by omega
  have hL := hO.l
  have HT := Lib.hid hTT
  have hrl : (M.rdyL ms)[m]? = some (T : Int) := by
    rw [M.rdyL_at (by rw [Q5.out]; exact hm'), ← hTT, M.total_eq, hMM.out]
  have HRL := Lib.hid hrl
  have hnT := M.nT_le hO
  clear hW sW hTT hm hrl hT
  go_enter Tryz.func32, Tryz.ntmps32
  go_wp2_with fail
  rw [← HW.out]
  refine (impl_strips L _ _ c1 _ _ c2 _ _ c3 _ _ c4 _ _ c5 src ts fs ps ms W (tSS.later h1 B0) (tTS.later h2 B0) (tS.later h3 B0) (tPS.later h4 B0) (tM.later h5 B0) hn hO).mono ?_
  rintro e K ⟨vO, vR, G, rfl, oO, oR, hG, bel⟩
  have R := RSN.of_os (F := fun _ => False) oO (fun _ h => h.elim)
  obtain ⟨AO, cO, eO⟩ := R.shape
  rw [M.outs_len hO, Q5.out] at eO
  subst eO
  obtain ⟨AR, cR, eR, rR⟩ := oR.shape
  rw [M.rdyL_len, Q5.out] at eR rR
  subst eR
  obtain ⟨bR, oR_, rfl, hbR, hcR⟩ := ri_lit rR (by omega)
  have cR_ := hcR m _ HRL.out
  obtain ⟨bO, oO_, cO', AX, cX, x, eO', hbO, -, hx1, hx2, hx3, hx4⟩ := R.at (k := m) (by rw [M.outs_len hO, Q5.out]; exact hm')
  simp only [Value.slice.injEq] at eO'
  obtain ⟨rfl, -, -⟩ := eO'
  have hxc : M.cel (M.outs L src ts fs ps ms) m = x := M.cel_of hx1
  have hxl : x.length = M.nT L ms := by rw [← hxc]; exact M.outs_cel hO (by rw [Q5.out]; exact hm')
  obtain ⟨n, hnn⟩ : ∃ n, n = M.nT L ms := ⟨_, rfl⟩
  rw [← hnn] at hxl hnT
  rw [hxl] at hx2 hx3 hx4
  have HXC := Lib.hid hxc
  have sK := bel.size
  have lK : w.heap.size < K.heap.size := by omega
  have q0 : K.cell? ⟨w.heap.size, 0, none⟩ = some (.int .i64 L) := by rw [bel.cell (by show w.heap.size < _; omega)]; exact p0
  have y0 := cell_regrown q0
  have yR := cell_regrown cR_
  have yO := cell_regrown hx4
  have D1 : Below K.heap.size K K.drew := below_drewN (Below.refl _ _) 1
  have hd1 : K.drew.heap.size = K.heap.size := rfl
  have k0 : (0 : Int) ≤ (m : Int) := by omega
  have k1 : (m : Int) < (n5 : Int) := by omega
  have hx3' := hx3.below D1
  clear hxc hnn hx1 hcR hxl
  go_wp2_with fail
  rw [HM.out]
  (refine wp_region_fresh2 [0, 1, 2, 4, 5, 6, 8] [3, 7, 9] 1 (.one 10 .rest) [11] [11] (by kernel_rfl) (by kernel_rfl) ?_; simp only [pickOps]; simp only [List.filterMap, List.getElem?_cons_succ, List.getElem?_cons_zero]; (repeat (go_big_quiet_step (fail))); refine wpQuiet_nil ?_; (repeat (go_big_quiet_step (fail))); refine wpQuiet_nil ?_)
  refine seqT_one2 rfl ?_
  go_wp2_with fail
  refine (impl_slice AX n cX x T L _ hx3'.1 (by omega) (by omega) (by omega)).mono ?_
  rintro e w2 ⟨v2, rfl, own2, bel2⟩
  have B2 := bel_trans D1 bel2
  go_wp2_with fail
  refine ⟨regrown_of_below B2, ?_⟩
  refine seqT_rest2 ?_
  go_wp2_with fail
  go_ret
  refine ⟨_, rfl, ?_, bel_trans B0 (bel_trans bel B2)⟩
  rw [M.mixS, hMM.out, HXC.out, HT.out]
  exact own2.base (by omega)
end Go.Proofs.YtfkcoiefkjmdeaaGreat
