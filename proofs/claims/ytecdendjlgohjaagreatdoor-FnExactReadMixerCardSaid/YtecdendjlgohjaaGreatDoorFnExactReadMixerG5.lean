import Derived.Test.YtecdendjlgohjaaGreatDoorFnExactReadMixerG4
import Derived.Test.YtecdendjlgohjaaGreatDoorFnExactReadMixerG3
set_option linter.unusedVariables false
set_option linter.unusedSimpArgs false
namespace Go.Proofs.YtecdendjlgohjaaGreatDoor
open Go.RowKit Go.Sort
set_option maxHeartbeats 4000000
set_option maxRecDepth 100000
theorem M.app_line (x : List UInt8) (s : ByteArray) (b : List UInt8) : (⟨x.toArray⟩ : ByteArray) ++ (s ++ ⟨#[32]⟩ ++ ⟨b.toArray⟩) = ⟨(x ++ (M.bs s ++ 32 :: b)).toArray⟩ := by
  rw [show (⟨#[32]⟩ : ByteArray) = ⟨([32] : List UInt8).toArray⟩ from rfl]
  conv => lhs; rw [← M.bs_mk s]
  rw [M.str_app (M.bs s) [32], M.str_app, M.str_app]
  simp
theorem M.app_send (x : List UInt8) (s : ByteArray) (b : List UInt8) : (⟨x.toArray⟩ : ByteArray) ++ (⟨#[32, 116, 111, 32]⟩ ++ s ++ ⟨#[32]⟩ ++ ⟨b.toArray⟩) = ⟨(x ++ ([32, 116, 111, 32] ++ (M.bs s ++ 32 :: b))).toArray⟩ := by
  rw [show (⟨#[32]⟩ : ByteArray) = ⟨([32] : List UInt8).toArray⟩ from rfl, show (⟨#[32, 116, 111, 32]⟩ : ByteArray) = ⟨([32, 116, 111, 32] : List UInt8).toArray⟩ from rfl]
  conv => lhs; rw [← M.bs_mk s]
  rw [M.str_app [32, 116, 111, 32] (M.bs s), M.str_app _ [32], M.str_app, M.str_app]
  simp
theorem spec_l26Text (vb : Nat) (A : Option Addr) (n c : Nat) (xs : List Strip) (w : World) (hv0 : w.cell? ⟨vb, 0, none⟩ = some (.slice A n c)) (hx : tM.R w w.heap.size [.slice A n c] xs) (hok : M.mixOk xs = true) :
    Calls Tryz.prog 22 #[.pointer (some ⟨vb, 0, none⟩)] w fun e w' => e = .returned (.string ⟨(M.mxT xs xs.length).toArray⟩) ∧ Below w.heap.size w w' := by
  have rx := sl_R.1 hx
  have HLX := Lib.hid rx.cap.1
  have HOK := Lib.hid hok
  have hvb : vb < w.heap.size := World.block_lt_of_cell? w _ hv0
  have hmn := M.mix_n hok
  have hnb : 1 ≤ n ∧ n ≤ 8 := by have := HLX.out; omega
  clear hok hx hmn
  go_enter Tryz.func22, Tryz.ntmps22
  go_wp2
  go_loopw [3, 4] (fun v i wr => ∃ k : Nat, i = .int .i64 k ∧ k ≤ n ∧ v = .string ⟨(M.mxT xs k).toArray⟩ ∧ Below w.heap.size w wr) (fun _ i _ => n - (intOf i).toNat)
  case atStart => exact ⟨0, rfl, by omega, rfl, Below.refl _ _⟩
  case round =>
    obtain ⟨k, rfl, hk, rfl, Bw⟩ := hrel
    have hv : wr.cell? ⟨vb, 0, none⟩ = some (.slice A n c) := by rw [Bw.cell (by simpa using hvb)]; exact hv0
    by_cases hlt : k < n
    · have hX := Lib.hid (List.getElem?_eq_getElem (l := xs) (i := k) (by rw [HLX.out]; exact hlt))
      obtain ⟨b, o1, cc, cs, hvv, hab, -, hE, hcc⟩ := (rx.below Bw).atX hX.out
      simp only [Value.slice.injEq] at hvv
      obtain ⟨rfl, -, rfl⟩ := hvv
      generalize xs[k]'(by rw [HLX.out]; exact hlt) = x at hX hE
      obtain ⟨s, l, us⟩ := x
      obtain ⟨A2, n2, c2, rfl, -, hE⟩ := st_R.1 hE
      have e0 : wr.cell? ⟨b, o1 + k * 3, none⟩ = some (.string s) := hcc 0 _ rfl
      have e1 : wr.cell? ⟨b, o1 + k * 3 + 1, none⟩ = some (.int .i64 l) := hcc 1 _ rfl
      have e2 : wr.cell? ⟨b, o1 + k * 3 + 2, none⟩ = some (.slice A2 n2 c2) := hcc 2 _ rfl
      have rs := (tSdS_ra hE).1
      have hn2 := rs.1
      obtain ⟨hlat, hu4, hsb⟩ := M.mix_strip HOK.out hX.out
      have HN2 := Lib.hid hn2
      have HSB := Lib.hid hsb
      have l0 : -9223372036854775808 ≤ l := by omega
      have l1 : l ≤ 9223372036854775807 := by omega
      have n2b : n2 ≤ 4 := by omega
      have z0 := M.mxT_le HOK.out k (by rw [HLX.out]; omega)
      have Z0 := Lib.hid z0
      have z1 := M.itoa_le l l0 l1
      have z2 := M.mix_name HOK.out hX.out
      have g0 : ¬ 9223372036854775807 < s.size + 1 := by omega
      have g1 : ¬ 9223372036854775807 < s.size + 1 + (Lib.itoa l).length := by omega
      have g2 : ¬ 9223372036854775807 < (M.mxT xs k).length + (s.size + 1 + (Lib.itoa l).length) := by omega
      have hbr : b < wr.heap.size := Nat.lt_of_lt_of_le hab Bw.size
      have cD := spec_l01Dec_rg l l0 l1 wr
      have k0 := cell_regrown e0
      have k1 := cell_regrown e1
      have hkn2 : (k : Int) < (n : Int) := by omega
      clear hcc hn2 hu4 hsb hlat z0 z1 z2
      go_wp2_with fail
      (refine wp_region_quiet_below (by kernel_rfl) (by kernel_rfl) ?_; (repeat (go_big_quiet_step (with_reducible exact cD _ _))); refine wpQuiet_nil ?_; intro _ hw'; obtain ⟨⟨dq, osq⟩, hw''⟩ := hw'; subst hw'')
      have BQ := below_regrown wr dq osq
      generalize grow (redrawn wr dq) osq = w5 at BQ ⊢
      have d2 : w5.cell? ⟨b, o1 + k * 3 + 2, none⟩ = some (.slice A2 n2 c2) := by rw [BQ.cell (by simpa using hbr)]; exact e2
      have B5 := bel_trans Bw BQ
      have E2 := Lib.hid e2
      clear cD k0 k1 g0 g1 g2 e1 e2
      obtain ⟨wo, rfl⟩ : ∃ wo : World, wo = wr := ⟨_, rfl⟩
      go_wp2_with fail
      go_loopw [3, 6] (fun v i wr => ∃ (j : Nat) (T : List UInt8), i = .int .i64 j ∧ j ≤ n2 ∧ v = .string ⟨T.toArray⟩ ∧ Hid (T = M.mxT xs k ++ M.stT xs s l us j) ∧ Below w.heap.size w wr ∧ Below w.heap.size wo wr) (fun _ i _ => n2 - (intOf i).toNat)
      case atStart => exact ⟨0, M.mxT xs k ++ M.stT xs s l us 0, rfl, by omega, by rw [M.app_line, M.stT_zero], Lib.hid rfl, B5, BQ.mono (by have := Bw.size; omega)⟩
      case round =>
        clear B5 BQ d2
        obtain ⟨j, T, rfl, hj, rfl, HTT, Bv, Bo⟩ := hrel
        have hv2 : wr.cell? ⟨vb, 0, none⟩ = some (.slice (some ⟨b, o1, none⟩) n c) := by rw [Bv.cell (by simpa using hvb)]; exact hv0
        have d2 : wr.cell? ⟨b, o1 + k * 3 + 2, none⟩ = some (.slice A2 n2 c2) := by rw [Bo.cell (by simpa using hab)]; exact E2.out
        have hT1 := M.stT_le HOK.out hX.out j (by rw [HN2.out]; omega)
        have hT0 := Z0.out
        have hT2 : T.length ≤ 200 * k + (32 + 36 * j) := by rw [HTT.out, List.length_append]; omega
        by_cases hlt2 : j < n2
        · obtain ⟨b2, o2, ⟨p0, p1⟩, rfl, hab2, X2, hdd⟩ := (rs.below Bo).at sd_len (by decide) hlt2
          have f0 : wr.cell? ⟨b2, o2 + j * 2, none⟩ = some (.int .i64 p0) := hdd 0 _ rfl
          have f1 : wr.cell? ⟨b2, o2 + j * 2 + 1, none⟩ = some (.int .i64 p1) := hdd 1 _ rfl
          obtain ⟨hp1, hp2, hp3⟩ := M.sends_at HSB.out X2.out
          have hp4 := M.inn_iffM.1 hp3
          obtain ⟨q, rfl⟩ : ∃ q : Nat, p0 = q := ⟨p0.toNat, by omega⟩
          have hqn : q < n := by have := HLX.out; omega
          have hY := Lib.hid (List.getElem?_eq_getElem (l := xs) (i := q) (by rw [HLX.out]; exact hqn))
          obtain ⟨b', o', cc', cs', hv', -, -, hE', hcc'⟩ := (rx.below Bv).atX hY.out
          simp only [Value.slice.injEq, Option.some.injEq, Addr.mk.injEq] at hv'
          obtain ⟨⟨rfl, rfl, -⟩, -, -⟩ := hv'
          generalize xs[q]'(by rw [HLX.out]; exact hqn) = y at hY hE'
          obtain ⟨s', l', us'⟩ := y
          obtain ⟨A3, n3, c3, rfl, -, -⟩ := st_R.1 hE'
          have g0 : wr.cell? ⟨b, o1 + q * 3, none⟩ = some (.string s') := hcc' 0 _ rfl
          have l2 : -9223372036854775808 ≤ p1 := by omega
          have l3 : p1 ≤ 9223372036854775807 := by omega
          have z1 := M.itoa_le p1 l2 l3
          have z2 := M.mix_name HOK.out hY.out
          have x0 : ¬ 9223372036854775807 < 4 + s'.size := by omega
          have x1 : ¬ 9223372036854775807 < 4 + s'.size + 1 := by omega
          have x2 : ¬ 9223372036854775807 < 4 + s'.size + 1 + (Lib.itoa p1).length := by omega
          have x3 : ¬ 9223372036854775807 < T.length + (4 + s'.size + 1 + (Lib.itoa p1).length) := by omega
          have hW := Lib.hid (M.stT_next (ms := xs) (s := s) (l := l) X2.out)
          have hqn2 : (q : Int) < (n : Int) := by omega
          have cD := spec_l01Dec_rg p1 l2 l3 wr
          have k0 := cell_regrown f0
          have k1 := cell_regrown f1
          have k2 := cell_regrown g0
          have k3 := cell_regrown d2
          have k4 := cell_regrown hv2
          clear hdd hcc' hp1 hp2 hp3 hp4 z1 z2 hT0 hT1 hT2 f0 f1 g0
          go_wp2_with fail
          (refine wp_region_quiet_below (by kernel_rfl) (by kernel_rfl) ?_; (repeat (go_big_quiet_step (with_reducible exact cD _ _))); refine wpQuiet_nil ?_; intro _ hw'; obtain ⟨⟨dq, osq⟩, hw''⟩ := hw'; subst hw'')
          go_wp2
          go_roundw
          case rel =>
            have BQ := below_regrown wr dq osq
            refine ⟨j + 1, M.mxT xs k ++ M.stT xs s l us (j + 1), by go_num, by omega, ?_, Lib.hid rfl, bel_trans Bv BQ, Bo.trans (BQ.mono (by have := Bv.size; omega))⟩
            rw [hW.out, ← List.append_assoc, ← HTT.out]
            refine congrArg Value.string ?_
            rw [M.app_send, Int.toNat_natCast, M.nmAt, hY.out]
            rfl
          case measure => simp [intOf]; omega
        · obtain rfl : j = n2 := by omega
          have x3 : ¬ 9223372036854775807 < T.length + 1 := by omega
          have hM := Lib.hid (M.mxT_next hX.out)
          clear hT0 hT1 hT2
          go_wp2
          go_roundw
          case rel =>
            refine ⟨k + 1, by go_num, by omega, ?_, Bv⟩
            rw [hM.out, ← List.append_assoc, HN2.out, ← HTT.out]
            refine congrArg Value.string ?_
            rw [show (⟨#[10]⟩ : ByteArray) = ⟨([10] : List UInt8).toArray⟩ from rfl, M.str_app]
          case measure => simp [intOf]; omega
    · obtain rfl : k = n := by omega
      go_wp2_with fail
      go_ret
      exact ⟨by rw [HLX.out]; rfl, Bw⟩
end Go.Proofs.YtecdendjlgohjaaGreatDoor
namespace Go.Proofs.YtecdendjlgohjaaGreatDoor
open Go.RowKit Go.Sort
set_option maxHeartbeats 4000000
set_option maxRecDepth 100000
set_option linter.unusedVariables false
set_option linter.unusedSimpArgs false
theorem M.buildI_sz {s : List UInt8} {ms : List Strip} (h : M.build M.okI (M.linesI s) = some ms) (hs : s.length ≤ 10000000) : hM.sz ms ≤ 100000000 := by
  unfold M.build at h
  split at h
  · have e := Option.some.inj h
    have hf := M.stage_fits (Ls := M.splitBy 10 (Lib.trimSuffix s [10])) (Ws := M.linesI s) (h := M.headR) (hs := (M.linesI s).map M.headR) (i := (M.linesI s).length) (by rw [M.linesI, List.length_map]) (fun j W L hW hL => by
      rw [M.linesI, List.getElem?_map, hL] at hW
      obtain rfl := Option.some.inj hW
      exact ⟨fun y hy => M.words_len1 hy, M.words_cnt L⟩) (fun W => ⟨rfl, rfl⟩)
    rw [M.stage_end (Nat.le_refl _), e] at hf
    have h1 := M.fits_sz hf
    have h2 := M.splitBy_sum 10 (Lib.trimSuffix s [10])
    have h3 := M.splitBy_cnt 10 (Lib.trimSuffix s [10])
    have h4 := Lib.trimSuffix_le s [10]
    omega
  · cases h
theorem impl_ReadMixer (s : ByteArray) (w : World) (hs : s.size ≤ 10000000) (hL : LAD w) :
    Calls Tryz.prog 6 #[.string s] w (RetMx w (M.mixI s.data.toList)) := by
  obtain ⟨W1, hW1⟩ : ∃ W1, W1 = w.alloc (.cells #[.slice none 0 0] 24) := ⟨_, rfl⟩
  have B1 : Below w.heap.size w W1 := by rw [hW1]; exact (Below.refl _ _).alloc (Nat.le_refl _) _
  have z1 : W1.heap.size = w.heap.size + 1 := by rw [hW1]; simp
  have r0 : W1.cell? ⟨w.heap.size, 0, none⟩ = some (.slice none 0 0) := by rw [hW1]; simp [go_sem]
  have f0 : W1.frozen? ⟨w.heap.size, 0, none⟩ = false := by rw [hW1]; simp [go_sem]
  have HW1 := Lib.hid hW1
  have HRM := Lib.hid (impl_readMixer s W1 hs (hL.on B1))
  have HL := Lib.hid hL
  clear hW1 hL
  have hsl : s.data.toList.length ≤ 10000000 := by rw [← Lib.size_eq]; exact hs
  go_enter Tryz.func6, Tryz.ntmps6
  go_wp2_with fail
  rw [← HW1.out]
  refine HRM.out.mono ?_
  intro e w2 hr
  obtain ⟨v2, rfl, o2, b2⟩ := hr
  rw [z1] at o2
  have B2 := bel_trans B1 b2
  have s2 : w.heap.size + 1 ≤ w2.heap.size := by have := b2.size; omega
  have R0 : w2.cell? ⟨w.heap.size, 0, none⟩ = some (.slice none 0 0) := by rw [b2.cell (by show w.heap.size < _; omega)]; exact r0
  have F0 : w2.frozen? ⟨w.heap.size, 0, none⟩ = false := by rw [b2.frozen (by show w.heap.size < _; omega)]; exact f0
  clear r0 f0 b2 B1 z1
  cases hB : M.build M.okI (M.linesI s.data.toList) with
  | none =>
    have NO := Lib.hid (show M.mixI s.data.toList = none by rw [M.mixI, hB]; rfl)
    rw [hB] at o2
    obtain ⟨A2, c2, rfl⟩ := o2.shape
    clear hB
    have hR2 : (w2.alloc (.cells #[.slice A2 0 c2] 24)).cell? ⟨w.heap.size, 0, none⟩ = some (.slice none 0 0) := by
      rw [(show Below w2.heap.size w2 (w2.alloc (.cells #[.slice A2 0 c2] 24)) from (Below.refl _ _).alloc (Nat.le_refl _) _).cell (by show w.heap.size < _; omega)]; exact R0
    have hF2 : (w2.alloc (.cells #[.slice A2 0 c2] 24)).frozen? ⟨w.heap.size, 0, none⟩ = false := by
      rw [(show Below w2.heap.size w2 (w2.alloc (.cells #[.slice A2 0 c2] 24)) from (Below.refl _ _).alloc (Nat.le_refl _) _).frozen (by show w.heap.size < _; omega)]; exact F0
    go_wp2_with fail
    refine bodyPost_ret (v := .tuple #[.agg #[.slice none 0 0], .bool false]) (by simp [results, Tryz.results6, go_sem, hR2, hF2]) rfl ?_
    rw [NO.out]
    exact ⟨_, rfl, OS.nil _ _ _ _, (B2.alloc B2.size _).setCell (Nat.le_refl _) _⟩
  | some ms =>
    have hsz := M.buildI_sz hB hsl
    have HMI := Lib.hid (show M.mixI s.data.toList = if M.mixOk ms = true ∧ M.mxT ms ms.length = s.data.toList then some ms else none by rw [M.mixI, hB]; rfl)
    rw [hB] at o2
    rw [show (some ms).getD [] = ms from rfl] at o2
    rw [show (some ms).isSome = true from rfl]
    obtain ⟨A2, c2, rfl⟩ := o2.shape
    clear hB
    obtain ⟨U, hU⟩ : ∃ U, U = w2.alloc (.cells #[.slice A2 ms.length c2] 24) := ⟨_, rfl⟩
    have BU : Below w2.heap.size w2 U := by rw [hU]; exact (Below.refl _ _).alloc (Nat.le_refl _) _
    have zU : U.heap.size = w2.heap.size + 1 := by rw [hU]; simp
    have cU : U.cell? ⟨w2.heap.size, 0, none⟩ = some (.slice A2 ms.length c2) := by rw [hU]; simp [go_sem]
    have R1 : U.cell? ⟨w.heap.size, 0, none⟩ = some (.slice none 0 0) := by rw [BU.cell (by show w.heap.size < _; omega)]; exact R0
    have F1 : U.frozen? ⟨w.heap.size, 0, none⟩ = false := by rw [BU.frozen (by show w.heap.size < _; omega)]; exact F0
    have rm : tM.R U U.heap.size [.slice A2 ms.length c2] ms := tM.later (sl_R.2 o2.read) BU
    have BB := bel_trans B2 BU
    have HU := Lib.hid hU
    have hI := impl_isMixer A2 ms.length c2 ms U rm hsz
    clear hU
    cases hok : M.mixOk ms with
    | false =>
      have NO := Lib.hid (show M.mixI s.data.toList = none by rw [HMI.out, hok, if_neg (by simp)])
      rw [hok] at hI
      have HI := Lib.hid hI
      clear hok hI
      go_wp2_with fail
      rw [← HU.out]
      refine HI.out.mono ?_
      rintro e u1 ⟨rfl, d1⟩
      have R2 : u1.cell? ⟨w.heap.size, 0, none⟩ = some (.slice none 0 0) := by rw [d1.cell (by show w.heap.size < _; omega)]; exact R1
      have F2 : u1.frozen? ⟨w.heap.size, 0, none⟩ = false := by rw [d1.frozen (by show w.heap.size < _; omega)]; exact F1
      go_wp2_with fail
      refine bodyPost_ret (v := .tuple #[.agg #[.slice none 0 0], .bool false]) (by simp [results, Tryz.results6, go_sem, R2, F2]) rfl ?_
      rw [NO.out]
      exact ⟨_, rfl, OS.nil _ _ _ _, (bel_trans BB d1).setCell (Nat.le_refl _) _⟩
    | true =>
      rw [hok] at hI
      have HI := Lib.hid hI
      have HT : ∀ u, Below U.heap.size U u → Calls Tryz.prog 16 #[.agg #[.slice A2 ms.length c2]] u fun e w' => e = .returned (.string ⟨(M.mxT ms ms.length).toArray⟩) ∧ Below u.heap.size u w' := fun u hu => by
        have := impl_MixerText A2 ms.length c2 ms u (tM.later rm hu) hsz (HL.out.on (bel_trans BB hu)).1
        rwa [M.mixerText, if_pos hok] at this
      have HTX := Lib.hid HT
      by_cases ht : M.mxT ms ms.length = s.data.toList
      · have YES := Lib.hid (show M.mixI s.data.toList = some ms by rw [HMI.out, if_pos ⟨hok, ht⟩])
        have e1 : (M.mxT ms ms.length == s.toList) = true := by rw [ByteArray.toList_eq, ht]; exact beq_self_eq_true _
        clear hok hI ht HT
        go_wp2_with fail
        rw [← HU.out]
        refine HI.out.mono ?_
        rintro e u1 ⟨rfl, d1⟩
        have c1 : u1.cell? ⟨w2.heap.size, 0, none⟩ = some (.slice A2 ms.length c2) := by rw [d1.cell (by show w2.heap.size < _; omega)]; exact cU
        go_wp2_with fail
        refine (HTX.out u1 d1).mono ?_
        rintro e u2 ⟨rfl, d2⟩
        have D2 := bel_trans d1 d2
        have c3 : u2.cell? ⟨w2.heap.size, 0, none⟩ = some (.slice A2 ms.length c2) := by rw [D2.cell (by show w2.heap.size < _; omega)]; exact cU
        have R2 : u2.cell? ⟨w.heap.size, 0, none⟩ = some (.slice none 0 0) := by rw [D2.cell (by show w.heap.size < _; omega)]; exact R1
        have F2 : u2.frozen? ⟨w.heap.size, 0, none⟩ = false := by rw [D2.frozen (by show w.heap.size < _; omega)]; exact F1
        go_wp2_with fail
        refine bodyPost_ret (v := .tuple #[.agg #[.slice A2 ms.length c2], .bool true]) (by simp [results, Tryz.results6, go_sem, R2, F2]) rfl ?_
        rw [YES.out]
        refine ⟨_, rfl, ?_, (bel_trans BB D2).setCell (Nat.le_refl _) _⟩
        have o3 := (o2.below (bel_trans BU D2) (Nat.le_refl _)).chg (Chg.set (F := fun b => b = w.heap.size) u2 w.heap.size 0 (.slice A2 ms.length c2) rfl) (fun b h (h' : b = w.heap.size) => by have := h.1; omega)
        refine o3.iv (by omega) ?_
        have := D2.size
        simp
        omega
      · have NO := Lib.hid (show M.mixI s.data.toList = none by rw [HMI.out, if_neg (fun h => ht h.2)])
        have e1 : (M.mxT ms ms.length == s.toList) = false := by rw [ByteArray.toList_eq, beq_eq_false_iff_ne]; exact ht
        have e2 : ¬ M.mxT ms ms.length = s.toList := by rw [ByteArray.toList_eq]; exact ht
        clear hok hI ht HT
        go_wp2_with fail
        rw [← HU.out]
        refine HI.out.mono ?_
        rintro e u1 ⟨rfl, d1⟩
        have c1 : u1.cell? ⟨w2.heap.size, 0, none⟩ = some (.slice A2 ms.length c2) := by rw [d1.cell (by show w2.heap.size < _; omega)]; exact cU
        go_wp2_with fail
        refine (HTX.out u1 d1).mono ?_
        rintro e u2 ⟨rfl, d2⟩
        have D2 := bel_trans d1 d2
        have R2 : u2.cell? ⟨w.heap.size, 0, none⟩ = some (.slice none 0 0) := by rw [D2.cell (by show w.heap.size < _; omega)]; exact R1
        have F2 : u2.frozen? ⟨w.heap.size, 0, none⟩ = false := by rw [D2.frozen (by show w.heap.size < _; omega)]; exact F1
        go_wp2_with fail
        refine bodyPost_ret (v := .tuple #[.agg #[.slice none 0 0], .bool false]) (by simp [results, Tryz.results6, go_sem, R2, F2]) rfl ?_
        rw [NO.out]
        exact ⟨_, rfl, OS.nil _ _ _ _, (bel_trans BB D2).setCell (Nat.le_refl _) _⟩
end Go.Proofs.YtecdendjlgohjaaGreatDoor
namespace Go.Proofs.YtecdendjlgohjaaGreatDoor
open Go.RowKit Go.Sort
set_option maxHeartbeats 4000000
set_option maxRecDepth 100000
set_option linter.unusedVariables false
set_option linter.unusedSimpArgs false
theorem spec_num (a : List UInt8) (h : a.length ≤ 1000000000) (u : World) : Calls Tryz.prog 19 #[.string ⟨a.toArray⟩] u fun e w' => e = .returned (.tuple #[.int .i64 ((M.num a).getD 0), .bool (M.num a).isSome]) ∧ Below u.heap.size u w' := by
  have := spec_l01Number ⟨a.toArray⟩ u (by rw [M.size_mk]; exact h)
  rwa [show M.numB ⟨a.toArray⟩ = M.num a by simp [M.numB]] at this
theorem spec_l26Send (vb : Nat) (Am : Option Addr) (n cm : Nat) (xs : List Strip) (ba oa c : Nat) (a b g : List UInt8) (w : World) (hv0 : w.cell? ⟨vb, 0, none⟩ = some (.slice Am n cm)) (hx : tM.R w w.heap.size [.slice Am n cm] xs) (hn : hM.sz xs ≤ 100000000)
    (c0 : w.cell? ⟨ba, oa, none⟩ = some (.string ⟨a.toArray⟩)) (c1 : w.cell? ⟨ba, oa + 1, none⟩ = some (.string ⟨b.toArray⟩)) (c2 : w.cell? ⟨ba, oa + 2, none⟩ = some (.string ⟨g.toArray⟩)) (hg : g.length ≤ 1000000000) :
    Calls Tryz.prog 20 #[.pointer (some ⟨vb, 0, none⟩), .slice (some ⟨ba, oa, none⟩) 3 c] w fun e w' => e = .returned (.tuple #[.agg #[.int .i64 (M.named xs ⟨b.toArray⟩), .int .i64 ((M.num g).getD 0)], .bool ((M.num g).isSome && decide (a = [116, 111]))]) ∧ Below w.heap.size w w' := by
  obtain ⟨W, hW⟩ : ∃ W, W = w.alloc (.cells #[.int .i64 0, .int .i64 0] 47) := ⟨_, rfl⟩
  have B0 : Below w.heap.size w W := by rw [hW]; exact (Below.refl _ _).alloc (Nat.le_refl _) _
  have z0 : W.heap.size = w.heap.size + 1 := by rw [hW]; simp
  have q0 : W.cell? ⟨w.heap.size, 0, none⟩ = some (.int .i64 0) := by rw [hW]; simp [go_sem]
  have q1 : W.cell? ⟨w.heap.size, 1, none⟩ = some (.int .i64 0) := by rw [hW]; simp [go_sem]
  have f0 : W.frozen? ⟨w.heap.size, 0, none⟩ = false := by rw [hW]; simp [go_sem]
  have f1 : W.frozen? ⟨w.heap.size, 1, none⟩ = false := by rw [hW]; simp [go_sem]
  have k2 : W.cell? ⟨ba, oa + 2, none⟩ = some (.string ⟨g.toArray⟩) := by rw [B0.cell (World.block_lt_of_cell? _ _ c2)]; exact c2
  have HW := Lib.hid hW
  have HN := Lib.hid (spec_num g hg W)
  clear hW
  have lb : ba < w.heap.size := World.block_lt_of_cell? _ _ c0
  have lv : vb < w.heap.size := World.block_lt_of_cell? _ _ hv0
  go_enter Tryz.func20, Tryz.ntmps20
  go_wp2_with fail
  rw [← HW.out]
  refine HN.out.mono ?_
  rintro e u1 ⟨rfl, d1⟩
  have B1 := bel_trans B0 d1
  have s1 := d1.size
  have p0 : u1.cell? ⟨w.heap.size, 0, none⟩ = some (.int .i64 0) := by rw [d1.cell (by show w.heap.size < _; omega)]; exact q0
  have p1 : u1.cell? ⟨w.heap.size, 1, none⟩ = some (.int .i64 0) := by rw [d1.cell (by show w.heap.size < _; omega)]; exact q1
  have g0 : u1.frozen? ⟨w.heap.size, 0, none⟩ = false := by rw [d1.frozen (by show w.heap.size < _; omega)]; exact f0
  have g1 : u1.frozen? ⟨w.heap.size, 1, none⟩ = false := by rw [d1.frozen (by show w.heap.size < _; omega)]; exact f1
  have r0 : u1.cell? ⟨ba, oa, none⟩ = some (.string ⟨a.toArray⟩) := by rw [B1.cell lb]; exact c0
  have r1 : u1.cell? ⟨ba, oa + 1, none⟩ = some (.string ⟨b.toArray⟩) := by rw [B1.cell lb]; exact c1
  have nb : ¬ ba = w.heap.size := by omega
  have m0 := ChgTo.cell (F := fun b => b = w.heap.size) r0 nb
  have m1 := ChgTo.cell (F := fun b => b = w.heap.size) r1 nb
  have DD : Below u1.heap.size u1 u1.drew := below_drewN (Below.refl _ _) 1
  have HM := Lib.hid (spec_l26Named vb Am n cm xs ⟨b.toArray⟩ u1.drew (by rw [DD.cell (by show vb < _; omega), B1.cell lv]; exact hv0) (tM.later (tM.later hx B1) DD) hn)
  clear q0 q1 f0 f1 k2 r0 r1 d1 B0
  cases hnum : M.num g with
  | none =>
    go_wp2_with fail
    (refine wp_region_chg (fun b => b = w.heap.size) [0, 1, 2, 5, 7] [3] 9 (.one 4 (.first 8 (.first 9 (.first 10 (.load 11 (.first 12 (.first 13 (.one 6 (.one 14 .rest))))))))) [15] [15] (by kernel_rfl) (by kernel_rfl) ?_; simp only [pickOps]; simp only [List.filterMap, List.getElem?_cons_succ, List.getElem?_cons_zero]; (repeat (go_big_quiet_step (fail))); refine wpQuiet_nil ?_; (repeat (go_big_quiet_step (fail))); refine wpQuiet_nil ?_)
    refine seqT_one2 rfl ?_
    go_wp2_with fail
    refine HM.out.mono ?_
    rintro e u2 ⟨rfl, d2⟩
    have D2 := bel_trans DD d2
    have s2 := D2.size
    have y0 : u2.cell? ⟨w.heap.size, 0, none⟩ = some (.int .i64 0) := by rw [D2.cell (by show w.heap.size < _; omega)]; exact p0
    have y1 : u2.cell? ⟨w.heap.size, 1, none⟩ = some (.int .i64 0) := by rw [D2.cell (by show w.heap.size < _; omega)]; exact p1
    have z0' : u2.frozen? ⟨w.heap.size, 0, none⟩ = false := by rw [D2.frozen (by show w.heap.size < _; omega)]; exact g0
    have z1' : u2.frozen? ⟨w.heap.size, 1, none⟩ = false := by rw [D2.frozen (by show w.heap.size < _; omega)]; exact g1
    go_wp2_with fail
    refine ⟨⟨⟨u2, Chg.of_below D2 _⟩, rfl⟩, ?_⟩
    (refine seqT_first2 rfl ?_; (repeat (go_big_quiet_step (fail))); refine wpQuiet_nil ?_)
    (refine seqT_first2 rfl ?_; (repeat (go_big_quiet_step (fail))); refine wpQuiet_nil ?_)
    (refine seqT_first2 rfl ?_; (repeat (go_big_quiet_step (fail))); refine wpQuiet_nil ?_)
    (refine seqT_load2 rfl ?_; (repeat (go_big_quiet_step (fail))); refine wpQuiet_nil ?_)
    (refine seqT_first2 rfl ?_; (repeat (go_big_quiet_step (fail))); refine wpQuiet_nil ?_)
    (refine seqT_first2 rfl ?_; (repeat (go_big_quiet_step (fail))); refine wpQuiet_nil ?_)
    refine seqT_one2 rfl ?_
    go_wp2_with fail
    refine ⟨⟨⟨u2, Chg.of_below D2 _⟩, rfl⟩, seqT_one2 rfl ?_⟩
    go_wp2_with fail
    refine ⟨⟨⟨_, ((Chg.of_below D2 (fun b => b = w.heap.size)).trans (Chg.set (F := fun b => b = w.heap.size) u2 w.heap.size 0 _ rfl)).trans (Chg.set (F := fun b => b = w.heap.size) _ w.heap.size 1 _ rfl)⟩, rfl⟩, seqT_rest2 ?_⟩
    go_wp2_with fail
    refine bodyPost_ret (v := .tuple #[.agg #[.int .i64 (M.named xs ⟨b.toArray⟩), .int .i64 0], .bool false]) (by simp [results, Tryz.results20, go_sem, y0, y1, z0', z1']) rfl ?_
    exact ⟨by rw [hnum]; simp, (((bel_trans B1 D2).setCell (Nat.le_refl _) _).setCell (Nat.le_refl _) _)⟩
  | some q =>
    by_cases ha : a = [116, 111]
    · have e1 : (a == [116, 111]) = true := by simpa using ha
      have hda : decide (a = [116, 111]) = true := by simpa using ha
      have HDA := Lib.hid hda
      clear hda
      go_wp2_with fail
      (refine wp_region_chg (fun b => b = w.heap.size) [0, 1, 2, 5, 7] [3] 9 (.one 4 (.first 8 (.first 9 (.first 10 (.load 11 (.first 12 (.first 13 (.one 6 (.one 14 .rest))))))))) [15] [15] (by kernel_rfl) (by kernel_rfl) ?_; simp only [pickOps]; simp only [List.filterMap, List.getElem?_cons_succ, List.getElem?_cons_zero]; (repeat (go_big_quiet_step (fail))); refine wpQuiet_nil ?_; (repeat (go_big_quiet_step (fail))); refine wpQuiet_nil ?_)
      refine seqT_one2 rfl ?_
      go_wp2_with fail
      refine HM.out.mono ?_
      rintro e u2 ⟨rfl, d2⟩
      have D2 := bel_trans DD d2
      have s2 := D2.size
      have y0 : u2.cell? ⟨w.heap.size, 0, none⟩ = some (.int .i64 0) := by rw [D2.cell (by show w.heap.size < _; omega)]; exact p0
      have y1 : u2.cell? ⟨w.heap.size, 1, none⟩ = some (.int .i64 0) := by rw [D2.cell (by show w.heap.size < _; omega)]; exact p1
      have z0' : u2.frozen? ⟨w.heap.size, 0, none⟩ = false := by rw [D2.frozen (by show w.heap.size < _; omega)]; exact g0
      have z1' : u2.frozen? ⟨w.heap.size, 1, none⟩ = false := by rw [D2.frozen (by show w.heap.size < _; omega)]; exact g1
      go_wp2_with fail
      refine ⟨⟨⟨u2, Chg.of_below D2 _⟩, rfl⟩, ?_⟩
      (refine seqT_first2 rfl ?_; (repeat (go_big_quiet_step (fail))); refine wpQuiet_nil ?_)
      (refine seqT_first2 rfl ?_; (repeat (go_big_quiet_step (fail))); refine wpQuiet_nil ?_)
      (refine seqT_first2 rfl ?_; (repeat (go_big_quiet_step (fail))); refine wpQuiet_nil ?_)
      (refine seqT_load2 rfl ?_; (repeat (go_big_quiet_step (fail))); refine wpQuiet_nil ?_)
      (refine seqT_first2 rfl ?_; (repeat (go_big_quiet_step (fail))); refine wpQuiet_nil ?_)
      (refine seqT_first2 rfl ?_; (repeat (go_big_quiet_step (fail))); refine wpQuiet_nil ?_)
      refine seqT_one2 rfl ?_
      go_wp2_with fail
      refine ⟨⟨⟨u2, Chg.of_below D2 _⟩, rfl⟩, seqT_one2 rfl ?_⟩
      go_wp2_with fail
      refine ⟨⟨⟨_, ((Chg.of_below D2 (fun b => b = w.heap.size)).trans (Chg.set (F := fun b => b = w.heap.size) u2 w.heap.size 0 _ rfl)).trans (Chg.set (F := fun b => b = w.heap.size) _ w.heap.size 1 _ rfl)⟩, rfl⟩, seqT_rest2 ?_⟩
      go_wp2_with fail
      refine bodyPost_ret (v := .tuple #[.agg #[.int .i64 (M.named xs ⟨b.toArray⟩), .int .i64 q], .bool true]) (by simp [results, Tryz.results20, go_sem, y0, y1, z0', z1']) rfl ?_
      exact ⟨by rw [HDA.out, hnum]; simp, (((bel_trans B1 D2).setCell (Nat.le_refl _) _).setCell (Nat.le_refl _) _)⟩
    · have e1 : (a == [116, 111]) = false := by simpa using ha
      have hda : decide (a = [116, 111]) = false := by simpa using ha
      have HDA := Lib.hid hda
      clear hda
      go_wp2_with fail
      (refine wp_region_chg (fun b => b = w.heap.size) [0, 1, 2, 5, 7] [3] 9 (.one 4 (.first 8 (.first 9 (.first 10 (.load 11 (.first 12 (.first 13 (.one 6 (.one 14 .rest))))))))) [15] [15] (by kernel_rfl) (by kernel_rfl) ?_; simp only [pickOps]; simp only [List.filterMap, List.getElem?_cons_succ, List.getElem?_cons_zero]; (repeat (go_big_quiet_step (fail))); refine wpQuiet_nil ?_; (repeat (go_big_quiet_step (fail))); refine wpQuiet_nil ?_)
      refine seqT_one2 rfl ?_
      go_wp2_with fail
      refine HM.out.mono ?_
      rintro e u2 ⟨rfl, d2⟩
      have D2 := bel_trans DD d2
      have s2 := D2.size
      have y0 : u2.cell? ⟨w.heap.size, 0, none⟩ = some (.int .i64 0) := by rw [D2.cell (by show w.heap.size < _; omega)]; exact p0
      have y1 : u2.cell? ⟨w.heap.size, 1, none⟩ = some (.int .i64 0) := by rw [D2.cell (by show w.heap.size < _; omega)]; exact p1
      have z0' : u2.frozen? ⟨w.heap.size, 0, none⟩ = false := by rw [D2.frozen (by show w.heap.size < _; omega)]; exact g0
      have z1' : u2.frozen? ⟨w.heap.size, 1, none⟩ = false := by rw [D2.frozen (by show w.heap.size < _; omega)]; exact g1
      go_wp2_with fail
      refine ⟨⟨⟨u2, Chg.of_below D2 _⟩, rfl⟩, ?_⟩
      (refine seqT_first2 rfl ?_; (repeat (go_big_quiet_step (fail))); refine wpQuiet_nil ?_)
      (refine seqT_first2 rfl ?_; (repeat (go_big_quiet_step (fail))); refine wpQuiet_nil ?_)
      (refine seqT_first2 rfl ?_; (repeat (go_big_quiet_step (fail))); refine wpQuiet_nil ?_)
      (refine seqT_load2 rfl ?_; (repeat (go_big_quiet_step (fail))); refine wpQuiet_nil ?_)
      (refine seqT_first2 rfl ?_; (repeat (go_big_quiet_step (fail))); refine wpQuiet_nil ?_)
      (refine seqT_first2 rfl ?_; (repeat (go_big_quiet_step (fail))); refine wpQuiet_nil ?_)
      refine seqT_one2 rfl ?_
      go_wp2_with fail
      refine ⟨⟨⟨u2, Chg.of_below D2 _⟩, rfl⟩, seqT_one2 rfl ?_⟩
      go_wp2_with fail
      refine ⟨⟨⟨_, ((Chg.of_below D2 (fun b => b = w.heap.size)).trans (Chg.set (F := fun b => b = w.heap.size) u2 w.heap.size 0 _ rfl)).trans (Chg.set (F := fun b => b = w.heap.size) _ w.heap.size 1 _ rfl)⟩, rfl⟩, seqT_rest2 ?_⟩
      go_wp2_with fail
      refine bodyPost_ret (v := .tuple #[.agg #[.int .i64 (M.named xs ⟨b.toArray⟩), .int .i64 q], .bool false]) (by simp [results, Tryz.results20, go_sem, y0, y1, z0', z1']) rfl ?_
      exact ⟨by rw [HDA.out, hnum]; simp, (((bel_trans B1 D2).setCell (Nat.le_refl _) _).setCell (Nat.le_refl _) _)⟩
end Go.Proofs.YtecdendjlgohjaaGreatDoor
namespace Go.Proofs.YtecdendjlgohjaaGreatDoor
open Go.RowKit Go.Sort
set_option maxHeartbeats 4000000
set_option maxRecDepth 100000
set_option linter.unusedVariables false
set_option linter.unusedSimpArgs false
def M.nameR (W : List (List UInt8)) : Strip := (⟨(M.wd W 0).toArray⟩, 0, [])
theorem M.okS_len {W : List (List UInt8)} (h : ¬ (W.length % 3 = 2 ∧ W.length ≤ 14)) : M.okS W = false := by
  rw [M.okS]
  by_cases h1 : W.length % 3 = 2
  · rw [decide_eq_false (show ¬ W.length ≤ 14 from fun h2 => h ⟨h1, h2⟩)]; simp
  · rw [decide_eq_false h1]; rfl
theorem M.okS_lat {W : List (List UInt8)} (h : M.num (M.wd W 1) = none) : M.okS W = false := by rw [M.okS, h]; simp
theorem M.okS_send {W : List (List UInt8)} {t : Nat} (ht : t < M.cntW W) (h : (M.gOk W t && decide (M.wd W (2 + 3 * t) = [116, 111])) = false) : M.okS W = false := by
  rw [M.okS]
  cases hall : (List.range (M.cntW W)).all (fun k => M.gOk W k && decide (M.wd W (2 + 3 * k) = [116, 111])) with
  | false => simp
  | true =>
    have := List.all_eq_true.1 hall t (List.mem_range.2 ht)
    rw [h] at this; cases this
theorem M.okS_yes {W : List (List UInt8)} (h1 : W.length % 3 = 2) (h2 : W.length ≤ 14) {q : Int} (h3 : M.num (M.wd W 1) = some q) (h4 : ∀ t, t < M.cntW W → (M.gOk W t && decide (M.wd W (2 + 3 * t) = [116, 111])) = true) : M.okS W = true := by
  rw [M.okS, decide_eq_true h1, decide_eq_true h2, h3]
  simp only [Option.isSome_some, Bool.and_self, Bool.true_and, List.all_eq_true]
  exact fun t ht => h4 t (List.mem_range.1 ht)
theorem M.splitBy_le1 {L x : List UInt8} (h : x ∈ M.splitBy 32 L) : x.length ≤ L.length := by
  have h1 := M.splitBy_sum 32 L
  have h2 := M.le_sum (List.mem_map.2 ⟨x, h, rfl⟩ : x.length ∈ (M.splitBy 32 L).map List.length)
  omega
theorem M.splitBy_pos (c : UInt8) (L : List UInt8) : 0 < (M.splitBy c L).length := by
  cases h : M.splitBy c L with
  | nil => exact absurd h (M.splitBy_ne c L)
  | cons a r => simp
theorem spec_Split32 (x : List UInt8) (w : World) (h : x.length ≤ 1000000000) : Calls Tryz.prog 18 #[.string ⟨x.toArray⟩, .int .u8 32] w fun e w' => ∃ g c, e = .returned (.slice (some ⟨g, 0, none⟩) (M.splitBy 32 x).length c) ∧ w.heap.size ≤ g ∧ g < w'.heap.size ∧ (M.splitBy 32 x).length ≤ c ∧
    (∀ t, t < (M.splitBy 32 x).length → w'.cell? ⟨g, t, none⟩ = some (.string ⟨(M.wd (M.splitBy 32 x) t).toArray⟩)) ∧ Below w.heap.size w w' := by
  have hc : Calls Tryz.prog 18 #[.string ⟨x.toArray⟩, .int .u8 32] w _ := spec_l01Split ⟨x.toArray⟩ 32 w (by rw [M.size_mk]; omega)
  rw [show (⟨x.toArray⟩ : ByteArray).data.toList = x by simp] at hc
  refine hc.mono ?_
  rintro e w' ⟨v, rfl, ow, b⟩
  obtain ⟨A, c, rfl, hcap, -, -⟩ := own_shape ow
  obtain ⟨g, rfl, h1, h2⟩ := own_form2 ow (M.splitBy_pos 32 x)
  refine ⟨g, c, rfl, h1, h2, hcap, fun t ht => ?_, b⟩
  have := World.ownsRow.cells ow (g := g) rfl t (.string ⟨(M.wd (M.splitBy 32 x) t).toArray⟩) (by rw [M.strs, List.getElem?_map, M.wd_at ht]; rfl)
  rwa [Addr.add_lit, Nat.zero_add] at this
end Go.Proofs.YtecdendjlgohjaaGreatDoor
namespace Go.Proofs.YtecdendjlgohjaaGreatDoor
open Go.RowKit Go.Sort
set_option maxHeartbeats 4000000
set_option maxRecDepth 100000
set_option linter.unusedVariables false
set_option linter.unusedSimpArgs false
theorem spec_ReadMixer (s : ByteArray) (w : World) (hs : s.size ≤ 10000000) :
    Calls Tryz.prog 5 #[.string s] w (RetMx w (M.mixS s.data.toList)) := by
  obtain ⟨W1, hW1⟩ : ∃ W1, W1 = w.alloc (.cells #[.slice none 0 0] 24) := ⟨_, rfl⟩
  have B1 : Below w.heap.size w W1 := by rw [hW1]; exact (Below.refl _ _).alloc (Nat.le_refl _) _
  have z1 : W1.heap.size = w.heap.size + 1 := by rw [hW1]; simp
  have r0 : W1.cell? ⟨w.heap.size, 0, none⟩ = some (.slice none 0 0) := by rw [hW1]; simp [go_sem]
  have f0 : W1.frozen? ⟨w.heap.size, 0, none⟩ = false := by rw [hW1]; simp [go_sem]
  have HW1 := Lib.hid hW1
  have hSP : Calls Tryz.prog 18 #[.string s, .int .u8 10] W1 _ := spec_l01Split s 10 W1 (by omega)
  obtain ⟨Ls, hLs⟩ : ∃ Ls, Ls = M.splitBy 10 s.data.toList := ⟨_, rfl⟩
  rw [← hLs] at hSP
  have HSP := Lib.hid hSP
  have hsl : s.data.toList.length ≤ s.size := by rw [← Lib.size_eq]; exact Nat.le_refl _
  have hcnt : Ls.length ≤ s.size + 1 := by have := M.splitBy_cnt 10 s.data.toList; rw [← hLs] at this; omega
  have hsum : (Ls.map List.length).sum ≤ s.size := by have := M.splitBy_sum 10 s.data.toList; rw [← hLs] at this; omega
  have hpos : 0 < Ls.length := by rw [hLs]; exact M.splitBy_pos 10 _
  obtain ⟨Ws, hWs⟩ : ∃ Ws, Ws = M.linesS s.data.toList := ⟨_, rfl⟩
  have hWL : Ws = (Ls.take (Ls.length - 1)).map (M.splitBy 32) := by rw [hWs, M.linesS, ← hLs]
  have HMS := Lib.hid (show M.mixS s.data.toList = if Ls.length ≤ 9 then M.kept s.data.toList (M.build M.okS Ws) else none by rw [M.mixS, ← hLs, ← hWs])
  have HWL := Lib.hid hWL
  have hWl : Ws.length = Ls.length - 1 := by rw [hWL, List.length_map, List.length_take]; omega
  have HLS := Lib.hid hLs
  clear hW1 hLs hWs hWL hSP
  go_enter Tryz.func5, Tryz.ntmps5
  go_wp2_with fail
  rw [← HW1.out]
  refine HSP.out.mono ?_
  rintro e W2 ⟨vl, rfl, ownl, b2⟩
  obtain ⟨gl, cl, rfl, hgl0, hgl1, hcl⟩ : ∃ g c, vl = .slice (some ⟨g, 0, none⟩) Ls.length c ∧ W1.heap.size ≤ g ∧ g < W2.heap.size ∧ Ls.length ≤ c := by
    obtain ⟨A, c, rfl, h1, -, -⟩ := own_shape ownl
    obtain ⟨g, rfl, h2, h3⟩ := own_form2 ownl hpos
    exact ⟨g, c, rfl, h2, h3, h1⟩
  have PC := Lib.hid (fun (k : Nat) (x : List UInt8) (hx : Ls[k]? = some x) => show W2.cell? ⟨gl, k, none⟩ = some (.string ⟨x.toArray⟩) by
    have := World.ownsRow.cells ownl (g := gl) rfl k (.string ⟨x.toArray⟩) (by simp [M.strs, hx])
    rwa [Addr.add_lit, Nat.zero_add] at this)
  rw [z1] at hgl0
  have s2 : w.heap.size + 1 ≤ W2.heap.size := by have := b2.size; omega
  have R2 : W2.cell? ⟨w.heap.size, 0, none⟩ = some (.slice none 0 0) := by rw [b2.cell (by show w.heap.size < _; omega)]; exact r0
  have F2 : W2.frozen? ⟨w.heap.size, 0, none⟩ = false := by rw [b2.frozen (by show w.heap.size < _; omega)]; exact f0
  obtain ⟨W3, hW3⟩ : ∃ W3, W3 = W2.alloc (.cells #[.slice none 0 0] 24) := ⟨_, rfl⟩
  have b3 : Below W2.heap.size W2 W3 := by rw [hW3]; exact (Below.refl _ _).alloc (Nat.le_refl _) _
  have z3 : W3.heap.size = W2.heap.size + 1 := by rw [hW3]; simp
  have mb3 : W3.cell? ⟨W2.heap.size, 0, none⟩ = some (.slice none 0 0) := by rw [hW3]; simp [go_sem]
  have mf3 : W3.frozen? ⟨W2.heap.size, 0, none⟩ = false := by rw [hW3]; simp [go_sem]
  have R3 : W3.cell? ⟨w.heap.size, 0, none⟩ = some (.slice none 0 0) := by rw [b3.cell (by show w.heap.size < _; omega)]; exact R2
  have F3 : W3.frozen? ⟨w.heap.size, 0, none⟩ = false := by rw [b3.frozen (by show w.heap.size < _; omega)]; exact F2
  have PC3 := Lib.hid (fun (k : Nat) (x : List UInt8) (hx : Ls[k]? = some x) => show W3.cell? ⟨gl, k, none⟩ = some (.string ⟨x.toArray⟩) by rw [b3.cell (by show gl < _; omega)]; exact PC.out k x hx)
  have B3 := bel_trans (bel_trans B1 b2) b3
  have HW3 := Lib.hid hW3
  obtain ⟨mb, hmb⟩ : ∃ mb, mb = W2.heap.size := ⟨_, rfl⟩
  have HMB := Lib.hid hmb
  rw [← hmb] at mb3 mf3 z3 s2 hgl1
  clear hW3 ownl PC
  generalize hN : Ls.length = N at hcnt hWl hpos hcl ⊢
  by_cases h9 : N ≤ 9
  case neg =>
    have NO := Lib.hid (show M.mixS s.data.toList = none by rw [HMS.out, hN, if_neg h9])
    have hRx : (W2.alloc (.cells #[.slice none 0 0] 24)).cell? ⟨w.heap.size, 0, none⟩ = some (.slice none 0 0) := by rw [← HW3.out]; exact R3
    have hFx : (W2.alloc (.cells #[.slice none 0 0] 24)).frozen? ⟨w.heap.size, 0, none⟩ = false := by rw [← HW3.out]; exact F3
    go_wp2_with fail
    refine bodyPost_ret (v := .tuple #[.agg #[.slice none 0 0], .bool false]) (by simp [results, Tryz.results5, go_sem, hRx, hFx]) rfl ?_
    rw [NO.out]
    refine ⟨_, rfl, OS.nil _ _ _ _, ?_⟩
    rw [← HW3.out]
    exact B3.setCell (Nat.le_refl _) _
  case pos =>
    have HMS2 := Lib.hid (show M.mixS s.data.toList = M.kept s.data.toList (M.build M.okS Ws) by rw [HMS.out, hN, if_pos h9])
    go_wp2_with fail
    rw [← HW3.out, ← HMB.out]
    clear r0 f0 R2 F2 b2 b3 B1 hmb z1
    go_loopw [6] (fun i wr => ∃ (k : Nat) (v : Value) (FV : Nat → Prop), i = .int .i64 k ∧ k + 1 ≤ N ∧ wr.cell? ⟨mb, 0, none⟩ = some v ∧ OS tSt 44 wr FV v ((Ws.take k).map M.nameR) ∧
        Hid (∀ b, FV b → W3.heap.size ≤ b ∧ b < wr.heap.size) ∧
        Hid (∀ p : Addr, p.block < W3.heap.size → p.block ≠ mb → wr.cell? p = W3.cell? p) ∧ Hid (∀ p : Addr, p.block < W3.heap.size → wr.frozen? p = W3.frozen? p) ∧ W3.heap.size ≤ wr.heap.size ∧ Below w.heap.size w wr) (fun i _ => N - (intOf i).toNat)
    case atStart => exact ⟨0, _, fun _ => False, rfl, by omega, mb3, OS.nil _ _ _ _, Lib.hid (fun _ h => h.elim), Lib.hid (fun _ _ _ => rfl), Lib.hid (fun _ _ => rfl), Nat.le_refl _, B3⟩
    case round =>
      obtain ⟨k, v, FV, rfl, hk, hv, oS, HFS, KC, KF, hsz, hb⟩ := hrel
      have F1r : wr.frozen? ⟨mb, 0, none⟩ = false := by rw [KF.out _ (by show mb < _; omega)]; exact mf3
      by_cases hlt : k + 1 < N
      · have X := Lib.hid (List.getElem?_eq_getElem (l := Ls) (i := k) (by omega))
        generalize Ls[k]'(by omega) = x at X
        have hxs : x.length ≤ s.size := by
          have h2 : x.length ≤ (Ls.map List.length).sum := M.le_sum (List.mem_map.2 ⟨x, List.mem_of_getElem? X.out, rfl⟩)
          omega
        have hcx : wr.cell? ⟨gl, k, none⟩ = some (.string ⟨x.toArray⟩) := by
          rw [KC.out _ (by show gl < _; omega) (by show gl ≠ _; omega)]
          exact PC3.out k x X.out
        have XW := Lib.hid (show Ws[k]? = some (M.splitBy 32 x) by rw [HWL.out, List.getElem?_map, List.getElem?_take, if_pos (by omega), X.out]; rfl)
        have hlk : ((Ws.take k).map M.nameR).length = k := by rw [List.length_map, List.length_take]; omega
        obtain ⟨Av, cv, ev⟩ := oS.shape
        rw [hlk] at ev
        subst ev
        obtain ⟨FS2, hFS2⟩ : ∃ F : Nat → Prop, F = fun b => FV b ∧ b < wr.heap.size := ⟨_, rfl⟩
        have oS1 := oS.real
        rw [← hFS2] at oS1
        have HS2 := Lib.hid (fun b (h : FS2 b) => show W3.heap.size ≤ b ∧ b < wr.heap.size by rw [hFS2] at h; exact ⟨(HFS.out b h.1).1, h.2⟩)
        clear hFS2
        have m0 := ChgTo.cell (F := FS2) hv (fun h => by have := (HS2.out _ h).1; simp only at this; omega)
        have m1 := ChgTo.cell (F := FS2) hcx (fun h => by have := (HS2.out _ h).1; simp only at this; omega)
        have DD : Below wr.heap.size wr wr.drew := below_drewN (Below.refl _ _) 1
        have hdr : wr.drew.heap.size = wr.heap.size := rfl
        have HSW := Lib.hid (spec_Split32 x wr.drew (by omega))
        obtain ⟨W, hW⟩ : ∃ W, W = M.splitBy 32 x := ⟨_, rfl⟩
        rw [← hW] at XW HSW
        have hW1 : 0 < W.length := by rw [hW]; exact M.splitBy_pos 32 x
        have HSZ := Lib.hid (show (⟨(M.wd W 0).toArray⟩ : ByteArray).size ≤ maxLen by
          rw [M.size_mk]; have := M.wd_len (W := W) (n := x.length) (fun y hy => M.splitBy_le1 (by rw [← hW]; exact hy)) 0; unfold maxLen; omega)
        have HQ := Lib.hid (show M.nameR W = (⟨(M.wd W 0).toArray⟩, 0, []) from rfl)
        clear hW
        go_wp2_with fail
        (refine wp_region_chg FS2 [0, 2, 3, 4] [1, 5] 7 (.one 6 (.one 7 (.one 8 (.one 9 (.one 10 (.one 11 (.first 12 .rest))))))) [13] [13] (by kernel_rfl) (by kernel_rfl) ?_; simp only [pickOps]; simp only [List.filterMap, List.getElem?_cons_succ, List.getElem?_cons_zero]; (repeat (go_big_quiet_step (fail))); refine wpQuiet_nil ?_; (repeat (go_big_quiet_step (fail))); refine wpQuiet_nil ?_)
        refine seqT_one2 rfl ?_
        go_wp2_with fail
        refine HSW.out.mono ?_
        rintro e u1 ⟨g8, c8, rfl, hg0, hg1, hc8, hcell, d1⟩
        have D1 : Below wr.heap.size wr u1 := bel_trans DD d1
        have s1 := D1.size
        have cw0 := hcell 0 hW1
        clear hcell
        have hv1 : u1.cell? ⟨mb, 0, none⟩ = some (.slice Av k cv) := by rw [D1.cell (by show mb < _; omega)]; exact hv
        have mf1 : u1.frozen? ⟨mb, 0, none⟩ = false := by rw [D1.frozen (by show mb < _; omega)]; exact F1r
        have oS2 := oS1.chg (Chg.of_below D1 (fun _ => False)) (fun _ _ h => h)
        go_wp2_with fail
        refine ⟨⟨⟨u1, Chg.of_below D1 _⟩, rfl⟩, seqT_one2 rfl ?_⟩
        go_wp2_with fail
        refine ⟨⟨⟨u1, Chg.of_below D1 _⟩, rfl⟩, seqT_one2 rfl ?_⟩
        go_wp2_with fail
        refine ⟨⟨⟨u1, Chg.of_below D1 _⟩, rfl⟩, seqT_one2 rfl ?_⟩
        go_wp2_with fail
        refine ⟨⟨⟨u1, Chg.of_below D1 _⟩, rfl⟩, seqT_one2 rfl ?_⟩
        go_wp2_with fail
        refine ⟨⟨⟨_, Chg.of_below (bel_trans D1 ((Below.refl _ _).alloc (Nat.le_refl _) _)) _⟩, rfl⟩, seqT_one2 rfl ?_⟩
        go_wp2_with (at_builtin; refine wpList_pushS ei_st #[.string ⟨(M.wd W 0).toArray⟩, .int .i64 0, .slice none 0 0] rfl _ _ rfl oS2 (st_new _ _ _ HSZ.out) (fun _ _ h => h) rfl rfl (by rw [hlk]; unfold maxLen; omega) (by rw [hlk]; omega) ?_; intro v3 w4 own4 ch4; obtain ⟨A4, c4, e4⟩ := own4.shape; rw [List.length_append, hlk, List.length_singleton] at e4; subst e4; have hv4 : w4.cell? ⟨mb, 0, none⟩ = some (.slice Av k cv) := (by rw [ch4.cell1 (by show mb < u1.heap.size; omega) (fun h => by have := (HS2.out _ h).1; simp only at this; omega)]; exact hv1); have hf4 : w4.frozen? ⟨mb, 0, none⟩ = false := (by rw [ch4.frozen1 (by show mb < u1.heap.size; omega) (fun h => by have := (HS2.out _ h).1; simp only at this; omega)]; exact mf1))
        have CH4 : Chg FS2 wr w4 := (Chg.of_below D1 _).trans ch4
        refine ⟨⟨⟨w4, CH4⟩, rfl⟩, ?_⟩
        (refine seqT_first2 rfl ?_; (repeat (go_big_quiet_step (fail))); refine wpQuiet_nil ?_)
        refine seqT_rest2 ?_
        go_wp2_with fail
        go_roundw
        case rel =>
          have t4 : u1.heap.size ≤ w4.heap.size := ch4.size
          obtain ⟨w5, hw5⟩ : ∃ w5, w5 = w4.setCell ⟨mb, 0, none⟩ (.slice A4 (k + 1) c4) := ⟨_, rfl⟩
          have c5 : w5.cell? ⟨mb, 0, none⟩ = some (.slice A4 (k + 1) c4) := by rw [hw5]; exact World.cell?_setCell_same _ _ _ hv4
          have CB : Chg (fun b => b = mb) w4 w5 := by rw [hw5]; exact Chg.set w4 mb 0 _ rfl
          have e95 : w5.heap.size = w4.heap.size := by rw [hw5]; simp
          rw [← hw5]
          have CG : Chg (fun b => FS2 b ∨ b = mb) wr w5 := (CH4.wide (fun _ h => .inl h)).trans (CB.wide (fun _ h => .inr h))
          refine ⟨k + 1, .slice A4 (k + 1) c4, fun b => FS2 b ∨ (u1.heap.size < b ∧ b < w4.heap.size), by go_num, by omega, c5, ?_, Lib.hid (fun b h => ?_), Lib.hid (fun p h1 h2 => ?_), Lib.hid (fun p h1 => ?_), by omega, ?_⟩
          · rw [M.take_at XW.out, List.map_append, List.map_singleton, HQ.out]
            refine (own4.chg CB (fun b h (h' : b = mb) => ?_)).wide (fun b h => ?_)
            · rcases h with h | h | h
              · have := (HS2.out b h).1; omega
              · exact h.elim
              · omega
            · rcases h with h | h | h
              · exact .inl h
              · exact h.elim
              · exact .inr h
          · rcases h with h | h
            · have := HS2.out b h; omega
            · omega
          · rw [CG.cell1 (by omega) (fun h => by
              rcases h with h | h
              · have := (HS2.out _ h).1; omega
              · exact h2 h)]
            exact KC.out p h1 h2
          · rw [hw5, World.frozen?_setCell, CH4.frozen1 (by omega) (fun h => by have := (HS2.out _ h).1; omega)]
            exact KF.out p h1
          · exact hb.trans (CG.toBelow (fun b h => by
              rcases h with h | h
              · have := (HS2.out b h).1; omega
              · omega) (by omega))
        case measure => simp [intOf]; omega
      · have hkN : N = k + 1 := by omega
        have hWk : Ws.length = k := by omega
        rw [List.take_of_length_le (by omega)] at oS
        obtain ⟨W7, hW7⟩ : ∃ u : World, u = wr := ⟨_, rfl⟩
        obtain ⟨hsr, hhs⟩ : ∃ hs, hs = Ws.map M.headR := ⟨_, rfl⟩
        have HHS := Lib.hid hhs
        obtain ⟨Av, cv, ev⟩ := oS.shape
        rw [List.length_map, hWk] at ev
        subst ev
        rw [← hW7] at hv oS HFS KC KF hsz hb ⊢
        have oS0 : OS tSt 44 W7 FV (.slice Av k cv) (M.stage M.nameR (M.fullR hsr) Ws 0) := by rw [M.stage_zero]; exact oS
        have hLk : (Ls.take k).length = k := by rw [List.length_take]; omega
        have hsk : ((Ls.take k).map List.length).sum ≤ s.size := by
          have e : (Ls.map List.length).sum = ((Ls.take k).map List.length).sum + ((Ls.drop k).map List.length).sum := by
            rw [← List.sum_append, ← List.map_append, List.take_append_drop]
          omega
        have FIT := Lib.hid (fun i => M.stage_fits (Ls := Ls.take k) (Ws := Ws) (h := M.nameR) (hs := hsr) (i := i) (by omega) (fun j W L hW hL => by
          rw [HWL.out, List.getElem?_map, hN, hkN, Nat.add_sub_cancel, hL] at hW
          obtain rfl := Option.some.inj hW
          exact ⟨fun y hy => M.splitBy_le1 hy, M.splitBy_cnt 32 L⟩) (fun W => ⟨rfl, rfl⟩))
        have HNM := Lib.hid (fun i => show (M.stage M.nameR (M.fullR hsr) Ws i).map (·.1) = hsr.map (·.1) by
          rw [M.stage_names (h := M.nameR) (f := M.fullR hsr) (Ws := Ws) (i := i) (fun W => rfl), HHS.out, List.map_map, List.map_map]; rfl)
        clear hW7 oS hhs F1r
        clear wr
        go_wp2_with fail
        go_loopw [7] (fun i wr => ∃ (q : Nat) (GS : Nat → Prop), i = .int .i64 q ∧ q + 1 ≤ N ∧ wr.cell? ⟨mb, 0, none⟩ = some (.slice Av k cv) ∧ OS tSt 44 wr GS (.slice Av k cv) (M.stage M.nameR (M.fullR hsr) Ws q) ∧
            Hid (∀ b, GS b → W3.heap.size ≤ b ∧ b < wr.heap.size) ∧ Hid (∀ j W, j < q → Ws[j]? = some W → M.okS W = true) ∧
            Hid (∀ p : Addr, p.block < W3.heap.size → wr.cell? p = W7.cell? p) ∧ Hid (∀ p : Addr, p.block < W3.heap.size → wr.frozen? p = W7.frozen? p) ∧ W7.heap.size ≤ wr.heap.size ∧ Below w.heap.size w wr) (fun i _ => N - (intOf i).toNat)
        case atStart => exact ⟨0, FV, rfl, by omega, hv, oS0, HFS, Lib.hid (by omega), Lib.hid (fun _ _ => rfl), Lib.hid (fun _ _ => rfl), Nat.le_refl _, hb⟩
        case round =>
          clear hv oS0 HFS
          obtain ⟨q, GS, rfl, hq, hv, oS, HFS, HG, KC2, KF2, hsz2, hb2⟩ := hrel
          have R0r : wr.cell? ⟨w.heap.size, 0, none⟩ = some (.slice none 0 0) := by rw [KC2.out _ (by show w.heap.size < _; omega), KC.out _ (by show w.heap.size < _; omega) (by show w.heap.size ≠ _; omega)]; exact R3
          have F0r : wr.frozen? ⟨w.heap.size, 0, none⟩ = false := by rw [KF2.out _ (by show w.heap.size < _; omega), KF.out _ (by show w.heap.size < _; omega)]; exact F3
          by_cases hlt2 : q + 1 < N
          · have X := Lib.hid (List.getElem?_eq_getElem (l := Ls) (i := q) (by omega))
            generalize Ls[q]'(by omega) = x at X
            have hxs : x.length ≤ s.size := by
              have h2 : x.length ≤ (Ls.map List.length).sum := M.le_sum (List.mem_map.2 ⟨x, List.mem_of_getElem? X.out, rfl⟩)
              omega
            have hcx : wr.cell? ⟨gl, q, none⟩ = some (.string ⟨x.toArray⟩) := by
              rw [KC2.out _ (by show gl < _; omega), KC.out _ (by show gl < _; omega) (by show gl ≠ _; omega)]
              exact PC3.out q x X.out
            have HSW := Lib.hid (spec_Split32 x wr (by omega))
            obtain ⟨W, hW⟩ : ∃ W, W = M.splitBy 32 x := ⟨_, rfl⟩
            rw [← hW] at HSW
            have XW := Lib.hid (show Ws[q]? = some W by rw [HWL.out, List.getElem?_map, List.getElem?_take, if_pos (by omega), X.out, hW]; rfl)
            have XT := Lib.hid (show (Ls.take k)[q]? = some x by rw [List.getElem?_take, if_pos (by omega)]; exact X.out)
            have hwx := Lib.hid (fun y hy => M.splitBy_le1 (L := x) (x := y) hy)
            rw [← hW] at hwx
            have hwc : W.length ≤ x.length + 1 := by rw [hW]; exact M.splitBy_cnt 32 x
            have NOW := Lib.hid (fun h : M.okS W = false => show M.mixS s.data.toList = none by rw [HMS2.out, M.build_no (List.mem_of_getElem? XW.out) h]; rfl)
            clear hW
            have hrem : (W.length : Int).tmod 3 = ((W.length % 3 : Nat) : Int) := by rw [Int.tmod_eq_emod_of_nonneg (by omega)]; omega
            by_cases h3 : W.length % 3 = 2
            · have e3 : ((W.length % 3 : Nat) : Int) = 2 := by omega
              rw [e3] at hrem
              by_cases h14 : W.length ≤ 14
              · have hcn : 3 * M.cntW W + 2 = W.length := by rw [M.cntW]; omega
                obtain ⟨css, Fs, oh, cs, hcs, ho⟩ := oS.openAt (M.stage_at XW.out)
                obtain ⟨gS, rfl, hgS, hgS2, hgS3, -⟩ := oh.form (by rw [M.stage_len]; omega)
                obtain ⟨As, ns, cS, rfl, hzs, hsd⟩ := st_O.1 (show tSt.O wr (Fs q) cs (⟨(M.wd W 0).toArray⟩, 0, []) from ho)
                obtain ⟨cS1, fS1⟩ := oh.cell hcs (j := 1) rfl
                rw [show q * tSt.s + 1 = q * 3 + 1 from rfl] at cS1 fS1
                have HND := Lib.hid (spec_num (M.wd W 1) (by have := M.wd_len hwx.out 1; omega))
                cases hn1 : M.num (M.wd W 1) with
                | none =>
                  have NO := Lib.hid (NOW.out (M.okS_lat hn1))
                  rw [hn1] at HND
                  go_wp2_with (first | (go_at_call 18; refine HSW.out.mono ?_; rintro e u1 ⟨g8, c8, rfl, hg0, hg1, hc8, hcell, d1⟩; have cw1 := hcell 1 (by omega)) | (go_at_call 19; with_reducible refine (HND.out _).mono ?_; rintro e u2 ⟨rfl, d2⟩; have D2 := bel_trans d1 d2; have rR : u2.cell? ⟨w.heap.size, 0, none⟩ = some (.slice none 0 0) := (by rw [D2.cell (by show w.heap.size < _; omega)]; exact R0r); have fR : u2.frozen? ⟨w.heap.size, 0, none⟩ = false := (by rw [D2.frozen (by show w.heap.size < _; omega)]; exact F0r)))
                  refine bodyPost_ret (v := .tuple #[.agg #[.slice none 0 0], .bool false]) (by simp [results, Tryz.results5, go_sem, rR, fR]) rfl ?_
                  rw [NO.out]
                  exact ⟨_, rfl, OS.nil _ _ _ _, (bel_trans hb2 D2).setCell (Nat.le_refl _) _⟩
                | some lat =>
                  rw [hn1] at HND
                  have HLT := Lib.hid (show M.headR W = (⟨(M.wd W 0).toArray⟩, lat, []) by rw [M.headR, hn1]; rfl)
                  have HN1 := Lib.hid hn1
                  clear hn1
                  go_wp2_with (first | (go_at_call 18; refine HSW.out.mono ?_; rintro e u1 ⟨g8, c8, rfl, hg0, hg1, hc8, hcell, d1⟩; have cw1 := hcell 1 (by omega); have HCL := Lib.hid hcell; clear hcell) | (go_at_call 19; with_reducible refine (HND.out _).mono ?_; rintro e u2 ⟨rfl, d2⟩; have D2 := bel_trans d1 d2; have hv2 : u2.cell? ⟨mb, 0, none⟩ = some (.slice (some ⟨gS, 0, none⟩) k cv) := (by rw [D2.cell (by show mb < _; omega)]; exact hv); have cS2 : u2.cell? ⟨gS, q * 3 + 1, none⟩ = some (.int .i64 0) := (by rw [D2.cell hgS3]; exact cS1); have fS2 : u2.frozen? ⟨gS, q * 3 + 1, none⟩ = false := (by rw [D2.frozen hgS3]; exact fS1)))
                  obtain ⟨W8, hW8⟩ : ∃ u : World, u = u2.setCell ⟨gS, q * 3 + 1, none⟩ (.int .i64 lat) := ⟨_, rfl⟩
                  have s1 := d1.size
                  have s2' := D2.size
                  have t8 : W8.heap.size = u2.heap.size := by rw [hW8]; simp
                  have hg8W : g8 < W8.heap.size := by have := d2.size; omega
                  have CS8 : Chg (fun b => b = gS) u2 W8 := by rw [hW8]; exact Chg.set u2 gS (q * 3 + 1) _ rfl
                  have C8 : Chg (fun b => b = gS) wr W8 := (Chg.of_below D2 _).trans CS8
                  have hgS3' : W3.heap.size ≤ gS ∧ gS < wr.heap.size := HFS.out gS hgS
                  have hset := (oh.chg (Chg.of_below D2 _)).set hcs 1 (by decide) (.int .i64 lat)
                  rw [show q * tSt.s + 1 = q * 3 + 1 from rfl, ← hW8] at hset
                  obtain ⟨oh8, hcs8⟩ := hset
                  have st8 : tSt.O W8 (Fs q) [.string ⟨(M.wd W 0).toArray⟩, .int .i64 lat, .slice As ns cS] (M.partR hsr W 0) := by
                    rw [M.partR_zero, HLT.out]
                    exact st_O.2 ⟨As, ns, cS, rfl, hzs, tSdS.ochg hsd C8 (fun b h (h' : b = gS) => hgS2 (h' ▸ h))⟩
                  have oP8 := oh8.fill (cs := [.string ⟨(M.wd W 0).toArray⟩, .int .i64 lat, .slice As ns cS]) hcs8 st8
                  have hv8 : W8.cell? ⟨mb, 0, none⟩ = some (.slice (some ⟨gS, 0, none⟩) k cv) := by rw [C8.cell1 (by show mb < _; omega) (by show ¬ mb = gS; omega)]; exact hv
                  have CL8 := Lib.hid (fun (t : Nat) (ht : t < W.length) => show W8.cell? ⟨g8, t, none⟩ = some (.string ⟨(M.wd W t).toArray⟩) by
                    rw [CS8.cell1 (by show g8 < _; have := d2.size; omega) (by show ¬ g8 = gS; omega), d2.cell hg1]; exact HCL.out t ht)
                  have KC8 := Lib.hid (fun (p : Addr) (h : p.block < W3.heap.size) => show W8.cell? p = wr.cell? p from C8.cell1 (by omega) (by omega))
                  have KF8 := Lib.hid (fun (p : Addr) (h : p.block < W3.heap.size) => show W8.frozen? p = wr.frozen? p from C8.frozen1 (by omega) (by omega))
                  have hb8 : Below w.heap.size w W8 := hb2.trans (C8.toBelow (fun b (h : b = gS) => by omega) (by omega))
                  have HFS8 := Lib.hid (fun b (h : GS b) => show W3.heap.size ≤ b ∧ b < W8.heap.size ∧ b ≠ g8 from by have := HFS.out b h; omega)
                  go_wp2_with fail
                  rw [← hW8]
                  clear hW8 oh8 hcs8 st8 CS8 hsd ho hcs oh oS hv2 cS2 fS2 cw1
                  go_loopw [11] (fun kk wr => ∃ (j p : Nat) (G2 : Nat → Prop), kk = .int .i64 p ∧ Hid (p = 2 + 3 * j) ∧ j ≤ M.cntW W ∧ p + 3 * (M.cntW W - j) = W.length ∧
                      Hid (∀ t, t < W.length → wr.cell? ⟨g8, t, none⟩ = some (.string ⟨(M.wd W t).toArray⟩)) ∧ wr.cell? ⟨mb, 0, none⟩ = some (.slice (some ⟨gS, 0, none⟩) k cv) ∧
                      OS tSt 44 wr G2 (.slice (some ⟨gS, 0, none⟩) k cv) ((M.stage M.nameR (M.fullR hsr) Ws q).set q (M.partR hsr W j)) ∧
                      Hid (∀ b, G2 b → W3.heap.size ≤ b ∧ b < wr.heap.size ∧ b ≠ g8) ∧ Hid (∀ t, t < j → (M.gOk W t && decide (M.wd W (2 + 3 * t) = [116, 111])) = true) ∧
                      Hid (∀ p : Addr, p.block < W3.heap.size → wr.cell? p = W8.cell? p) ∧ Hid (∀ p : Addr, p.block < W3.heap.size → wr.frozen? p = W8.frozen? p) ∧ W8.heap.size ≤ wr.heap.size ∧ Below w.heap.size w wr) (fun kk _ => W.length - (intOf kk).toNat)
                  case atStart => exact ⟨0, 2, GS, rfl, Lib.hid rfl, by omega, by omega, CL8, hv8, oP8, HFS8, Lib.hid (by omega), Lib.hid (fun _ _ => rfl), Lib.hid (fun _ _ => rfl), Nat.le_refl _, hb8⟩
                  case round =>
                    obtain ⟨W9, hW9⟩ : ∃ u : World, u = wr := ⟨_, rfl⟩
                    obtain ⟨j, p, G2, rfl, HP, hj, hpe, CL, hv9, oP, HG2, HS2, KC3, KF3, hsz3, hb3⟩ := hrel
                    have R0w : wr.cell? ⟨w.heap.size, 0, none⟩ = some (.slice none 0 0) := by rw [KC3.out _ (by show w.heap.size < _; omega), KC8.out _ (by show w.heap.size < _; omega)]; exact R0r
                    have F0w : wr.frozen? ⟨w.heap.size, 0, none⟩ = false := by rw [KF3.out _ (by show w.heap.size < _; omega), KF8.out _ (by show w.heap.size < _; omega)]; exact F0r
                    clear hW9
                    by_cases hlt3 : j < M.cntW W
                    · have hp3 : p + 3 ≤ W.length := by omega
                      have hne : ¬ c8 = p := by omega
                      have c0 := CL.out p (by omega)
                      have c1 := CL.out (p + 1) (by omega)
                      have c2 := CL.out (p + 2) (by omega)
                      obtain ⟨Y, hY⟩ : ∃ Y, Y = (M.stage M.nameR (M.fullR hsr) Ws q).set q (M.partR hsr W j) := ⟨_, rfl⟩
                      rw [← hY] at oP
                      have hYl : Y.length = k := by rw [hY, List.length_set, M.stage_len]; omega
                      have hYq : Y[q]? = some (M.partR hsr W j) := by rw [hY, List.getElem?_set_self (by rw [M.stage_len]; omega)]
                      have HNY := Lib.hid (show ∀ t, M.named Y t = M.named hsr t from fun t => M.named_names (by rw [hY, M.set_names (y := M.partR hsr W j) (M.stage_at XW.out) rfl, HNM.out]) t)
                      have hYs : hM.sz Y ≤ 100000000 := by
                        have := M.fits_sz (show M.fits (Ls.take k) Y by rw [hY]; exact M.fits_set (FIT.out q) XT.out (M.partR_fits hwx.out hwc (by omega)))
                        omega
                      have HYN := Lib.hid (show Y.set q (M.partR hsr W (j + 1)) = (M.stage M.nameR (M.fullR hsr) Ws q).set q (M.partR hsr W (j + 1)) by rw [hY, List.set_set])
                      clear hY
                      have HN := spec_l26Send mb (some ⟨gS, 0, none⟩) k cv Y g8 p (c8 - p) (M.wd W p) (M.wd W (p + 1)) (M.wd W (p + 2)) wr hv9 (sl_R.2 oP.read) hYs c0 c1 c2 (by have := M.wd_len hwx.out (p + 2); omega)
                      rw [HNY.out] at HN
                      cases hfine : ((M.num (M.wd W (p + 2))).isSome && decide (M.wd W p = [116, 111])) with
                      | false =>
                        have NO := Lib.hid (NOW.out (M.okS_send hlt3 (by rw [M.gOk, ← HP.out]; exact hfine)))
                        rw [hfine] at HN
                        have HN2 := Lib.hid HN
                        generalize (M.num (M.wd W (p + 2))).getD 0 = gz at HN2
                        clear HN hfine
                        go_wp2_with (go_at_call 20; refine HN2.out.mono ?_; rintro e u3 ⟨rfl, d3⟩; have s3 := d3.size; have BX : Below wr.heap.size wr (u3.alloc (.cells #[.int .i64 (M.named hsr ⟨(M.wd W (p + 1)).toArray⟩), .int .i64 gz] 47)) := d3.alloc s3 _; have hRx : (u3.alloc (.cells #[.int .i64 (M.named hsr ⟨(M.wd W (p + 1)).toArray⟩), .int .i64 gz] 47)).cell? ⟨w.heap.size, 0, none⟩ = some (.slice none 0 0) := (by rw [BX.cell (by show w.heap.size < _; omega)]; exact R0w); have hFx : (u3.alloc (.cells #[.int .i64 (M.named hsr ⟨(M.wd W (p + 1)).toArray⟩), .int .i64 gz] 47)).frozen? ⟨w.heap.size, 0, none⟩ = false := (by rw [BX.frozen (by show w.heap.size < _; omega)]; exact F0w))
                        refine bodyPost_ret (v := .tuple #[.agg #[.slice none 0 0], .bool false]) (by simp [results, Tryz.results5, go_sem, hRx, hFx]) rfl ?_
                        rw [NO.out]
                        exact ⟨_, rfl, OS.nil _ _ _ _, (bel_trans hb3 BX).setCell (Nat.le_refl _) _⟩
                      | true =>
                        have HF := Lib.hid hfine
                        obtain ⟨gz, hgz⟩ : ∃ gz, M.num (M.wd W (p + 2)) = some gz := by
                          rw [Bool.and_eq_true] at hfine
                          exact Option.isSome_iff_exists.1 hfine.1
                        rw [hfine, hgz] at HN
                        have HSR := Lib.hid (show M.sndR hsr W j = (M.named hsr ⟨(M.wd W (p + 1)).toArray⟩, gz) by rw [M.sndR, ← HP.out, hgz]; rfl)
                        have HN2 := Lib.hid HN
                        clear HN hfine hgz
                        go_wp2_with (go_at_call 20; refine HN2.out.mono ?_; rintro e u3 ⟨rfl, d3⟩; have s3 := d3.size)
                        obtain ⟨U, hU⟩ : ∃ U, U = u3.alloc (.cells #[.int .i64 (M.named hsr ⟨(M.wd W (p + 1)).toArray⟩), .int .i64 gz] 47) := ⟨_, rfl⟩
                        have BU : Below wr.heap.size wr U := by rw [hU]; exact d3.alloc s3 _
                        have zU : u3.heap.size + 1 ≤ U.heap.size := by rw [hU]; simp
                        have x0 : U.cell? ⟨u3.heap.size, 0, none⟩ = some (.int .i64 (M.named hsr ⟨(M.wd W (p + 1)).toArray⟩)) := by rw [hU]; simp [go_sem]
                        have x1 : U.cell? ⟨u3.heap.size, 1, none⟩ = some (.int .i64 gz) := by rw [hU]; simp [go_sem]
                        have hvU : U.cell? ⟨mb, 0, none⟩ = some (.slice (some ⟨gS, 0, none⟩) k cv) := by rw [BU.cell (by show mb < _; omega)]; exact hv9
                        have oP2 := oP.chg (Chg.of_below BU (fun _ => False)) (fun _ _ h => h)
                        obtain ⟨css, Fs2, oh, cs, hcs, ho⟩ := oP2.openAt hYq
                        obtain ⟨gS', egS, hgSa, hgSb, hgSc, -⟩ := oh.form (by rw [hYl]; omega)
                        have egS2 : gS = gS' := by simpa using egS
                        subst egS2
                        obtain ⟨As2, ns2, cS2, rfl, hzs2, hsd2⟩ := st_O.1 (show tSt.O U (Fs2 q) cs (⟨(M.wd W 0).toArray⟩, (M.num (M.wd W 1)).getD 0, M.sndsR hsr W j) from ho)
                        obtain ⟨vs, evs, osd⟩ := hsd2
                        simp only [List.cons.injEq, and_true] at evs
                        subst evs
                        obtain ⟨As', cS', es⟩ := osd.shape
                        rw [M.sndsR_len] at es
                        simp only [Value.slice.injEq] at es
                        obtain ⟨rfl, hnj, rfl⟩ := es
                        obtain rfl : j = ns2 := hnj.symm
                        clear hnj
                        obtain ⟨cE2, fE2⟩ := oh.cell hcs (j := 2) rfl
                        rw [show q * tSt.s + 2 = q * 3 + 2 from rfl] at cE2 fE2
                        have HFs := Lib.hid (fun b (h : Fs2 q b) => show W3.heap.size ≤ b ∧ b < wr.heap.size ∧ b ≠ g8 from HG2.out b (oh.fits b h))
                        have m0 := ChgTo.cell (F := Fs2 q) hvU (fun h => by have := (HFs.out _ h).1; simp only at this; omega)
                        have m1 := ChgTo.cell (F := Fs2 q) cE2 hgSb
                        have m2 := ChgTo.cell (F := Fs2 q) x0 (fun h => by have := (HFs.out _ h).2.1; simp only at this; omega)
                        have m3 := ChgTo.cell (F := Fs2 q) x1 (fun h => by have := (HFs.out _ h).2.1; simp only at this; omega)
                        have DD : Below U.heap.size U U.drew := below_drewN (Below.refl _ _) 1
                        have cE3 : U.drew.cell? ⟨gS, q * 3 + 2, none⟩ = some (.slice As2 j cS2) := cE2
                        have fE3 : U.drew.frozen? ⟨gS, q * 3 + 2, none⟩ = false := fE2
                        have osd3 := osd.real.chg (Chg.of_below DD (fun _ => False)) (fun _ _ h => h)
                        rw [← hU]
                        clear hU
                        go_wp2_with fail
                        (refine wp_region_chg (Fs2 q) [0, 2, 3, 5] [1, 4, 6, 7, 8, 9] 4 (.one 10 (.one 11 (.first 12 (.first 13 .rest)))) [14] [14] (by kernel_rfl) (by kernel_rfl) ?_; simp only [pickOps]; simp only [List.filterMap, List.getElem?_cons_succ, List.getElem?_cons_zero]; (repeat (go_big_quiet_step (fail))); refine wpQuiet_nil ?_; (repeat (go_big_quiet_step (fail))); refine wpQuiet_nil ?_)
                        refine seqT_one2 rfl ?_
                        go_wp2_with fail
                        refine ⟨⟨⟨_, Chg.of_below (bel_trans DD ((Below.refl _ _).alloc (Nat.le_refl _) _)) _⟩, rfl⟩, seqT_one2 rfl ?_⟩
                        go_wp2_with (at_builtin; refine wpList_pushS ei_sd #[.int .i64 (M.named hsr ⟨(M.wd W (p + 1)).toArray⟩), .int .i64 gz] rfl _ _ rfl osd3 (Fe := fun _ => False) (y := (M.named hsr ⟨(M.wd W (p + 1)).toArray⟩, gz)) rfl (fun _ _ h => h) rfl rfl (by rw [M.sndsR_len]; unfold maxLen; omega) (by rw [M.sndsR_len]; omega) ?_; intro v5 w5 own5 ch5; obtain ⟨A5, c5, e5⟩ := own5.shape; rw [List.length_append, M.sndsR_len, List.length_singleton] at e5; subst e5; have cS5 : w5.cell? ⟨gS, q * 3 + 2, none⟩ = some (.slice As2 j cS2) := (by rw [ch5.cell1 (show gS < U.heap.size by omega) (fun h => hgSb h.1)]; exact cE3); have fS5 : w5.frozen? ⟨gS, q * 3 + 2, none⟩ = false := (by rw [ch5.frozen1 (show gS < U.heap.size by omega) (fun h => hgSb h.1)]; exact fE3))
                        have CH5 : Chg (Fs2 q) U w5 := (Chg.of_below DD _).trans (ch5.wide (fun _ h => h.1))
                        refine ⟨⟨⟨w5, CH5⟩, rfl⟩, ?_⟩
                        (refine seqT_first2 rfl ?_; (repeat (go_big_quiet_step (fail))); refine wpQuiet_nil ?_)
                        (refine seqT_first2 rfl ?_; (repeat (go_big_quiet_step (fail))); refine wpQuiet_nil ?_)
                        refine seqT_rest2 ?_
                        go_wp2_with fail
                        go_roundw
                        case rel =>
                          obtain ⟨w6, hw6⟩ : ∃ w6, w6 = w5.setCell ⟨gS, q * 3 + 2, none⟩ (.slice A5 (j + 1) c5) := ⟨_, rfl⟩
                          have t3 : U.heap.size ≤ w5.heap.size := ch5.size
                          have t6 : w6.heap.size = w5.heap.size := by rw [hw6]; simp
                          have CS : Chg (fun b => b = gS) w5 w6 := by rw [hw6]; exact Chg.set w5 gS (q * 3 + 2) _ rfl
                          have CHr : Chg (fun b => Fs2 q b ∨ b = gS) wr w6 := ((Chg.of_below BU _).trans (CH5.wide (fun _ h => .inl h))).trans (CS.wide (fun _ h => .inr h))
                          have hG := Lib.hid (fun b (h : Fs2 q b ∨ b = gS) => show W3.heap.size ≤ b ∧ b < wr.heap.size ∧ b ≠ g8 from by
                            rcases h with h | h
                            · exact HFs.out b h
                            · rw [h]; exact HG2.out gS hgSa)
                          have own6 : OS tSd 47 w6 (fun b => Fs2 q b ∨ (U.heap.size < b ∧ b < w5.heap.size)) (.slice A5 (j + 1) c5) (M.sndsR hsr W (j + 1)) := by
                            rw [M.sndsR_next, HSR.out]
                            refine (own5.chg CS (fun b h (h' : b = gS) => ?_)).wide (fun b h => ?_)
                            · rcases h with h | h | h
                              · exact hgSb (h' ▸ h.1)
                              · exact h.elim
                              · have h9 : U.heap.size < b := h.1
                                omega
                            · rcases h with h | h | h
                              · exact .inl h.1
                              · exact h.elim
                              · exact .inr h
                          have hset := (oh.chg CH5).set hcs 2 (by decide) (.slice A5 (j + 1) c5)
                          rw [show q * tSt.s + 2 = q * 3 + 2 from rfl, ← hw6] at hset
                          obtain ⟨oh6, hcs6⟩ := hset
                          have st6 : tSt.O w6 (fun b => Fs2 q b ∨ (U.heap.size < b ∧ b < w5.heap.size)) [.string ⟨(M.wd W 0).toArray⟩, .int .i64 ((M.num (M.wd W 1)).getD 0), .slice A5 (j + 1) c5] (M.partR hsr W (j + 1)) := (st_O (s := ⟨(M.wd W 0).toArray⟩) (l := (M.num (M.wd W 1)).getD 0) (xs := M.sndsR hsr W (j + 1))).2 ⟨A5, j + 1, c5, rfl, hzs2, ⟨_, rfl, own6⟩⟩
                          have oP6 := oh6.fill2 (cs := [.string ⟨(M.wd W 0).toArray⟩, .int .i64 ((M.num (M.wd W 1)).getD 0), .slice A5 (j + 1) c5]) hcs6 st6 (fun b h => by
                            rcases h with h | h
                            · exact .inl h
                            · refine .inr fun h' => ?_
                              have := (HG2.out b h').2.1
                              omega)
                          rw [HYN.out] at oP6
                          have oP7 : OS tSt 44 w6 (fun b => G2 b ∨ (U.heap.size < b ∧ b < w5.heap.size)) (.slice (some ⟨gS, 0, none⟩) k cv) ((M.stage M.nameR (M.fullR hsr) Ws q).set q (M.partR hsr W (j + 1))) := by
                            exact oP6.wide (fun b h => by rcases h with h | h | h; exact .inl h; exact .inl (oh.fits b h); exact .inr h)
                          rw [← hw6]
                          refine ⟨j + 1, p + 3, fun b => G2 b ∨ (U.heap.size < b ∧ b < w5.heap.size), by go_num, Lib.hid (by rw [HP.out]; omega), by omega, by omega, Lib.hid (fun t ht => ?_), ?_, oP7, Lib.hid (fun b h => ?_), Lib.hid (fun t ht => ?_), Lib.hid (fun p' h1 => ?_), Lib.hid (fun p' h1 => ?_), by omega, ?_⟩
                          · rw [CHr.cell1 (by show g8 < _; omega) (fun h => (hG.out _ h).2.2 rfl)]
                            exact CL.out t ht
                          · rw [CHr.cell1 (by show mb < _; omega) (fun h => by have := (hG.out _ h).1; simp only at this; omega)]
                            exact hv9
                          · rcases h with h | h
                            · have := HG2.out b h; omega
                            · omega
                          · rcases Nat.lt_or_ge t j with h9 | h9
                            · exact HS2.out t h9
                            · obtain rfl : t = j := by omega
                              rw [M.gOk, ← HP.out]; exact HF.out
                          · rw [CHr.cell1 (by omega) (fun h => by have := (hG.out _ h).1; omega)]
                            exact KC3.out p' h1
                          · rw [hw6, World.frozen?_setCell, CH5.frozen1 (by omega) (fun h => by have := (HFs.out _ h).1; omega)]
                            exact (BU.frozen (by omega)).trans (KF3.out p' h1)
                          · exact hb3.trans (CHr.toBelow (fun b h => by have := (hG.out b h).1; omega) (by omega))
                        case measure => simp [intOf]; omega
                    · have hje : j = M.cntW W := by omega
                      have hpW : p = W.length := by omega
                      go_wp2_with fail
                      go_roundw
                      case rel =>
                        refine ⟨q + 1, G2, by go_num, by omega, hv9, ?_, Lib.hid (fun b h => ?_), Lib.hid (fun t W' ht hW' => ?_), Lib.hid (fun p' h1 => ?_), Lib.hid (fun p' h1 => ?_), by omega, hb3⟩
                        · rw [← M.stage_next XW.out, ← M.partR_cnt, ← hje]
                          exact oP
                        · have := HG2.out b h; omega
                        · rcases Nat.lt_or_ge t q with h9 | h9
                          · exact HG.out t W' h9 hW'
                          · obtain rfl : t = q := by omega
                            rw [XW.out] at hW'
                            rw [← Option.some.inj hW']
                            exact M.okS_yes h3 h14 HN1.out (fun t' ht' => HS2.out t' (by omega))
                        · exact (KC3.out p' h1).trans ((KC8.out p' h1).trans (KC2.out p' h1))
                        · exact (KF3.out p' h1).trans ((KF8.out p' h1).trans (KF2.out p' h1))
                      case measure => simp [intOf]; omega
              · have NO := Lib.hid (NOW.out (M.okS_len (fun h => h14 h.2)))
                go_wp2_with (go_at_call 18; refine HSW.out.mono ?_; rintro e u1 ⟨g8, c8, rfl, hg0, hg1, hc8, hcell, d1⟩; clear hcell; have rR : u1.cell? ⟨w.heap.size, 0, none⟩ = some (.slice none 0 0) := (by rw [d1.cell (by show w.heap.size < _; omega)]; exact R0r); have fR : u1.frozen? ⟨w.heap.size, 0, none⟩ = false := (by rw [d1.frozen (by show w.heap.size < _; omega)]; exact F0r))
                refine bodyPost_ret (v := .tuple #[.agg #[.slice none 0 0], .bool false]) (by simp [results, Tryz.results5, go_sem, rR, fR]) rfl ?_
                rw [NO.out]
                exact ⟨_, rfl, OS.nil _ _ _ _, (bel_trans hb2 d1).setCell (Nat.le_refl _) _⟩
            · have e3 : ¬ ((W.length % 3 : Nat) : Int) = 2 := by omega
              have NO := Lib.hid (NOW.out (M.okS_len (fun h => h3 h.1)))
              generalize ((W.length % 3 : Nat) : Int) = z3' at hrem e3
              have e4 : (z3' != 2) = true := by simpa using e3
              go_wp2_with (go_at_call 18; refine HSW.out.mono ?_; rintro e u1 ⟨g8, c8, rfl, hg0, hg1, hc8, hcell, d1⟩; clear hcell; have rR : u1.cell? ⟨w.heap.size, 0, none⟩ = some (.slice none 0 0) := (by rw [d1.cell (by show w.heap.size < _; omega)]; exact R0r); have fR : u1.frozen? ⟨w.heap.size, 0, none⟩ = false := (by rw [d1.frozen (by show w.heap.size < _; omega)]; exact F0r))
              refine bodyPost_ret (v := .tuple #[.agg #[.slice none 0 0], .bool false]) (by simp [results, Tryz.results5, go_sem, rR, fR]) rfl ?_
              rw [NO.out]
              exact ⟨_, rfl, OS.nil _ _ _ _, (bel_trans hb2 d1).setCell (Nat.le_refl _) _⟩
          · have hqk : q = k := by omega
            subst hqk
            rw [M.stage_end (by omega)] at oS
            have YES := Lib.hid (show M.build M.okS Ws = some (Ws.map (M.fullR hsr)) by
              unfold M.build
              rw [if_pos, HHS.out]
              rw [List.all_eq_true]
              intro W hW
              obtain ⟨i, hi⟩ := List.getElem?_of_mem hW
              have hi2 := (List.getElem?_eq_some_iff.1 hi).1
              exact HG.out i W (by omega) hi)
            have hfin : hM.sz (Ws.map (M.fullR hsr)) ≤ 100000000 := by
              have h1 := FIT.out Ws.length
              rw [M.stage_end (Nat.le_refl _)] at h1
              have := M.fits_sz h1
              omega
            have hfl : (Ws.map (M.fullR hsr)).length = q := by rw [List.length_map]; omega
            obtain ⟨ms, hms⟩ : ∃ ms, ms = Ws.map (M.fullR hsr) := ⟨_, rfl⟩
            rw [← hms] at YES oS hfin hfl
            have HMI := Lib.hid (show M.mixS s.data.toList = if M.mixOk ms = true ∧ M.mxT ms q = s.data.toList then some ms else none by rw [HMS2.out, YES.out, ← hfl]; rfl)
            have rm : tM.R wr wr.heap.size [.slice Av q cv] ms := sl_R.2 oS.read
            have hI := spec_l26Ok mb Av q cv ms wr hv rm hfin
            have lmb : mb < wr.heap.size := by omega
            clear hms
            cases hok : M.mixOk ms with
            | false =>
              have NO := Lib.hid (show M.mixS s.data.toList = none by rw [HMI.out, hok, if_neg (by simp)])
              rw [hok] at hI
              have HI := Lib.hid hI
              clear hok hI
              go_wp2_with (go_at_call 21; refine HI.out.mono ?_; rintro e u1 ⟨rfl, d1⟩; have rR : u1.cell? ⟨w.heap.size, 0, none⟩ = some (.slice none 0 0) := (by rw [d1.cell (by show w.heap.size < _; omega)]; exact R0r); have fR : u1.frozen? ⟨w.heap.size, 0, none⟩ = false := (by rw [d1.frozen (by show w.heap.size < _; omega)]; exact F0r))
              refine bodyPost_ret (v := .tuple #[.agg #[.slice none 0 0], .bool false]) (by simp [results, Tryz.results5, go_sem, rR, fR]) rfl ?_
              rw [NO.out]
              exact ⟨_, rfl, OS.nil _ _ _ _, (bel_trans hb2 d1).setCell (Nat.le_refl _) _⟩
            | true =>
              rw [hok] at hI
              have HI := Lib.hid hI
              have hT : ∀ u, Below wr.heap.size wr u → Calls Tryz.prog 22 #[.pointer (some ⟨mb, 0, none⟩)] u fun e w' => e = .returned (.string ⟨(M.mxT ms q).toArray⟩) ∧ Below u.heap.size u w' := fun u hu => by
                have := spec_l26Text mb Av q cv ms u (by rw [hu.cell lmb]; exact hv) (tM.later rm hu) hok
                rwa [hfl] at this
              have HTX := Lib.hid hT
              by_cases ht : M.mxT ms q = s.data.toList
              · have YES2 := Lib.hid (show M.mixS s.data.toList = some ms by rw [HMI.out, if_pos ⟨hok, ht⟩])
                have e1 : (M.mxT ms q == s.toList) = true := by rw [ByteArray.toList_eq, ht]; exact beq_self_eq_true _
                clear hok hI ht hT hfl
                go_wp2_with (first | (go_at_call 21; refine HI.out.mono ?_; rintro e u1 ⟨rfl, d1⟩) | (go_at_call 22; refine (HTX.out _ d1).mono ?_; rintro e u2 ⟨rfl, d2⟩; have D2 := bel_trans d1 d2; have v6 : u2.cell? ⟨mb, 0, none⟩ = some (.slice Av q cv) := (by rw [D2.cell lmb]; exact hv); have rR : u2.cell? ⟨w.heap.size, 0, none⟩ = some (.slice none 0 0) := (by rw [D2.cell (by show w.heap.size < _; omega)]; exact R0r); have fR : u2.frozen? ⟨w.heap.size, 0, none⟩ = false := (by rw [D2.frozen (by show w.heap.size < _; omega)]; exact F0r)))
                refine bodyPost_ret (v := .tuple #[.agg #[.slice Av q cv], .bool true]) (by simp [results, Tryz.results5, go_sem, rR, fR]) rfl ?_
                rw [YES2.out]
                refine ⟨_, rfl, ?_, (bel_trans hb2 D2).setCell (Nat.le_refl _) _⟩
                have s9 := D2.size
                refine ((oS.real.chg (Chg.of_below D2 (fun _ => False)) (fun _ _ h => h)).chg (Chg.set (F := fun b => b = w.heap.size) u2 w.heap.size 0 _ rfl) (fun b h (h' : b = w.heap.size) => by have := (HFS.out b h.1).1; omega)).wide (fun b h => ?_)
                have := HFS.out b h.1
                exact ⟨by omega, by simp; omega⟩
              · have NO := Lib.hid (show M.mixS s.data.toList = none by rw [HMI.out, if_neg (fun h => ht h.2)])
                have e1 : (M.mxT ms q == s.toList) = false := by rw [ByteArray.toList_eq, beq_eq_false_iff_ne]; exact ht
                have e2 : ¬ M.mxT ms q = s.toList := by rw [ByteArray.toList_eq]; exact ht
                clear hok hI ht hT hfl
                go_wp2_with (first | (go_at_call 21; refine HI.out.mono ?_; rintro e u1 ⟨rfl, d1⟩) | (go_at_call 22; refine (HTX.out _ d1).mono ?_; rintro e u2 ⟨rfl, d2⟩; have D2 := bel_trans d1 d2; have rR : u2.cell? ⟨w.heap.size, 0, none⟩ = some (.slice none 0 0) := (by rw [D2.cell (by show w.heap.size < _; omega)]; exact R0r); have fR : u2.frozen? ⟨w.heap.size, 0, none⟩ = false := (by rw [D2.frozen (by show w.heap.size < _; omega)]; exact F0r)))
                refine bodyPost_ret (v := .tuple #[.agg #[.slice none 0 0], .bool false]) (by simp [results, Tryz.results5, go_sem, rR, fR]) rfl ?_
                rw [NO.out]
                exact ⟨_, rfl, OS.nil _ _ _ _, (bel_trans hb2 D2).setCell (Nat.le_refl _) _⟩
end Go.Proofs.YtecdendjlgohjaaGreatDoor
namespace Go.Proofs.YtecdendjlgohjaaGreatDoor
open Go.RowKit
theorem M.szL_st {m : Nat} : ∀ (xs : List Strip), (∀ x ∈ xs, hSt.sz x ≤ m) → hSt.szL xs ≤ m * xs.length
  | [], _ => by simp [Hs.szL]
  | x :: xs, h => by
    have := M.szL_st xs fun y hy => h y (List.mem_cons_of_mem _ hy)
    have := h x (by simp)
    rw [Hs.szL, List.length_cons, Nat.mul_add, Nat.mul_one]
    omega
theorem M.mixOk_sz {ms : List Strip} (h : M.mixOk ms = true) : hM.sz ms ≤ 1000 := by
  have hl := M.mixOk_len h
  have h1 := M.szL_st (m := 14) ms fun x hx => by
    obtain ⟨k, hk⟩ := List.getElem?_of_mem hx
    obtain ⟨s, l, us⟩ := x
    have h2 := M.mix_name h hk
    obtain ⟨-, h3, -⟩ := M.mix_strip h hk
    rw [hSt_sz]
    omega
  show ms.length + hSt.szL ms ≤ 1000
  omega
theorem M.mixS_small (s : List UInt8) : hM.sz ((M.mixS s).getD []) ≤ 100000000 ∧ hM.cnt ((M.mixS s).getD []) ≤ 100000000 := by
  have h1 : hM.sz ((M.mixS s).getD []) ≤ 1000 := by
    cases h : M.mixS s with
    | none => show (0 : Nat) + 0 ≤ 1000; omega
    | some ms => exact M.mixOk_sz (M.mixS_some h).1
  have := cl_M ((M.mixS s).getD [])
  omega
theorem RetMx.nf {w w' : World} {e : Ending} {r : Option (List Strip)} (h : RetMx w r e w') :
    ∃ A n c, e = .returned (.tuple #[.agg #[.slice A n c], .bool r.isSome]) ∧ tM.O w' (Iv w.heap.size w'.heap.size) [.slice A n c] (r.getD []) ∧ Below w.heap.size w w' := by
  obtain ⟨v, rfl, own, b⟩ := h
  obtain ⟨A, c, rfl⟩ := own.shape
  exact ⟨A, _, c, rfl, sl_O.2 own, b⟩
end Go.Proofs.YtecdendjlgohjaaGreatDoor
