import Derived.Test.YtckihflfjecpbaaW35
namespace Go.Proofs.Ytckihflfjecpbaa
open Go.RowKit
set_option maxHeartbeats 1000000
set_option maxRecDepth 100000
theorem M.atGo_bd (qs : List (Int × Int)) (t : Int) (ht : 0 ≤ t ∧ t ≤ 4000) : ∀ p : Int × Int, M.ptOk p = true → (∀ q ∈ qs, M.ptOk q = true) → (p :: qs).Pairwise (fun p q => p.1 < q.1) → p.1 ≤ t → -600000000 ≤ M.atGo p qs t ∧ M.atGo p qs t ≤ 600000000 := by
  induction qs with
  | nil =>
    intro p hp _ _ _
    rw [M.ptOk, Bool.and_eq_true, M.inn_iff, M.inn_iff] at hp
    rw [M.atGo]
    omega
  | cons q qs ih =>
    intro p hp hq hs hpt
    have hq1 := hq q (by simp)
    rw [List.pairwise_cons] at hs
    have hlt := hs.1 q (by simp)
    rw [M.atGo]
    by_cases h : t < q.1
    · rw [if_pos h]
      rw [M.ptOk, Bool.and_eq_true, M.inn_iff, M.inn_iff] at hp hq1
      have h1 := M.mul_bound (a := q.2 - p.2) (b := t - p.1) (x := 131072) (y := 4000) (by omega) (by omega) (by omega)
      have h2 := M.div_small (a := (q.2 - p.2) * (t - p.1)) (b := q.1 - p.1) (c := 131072 * 4000) (by omega) (by omega) (by omega)
      unfold M.seg
      omega
    · rw [if_neg h]
      exact ih q hq1 (fun r hr => hq r (by simp [hr])) hs.2 (by omega)
theorem M.atC_bd {xs : List (Int × Int)} (h : M.curveOk xs = true) {t : Int} (ht : 0 ≤ t ∧ t ≤ 4000) : -600000000 ≤ M.atC xs t ∧ M.atC xs t ≤ 600000000 := by
  obtain ⟨h1, h2, h3, _⟩ := (M.curve_iff xs).1 h
  cases xs with
  | nil => simp at h3
  | cons p qs =>
    rw [M.atC]
    by_cases hp : t < p.1
    · rw [if_pos hp]
      have := h1 p (by simp)
      rw [M.ptOk, Bool.and_eq_true, M.inn_iff, M.inn_iff] at this
      omega
    · rw [if_neg hp]
      exact M.atGo_bd qs t ht p (h1 p (by simp)) (fun q hq => h1 q (by simp [hq])) h2 (by omega)
def M.applyL (zs : List Int) (xs : List (Int × Int)) : List Int := (List.range zs.length).map fun (i : Nat) => wrap32 ((zs[i]?).getD 0 * M.atC xs (i : Int) / 65536)
theorem M.applyL_len (zs : List Int) (xs : List (Int × Int)) : (M.applyL zs xs).length = zs.length := by simp [M.applyL]
theorem M.applyL_at {zs : List Int} {xs : List (Int × Int)} {i : Nat} {x : Int} (h : zs[i]? = some x) : (M.applyL zs xs)[i]? = some (wrap32 (x * M.atC xs (i : Int) / 65536)) := by
  have hi := (List.getElem?_eq_some_iff.1 h).1
  have hx := (List.getElem?_eq_some_iff.1 h).2
  simp [M.applyL, hi, hx]
def M.applyR (zs : List Int) (xs : List (Int × Int)) : List Int × Int := if M.curveOk xs && M.sig zs then (M.applyL zs xs, 0) else ([], 1)
theorem M.apply_facts {x v : Int} (hx : -2147483648 ≤ x ∧ x ≤ 2147483647) (hv : -600000000 ≤ v ∧ v ≤ 600000000) :
    IntKind.i64.wrap (x * v) = x * v ∧ wrap64 (x * v) = x * v ∧ (-9000000000000000000 ≤ x * v ∧ x * v ≤ 9000000000000000000) := by
  have h1 := M.mul_bound (a := x) (b := v) (x := 2147483648) (y := 600000000) (by omega) (by omega) (by omega)
  refine ⟨IntWalk.i64_in _ (by omega), ?_, by omega⟩
  unfold wrap64
  omega
theorem impl_ApplyCurve (A A' : Option Addr) (m d n c : Nat) (zs : List Int) (xs : List (Int × Int)) (w : World) (ha : RI w w.heap.size A m zs) (hx : RA pt 2 w w.heap.size A' n xs) (hm : m ≤ 1000000000) (hn : n ≤ 1000000000) :
    Calls Try.prog 38 #[.slice A m d, .agg #[.slice A' n c]] w (Ret2 2 w (M.applyR zs xs)) := by
  have hla := Lib.hid ha.len
  have hb1 : Below w.heap.size w (w.alloc (.cells #[.slice A' n c] 30)) := (Below.refl _ _).alloc (Nat.le_refl _) _
  have hx1 := hx.later hb1
  have hself := lay_cell w (.slice A' n c) 30
  have hsize : (w.alloc (.cells #[.slice A' n c] 30)).heap.size = w.heap.size + 1 := by simp
  cases hok : M.curveOk xs
  · have hr := Lib.hid (show M.applyR zs xs = ([], 1) by rw [M.applyR, hok]; rfl)
    clear hsize
    go_enter Try.func38, Try.ntmps38
    go_wp2_with (go_at_call 74; refine (impl_isCurve _ _ _ _ _ hx1 hn).mono ?_; rw [hok]; rintro e w2 ⟨rfl, bel2⟩)
    go_ret2
    rw [hr.out]; exact ⟨_, rfl, OI.nil _ _ _, hb1.trans (bel2.mono hb1.size)⟩
  · cases hsg : M.sig zs
    · have hr := Lib.hid (show M.applyR zs xs = ([], 1) by rw [M.applyR, hok, hsg]; rfl)
      clear hsize
      go_enter Try.func38, Try.ntmps38
      go_wp2_with (first | (go_at_call 91; refine (impl_isSignal _ _ _ _ _ (ha.later (hb1.trans (bel2.mono hb1.size))) (by omega)).mono ?_; rw [hsg]; rintro e w' ⟨rfl, rfl⟩) | (go_at_call 74; refine (impl_isCurve _ _ _ _ _ hx1 hn).mono ?_; rw [hok]; rintro e w2 ⟨rfl, bel2⟩))
      go_ret2
      rw [hr.out]; exact ⟨_, rfl, OI.nil _ _ _, hb1.trans (bel2.mono hb1.size)⟩
    · have hr := Lib.hid (show M.applyR zs xs = (M.applyL zs xs, 0) by rw [M.applyR, hok, hsg]; rfl)
      have hsg' := hsg
      rw [M.sig, Bool.and_eq_true, decide_eq_true_iff, List.all_eq_true, hla.out] at hsg'
      have hm4 : m ≤ 4000 := hsg'.1
      have hsm := Lib.hid hsg'.2
      have hok' := Lib.hid hok
      clear hsg'
      go_enter Try.func38, Try.ntmps38
      go_wp2_with (first | (go_at_call 93; refine (impl_size_int64 _ _ _ _).mono ?_; rintro e w' ⟨rfl, rfl⟩) | (go_at_call 91; refine (impl_isSignal _ _ _ _ _ (ha.later (hb1.trans (bel2.mono hb1.size))) (by omega)).mono ?_; rw [hsg]; rintro e w' ⟨rfl, rfl⟩) | (go_at_call 74; refine (impl_isCurve _ _ _ _ _ hx1 hn).mono ?_; rw [hok]; rintro e w2 ⟨rfl, bel2⟩) | (go_at_call 92; refine (impl_zeros _ _ (by omega) (by omega)).mono ?_; rintro e w3 ⟨v3, rfl, own3, bel3⟩; rw [Int.toNat_natCast] at own3; obtain ⟨A3, c3, rfl, _⟩ := own3.shape; rw [List.length_replicate] at *))
      have B2 := hb1.trans (bel2.mono hb1.size)
      have hs2 : w.heap.size + 1 ≤ w2.heap.size := by rw [← hsize]; exact bel2.size
      have hv2 : w2.cell? ⟨w.heap.size, 0, none⟩ = some (.slice A' n c) := by rw [bel2.cell (by simp)]; exact hself
      have own4 := own3.base (show w.heap.size + 1 ≤ w2.heap.size from hs2)
      have bel4 := bel3.mono hs2
      clear own3 bel2 hsize hok hsg hself hx1 hb1
      go_loopw [7, 8, 22] (fun _ _ i wr => ∃ k : Nat, i = .int .i64 k ∧ k ≤ m ∧ OI 2 (w.heap.size + 1) wr (.slice A3 m c3) ((M.applyL zs xs).take k ++ (List.replicate m 0).drop k) ∧ Below (w.heap.size + 1) w2 wr) (fun _ _ i _ => m - (intOf i).toNat)
      case atStart => exact ⟨0, rfl, by omega, by simpa using own4, bel4⟩
      case round =>
        obtain ⟨k, rfl, hk, own, hb⟩ := hrel
        have hbb : Below w.heap.size w wr := B2.trans (hb.mono (by omega))
        have hv : wr.cell? ⟨w.heap.size, 0, none⟩ = some (.slice A' n c) := by rw [hb.cell (by simp)]; exact hv2
        have hsz : w.heap.size + 1 ≤ wr.heap.size := Nat.le_trans hs2 hb.size
        by_cases hlt : k < m
        · obtain ⟨ad, x, rfl, hab, X, hc⟩ := (ha.below hbb).at hlt
          obtain ⟨g, rfl, hB, hgl⟩ := own.form' (by omega)
          have hxr := hx.later hbb
          obtain ⟨f1, f2, f3⟩ := M.apply_facts (M.smp_bd (hsm.out x (List.mem_of_getElem? X.out))) (M.atC_bd hok'.out (t := (k : Int)) (by omega))
          have hf1 := Lib.hid f1
          have hf2 := Lib.hid f2
          clear f1 f2
          go_wp2_with (first | (go_at_call 96; refine (impl_valueAt _ _ _ _ _ _ hxr hok'.out (by omega)).mono ?_; rintro e w3 ⟨rfl, bel3⟩; have own2 := own.below bel3; obtain ⟨z, Z, hc2, hf2, _, _⟩ := own2.at' hlt; have f9 := hf1.out) | (go_at_call 95; refine (impl_floorDiv _ _ _ f3 (by omega) (by omega)).mono ?_; rintro e w' ⟨rfl, rfl⟩) | (go_at_call 94; refine (impl_Wrap _ _).mono ?_; rintro e w' ⟨rfl, rfl⟩))
          go_roundw
          case rel =>
            refine ⟨k + 1, by go_num, by omega, ?_, (hb.trans (bel3.mono hsz)).setCell hB _⟩
            have h3 := own2.stored' k (wrap32 (x * M.atC xs (k : Int) / 65536))
            rw [M.set_mid (by rw [M.applyL_len, List.length_replicate, hla.out]) (M.applyL_at X.out)] at h3
            exact h3
          case measure => simp [intOf]; omega
        · go_wp2
          go_ret2
          rw [List.take_of_length_le (by rw [M.applyL_len, hla.out]; omega), List.drop_eq_nil_of_le (by simp; omega), List.append_nil] at own
          rw [hr.out]; exact ⟨_, rfl, own.base (by omega), hbb⟩
theorem spec_ApplyCurve (A A' : Option Addr) (m d n c : Nat) (zs : List Int) (xs : List (Int × Int)) (w : World) (ha : RI w w.heap.size A m zs) (hx : RA pt 2 w w.heap.size A' n xs) (hm : m ≤ 1000000000) (hn : n ≤ 1000000000) :
    Calls Try.prog 40 #[.slice A m d, .agg #[.slice A' n c]] w (Ret2 2 w (M.applyR zs xs)) := by
  have hla := Lib.hid ha.len
  have hb1 : Below w.heap.size w (w.alloc (.cells #[.slice A' n c] 30)) := (Below.refl _ _).alloc (Nat.le_refl _) _
  have hx1 := hx.later hb1
  have hself := lay_cell w (.slice A' n c) 30
  have hsize : (w.alloc (.cells #[.slice A' n c] 30)).heap.size = w.heap.size + 1 := by simp
  cases hsg : M.sig zs
  · have hr := Lib.hid (show M.applyR zs xs = ([], 1) by rw [M.applyR, hsg, Bool.and_false]; rfl)
    clear hsize
    go_enter Try.func40, Try.ntmps40
    go_wp2_with (go_at_call 97; refine (spec_l03Ok _ _ _ _ _ (ha.later hb1) (by omega)).mono ?_; rw [hsg]; rintro e w' ⟨rfl, rfl⟩)
    go_ret2
    rw [hr.out]; exact ⟨_, rfl, OI.nil _ _ _, hb1⟩
  · cases hok : M.curveOk xs
    · have hr := Lib.hid (show M.applyR zs xs = ([], 1) by rw [M.applyR, hok]; rfl)
      clear hsize
      go_enter Try.func40, Try.ntmps40
      go_wp2_with (first | (go_at_call 97; refine (spec_l03Ok _ _ _ _ _ (ha.later hb1) (by omega)).mono ?_; rw [hsg]; rintro e w' ⟨rfl, rfl⟩) | (go_at_call 71; refine (spec_l25Ok _ _ _ _ _ _ hself hx1 hn).mono ?_; rw [hok]; rintro e w2 ⟨rfl, bel2⟩))
      go_ret2
      rw [hr.out]; exact ⟨_, rfl, OI.nil _ _ _, hb1.trans (bel2.mono hb1.size)⟩
    · have hr := Lib.hid (show M.applyR zs xs = (M.applyL zs xs, 0) by rw [M.applyR, hok, hsg]; rfl)
      have hsg' := hsg
      rw [M.sig, Bool.and_eq_true, decide_eq_true_iff, List.all_eq_true, hla.out] at hsg'
      have hm4 : m ≤ 4000 := hsg'.1
      have hsm := Lib.hid hsg'.2
      have hok' := Lib.hid hok
      clear hsg'
      go_enter Try.func40, Try.ntmps40
      go_wp2_with (first | (go_at_call 97; refine (spec_l03Ok _ _ _ _ _ (ha.later hb1) (by omega)).mono ?_; rw [hsg]; rintro e w' ⟨rfl, rfl⟩) | (go_at_call 71; refine (spec_l25Ok _ _ _ _ _ _ hself hx1 hn).mono ?_; rw [hok]; rintro e w2 ⟨rfl, bel2⟩))
      have B2 := hb1.trans (bel2.mono hb1.size)
      have hs2 : w.heap.size + 1 ≤ w2.heap.size := by rw [← hsize]; exact bel2.size
      have hv2 : w2.cell? ⟨w.heap.size, 0, none⟩ = some (.slice A' n c) := by rw [bel2.cell (by simp)]; exact hself
      clear bel2 hsize hok hsg hself hx1 hb1
      go_loopw [6, 7] (fun v i wr => ∃ k : Nat, i = .int .i64 k ∧ k ≤ m ∧ OI 2 w2.heap.size wr v ((M.applyL zs xs).take k) ∧ Below w2.heap.size w2 wr) (fun _ i _ => m - (intOf i).toNat)
      case atStart => exact ⟨0, rfl, by omega, OI.made _ _, (Below.refl _ _).alloc (Nat.le_refl _) _⟩
      case round =>
        obtain ⟨k, rfl, hk, own, hb⟩ := hrel
        have hbb : Below w.heap.size w wr := B2.trans (hb.mono (by omega))
        have hsz := hb.size
        have hv : wr.cell? ⟨w.heap.size, 0, none⟩ = some (.slice A' n c) := by rw [hb.cell (by simp; omega)]; exact hv2
        have hvl : w.heap.size < wr.heap.size := by omega
        by_cases hlt : k < m
        · obtain ⟨ad, x, rfl, hab, X, hc⟩ := (ha.below hbb).at hlt
          have hxr := (hx.later hbb).later (below_drewN (Below.refl wr.heap.size wr) 1)
          have hadr : ad.block < wr.heap.size := Nat.lt_of_lt_of_le hab hbb.size
          obtain ⟨f1, f2, f3⟩ := M.apply_facts (M.smp_bd (hsm.out x (List.mem_of_getElem? X.out))) (M.atC_bd hok'.out (t := (k : Int)) (by omega))
          have hC := Lib.hid (M.applyL_at (xs := xs) X.out)
          have hk1 : ((M.applyL zs xs).take k).length ≤ 1000000000 := by rw [List.length_take]; omega
          have own0 : wr.ownsRow w2.heap.size 2 1 u6 ((M.applyL zs xs).take k).length (((M.applyL zs xs).take k).map (.int .i64)) := own
          have c1 : ((M.applyL zs xs).take k).length + 1 ≤ maxLen := by unfold maxLen; omega
          have c2 : (((M.applyL zs xs).take k).length + 1) * 8 ≤ 140737488355328 := by omega
          have f2' := Lib.hid f2
          clear f2
          go_wp2
          have hadw : ad.block < w2.heap.size := by omega
          have hvw : w.heap.size < w2.heap.size := by omega
          go_region_held3 (fun w' => Below w2.heap.size w2 w' ∧ w'.cell? (ad.add k) = some (.int .i64 x) ∧ w'.cell? ⟨w.heap.size, 0, none⟩ = some (.slice A' n c))
            (first | exact ⟨below_drewN hb _, hc, hv⟩ | exact ⟨h4, (by rw [h4.cell (by rw [block_of_add]; exact hadw), ← hb.cell (by rw [block_of_add]; exact hadw)]; exact hc), (by rw [h4.cell (by simpa using hvw)]; exact hv2)⟩ | exact ⟨h3, (by rw [h3.cell (by rw [block_of_add]; exact hadw), ← hb.cell (by rw [block_of_add]; exact hadw)]; exact hc), (by rw [h3.cell (by simpa using hvw)]; exact hv2)⟩ | exact ⟨h3.alloc h3.size _, (by rw [(h3.alloc h3.size _).cell (by rw [block_of_add]; exact hadw), ← hb.cell (by rw [block_of_add]; exact hadw)]; exact hc), (by rw [(h3.alloc h3.size _).cell (by simpa using hvw)]; exact hv2)⟩)
            (first
              | (go_at_call 84; refine (spec_l25At _ _ _ _ _ _ hxr hok'.out (by omega)).mono ?_; rintro e w3 ⟨rfl, bel3⟩; have g3 : Below wr.heap.size wr w3 := kept_all bel3 rfl (below_drewN (Below.refl _ _) 1); have own3 := own_below own0 g3; have s3 := g3.size; have h3 : Below w2.heap.size w2 w3 := hb.trans (g3.mono hsz))
              | (go_at_call 99; refine (spec_l25Div _ _ _ f3 (by omega) (by omega)).mono ?_; rintro e w' ⟨rfl, rfl⟩)
              | (go_at_call 98; refine (spec_l01Wrap _ _).mono ?_; rintro e w' ⟨rfl, rfl⟩)
              | (refine step_push1 (o := ⟨some 35, _, _, _, _, _⟩) ei_i64 rfl (.tmp 22) (.tmp 34) rfl (World.ownsRow.alloc own3 _) rfl rfl (cell_alloc1 _ _ _) rfl c1 c2 (Nat.le_trans (Nat.le_trans hsz s3) (by simp)) ?_; intro v1 w1 own1 gr1 bel1; have h4 : Below w2.heap.size w2 w1 := (h3.alloc h3.size _).trans bel1))
          go_wp2
          go_roundw
          case rel => exact ⟨k + 1, by go_num, by omega, by rw [M.take_at hC.out]; exact OI.push own1, h4⟩
          case measure => simp [intOf]; omega
        · go_wp2
          go_ret2
          rw [List.take_of_length_le (by rw [M.applyL_len, hla.out]; omega)] at own
          rw [hr.out]; exact ⟨_, rfl, own.base (by omega), hbb⟩
end Go.Proofs.Ytckihflfjecpbaa
