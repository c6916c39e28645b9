import Derived.Test.YtckihflfjecpbaaW36
namespace Go.Proofs.Ytckihflfjecpbaa
open Go.RowKit
set_option maxHeartbeats 1000000
set_option maxRecDepth 100000
def M.thinGo (xs : List (Int × Int)) (k : Nat) : List (Int × Int) :=
  if h : k < xs.length then (if M.idle xs k then M.thinGo (M.dropP xs k) 0 else M.thinGo xs (k + 1)) else xs
termination_by (xs.length, xs.length - k)
decreasing_by
  · rw [M.dropP_len xs h]
    exact Prod.Lex.left _ _ (by omega)
  · exact Prod.Lex.right _ (by omega)
def M.thinR (xs : List (Int × Int)) : List (Int × Int) × Int := if M.curveOk xs then (M.thinGo xs 0, 0) else ([], 1)
theorem M.thin_yes {xs : List (Int × Int)} {k : Nat} (h : k < xs.length) (hi : M.idle xs k = true) : M.thinGo xs k = M.thinGo (M.dropP xs k) 0 := by
  rw [M.thinGo, dif_pos h, if_pos hi]
theorem M.thin_no {xs : List (Int × Int)} {k : Nat} (h : k < xs.length) (hi : M.idle xs k = false) : M.thinGo xs k = M.thinGo xs (k + 1) := by
  rw [M.thinGo, dif_pos h, if_neg (by rw [hi]; exact Bool.false_ne_true)]
theorem M.thin_end {xs : List (Int × Int)} {k : Nat} (h : ¬ k < xs.length) : M.thinGo xs k = xs := by
  rw [M.thinGo, dif_neg h]
theorem M.thin_one {xs : List (Int × Int)} {k : Nat} (h : xs.length ≤ 1) : M.thinGo xs k = xs := by
  by_cases hk : k < xs.length
  · rw [M.thin_no hk (by rw [M.idle, decide_eq_false (by omega)]; rfl), M.thin_end (by omega)]
  · exact M.thin_end hk
theorem M.idle_len {xs : List (Int × Int)} {k : Nat} (h : M.idle xs k = true) : 1 < xs.length := by
  rw [M.idle, Bool.and_eq_true, decide_eq_true_iff] at h
  exact h.1
theorem M.idle_rend {xs : List (Int × Int)} {k : Nat} (h : M.idle xs k = true) : M.rend (M.dropP xs k) 4001 = M.rend xs 4001 := by
  rw [M.idle, Bool.and_eq_true, decide_eq_true_iff, decide_eq_true_iff] at h
  exact h.2
theorem M.thin_len : ∀ (xs : List (Int × Int)) (k : Nat), (M.thinGo xs k).length ≤ xs.length := by
  intro xs k
  induction xs, k using M.thinGo.induct with
  | case1 xs k hk hi ih => rw [M.thin_yes hk hi]; rw [M.dropP_len xs hk] at ih; omega
  | case2 xs k hk hi ih => rw [M.thin_no hk (by simpa using hi)]; exact ih
  | case3 xs k hk => rw [M.thin_end hk]; exact Nat.le_refl _
/-- How a list stands in the course of the thinning of xs. -/
def M.thinIn (xs cur : List (Int × Int)) (k : Nat) : Prop := M.curveOk cur = true ∧ M.thinGo cur k = M.thinGo xs 0 ∧ M.rend cur 4001 = M.rend xs 4001
theorem M.thinIn_yes {xs cur : List (Int × Int)} {k : Nat} (h : M.thinIn xs cur k) (hk : k < cur.length) (hi : M.idle cur k = true) : M.thinIn xs (M.dropP cur k) 0 :=
  ⟨M.dropP_ok h.1 hk (M.idle_len hi), by rw [← M.thin_yes hk hi]; exact h.2.1, by rw [M.idle_rend hi]; exact h.2.2⟩
theorem M.thinIn_no {xs cur : List (Int × Int)} {k : Nat} (h : M.thinIn xs cur k) (hk : k < cur.length) (hi : M.idle cur k = false) : M.thinIn xs cur (k + 1) :=
  ⟨h.1, by rw [← M.thin_no hk hi]; exact h.2.1, h.2.2⟩
def sliceLen : Value → Nat
  | .slice _ n _ => n
  | _ => 0
def lenAt (w : World) (a : Addr) : Nat := match w.cell? a with
  | some v => sliceLen v
  | none => 0
theorem lenAt_eq {w : World} {a : Addr} {A : Option Addr} {n c : Nat} (h : w.cell? a = some (.slice A n c)) : lenAt w a = n := by simp [lenAt, h, sliceLen]
theorem impl_same (A A' : Option Addr) (n c n' c' : Nat) (xs ys : List Int) (w : World) (hx : RI w w.heap.size A n xs) (hy : RI w w.heap.size A' n' ys) (hn : n ≤ 1000000000) :
    Calls Try.prog 100 #[.slice A n c, .slice A' n' c'] w fun e w' => e = .returned (.bool (decide (xs = ys))) ∧ Below w.heap.size w w' := by
  have hl := Lib.hid hx.len
  have hl' := Lib.hid hy.len
  by_cases hnn : n = n'
  · subst hnn
    go_enter Try.func100, Try.ntmps100
    go_wp2
    go_loop [5, 6, 14] (fun _ _ i => ∃ k : Nat, i = .int .i64 k ∧ k ≤ n ∧ Hid (xs.take k = ys.take k)) (fun _ _ i => n - (intOf i).toNat)
    case atStart => exact ⟨0, rfl, by omega, Lib.hid (by simp)⟩
    case round =>
      obtain ⟨k, rfl, hk, H⟩ := hrel
      by_cases hlt : k < n
      · obtain ⟨ad, x, rfl, hab, X, hc⟩ := hx.at hlt
        obtain ⟨ad', y, rfl, hab', Y, hc'⟩ := hy.at hlt
        by_cases hxy : x = y
        · subst hxy
          go_wp2
          go_round
          case rel => exact ⟨k + 1, by go_num, by omega, Lib.hid (by rw [M.take_at X.out, M.take_at Y.out, H.out])⟩
          case measure => simp [intOf]; omega
        · have hne : (x != y) = true := by simpa using hxy
          have hno := Lib.hid (show ¬ xs = ys from fun e => by have h1 := X.out; rw [e, Y.out] at h1; injection h1 with h1; exact hxy h1.symm)
          go_wp2
          go_ret
          exact ⟨ret_bool (by simp [hno.out]), Below.refl _ _⟩
      · go_wp2
        go_ret
        have h1 : xs = ys := by have := H.out; rwa [List.take_of_length_le (by rw [hl.out]; omega), List.take_of_length_le (by rw [hl'.out]; omega)] at this
        exact ⟨ret_bool (by simp [h1]), Below.refl _ _⟩
  · have hne := Lib.hid (show ¬ xs = ys from fun e => hnn (by rw [← hl.out, ← hl'.out, e]))
    go_enter Try.func100, Try.ntmps100
    go_wp2
    go_ret
    exact ⟨ret_bool (by simp [hne.out]), Below.refl _ _⟩
theorem spec_ThinCurve (A : Option Addr) (n c : Nat) (xs : List (Int × Int)) (w : World) (hx : RA pt 2 w w.heap.size A n xs) (hn : n ≤ 1000000000) (hc : n ≤ c) (hm : c ≤ maxLen) :
    Calls Try.prog 44 #[.agg #[.slice A n c]] w (RetC 34 w (M.thinR xs)) := by
  have hl := Lib.hid hx.len
  have hb2 : Below w.heap.size w ((w.alloc (.cells #[.slice A n c] 30)).alloc (.cells #[.slice none 0 0] 30)) := ((Below.refl _ _).alloc (Nat.le_refl _) _).alloc (by simp) _
  have hx1 := hx.later hb2
  have hself : ((w.alloc (.cells #[.slice A n c] 30)).alloc (.cells #[.slice none 0 0] 30)).cell? ⟨w.heap.size, 0, none⟩ = some (.slice A n c) := by simp [go_sem]
  cases hok : M.curveOk xs
  · have hr := Lib.hid (show M.thinR xs = ([], 1) by rw [M.thinR, hok]; rfl)
    go_enter Try.func44, Try.ntmps44
    go_wp2_with (go_at_call 71; refine (spec_l25Ok _ _ _ _ _ _ hself hx1 hn).mono ?_; rw [hok]; rintro e w2 ⟨rfl, bel2⟩; have hq : w2.cell? ⟨w.heap.size + 1, 0, none⟩ = some (.slice none 0 0) := (by rw [bel2.cell (by simp)]; simp [go_sem]); have hf : w2.frozen? ⟨w.heap.size + 1, 0, none⟩ = false := (by rw [bel2.frozen (by simp)]; simp [go_sem]))
    refine bodyPost_ret (v := .tuple #[.agg #[.slice none 0 0], .int .i64 1]) (by simp [results, Try.results44, go_sem, hq, hf]) rfl ?_
    rw [hr.out]
    exact ⟨_, rfl, OA.nil _, (hb2.trans (bel2.mono hb2.size)).setCell (by simp) _⟩
  · have hr := Lib.hid (show M.thinR xs = (M.thinGo xs 0, 0) by rw [M.thinR, hok]; rfl)
    have hcl : n ≤ 24 := by have := (M.curve_len hok).2; rw [hl.out] at this; exact this
    have H0 := Lib.hid (show M.thinIn xs xs 0 from ⟨hok, rfl, rfl⟩)
    have hmk : ∀ w : World, (w.alloc (.cells #[] 34)).ownsRow w.heap.size 34 2 (.slice (some ⟨w.heap.size, 0, none⟩) 0 0) 0 [] := fun w => World.ownsRow_made _ _ _ (Nat.le_refl _) (by simp [maxLen]) rfl
    have HMK := Lib.hid hmk
    clear hmk
    go_enter Try.func44, Try.ntmps44
    go_wp2_with (first | (go_at_call 71; refine (spec_l25Ok _ _ _ _ _ _ hself hx1 hn).mono ?_; rw [hok]; rintro e w2 ⟨rfl, bel2⟩; have hq : w2.cell? ⟨w.heap.size + 1, 0, none⟩ = some (.slice none 0 0) := (by rw [bel2.cell (by simp)]; simp [go_sem]); have hf : w2.frozen? ⟨w.heap.size + 1, 0, none⟩ = false := (by rw [bel2.frozen (by simp)]; simp [go_sem]); have hv2 : w2.cell? ⟨w.heap.size, 0, none⟩ = some (.slice A n c) := (by rw [bel2.cell (by simp; omega)]; exact hself); have hs2 : w.heap.size + 1 + 1 ≤ w2.heap.size := (by have := bel2.size; simpa using this); have hz2 : w.heap.size < w2.heap.size := (by omega); have B2 := hb2.trans (bel2.mono hb2.size); have own0 := HMK.out w2; have hb0 : Below w2.heap.size w2 (w2.alloc (.cells #[] 34)) := (Below.refl _ _).alloc (Nat.le_refl _) _) | (at_builtin; refine wpList_cat ei_pt rfl _ _ rfl own0 rfl ((hx.later B2).reads.below hb0) rfl (pts_oneCell _) (by unfold maxLen; omega) (by omega) hb0.size ?_; intro v1 w3 own1 gr1 bel1; rw [Nat.zero_add, List.nil_append] at own1; obtain ⟨A1, c1, rfl, -⟩ := own_shape own1))
    have own3 : OA pt 34 2 w2.heap.size w3.heap.size w3 (.slice A1 n c1) xs := by unfold OA; rw [hl.out]; exact OX.of_own own1
    have B3 := hb0.trans bel1
    clear own0 own1 hb0 gr1 bel1 bel2 hok hx1 hb2 hself
    go_loopw [4, 5] (fun v i wr => ∃ k : Nat, i = .int .i64 k ∧ (∃ cur, Hid (M.thinIn xs cur k) ∧ OA pt 34 2 w2.heap.size wr.heap.size wr v cur ∧ k ≤ cur.length) ∧ Below w2.heap.size w2 wr) (fun v i _ => sliceLen v * 100 - (intOf i).toNat)
    case atStart => exact ⟨0, rfl, ⟨xs, H0, own3, by omega⟩, B3⟩
    case round =>
      obtain ⟨k, rfl, ⟨cur, H, own, hk⟩, hb⟩ := hrel
      obtain ⟨A4, c4, rfl, hc4, hm4, -⟩ := own_shape own.1
      have hl4 := (M.curve_len H.out.1).2
      have hsb := hb.size
      by_cases hlt : k < cur.length
      · cases hid : M.idle cur k
        · have hid' := Lib.hid hid
          have H2 := Lib.hid (M.thinIn_no H.out hlt hid)
          go_wp2_with (go_at_call 101; refine (spec_l25Idle _ _ _ _ _ _ own.ra H.out.1 hlt hc4 hm4).mono ?_; rw [hid'.out]; rintro e w5 ⟨rfl, bel5⟩)
          go_roundw
          case rel => exact ⟨k + 1, by go_num, ⟨cur, H2, (own.below bel5 (Nat.le_refl _)).wide (Nat.le_refl _) bel5.size, by omega⟩, hb.trans (bel5.mono hsb)⟩
          case measure => simp [intOf, sliceLen]; omega
        · have hid' := Lib.hid hid
          have H2 := Lib.hid (M.thinIn_yes H.out hlt hid)
          have hdl := Lib.hid (M.dropP_len cur hlt)
          go_wp2_with (first | (go_at_call 101; refine (spec_l25Idle _ _ _ _ _ _ own.ra H.out.1 hlt hc4 hm4).mono ?_; rw [hid'.out]; rintro e w5 ⟨rfl, bel5⟩; have ra5 := own.ra.later bel5) | (go_at_call 80; refine (spec_l25Drop _ _ _ _ _ _ ra5 (by omega) hlt hc4 hm4).mono ?_; rintro e w6 ⟨v6, rfl, own6, bel6⟩; obtain ⟨A6, c6, rfl, -⟩ := own6.shape))
          go_roundw
          case rel => exact ⟨0, rfl, ⟨_, H2, own6.wide (by have := bel5.size; omega) (Nat.le_refl _), by omega⟩, hb.trans ((bel_trans bel5 bel6).mono hsb)⟩
          case measure => simp [intOf, sliceLen, hdl.out]; omega
      · have hfin := Lib.hid (show M.thinGo xs 0 = cur by rw [← H.out.2.1]; exact M.thin_end hlt)
        have kq : wr.cell? ⟨w.heap.size + 1, 0, none⟩ = some (.slice none 0 0) := by rw [hb.cell (by simp; omega)]; exact hq
        have kf : wr.frozen? ⟨w.heap.size + 1, 0, none⟩ = false := by rw [hb.frozen (by simp; omega)]; exact hf
        go_wp2
        refine bodyPost_ret (v := .tuple #[.agg #[.slice A4 cur.length c4], .int .i64 0]) (by simp [results, Try.results44, go_sem, kq, kf]) rfl ?_
        rw [hr.out, hfin.out]
        exact ⟨_, rfl, (own.mid (Mid.cell wr (w.heap.size + 1) 0 (.slice A4 cur.length c4)) (.inr (by omega)) (Nat.le_refl _)).wide (by omega) (by simp), (B2.trans (hb.mono (by omega))).setCell (by simp) _⟩
end Go.Proofs.Ytckihflfjecpbaa
