import Derived.Test.YtckihflfjecpbaaW68
namespace Go.Proofs.Ytckihflfjecpbaa
open Go.RowKit
set_option maxHeartbeats 2000000
set_option maxRecDepth 100000
def M.sortT (xs : List Clip) : Prop := ∀ (i j : Nat) (y z : Clip), i ≤ j → xs[i]? = some y → xs[j]? = some z → y.2.2.2.1 ≤ z.2.2.2.1
theorem M.putK_back {xs : List Clip} {a : Int} {k : Nat} (hs : M.sortT xs) (hk : k ≤ xs.length) (h : ∀ j, k ≤ j → ∀ z, xs[j]? = some z → a < z.2.2.2.1) (h1 : 0 < k → ∀ z, xs[k - 1]? = some z → z.2.2.2.1 ≤ a) : M.putK xs a = k := by
  have hlow : ∀ j, j < k → ∀ z, xs[j]? = some z → z.2.2.2.1 ≤ a := by
    intro j hj z hz
    have hlt : k - 1 < xs.length := by omega
    have h2 := h1 (by omega) _ (List.getElem?_eq_getElem hlt)
    exact Int.le_trans (hs j (k - 1) z _ (by omega) hz (List.getElem?_eq_getElem hlt)) h2
  rcases Nat.lt_or_ge k xs.length with hlt | hge
  · exact M.putK_mid (List.getElem?_eq_getElem hlt) (h k (Nat.le_refl _) _ (List.getElem?_eq_getElem hlt)) hlow
  · obtain rfl : k = xs.length := by omega
    exact M.putK_end hlow
theorem addr_add0 (a : Addr) : a.add 0 = a := by
  unfold Addr.add
  rcases a with ⟨b, o, sp⟩
  cases sp <;> simp
theorem spec_l23Put (A : Option Addr) (n c : Nat) (xs : List Clip) (x0 x1 x2 x3 x4 : Int) (w : World) (hx : RA cl 5 w w.heap.size A n xs) (hn : n ≤ 100000000) (hc : n ≤ c) (hm : c ≤ maxLen) (hso : M.sortT xs) :
    Calls Try.prog 143 #[.slice A n c, .agg #[.int .i64 x0, .int .i64 x1, .int .i64 x2, .int .i64 x3, .int .i64 x4]] w fun e w' => ∃ v, e = .returned (.tuple #[v, .int .i64 (M.putK xs x3)]) ∧ OA cl 78 5 w.heap.size w'.heap.size w' v (M.putP xs (x0, x1, x2, x3, x4)) ∧ Below w.heap.size w w' := by
  have hl := Lib.hid hx.len
  unfold maxLen at hm
  obtain ⟨W0, hW0⟩ : ∃ W0, W0 = w.alloc (.cells #[.int .i64 x0, .int .i64 x1, .int .i64 x2, .int .i64 x3, .int .i64 x4] 78) := ⟨_, rfl⟩
  have hb0 : Below w.heap.size w W0 := by rw [hW0]; exact (Below.refl _ _).alloc (Nat.le_refl _) _
  have hs0 : W0.heap.size = w.heap.size + 1 := by rw [hW0]; simp
  have c10 : W0.cell? ⟨w.heap.size, 0, none⟩ = some (.int .i64 x0) := by rw [hW0, cell_of_row _ w.heap.size 0 _ 78 (0, 0) (heap_alloc_new w _)]; rfl
  have c11 : W0.cell? ⟨w.heap.size, 1, none⟩ = some (.int .i64 x1) := by rw [hW0, cell_of_row _ w.heap.size 1 _ 78 (0, 0) (heap_alloc_new w _)]; rfl
  have c12 : W0.cell? ⟨w.heap.size, 2, none⟩ = some (.int .i64 x2) := by rw [hW0, cell_of_row _ w.heap.size 2 _ 78 (0, 0) (heap_alloc_new w _)]; rfl
  have c13 : W0.cell? ⟨w.heap.size, 3, none⟩ = some (.int .i64 x3) := by rw [hW0, cell_of_row _ w.heap.size 3 _ 78 (0, 0) (heap_alloc_new w _)]; rfl
  have c14 : W0.cell? ⟨w.heap.size, 4, none⟩ = some (.int .i64 x4) := by rw [hW0, cell_of_row _ w.heap.size 4 _ 78 (0, 0) (heap_alloc_new w _)]; rfl
  have HW0 := Lib.hid hW0
  have HSO := Lib.hid hso
  clear hW0 hso
  go_enter Try.func143, Try.ntmps143
  go_wp2
  rw [← HW0.out]
  go_loopw [6] (fun i wr => ∃ k : Nat, i = .int .i64 k ∧ k ≤ n ∧ Hid (∀ j, k ≤ j → ∀ z, xs[j]? = some z → x3 < z.2.2.2.1) ∧ Below W0.heap.size W0 wr) (fun i _ => (intOf i).toNat)
  case atStart => exact ⟨n, rfl, Nat.le_refl _, Lib.hid (fun j hj z hz => by have := (List.getElem?_eq_some_iff.1 hz).1; have := hl.out; omega), Below.refl _ _⟩
  case round =>
    obtain ⟨k, rfl, hk, H, hb⟩ := hrel
    have hbb : Below w.heap.size w wr := hb0.trans (hb.mono (by omega))
    have hsz := hb.size
    rw [hs0] at hsz
    have d1 : wr.cell? ⟨w.heap.size, 3, none⟩ = some (.int .i64 x3) := by rw [hb.cell (by simp; omega)]; exact c13
    by_cases hlt : 0 < k
    · obtain ⟨b, o, ⟨p0, p1, p2, p3, p4⟩, rfl, hab, X, hcc⟩ := (hx.below hbb).at cl_len (by decide) (k := k - 1) (by omega)
      have hc3 : wr.cell? ⟨b, o + (k - 1) * 5 + 3, none⟩ = some (.int .i64 p3) := hcc 3 _ rfl
      clear hcc
      have hkk : IntKind.i64.wrap ((k : Int) - 1) = ((k - 1 : Nat) : Int) := by rw [IntWalk.i64_in _ (by omega)]; omega
      have hbr : b < wr.heap.size := Nat.lt_of_lt_of_le hab hbb.size
      have hd0 : decide (0 < k) = true := by simpa using hlt
      by_cases hle : x3 < p3
      · have H2 : Hid (∀ j, k - 1 ≤ j → ∀ z, xs[j]? = some z → x3 < z.2.2.2.1) := fun j hj z hz => by
          rcases Nat.lt_or_ge j k with h | h
          · obtain rfl : j = k - 1 := by omega
            rw [X.out] at hz
            injection hz with hz
            subst hz
            exact hle
          · exact H.out j h z hz
        have hd1 : decide (x3 < p3) = true := by simpa using hle
        go_wp2
        go_quiet (fail)
        go_wp2
        go_roundw
        case rel => exact ⟨k - 1, by first | rfl | go_num | (rw [hkk]), by omega, H2, below_drewN hb _⟩
        case measure => first | go_num | omega | (simp only [intOf]; omega)
      · have hd1 : decide (x3 < p3) = false := by simpa using hle
        have hK := Lib.hid (M.putK_back HSO.out (by have := hl.out; omega) H.out (fun _ z hz => by rw [X.out] at hz; injection hz with hz; subst hz; exact (by omega : p3 ≤ x3)))
        clear hkk
        go_wp2
        go_quiet (fail)
        obtain ⟨wq, hwq⟩ : ∃ wq : World, wq = wr.drewN nq := ⟨_, rfl⟩
        have bq : Below w.heap.size w wq := by rw [hwq]; exact below_drewN hbb _
        have bq0 : Below W0.heap.size W0 wq := by rw [hwq]; exact below_drewN hb _
        have sq : w.heap.size + 1 ≤ wq.heap.size := by have := bq0.size; omega
        have t10 : wq.cell? ⟨w.heap.size, 0, none⟩ = some (.int .i64 x0) := by rw [bq0.cell (by simp; omega)]; exact c10
        have t11 : wq.cell? ⟨w.heap.size, 1, none⟩ = some (.int .i64 x1) := by rw [bq0.cell (by simp; omega)]; exact c11
        have t12 : wq.cell? ⟨w.heap.size, 2, none⟩ = some (.int .i64 x2) := by rw [bq0.cell (by simp; omega)]; exact c12
        have t13 : wq.cell? ⟨w.heap.size, 3, none⟩ = some (.int .i64 x3) := by rw [bq0.cell (by simp; omega)]; exact c13
        have t14 : wq.cell? ⟨w.heap.size, 4, none⟩ = some (.int .i64 x4) := by rw [bq0.cell (by simp; omega)]; exact c14
        have hP := Lib.hid (show M.putP xs (x0, x1, x2, x3, x4) = xs.take k ++ [(x0, x1, x2, x3, x4)] ++ xs.drop k by rw [M.putP, hK.out]; rfl)
        have h0 : (wq.alloc (.cells #[] 78)).ownsRow wq.heap.size 78 5 (.slice (some ⟨wq.heap.size, 0, none⟩) 0 0) 0 [] := World.ownsRow_made _ _ _ (Nat.le_refl _) (by simp [maxLen]) rfl
        have hba : Below wq.heap.size wq (wq.alloc (.cells #[] 78)) := (Below.refl _ _).alloc (Nat.le_refl _) _
        have bw0 := bel_trans bq hba
        have r1 := (hx.head cl_len hk).reads.below bw0
        have r2 := (hx.cut cl_len (k := k) hk hc).reads
        have fin : ∀ v (w2 : World), w2.ownsRow wq.heap.size 78 5 v (k + 1 + (n - k)) (((xs.take k).flatMap cl ++ cl (x0, x1, x2, x3, x4)) ++ (xs.drop k).flatMap cl) → OA cl 78 5 w.heap.size w2.heap.size w2 v (M.putP xs (x0, x1, x2, x3, x4)) := by
          intro v w2 h
          have e1 : ((xs.take k).flatMap cl ++ cl (x0, x1, x2, x3, x4)) ++ (xs.drop k).flatMap cl = (M.putP xs (x0, x1, x2, x3, x4)).flatMap cl := by rw [hP.out, List.flatMap_append, List.flatMap_append, List.flatMap_cons, List.flatMap_nil, List.append_nil]
          have e2 : (M.putP xs (x0, x1, x2, x3, x4)).length = k + 1 + (n - k) := by rw [hP.out, List.length_append, List.length_append, List.length_take, List.length_drop, hl.out, Nat.min_eq_left hk]; rfl
          unfold OA
          rw [e2]
          rw [e1] at h
          exact (OX.of_own h).wide (by omega) (Nat.le_refl _)
        have FIN := Lib.hid fin
        rw [← hwq]
        clear fin hwq hP
        by_cases hck : c = k
        · rw [if_pos hck] at r2
          subst hck
          obtain rfl : n = c := by omega
          rw [Nat.sub_self] at r2 FIN
          have tok1 : True := trivial
          go_wp2_with (first | (at_builtin; have _t := tok1; refine wpList_cat ei_cl rfl _ _ rfl h0 rfl r1 rfl (cls_oneCell _) (by unfold maxLen; omega) (by omega) hba.size ?_; intro v1 w1 own1 gr1 bel1; rw [Nat.zero_add, List.nil_append] at own1; obtain ⟨A1, c1', rfl, -⟩ := own_shape own1; have hb1 := hba.trans bel1; have s1 := hb1.size; have k10 : w1.cell? ⟨w.heap.size, 0, none⟩ = some (.int .i64 x0) := (by rw [hb1.cell (by simp; omega)]; exact t10); have k11 : w1.cell? ⟨w.heap.size, 1, none⟩ = some (.int .i64 x1) := (by rw [hb1.cell (by simp; omega)]; exact t11); have k12 : w1.cell? ⟨w.heap.size, 2, none⟩ = some (.int .i64 x2) := (by rw [hb1.cell (by simp; omega)]; exact t12); have k13 : w1.cell? ⟨w.heap.size, 3, none⟩ = some (.int .i64 x3) := (by rw [hb1.cell (by simp; omega)]; exact t13); have k14 : w1.cell? ⟨w.heap.size, 4, none⟩ = some (.int .i64 x4) := (by rw [hb1.cell (by simp; omega)]; exact t14); clear tok1 _t) | (at_builtin; have _t := own1; refine wpList_push ei_cl #[.int .i64 x0, .int .i64 x1, .int .i64 x2, .int .i64 x3, .int .i64 x4] rfl _ _ rfl own1 rfl rfl rfl (by simp [Value.oneCell']) (by unfold maxLen; omega) (by omega) hb1.size ?_; intro v2 w2 own2 gr2 bel2; obtain ⟨A2, c2', rfl, -⟩ := own_shape own2; have hb2 := hb1.trans bel2; clear own1 _t) | (at_builtin; refine wpList_cat ei_cl rfl _ _ rfl own2 rfl (r2.below (bel_trans bq hb2)) rfl (cls_oneCell _) (by unfold maxLen; omega) (by omega) hb2.size ?_; intro v3 w3 own3 gr3 bel3))
          refine bodyPost_ret (v := .tuple #[v3, .int .i64 n]) (by simp [results, Try.results143, go_sem]) rfl ?_
          rw [hK.out]
          exact ⟨_, rfl, FIN.out _ _ own3, bel_trans bq (hb2.trans bel3)⟩
        · rw [if_neg hck, Option.map_some, Addr.add_lit] at r2
          have tok1 : True := trivial
          go_wp2_with (first | (at_builtin; have _t := tok1; refine wpList_cat ei_cl rfl _ _ rfl h0 rfl r1 rfl (cls_oneCell _) (by unfold maxLen; omega) (by omega) hba.size ?_; intro v1 w1 own1 gr1 bel1; rw [Nat.zero_add, List.nil_append] at own1; obtain ⟨A1, c1', rfl, -⟩ := own_shape own1; have hb1 := hba.trans bel1; have s1 := hb1.size; have k10 : w1.cell? ⟨w.heap.size, 0, none⟩ = some (.int .i64 x0) := (by rw [hb1.cell (by simp; omega)]; exact t10); have k11 : w1.cell? ⟨w.heap.size, 1, none⟩ = some (.int .i64 x1) := (by rw [hb1.cell (by simp; omega)]; exact t11); have k12 : w1.cell? ⟨w.heap.size, 2, none⟩ = some (.int .i64 x2) := (by rw [hb1.cell (by simp; omega)]; exact t12); have k13 : w1.cell? ⟨w.heap.size, 3, none⟩ = some (.int .i64 x3) := (by rw [hb1.cell (by simp; omega)]; exact t13); have k14 : w1.cell? ⟨w.heap.size, 4, none⟩ = some (.int .i64 x4) := (by rw [hb1.cell (by simp; omega)]; exact t14); clear tok1 _t) | (at_builtin; have _t := own1; refine wpList_push ei_cl #[.int .i64 x0, .int .i64 x1, .int .i64 x2, .int .i64 x3, .int .i64 x4] rfl _ _ rfl own1 rfl rfl rfl (by simp [Value.oneCell']) (by unfold maxLen; omega) (by omega) hb1.size ?_; intro v2 w2 own2 gr2 bel2; obtain ⟨A2, c2', rfl, -⟩ := own_shape own2; have hb2 := hb1.trans bel2; clear own1 _t) | (at_builtin; refine wpList_cat ei_cl rfl _ _ rfl own2 rfl (r2.below (bel_trans bq hb2)) rfl (cls_oneCell _) (by unfold maxLen; omega) (by omega) hb2.size ?_; intro v3 w3 own3 gr3 bel3))
          refine bodyPost_ret (v := .tuple #[v3, .int .i64 k]) (by simp [results, Try.results143, go_sem]) rfl ?_
          rw [hK.out]
          exact ⟨_, rfl, FIN.out _ _ own3, bel_trans bq (hb2.trans bel3)⟩
    · have hd0 : decide (0 < k) = false := by simpa using hlt
      have hK := Lib.hid (M.putK_back HSO.out (by have := hl.out; omega) H.out (fun h => absurd h hlt))
      go_wp2
      go_quiet (fail)
      obtain ⟨wq, hwq⟩ : ∃ wq : World, wq = wr.drewN nq := ⟨_, rfl⟩
      have bq : Below w.heap.size w wq := by rw [hwq]; exact below_drewN hbb _
      have bq0 : Below W0.heap.size W0 wq := by rw [hwq]; exact below_drewN hb _
      have sq : w.heap.size + 1 ≤ wq.heap.size := by have := bq0.size; omega
      have t10 : wq.cell? ⟨w.heap.size, 0, none⟩ = some (.int .i64 x0) := by rw [bq0.cell (by simp; omega)]; exact c10
      have t11 : wq.cell? ⟨w.heap.size, 1, none⟩ = some (.int .i64 x1) := by rw [bq0.cell (by simp; omega)]; exact c11
      have t12 : wq.cell? ⟨w.heap.size, 2, none⟩ = some (.int .i64 x2) := by rw [bq0.cell (by simp; omega)]; exact c12
      have t13 : wq.cell? ⟨w.heap.size, 3, none⟩ = some (.int .i64 x3) := by rw [bq0.cell (by simp; omega)]; exact c13
      have t14 : wq.cell? ⟨w.heap.size, 4, none⟩ = some (.int .i64 x4) := by rw [bq0.cell (by simp; omega)]; exact c14
      have hP := Lib.hid (show M.putP xs (x0, x1, x2, x3, x4) = xs.take k ++ [(x0, x1, x2, x3, x4)] ++ xs.drop k by rw [M.putP, hK.out]; rfl)
      have h0 : (wq.alloc (.cells #[] 78)).ownsRow wq.heap.size 78 5 (.slice (some ⟨wq.heap.size, 0, none⟩) 0 0) 0 [] := World.ownsRow_made _ _ _ (Nat.le_refl _) (by simp [maxLen]) rfl
      have hba : Below wq.heap.size wq (wq.alloc (.cells #[] 78)) := (Below.refl _ _).alloc (Nat.le_refl _) _
      have bw0 := bel_trans bq hba
      have r1 := (hx.head cl_len hk).reads.below bw0
      have r2 := (hx.cut cl_len (k := k) hk hc).reads
      have fin : ∀ v (w2 : World), w2.ownsRow wq.heap.size 78 5 v (k + 1 + (n - k)) (((xs.take k).flatMap cl ++ cl (x0, x1, x2, x3, x4)) ++ (xs.drop k).flatMap cl) → OA cl 78 5 w.heap.size w2.heap.size w2 v (M.putP xs (x0, x1, x2, x3, x4)) := by
        intro v w2 h
        have e1 : ((xs.take k).flatMap cl ++ cl (x0, x1, x2, x3, x4)) ++ (xs.drop k).flatMap cl = (M.putP xs (x0, x1, x2, x3, x4)).flatMap cl := by rw [hP.out, List.flatMap_append, List.flatMap_append, List.flatMap_cons, List.flatMap_nil, List.append_nil]
        have e2 : (M.putP xs (x0, x1, x2, x3, x4)).length = k + 1 + (n - k) := by rw [hP.out, List.length_append, List.length_append, List.length_take, List.length_drop, hl.out, Nat.min_eq_left hk]; rfl
        unfold OA
        rw [e2]
        rw [e1] at h
        exact (OX.of_own h).wide (by omega) (Nat.le_refl _)
      have FIN := Lib.hid fin
      rw [← hwq]
      clear fin hwq hP
      obtain rfl : k = 0 := by omega
      rcases A with _ | ad
      · have r2 : Reads w w.heap.size 5 none (n - 0) ((xs.drop 0).flatMap cl) := by simpa using r2
        have tok1 : True := trivial
        go_wp2_with (first | (at_builtin; have _t := tok1; refine wpList_cat ei_cl rfl _ _ rfl h0 rfl r1 rfl (cls_oneCell _) (by unfold maxLen; omega) (by omega) hba.size ?_; intro v1 w1 own1 gr1 bel1; rw [Nat.zero_add, List.nil_append] at own1; obtain ⟨A1, c1', rfl, -⟩ := own_shape own1; have hb1 := hba.trans bel1; have s1 := hb1.size; have k10 : w1.cell? ⟨w.heap.size, 0, none⟩ = some (.int .i64 x0) := (by rw [hb1.cell (by simp; omega)]; exact t10); have k11 : w1.cell? ⟨w.heap.size, 1, none⟩ = some (.int .i64 x1) := (by rw [hb1.cell (by simp; omega)]; exact t11); have k12 : w1.cell? ⟨w.heap.size, 2, none⟩ = some (.int .i64 x2) := (by rw [hb1.cell (by simp; omega)]; exact t12); have k13 : w1.cell? ⟨w.heap.size, 3, none⟩ = some (.int .i64 x3) := (by rw [hb1.cell (by simp; omega)]; exact t13); have k14 : w1.cell? ⟨w.heap.size, 4, none⟩ = some (.int .i64 x4) := (by rw [hb1.cell (by simp; omega)]; exact t14); clear tok1 _t) | (at_builtin; have _t := own1; refine wpList_push ei_cl #[.int .i64 x0, .int .i64 x1, .int .i64 x2, .int .i64 x3, .int .i64 x4] rfl _ _ rfl own1 rfl rfl rfl (by simp [Value.oneCell']) (by unfold maxLen; omega) (by omega) hb1.size ?_; intro v2 w2 own2 gr2 bel2; obtain ⟨A2, c2', rfl, -⟩ := own_shape own2; have hb2 := hb1.trans bel2; clear own1 _t) | (at_builtin; refine wpList_cat ei_cl rfl _ _ rfl own2 rfl (r2.below (bel_trans bq hb2)) rfl (cls_oneCell _) (by unfold maxLen; omega) (by omega) hb2.size ?_; intro v3 w3 own3 gr3 bel3))
        refine bodyPost_ret (v := .tuple #[v3, .int .i64 0]) (by simp [results, Try.results143, go_sem]) rfl ?_
        rw [hK.out]
        exact ⟨_, rfl, FIN.out _ _ own3, bel_trans bq (hb2.trans bel3)⟩
      · by_cases hck : c = 0
        · rw [if_pos hck] at r2
          subst hck
          obtain rfl : n = 0 := by omega
          rw [Nat.sub_self] at r2 FIN
          have tok1 : True := trivial
          go_wp2_with (first | (at_builtin; have _t := tok1; refine wpList_cat ei_cl rfl _ _ rfl h0 rfl r1 rfl (cls_oneCell _) (by unfold maxLen; omega) (by omega) hba.size ?_; intro v1 w1 own1 gr1 bel1; rw [Nat.zero_add, List.nil_append] at own1; obtain ⟨A1, c1', rfl, -⟩ := own_shape own1; have hb1 := hba.trans bel1; have s1 := hb1.size; have k10 : w1.cell? ⟨w.heap.size, 0, none⟩ = some (.int .i64 x0) := (by rw [hb1.cell (by simp; omega)]; exact t10); have k11 : w1.cell? ⟨w.heap.size, 1, none⟩ = some (.int .i64 x1) := (by rw [hb1.cell (by simp; omega)]; exact t11); have k12 : w1.cell? ⟨w.heap.size, 2, none⟩ = some (.int .i64 x2) := (by rw [hb1.cell (by simp; omega)]; exact t12); have k13 : w1.cell? ⟨w.heap.size, 3, none⟩ = some (.int .i64 x3) := (by rw [hb1.cell (by simp; omega)]; exact t13); have k14 : w1.cell? ⟨w.heap.size, 4, none⟩ = some (.int .i64 x4) := (by rw [hb1.cell (by simp; omega)]; exact t14); clear tok1 _t) | (at_builtin; have _t := own1; refine wpList_push ei_cl #[.int .i64 x0, .int .i64 x1, .int .i64 x2, .int .i64 x3, .int .i64 x4] rfl _ _ rfl own1 rfl rfl rfl (by simp [Value.oneCell']) (by unfold maxLen; omega) (by omega) hb1.size ?_; intro v2 w2 own2 gr2 bel2; obtain ⟨A2, c2', rfl, -⟩ := own_shape own2; have hb2 := hb1.trans bel2; clear own1 _t) | (at_builtin; refine wpList_cat ei_cl rfl _ _ rfl own2 rfl (r2.below (bel_trans bq hb2)) rfl (cls_oneCell _) (by unfold maxLen; omega) (by omega) hb2.size ?_; intro v3 w3 own3 gr3 bel3))
          refine bodyPost_ret (v := .tuple #[v3, .int .i64 0]) (by simp [results, Try.results143, go_sem]) rfl ?_
          rw [hK.out]
          exact ⟨_, rfl, FIN.out _ _ own3, bel_trans bq (hb2.trans bel3)⟩
        · rw [if_neg hck, Option.map_some] at r2
          have r2 : Reads w w.heap.size 5 (some ad) (n - 0) ((xs.drop 0).flatMap cl) := by rw [Nat.zero_mul] at r2; rwa [show ad.add 0 = ad from addr_add0 _] at r2
          have tok1 : True := trivial
          go_wp2_with (first | (at_builtin; have _t := tok1; refine wpList_cat ei_cl rfl _ _ rfl h0 rfl r1 rfl (cls_oneCell _) (by unfold maxLen; omega) (by omega) hba.size ?_; intro v1 w1 own1 gr1 bel1; rw [Nat.zero_add, List.nil_append] at own1; obtain ⟨A1, c1', rfl, -⟩ := own_shape own1; have hb1 := hba.trans bel1; have s1 := hb1.size; have k10 : w1.cell? ⟨w.heap.size, 0, none⟩ = some (.int .i64 x0) := (by rw [hb1.cell (by simp; omega)]; exact t10); have k11 : w1.cell? ⟨w.heap.size, 1, none⟩ = some (.int .i64 x1) := (by rw [hb1.cell (by simp; omega)]; exact t11); have k12 : w1.cell? ⟨w.heap.size, 2, none⟩ = some (.int .i64 x2) := (by rw [hb1.cell (by simp; omega)]; exact t12); have k13 : w1.cell? ⟨w.heap.size, 3, none⟩ = some (.int .i64 x3) := (by rw [hb1.cell (by simp; omega)]; exact t13); have k14 : w1.cell? ⟨w.heap.size, 4, none⟩ = some (.int .i64 x4) := (by rw [hb1.cell (by simp; omega)]; exact t14); clear tok1 _t) | (at_builtin; have _t := own1; refine wpList_push ei_cl #[.int .i64 x0, .int .i64 x1, .int .i64 x2, .int .i64 x3, .int .i64 x4] rfl _ _ rfl own1 rfl rfl rfl (by simp [Value.oneCell']) (by unfold maxLen; omega) (by omega) hb1.size ?_; intro v2 w2 own2 gr2 bel2; obtain ⟨A2, c2', rfl, -⟩ := own_shape own2; have hb2 := hb1.trans bel2; clear own1 _t) | (at_builtin; refine wpList_cat ei_cl rfl _ _ rfl own2 rfl (r2.below (bel_trans bq hb2)) rfl (cls_oneCell _) (by unfold maxLen; omega) (by omega) hb2.size ?_; intro v3 w3 own3 gr3 bel3))
          refine bodyPost_ret (v := .tuple #[v3, .int .i64 0]) (by simp [results, Try.results143, go_sem]) rfl ?_
          rw [hK.out]
          exact ⟨_, rfl, FIN.out _ _ own3, bel_trans bq (hb2.trans bel3)⟩
end Go.Proofs.Ytckihflfjecpbaa
