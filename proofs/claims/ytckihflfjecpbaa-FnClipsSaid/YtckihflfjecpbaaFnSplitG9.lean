import Derived.Test.YtckihflfjecpbaaFnSplitG8
import Derived.Test.YtckihflfjecpbaaFnSplitG7
import Derived.Test.YtckihflfjecpbaaFnSplitG4
set_option linter.unusedVariables false
set_option linter.unusedSimpArgs false
namespace Go.Proofs.Ytckihflfjecpbaa
open Go.RowKit
set_option maxHeartbeats 1000000
theorem M.renT_sig (src : List (List Int)) (xs : List Clip) {n : Nat} (hn : n ≤ 4000) : M.sig (M.renT src xs n) = true := by
  rw [M.sig, Bool.and_eq_true, decide_eq_true_iff, List.all_eq_true, M.renT_len]
  refine ⟨hn, fun x hx => ?_⟩
  obtain ⟨i, hi, rfl⟩ := List.mem_map.1 hx
  have := M.wrap32_bd (M.trackSum src xs (i : Int))
  simp [M.smp, M.inn]
  omega
theorem M.renT_add (src : List (List Int)) {xs : List Clip} {k n : Nat} {c : Clip} (hn : n ≤ 4000) (hc : xs[k]? = some c) : M.addR (M.renT src (xs.take k) n) (M.renT src [c] n) = (M.renT src (xs.take (k + 1)) n, 0) := by
  rw [M.addR, M.renT_sig src _ hn, M.renT_sig src _ hn]
  show (M.addS _ _ 1, (0 : Int)) = _
  congr 1
  apply List.ext_getElem?
  intro i
  by_cases hi : i < n
  · rw [M.addS_at (by rw [M.renT_len, M.renT_len]; omega), M.at_nat (M.renT_at hi), M.at_nat (M.renT_at hi), M.renT_at hi, M.take_at hc, M.trackSum_app, M.trackSum_one, Int.mul_one, M.wrap32_addl, M.wrap32_addr]
  · rw [List.getElem?_eq_none (by rw [M.addS_len, M.renT_len, M.renT_len]; omega), List.getElem?_eq_none (by rw [M.renT_len]; omega)]
theorem M.renT_tail (src : List (List Int)) {xs : List Clip} {e m : Nat} (h : ∀ c ∈ xs, c.2.2.2.1 + c.2.2.1 ≤ (e : Int)) : ∀ x ∈ ((M.renT src xs (e + m)).drop e).take m, x = 0 := by
  intro x hx
  obtain ⟨i, hi, rfl⟩ := List.getElem_of_mem hx
  rw [List.length_take, List.length_drop, M.renT_len] at hi
  have h0 : ∀ ys : List Clip, (∀ c ∈ ys, c.2.2.2.1 + c.2.2.1 ≤ (e : Int)) → M.trackSum src ys ((e + i : Nat) : Int) = 0 := by
    intro ys
    induction ys with
    | nil => intro _; rfl
    | cons y ys ih =>
      intro h
      rw [M.trackSum, ih fun c hc => h c (by simp [hc]), M.clipAt, if_neg (by have := h y (by simp); omega), Int.add_zero]
  rw [List.getElem_take, List.getElem_drop]
  have := M.renT_at (src := src) (xs := xs) (n := e + m) (i := e + i) (by omega)
  rw [List.getElem?_eq_getElem (by rw [M.renT_len]; omega), Option.some.injEq] at this
  rw [this, h0 xs h]
  exact M.wrap0
theorem M.drop_put (xs : List Clip) (c : Clip) : M.dropP (M.putP xs c) (M.putK xs c.2.2.2.1) = xs := by
  have hk := M.putK_le xs c.2.2.2.1
  have hl : (xs.take (M.putK xs c.2.2.2.1)).length = M.putK xs c.2.2.2.1 := by rw [List.length_take]; omega
  rw [M.putP_eq, M.dropP]
  conv => lhs; lhs; rw [List.take_append_of_le_length (by omega), List.take_of_length_le (by omega)]
  rw [List.drop_append, List.drop_of_length_le (by omega), hl, show M.putK xs c.2.2.2.1 + 1 - M.putK xs c.2.2.2.1 = 1 by omega, List.nil_append, List.drop_succ_cons, List.drop_zero, List.take_append_drop]
theorem M.put_at (xs : List Clip) (c : Clip) : (M.putP xs c)[M.putK xs c.2.2.2.1]? = some c := by
  have hk := M.putK_le xs c.2.2.2.1
  rw [M.putP_eq, List.getElem?_append_right (by rw [List.length_take]; omega), List.length_take, Nat.min_eq_left hk, Nat.sub_self]
  rfl
/-- What FnClips asks. -/
theorem M.clips_law {xs : List Clip} {c : Clip} (h : M.trackDr 3 xs) (hl : xs.length ≤ 10) (hc : M.clipDr 3 c) :
    M.clipOk c = true ∧ M.trackOk (M.putP xs c) = true ∧ M.removeR (M.putP xs c) (M.putK xs c.2.2.2.1 : Nat) = (xs, 0) ∧ (M.putP xs c).length = xs.length + 1 ∧ M.putK xs c.2.2.2.1 < xs.length + 1 ∧ 0 ≤ M.endT xs ∧ M.endT xs ≤ 3000 ∧ ∀ d ∈ xs, d.2.2.2.1 + d.2.2.1 ≤ M.endT xs := by
  have h1 := M.clipDr_ok hc (by omega)
  have hk := M.putK_le xs c.2.2.2.1
  have h2 := M.trackDr_ok (M.trackDr_put h hc) (by omega) (by rw [M.putP_len]; omega)
  have hb : 0 ≤ M.endT xs ∧ M.endT xs ≤ 3000 := by
    have key : ∀ k, 0 ≤ M.endT (xs.take k) ∧ M.endT (xs.take k) ≤ 3000 := by
      intro k
      induction k with
      | zero => simp [M.endT]
      | succ k ih =>
        by_cases hk : k < xs.length
        · rw [M.endT_take (List.getElem?_eq_getElem hk)]
          have := h.1 _ (List.getElem_mem hk)
          unfold M.clipDr at this
          omega
        · rw [List.take_of_length_le (by omega)] at ih ⊢
          exact ih
    have := key xs.length
    rwa [List.take_of_length_le (Nat.le_refl _)] at this
  refine ⟨h1, h2, ?_, M.putP_len xs c, by omega, hb.1, hb.2, fun d hd => M.endT_ge hd⟩
  rw [M.removeR, if_pos (by rw [M.askT, h2, M.inn_iff.2 (by rw [M.putP_len]; omega)]; rfl), Int.toNat_natCast, M.drop_put]
end Go.Proofs.Ytckihflfjecpbaa
namespace Go.Proofs.Ytckihflfjecpbaa
open Go.RowKit Go.Sort
set_option maxHeartbeats 4000000
set_option maxRecDepth 100000
theorem core_FnClips (A0 : Option Addr) (n0 : Nat) (c0 : Nat) (x0 : List UInt8) (A1 : Option Addr) (n1 : Nat) (c1 : Nat) (x1 : List UInt8) (w : World) (h0 : RS tU8 w w.heap.size (.slice A0 n0 c0) x0) (h1 : RS tU8 w w.heap.size (.slice A1 n1 c1) x1) :
    Calls Try.prog 16 #[.slice A0 n0 c0, .slice A1 n1 c1] w fun e w' => e = .returned (.bool true) ∧ Below w.heap.size w w' := by
  cases hlong : (decide (1048576 < n0) || decide (1048576 < n1))
  case true =>
    go_enter Try.func16, Try.ntmps16
    go_wp2_with fail
    refine (laws_v8Long _ _ _ _ _ _ _).mono ?_
    rw [hlong]
    rintro e w' ⟨rfl, rfl⟩
    go_wp2
    go_ret
    exact ⟨rfl, Below.refl _ _⟩
  have hlong' := Lib.hid hlong
  clear hlong
  go_enter Try.func16, Try.ntmps16
  go_wp2_with fail
  refine (laws_v8Long _ _ _ _ _ _ _).mono ?_
  rw [hlong'.out]
  rintro e w' ⟨rfl, rfl⟩
  go_wp2_with fail
  refine (spec_E8Track _ _ _ _ _ h0).mono ?_
  rintro e w1 ⟨At, ct, xs, rfl, rt_w1, hdr, lx, ht1, ht2, b1⟩
  have hok := Lib.hid (M.trackDr_ok hdr.out (by omega) (by omega))
  have hhas := Lib.hid (M.trackDr_has hdr.out)
  have B_w1 := b1
  obtain ⟨U1, hU⟩ : ∃ U, U = w1.alloc (.cells #[.slice At xs.length ct] 65) := ⟨_, rfl⟩
  have bU1 : Below w1.heap.size w1 U1 := by rw [hU]; exact (Below.refl _ _).alloc (Nat.le_refl _) _
  have kt_U1 : U1.cell? ⟨w1.heap.size, 0, none⟩ = some (.slice At xs.length ct) := by rw [hU]; simp [go_sem]
  have lkt_U1 : w1.heap.size < U1.heap.size := by rw [hU]; simp
  have HU1 := Lib.hid hU
  clear hU
  have rt_U1 := rt_w1.later bU1
  have B_U1 := bel_trans B_w1 bU1
  go_wp2_with fail
  rw [← HU1.out]
  clear rt_w1
  refine (spec_E8Sources _ _ _ _ U1 (h1.later B_U1)).mono ?_
  rintro e w2 ⟨As, cs, src, rfl, rs_w2, hsl, hso, b2⟩
  have hlen := M.srcOk_len hso.out
  have hsli := Lib.hid (show (src.length : Int) = 3 by omega)
  have hs6 : src.length ≤ 6 := by omega
  clear hsl
  have kt_w2 : w2.cell? ⟨w1.heap.size, 0, none⟩ = some (.slice At xs.length ct) := by rw [b2.cell lkt_U1]; exact kt_U1
  have lkt_w2 := Nat.lt_of_lt_of_le lkt_U1 b2.size
  clear kt_U1 lkt_U1
  have rt_w2 := rt_U1.later b2
  clear rt_U1
  have B_w2 := bel_trans B_U1 b2
  go_wp2_with fail
  refine (spec_E8Clip _ _ _ _ w2 (h1.later B_w2)).mono ?_
  rintro e w3 ⟨q0, q1, q2, q3, q4, rfl, hcd, b3⟩
  obtain ⟨hb0, hb1, hb2, hb3, hb4⟩ := hcd.out
  simp only at hb0 hb1 hb2 hb3 hb4
  obtain ⟨g1, g2, g3, g4, g5, g6, g7, g8⟩ := M.clips_law hdr.out lx hcd.out
  have G1 := Lib.hid g1
  have G2 := Lib.hid g2
  have G3 := Lib.hid g3
  have G4 := Lib.hid g4
  have G8 := Lib.hid g8
  have GA := Lib.hid (M.put_at xs (q0, q1, q2, q3, q4))
  simp only at g5
  clear g1 g2 g3 g4 g8
  have kt_w3 : w3.cell? ⟨w1.heap.size, 0, none⟩ = some (.slice At xs.length ct) := by rw [b3.cell lkt_w2]; exact kt_w2
  have lkt_w3 := Nat.lt_of_lt_of_le lkt_w2 b3.size
  clear kt_w2 lkt_w2
  have rt_w3 := rt_w2.later b3
  clear rt_w2
  have rs_w3 := rs_w2.later b3
  clear rs_w2
  have B_w3 := bel_trans B_w2 b3
  obtain ⟨U3, hU⟩ : ∃ U, U = w3.alloc (.cells #[.int .i64 q0, .int .i64 q1, .int .i64 q2, .int .i64 q3, .int .i64 q4] 78) := ⟨_, rfl⟩
  have bU3 : Below w3.heap.size w3 U3 := by rw [hU]; exact (Below.refl _ _).alloc (Nat.le_refl _) _
  have y : ∀ j u, [Value.int .i64 q0, .int .i64 q1, .int .i64 q2, .int .i64 q3, .int .i64 q4][j]? = some u → U3.cell? ⟨w3.heap.size, j, none⟩ = some u := by
    intro j u hu
    have hj : j < 5 := (List.getElem?_eq_some_iff.1 hu).1
    rw [hU]
    rcases (show j = 0 ∨ j = 1 ∨ j = 2 ∨ j = 3 ∨ j = 4 by omega) with rfl | rfl | rfl | rfl | rfl <;> (simp at hu; subst hu; simp [go_sem])
  have Y_U3 := Lib.hid y
  have ly_U3 : w3.heap.size < U3.heap.size := by rw [hU]; simp
  have HU3 := Lib.hid hU
  clear hU y
  have kt_U3 : U3.cell? ⟨w1.heap.size, 0, none⟩ = some (.slice At xs.length ct) := by rw [bU3.cell lkt_w3]; exact kt_w3
  have lkt_U3 := Nat.lt_of_lt_of_le lkt_w3 bU3.size
  clear kt_w3 lkt_w3
  have rt_U3 := rt_w3.later bU3
  clear rt_w3
  have rs_U3 := rs_w3.later bU3
  clear rs_w3
  have B_U3 := bel_trans B_w3 bU3
  go_wp2_with fail
  rw [← HU3.out]
  refine (laws_v8At _ _ _ x1 0 70 U3 (h1.later B_U3) (by omega) (by omega)).mono ?_
  rintro e w4 ⟨n, rfl, hn, b4⟩
  have hn2 : 0 ≤ n ∧ n ≤ 69 := by omega
  clear hn
  obtain ⟨n, rfl⟩ : ∃ q : Nat, n = q := ⟨n.toNat, by omega⟩
  have hn3 : n ≤ 69 := by omega
  clear hn2
  have Y_w4 : Hid (∀ j u, [Value.int .i64 q0, .int .i64 q1, .int .i64 q2, .int .i64 q3, .int .i64 q4][j]? = some u → w4.cell? ⟨w3.heap.size, j, none⟩ = some u) := Lib.hid fun j u hu => by rw [b4.cell ly_U3]; exact Y_U3.out j u hu
  have ly_w4 := Nat.lt_of_lt_of_le ly_U3 b4.size
  have kt_w4 : w4.cell? ⟨w1.heap.size, 0, none⟩ = some (.slice At xs.length ct) := by rw [b4.cell lkt_U3]; exact kt_U3
  have lkt_w4 := Nat.lt_of_lt_of_le lkt_U3 b4.size
  clear kt_U3 lkt_U3
  have rt_w4 := rt_U3.later b4
  clear rt_U3
  have rs_w4 := rs_U3.later b4
  clear rs_U3
  have B_w4 := bel_trans B_U3 b4
  have R1 := Lib.hid (M.renderR_ok (n := n) hso.out hok.out (by rw [hsli.out]; exact hhas.out) (by omega))
  have RL1 := Lib.hid (M.renT_len src xs n)
  go_wp2_with fail
  refine (impl_RenderTrack _ _ _ _ _ _ (n : Int) src xs w4 rs_w4 rt_w4 hlen (by omega) (by omega)).mono ?_
  intro e w5 hr
  obtain ⟨Aw, cw, rfl, rw_w5, b5⟩ := ret2_nil' hr R1.out
  clear hr
  rw [RL1.out] at rw_w5 ⊢
  have Y_w5 : Hid (∀ j u, [Value.int .i64 q0, .int .i64 q1, .int .i64 q2, .int .i64 q3, .int .i64 q4][j]? = some u → w5.cell? ⟨w3.heap.size, j, none⟩ = some u) := Lib.hid fun j u hu => by rw [b5.cell ly_w4]; exact Y_w4.out j u hu
  have ly_w5 := Nat.lt_of_lt_of_le ly_w4 b5.size
  have kt_w5 : w5.cell? ⟨w1.heap.size, 0, none⟩ = some (.slice At xs.length ct) := by rw [b5.cell lkt_w4]; exact kt_w4
  have lkt_w5 := Nat.lt_of_lt_of_le lkt_w4 b5.size
  clear kt_w4 lkt_w4
  have rt_w5 := rt_w4.later b5
  clear rt_w4
  have rs_w5 := rs_w4.later b5
  clear rs_w4
  have B_w5 := bel_trans B_w4 b5
  go_wp2_with (at_make; refine wpList_mk ei_i64 rfl _ _ rfl n _ _ rfl rfl rfl rfl (by omega) (by unfold maxLen; omega) ?_; intro w6 own6 b6)
  have rz : RI w6 w6.heap.size (some ⟨w5.heap.size, 0, none⟩) n (M.renT src (xs.take 0) n) := by
    have h9 : OI 2 w5.heap.size w6 (.slice (some ⟨w5.heap.size, 0, none⟩) n n) (List.replicate n 0) := by
      unfold OI
      have := toList_madeCells_one (.int .i64 0) n
      simp only [Nat.mul_one, Value.cells] at own6
      rw [this] at own6
      simpa using own6
    rw [List.take_zero, M.renT_nil]
    obtain ⟨A9, c9, hv, h10⟩ := h9.shape
    rw [List.length_replicate] at hv h10
    simp only [Value.slice.injEq] at hv
    obtain ⟨rfl, -, -⟩ := hv
    exact h10
  clear own6
  have Y_w6 : Hid (∀ j u, [Value.int .i64 q0, .int .i64 q1, .int .i64 q2, .int .i64 q3, .int .i64 q4][j]? = some u → w6.cell? ⟨w3.heap.size, j, none⟩ = some u) := Lib.hid fun j u hu => by rw [b6.cell ly_w5]; exact Y_w5.out j u hu
  have ly_w6 := Nat.lt_of_lt_of_le ly_w5 b6.size
  have kt_w6 : w6.cell? ⟨w1.heap.size, 0, none⟩ = some (.slice At xs.length ct) := by rw [b6.cell lkt_w5]; exact kt_w5
  have lkt_w6 := Nat.lt_of_lt_of_le lkt_w5 b6.size
  clear kt_w5 lkt_w5
  have rt_w6 := rt_w5.later b6
  clear rt_w5
  have rs_w6 := rs_w5.later b6
  clear rs_w5
  have rw_w6 := rw_w5.later b6
  clear rw_w5
  have B_w6 := bel_trans B_w5 b6
  go_loopw [11, 12, 13, 14, 15, 16] (fun v i _ _ _ _ wr => ∃ (k : Nat) (A9 : Option Addr) (c9 : Nat), i = .int .i64 k ∧ k ≤ xs.length ∧ v = .slice A9 n c9 ∧ RI wr wr.heap.size A9 n (M.renT src (xs.take k) n) ∧ Below w6.heap.size w6 wr) (fun _ i _ _ _ _ _ => xs.length - (intOf i).toNat)
  case atStart => exact ⟨0, _, _, rfl, by omega, rfl, rz, Below.refl _ _⟩
  case round =>
    obtain ⟨k, A9, c9, rfl, hk, rfl, rz, hb⟩ := hrel
    have kr : wr.cell? ⟨w1.heap.size, 0, none⟩ = some (.slice At xs.length ct) := by rw [hb.cell lkt_w6]; exact kt_w6
    have lr := Nat.lt_of_lt_of_le lkt_w6 hb.size
    by_cases hlt : k < xs.length
    · obtain ⟨b, o, ⟨p0, p1, p2, p3, p4⟩, rfl, hab, X, hcc⟩ := (rt_w6.below hb).at cl_len (by decide) hlt
      have d0 : wr.cell? ⟨b, o + k * 5, none⟩ = some (.int .i64 p0) := hcc 0 _ rfl
      have d1 : wr.cell? ⟨b, o + k * 5 + 1, none⟩ = some (.int .i64 p1) := hcc 1 _ rfl
      have d2 : wr.cell? ⟨b, o + k * 5 + 2, none⟩ = some (.int .i64 p2) := hcc 2 _ rfl
      have d3 : wr.cell? ⟨b, o + k * 5 + 3, none⟩ = some (.int .i64 p3) := hcc 3 _ rfl
      have d4 : wr.cell? ⟨b, o + k * 5 + 4, none⟩ = some (.int .i64 p4) := hcc 4 _ rfl
      have hki : (k : Int) < (xs.length : Int) := by omega
      clear hcc
      have hpd := hdr.out.1 _ (List.mem_of_getElem? X.out)
      have HPD := Lib.hid hpd
      clear hpd
      obtain ⟨V, hV⟩ : ∃ V, V = wr.alloc (.cells #[.int .i64 p0, .int .i64 p1, .int .i64 p2, .int .i64 p3, .int .i64 p4] 78) := ⟨_, rfl⟩
      have bV : Below wr.heap.size wr V := by rw [hV]; exact (Below.refl _ _).alloc (Nat.le_refl _) _
      have ro : RA cl 5 V V.heap.size (some ⟨wr.heap.size, 0, none⟩) 1 [(p0, p1, p2, p3, p4)] := by
        refine ⟨rfl, by simp [cl], fun _ => ⟨_, rfl, by rw [hV]; simp, fun j u hu => ?_⟩⟩
        have hj : j < 5 := by have := (List.getElem?_eq_some_iff.1 hu).1; simpa [cl] using this
        have hadd : (⟨wr.heap.size, 0, none⟩ : Addr).add j = ⟨wr.heap.size, j, none⟩ := by unfold Addr.add; split <;> simp_all
        rw [hadd, hV]
        rcases (show j = 0 ∨ j = 1 ∨ j = 2 ∨ j = 3 ∨ j = 4 by omega) with rfl | rfl | rfl | rfl | rfl <;> (simp [cl] at hu; subst hu; simp [go_sem])
      have HV := Lib.hid hV
      clear hV
      have R2 := Lib.hid (M.renderR_ok (src := src) (n := n) hso.out (M.track_one (M.clipDr_ok HPD.out (by omega))) (by rw [hsli.out]; exact M.trackDr_has (m := 3) ⟨by intro c hc; simp only [List.mem_singleton] at hc; subst hc; exact HPD.out, by simp⟩) (by omega))
      have RL2 := Lib.hid (M.renT_len src [(p0, p1, p2, p3, p4)] n)
      have RL3 := Lib.hid (M.renT_len src (xs.take (k + 1)) n)
      have AD := Lib.hid (M.renT_add src (n := n) (by omega) X.out)
      have BV := hb.trans (bV.mono hb.size)
      have rsV : RS tS V V.heap.size (.slice As src.length cs) src := (rs_w6.later BV)
      go_wp2_with fail
      rw [← HV.out]
      refine (impl_RenderTrack _ _ _ _ _ _ (n : Int) src _ V rsV ro hlen (by omega) (by omega)).mono ?_
      intro e v7 hr
      obtain ⟨Ax, cx, rfl, rx, b7⟩ := ret2_nil' hr R2.out
      clear hr
      rw [RL2.out] at rx ⊢
      have B7 := bel_trans bV b7
      go_wp2_with fail
      refine (spec_AddSignals _ _ _ _ _ _ _ _ v7 (rz.later B7) rx (by omega) (by omega)).mono ?_
      intro e v8 hr
      obtain ⟨Ay, cy, rfl, ry, b8⟩ := ret2_nil' hr AD.out
      clear hr
      rw [RL3.out] at ry ⊢
      go_wp2
      go_roundw
      case rel => exact ⟨k + 1, _, _, by go_num, by omega, rfl, ry, hb.trans ((bel_trans B7 b8).mono hb.size)⟩
      case measure => simp [intOf]; omega
    · obtain rfl : xs.length = k := by omega
      rw [List.take_of_length_le (Nat.le_refl _)] at rz
      have Y_wr : Hid (∀ j u, [Value.int .i64 q0, .int .i64 q1, .int .i64 q2, .int .i64 q3, .int .i64 q4][j]? = some u → wr.cell? ⟨w3.heap.size, j, none⟩ = some u) := Lib.hid fun j u hu => by rw [hb.cell ly_w6]; exact Y_w6.out j u hu
      have ly_wr := Nat.lt_of_lt_of_le ly_w6 hb.size
      have kt_wr : wr.cell? ⟨w1.heap.size, 0, none⟩ = some (.slice At xs.length ct) := by rw [hb.cell lkt_w6]; exact kt_w6
      have lkt_wr := Nat.lt_of_lt_of_le lkt_w6 hb.size
      clear kt_w6 lkt_w6
      have rt_wr := rt_w6.later hb
      clear rt_w6
      have rs_wr := rs_w6.later hb
      clear rs_w6
      have rw_wr := rw_w6.later hb
      clear rw_w6
      have B_wr := bel_trans B_w6 hb
      have y0 := Y_wr.out 0 _ rfl
      have y1 := Y_wr.out 1 _ rfl
      have y2 := Y_wr.out 2 _ rfl
      have y3 := Y_wr.out 3 _ rfl
      have y4 := Y_wr.out 4 _ rfl
      obtain ⟨pk, hpk⟩ : ∃ q, q = M.putK xs q3 := ⟨_, rfl⟩
      obtain ⟨m1, hm1⟩ : ∃ q, q = xs.length + 1 := ⟨_, rfl⟩
      have hpm : pk < m1 := by omega
      go_wp2_with fail
      refine (impl_AddClip_ok _ _ _ xs q0 q1 q2 q3 q4 wr rt_wr hok.out G1.out (by omega)).mono ?_
      rw [← hpk, ← hm1]
      rintro e w7 ⟨Ax, cx, rfl, rx_w7, hx1, hx2, b7⟩
      have HPK := Lib.hid hpk
      have HM1 := Lib.hid hm1
      have hm13 : m1 ≤ 11 := by omega
      clear hpk hm1 y0 y1 y2 y3 y4
      have Y_w7 : Hid (∀ j u, [Value.int .i64 q0, .int .i64 q1, .int .i64 q2, .int .i64 q3, .int .i64 q4][j]? = some u → w7.cell? ⟨w3.heap.size, j, none⟩ = some u) := Lib.hid fun j u hu => by rw [b7.cell ly_wr]; exact Y_wr.out j u hu
      have ly_w7 := Nat.lt_of_lt_of_le ly_wr b7.size
      have kt_w7 : w7.cell? ⟨w1.heap.size, 0, none⟩ = some (.slice At xs.length ct) := by rw [b7.cell lkt_wr]; exact kt_wr
      have lkt_w7 := Nat.lt_of_lt_of_le lkt_wr b7.size
      clear kt_wr lkt_wr
      have rt_w7 := rt_wr.later b7
      clear rt_wr
      have rs_w7 := rs_wr.later b7
      clear rs_wr
      have rw_w7 := rw_wr.later b7
      clear rw_wr
      have rz_w7 := rz.later b7
      clear rz
      have B_w7 := bel_trans B_wr b7
      obtain ⟨U7, hU⟩ : ∃ U, U = w7.alloc (.cells #[.slice Ax m1 cx] 65) := ⟨_, rfl⟩
      have bU7 : Below w7.heap.size w7 U7 := by rw [hU]; exact (Below.refl _ _).alloc (Nat.le_refl _) _
      have kx_U7 : U7.cell? ⟨w7.heap.size, 0, none⟩ = some (.slice Ax m1 cx) := by rw [hU]; simp [go_sem]
      have lkx_U7 : w7.heap.size < U7.heap.size := by rw [hU]; simp
      have HU7 := Lib.hid hU
      clear hU
      have Y_U7 : Hid (∀ j u, [Value.int .i64 q0, .int .i64 q1, .int .i64 q2, .int .i64 q3, .int .i64 q4][j]? = some u → U7.cell? ⟨w3.heap.size, j, none⟩ = some u) := Lib.hid fun j u hu => by rw [bU7.cell ly_w7]; exact Y_w7.out j u hu
      have ly_U7 := Nat.lt_of_lt_of_le ly_w7 bU7.size
      have kt_U7 : U7.cell? ⟨w1.heap.size, 0, none⟩ = some (.slice At xs.length ct) := by rw [bU7.cell lkt_w7]; exact kt_w7
      have lkt_U7 := Nat.lt_of_lt_of_le lkt_w7 bU7.size
      have rt_U7 := rt_w7.later bU7
      have rs_U7 := rs_w7.later bU7
      have rw_U7 := rw_w7.later bU7
      have rz_U7 := rz_w7.later bU7
      have rx_U7 := rx_w7.later bU7
      have B_U7 := bel_trans B_w7 bU7
      go_wp2_with fail
      rw [← HU7.out]
      clear kt_w7 lkt_w7
      clear rt_w7
      clear rs_w7
      clear rw_w7
      clear rz_w7
      clear rx_w7
      have y0 := Y_U7.out 0 _ rfl
      have y1 := Y_U7.out 1 _ rfl
      have y2 := Y_U7.out 2 _ rfl
      have y3 := Y_U7.out 3 _ rfl
      have y4 := Y_U7.out 4 _ rfl
      obtain ⟨b, o, y, rfl, hab, X, hcc⟩ := rx_U7.at cl_len (by decide) hpm
      obtain rfl : y = (q0, q1, q2, q3, q4) := by have h1 := X.out; have h2 := GA.out; rw [← HPK.out, h1] at h2; injection h2 with h2
      have d0 : U7.cell? ⟨b, o + pk * 5, none⟩ = some (.int .i64 q0) := hcc 0 _ rfl
      have d1 : U7.cell? ⟨b, o + pk * 5 + 1, none⟩ = some (.int .i64 q1) := hcc 1 _ rfl
      have d2 : U7.cell? ⟨b, o + pk * 5 + 2, none⟩ = some (.int .i64 q2) := hcc 2 _ rfl
      have d3 : U7.cell? ⟨b, o + pk * 5 + 3, none⟩ = some (.int .i64 q3) := hcc 3 _ rfl
      have d4 : U7.cell? ⟨b, o + pk * 5 + 4, none⟩ = some (.int .i64 q4) := hcc 4 _ rfl
      have hpi : (pk : Int) < (m1 : Int) := by omega
      have hpi2 : ¬ (m1 : Int) ≤ (pk : Int) := by omega
      have hpi3 : decide ((m1 : Int) ≤ (pk : Int)) = false := by simp; omega
      have hpi5 : ¬ (pk : Int) < 0 := by omega
      have hpi6 : decide ((pk : Int) < 0) = false := by simp
      have hpi4 : decide (m1 ≤ pk) = false := by simp; omega
      clear hcc
      have cS : ∀ d os, Calls Try.prog 43 #[.slice Aw n cw, .slice A9 n c9] (grow (redrawn U7 d) os) fun e w'' => e = .returned (.bool true) ∧ ∃ p : Regrown, w'' = grow (redrawn U7 p.d) p.os := fun d os => Calls.regrown_of (by
        have h := laws_v8Same _ _ _ cw _ c9 _ _ (grow (redrawn U7 d) os) (rw_U7.later (below_regrown U7 d os)) (rz_U7.later (below_regrown U7 d os)) (by omega)
        rw [decide_eq_true rfl] at h
        exact h)
      have cV : ∀ d os, Calls Try.prog 62 #[.agg #[.slice (some ⟨b, o, none⟩) m1 cx]] (grow (redrawn U7 d) os) fun e w'' => e = .returned (.bool true) ∧ ∃ p : Regrown, w'' = grow (redrawn U7 p.d) p.os := fun d os => Calls.regrown_of (by
        have h := spec_ValidTrack (some ⟨b, o, none⟩) m1 cx _ (grow (redrawn U7 d) os) (rx_U7.later (below_regrown U7 d os)) (by omega)
        rw [G2.out] at h
        exact h)
      have ry0 := cell_regrown y0
      have ry1 := cell_regrown y1
      have ry2 := cell_regrown y2
      have ry3 := cell_regrown y3
      have ry4 := cell_regrown y4
      have rd0 := cell_regrown d0
      have rd1 := cell_regrown d1
      have rd2 := cell_regrown d2
      have rd3 := cell_regrown d3
      have rd4 := cell_regrown d4
      have rkx := cell_regrown kx_U7
      have rkt := cell_regrown kt_U7
      have CS := Lib.hid cS
      have CV := Lib.hid cV
      have RZ := Lib.hid (show True from trivial)
      clear cS cV y0 y1 y2 y3 y4 d0 d1 d2 d3 d4
      go_wp2
      (refine wp_region_quiet_below (by kernel_rfl) (by kernel_rfl) ?_; (repeat (go_big_quiet_step ((first | exact CS.out _ _ | exact CV.out _ _)))); refine wpQuiet_nil ?_; intro _ hw'; obtain ⟨⟨dq, osq⟩, hw''⟩ := hw'; subst hw'')
      have b8 := below_regrown U7 dq osq
      generalize grow (redrawn U7 dq) osq = w8 at b8 ⊢
      clear rkx rkt hpi5 hpi6 ry0 ry1 ry2 ry3 ry4 rd0 rd1 rd2 rd3 rd4 CS CV hpi2 hpi3 hpi4 RZ
      have Y_w8 : Hid (∀ j u, [Value.int .i64 q0, .int .i64 q1, .int .i64 q2, .int .i64 q3, .int .i64 q4][j]? = some u → w8.cell? ⟨w3.heap.size, j, none⟩ = some u) := Lib.hid fun j u hu => by rw [b8.cell ly_U7]; exact Y_U7.out j u hu
      have ly_w8 := Nat.lt_of_lt_of_le ly_U7 b8.size
      have kt_w8 : w8.cell? ⟨w1.heap.size, 0, none⟩ = some (.slice At xs.length ct) := by rw [b8.cell lkt_U7]; exact kt_U7
      have lkt_w8 := Nat.lt_of_lt_of_le lkt_U7 b8.size
      clear kt_U7 lkt_U7
      have kx_w8 : w8.cell? ⟨w7.heap.size, 0, none⟩ = some (.slice (some ⟨b, o, none⟩) m1 cx) := by rw [b8.cell lkx_U7]; exact kx_U7
      have lkx_w8 := Nat.lt_of_lt_of_le lkx_U7 b8.size
      clear kx_U7 lkx_U7
      have rt_w8 := rt_U7.later b8
      clear rt_U7
      have rs_w8 := rs_U7.later b8
      clear rs_U7
      have rw_w8 := rw_U7.later b8
      clear rw_U7
      have rz_w8 := rz_U7.later b8
      clear rz_U7
      have rx_w8 := rx_U7.later b8
      clear rx_U7
      have B_w8 := bel_trans B_U7 b8
      have G3' := Lib.hid (show M.removeR (M.putP xs (q0, q1, q2, q3, q4)) (pk : Int) = (xs, 0) by rw [HPK.out]; exact G3.out)
      go_wp2_with fail
      refine (impl_RemoveClip _ _ _ _ (pk : Int) w8 rx_w8 (by omega) hx1 hx2).mono ?_
      intro e w9 hr
      obtain ⟨Ab, cb, rfl, rb_w9, hb1', hb2', b9⟩ := retT_nil hr G3'.out
      clear hr
      have Y_w9 : Hid (∀ j u, [Value.int .i64 q0, .int .i64 q1, .int .i64 q2, .int .i64 q3, .int .i64 q4][j]? = some u → w9.cell? ⟨w3.heap.size, j, none⟩ = some u) := Lib.hid fun j u hu => by rw [b9.cell ly_w8]; exact Y_w8.out j u hu
      have ly_w9 := Nat.lt_of_lt_of_le ly_w8 b9.size
      have kt_w9 : w9.cell? ⟨w1.heap.size, 0, none⟩ = some (.slice At xs.length ct) := by rw [b9.cell lkt_w8]; exact kt_w8
      have lkt_w9 := Nat.lt_of_lt_of_le lkt_w8 b9.size
      clear kt_w8 lkt_w8
      have kx_w9 : w9.cell? ⟨w7.heap.size, 0, none⟩ = some (.slice (some ⟨b, o, none⟩) m1 cx) := by rw [b9.cell lkx_w8]; exact kx_w8
      have lkx_w9 := Nat.lt_of_lt_of_le lkx_w8 b9.size
      clear kx_w8 lkx_w8
      have rt_w9 := rt_w8.later b9
      clear rt_w8
      have rs_w9 := rs_w8.later b9
      clear rs_w8
      have rw_w9 := rw_w8.later b9
      clear rw_w8
      have rz_w9 := rz_w8.later b9
      clear rz_w8
      have rx_w9 := rx_w8.later b9
      clear rx_w8
      have B_w9 := bel_trans B_w8 b9
      obtain ⟨U9, hU⟩ : ∃ U, U = w9.alloc (.cells #[.slice Ab xs.length cb] 65) := ⟨_, rfl⟩
      have bU9 : Below w9.heap.size w9 U9 := by rw [hU]; exact (Below.refl _ _).alloc (Nat.le_refl _) _
      have kb_U9 : U9.cell? ⟨w9.heap.size, 0, none⟩ = some (.slice Ab xs.length cb) := by rw [hU]; simp [go_sem]
      have lkb_U9 : w9.heap.size < U9.heap.size := by rw [hU]; simp
      have HU9 := Lib.hid hU
      clear hU
      have Y_U9 : Hid (∀ j u, [Value.int .i64 q0, .int .i64 q1, .int .i64 q2, .int .i64 q3, .int .i64 q4][j]? = some u → U9.cell? ⟨w3.heap.size, j, none⟩ = some u) := Lib.hid fun j u hu => by rw [bU9.cell ly_w9]; exact Y_w9.out j u hu
      have ly_U9 := Nat.lt_of_lt_of_le ly_w9 bU9.size
      have kt_U9 : U9.cell? ⟨w1.heap.size, 0, none⟩ = some (.slice At xs.length ct) := by rw [bU9.cell lkt_w9]; exact kt_w9
      have lkt_U9 := Nat.lt_of_lt_of_le lkt_w9 bU9.size
      have kx_U9 : U9.cell? ⟨w7.heap.size, 0, none⟩ = some (.slice (some ⟨b, o, none⟩) m1 cx) := by rw [bU9.cell lkx_w9]; exact kx_w9
      have lkx_U9 := Nat.lt_of_lt_of_le lkx_w9 bU9.size
      have rt_U9 := rt_w9.later bU9
      have rs_U9 := rs_w9.later bU9
      have rw_U9 := rw_w9.later bU9
      have rz_U9 := rz_w9.later bU9
      have rx_U9 := rx_w9.later bU9
      have rb_U9 := rb_w9.later bU9
      have B_U9 := bel_trans B_w9 bU9
      go_wp2_with fail
      rw [← HU9.out]
      clear kt_w9 lkt_w9
      clear kx_w9 lkx_w9
      clear rt_w9
      clear rs_w9
      clear rw_w9
      clear rz_w9
      clear rx_w9
      clear rb_w9
      refine (impl_TrackEnd_ok _ _ _ xs U9 rt_U9 hok.out (by omega)).mono ?_
      rintro e w10 ⟨rfl, b10⟩
      obtain ⟨ee, hee⟩ : ∃ q : Nat, (q : Int) = M.endT xs := ⟨(M.endT xs).toNat, by omega⟩
      rw [← hee]
      have hee3 : ee ≤ 3000 := by omega
      have HEE := Lib.hid hee
      clear hee g6 g7
      have Y_w10 : Hid (∀ j u, [Value.int .i64 q0, .int .i64 q1, .int .i64 q2, .int .i64 q3, .int .i64 q4][j]? = some u → w10.cell? ⟨w3.heap.size, j, none⟩ = some u) := Lib.hid fun j u hu => by rw [b10.cell ly_U9]; exact Y_U9.out j u hu
      have ly_w10 := Nat.lt_of_lt_of_le ly_U9 b10.size
      have kt_w10 : w10.cell? ⟨w1.heap.size, 0, none⟩ = some (.slice At xs.length ct) := by rw [b10.cell lkt_U9]; exact kt_U9
      have lkt_w10 := Nat.lt_of_lt_of_le lkt_U9 b10.size
      clear kt_U9 lkt_U9
      have kx_w10 : w10.cell? ⟨w7.heap.size, 0, none⟩ = some (.slice (some ⟨b, o, none⟩) m1 cx) := by rw [b10.cell lkx_U9]; exact kx_U9
      have lkx_w10 := Nat.lt_of_lt_of_le lkx_U9 b10.size
      clear kx_U9 lkx_U9
      have kb_w10 : w10.cell? ⟨w9.heap.size, 0, none⟩ = some (.slice Ab xs.length cb) := by rw [b10.cell lkb_U9]; exact kb_U9
      have lkb_w10 := Nat.lt_of_lt_of_le lkb_U9 b10.size
      clear kb_U9 lkb_U9
      have rt_w10 := rt_U9.later b10
      clear rt_U9
      have rs_w10 := rs_U9.later b10
      clear rs_U9
      have rw_w10 := rw_U9.later b10
      clear rw_U9
      have rz_w10 := rz_U9.later b10
      clear rz_U9
      have rx_w10 := rx_U9.later b10
      clear rx_U9
      have rb_w10 := rb_U9.later b10
      clear rb_U9
      have B_w10 := bel_trans B_U9 b10
      go_wp2_with fail
      refine (spec_SameTrack_yes _ _ _ _ _ xs w10 rb_w10 rt_w10 (by omega)).mono ?_
      rintro e w11 ⟨rfl, b11⟩
      have Y_w11 : Hid (∀ j u, [Value.int .i64 q0, .int .i64 q1, .int .i64 q2, .int .i64 q3, .int .i64 q4][j]? = some u → w11.cell? ⟨w3.heap.size, j, none⟩ = some u) := Lib.hid fun j u hu => by rw [b11.cell ly_w10]; exact Y_w10.out j u hu
      have ly_w11 := Nat.lt_of_lt_of_le ly_w10 b11.size
      have kt_w11 : w11.cell? ⟨w1.heap.size, 0, none⟩ = some (.slice At xs.length ct) := by rw [b11.cell lkt_w10]; exact kt_w10
      have lkt_w11 := Nat.lt_of_lt_of_le lkt_w10 b11.size
      clear kt_w10 lkt_w10
      have kx_w11 : w11.cell? ⟨w7.heap.size, 0, none⟩ = some (.slice (some ⟨b, o, none⟩) m1 cx) := by rw [b11.cell lkx_w10]; exact kx_w10
      have lkx_w11 := Nat.lt_of_lt_of_le lkx_w10 b11.size
      clear kx_w10 lkx_w10
      have kb_w11 : w11.cell? ⟨w9.heap.size, 0, none⟩ = some (.slice Ab xs.length cb) := by rw [b11.cell lkb_w10]; exact kb_w10
      have lkb_w11 := Nat.lt_of_lt_of_le lkb_w10 b11.size
      clear kb_w10 lkb_w10
      have rt_w11 := rt_w10.later b11
      clear rt_w10
      have rs_w11 := rs_w10.later b11
      clear rs_w10
      have rw_w11 := rw_w10.later b11
      clear rw_w10
      have rz_w11 := rz_w10.later b11
      clear rz_w10
      have rx_w11 := rx_w10.later b11
      clear rx_w10
      have rb_w11 := rb_w10.later b11
      clear rb_w10
      have B_w11 := bel_trans B_w10 b11
      obtain ⟨N, hN⟩ : ∃ q : Nat, q = ee + 5 := ⟨_, rfl⟩
      have hN1 : (ee : Int) + 5 = (N : Int) := by omega
      have HN1 := Lib.hid hN1
      have HN := Lib.hid hN
      have hN4 : N ≤ 4000 := by omega
      have R5 := Lib.hid (M.renderR_ok (n := N) hso.out hok.out (by rw [hsli.out]; exact hhas.out) hN4)
      have RL5 := Lib.hid (M.renT_len src xs N)
      have TZ := Lib.hid (M.renT_tail src (xs := xs) (e := ee) (m := 5) (fun c hc => by rw [HEE.out]; exact G8.out c hc))
      clear hN1 hN
      go_wp2_with fail
      rw [HN1.out]
      refine (impl_RenderTrack _ _ _ _ _ _ (N : Int) src xs w11 rs_w11 rt_w11 hlen (by omega) (by omega)).mono ?_
      intro e w12 hr
      obtain ⟨Ad, cd, rfl, rd, hd1, hd2, b12⟩ := ret2_cap hr R5.out
      clear hr
      rw [RL5.out] at rd hd1 ⊢
      unfold maxLen at hd2
      have hN5 : ee < N := by rw [HN.out]; omega
      obtain ⟨ad, z0, rfl, had, -, -⟩ := rd.at (k := 0) (by omega)
      have n1 : ¬ cd = ee := by omega
      have n3 : N - ee = 5 := by rw [HN.out]; omega
      have i1 : (ee : Int) ≤ (N : Int) := by omega
      have i2 : (N : Int) ≤ (cd : Int) := by omega
      have hN6 : ee + 5 ≤ N := by omega
      have sd := rd.sub (lo := ee) (m := 5) (c := cd) hN6 hd1 (by omega)
      rw [HN.out] at sd
      have eN := Lib.hid (show ((ee : Int) + 5 == (N : Int)) = true by rw [HN1.out]; simp)
      go_wp2_with fail
      refine (laws_v8Zeros _ _ _ _ w12 sd TZ (by omega)).mono ?_
      rintro e w' ⟨rfl, rfl⟩
      go_wp2
      go_ret
      exact ⟨rfl, bel_trans B_w11 b12⟩
end Go.Proofs.Ytckihflfjecpbaa
