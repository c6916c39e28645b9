import Derived.Test.YtfkcoiefkjmdeaaGreatFnGainsG10
import Derived.Test.YtfkcoiefkjmdeaaGreatFnGainsG8
import Derived.Test.YtfkcoiefkjmdeaaGreatFnGainsG9
import Derived.StillTailTactics
import Derived.Deep.RegionWith
import Derived.Test.YtfkcoiefkjmdeaaGreatFnGainsG3
import Derived.Deep.RegionHeld3
import Derived.Test.YtfkcoiefkjmdeaaGreatFnGainsG4
import Derived.Test.YtfkcoiefkjmdeaaGreatFnGainsG7
set_option linter.unusedVariables false
set_option linter.unusedSimpArgs false
namespace Go.Proofs.YtfkcoiefkjmdeaaGreat
open Go.RowKit Go.Sort
set_option maxHeartbeats 4000000
set_option maxRecDepth 100000
set_option linter.unusedVariables false
set_option linter.unusedSimpArgs false
theorem newbox7 (w : World) (z0 z1 z2 z3 z4 z5 z6 : Value) (t : TypeId) : ∃ U, U = w.alloc (.cells #[z0, z1, z2, z3, z4, z5, z6] t) ∧ Below w.heap.size w U ∧ U.heap.size = w.heap.size + 1 ∧ U.cell? ⟨w.heap.size, 0, none⟩ = some z0 ∧ U.cell? ⟨w.heap.size, 1, none⟩ = some z1 ∧ U.cell? ⟨w.heap.size, 2, none⟩ = some z2 ∧ U.cell? ⟨w.heap.size, 3, none⟩ = some z3 ∧ U.cell? ⟨w.heap.size, 4, none⟩ = some z4 ∧ U.cell? ⟨w.heap.size, 5, none⟩ = some z5 ∧ U.cell? ⟨w.heap.size, 6, none⟩ = some z6 :=
  ⟨_, rfl, (Below.refl _ _).alloc (Nat.le_refl _) _, by simp, by simp [go_sem], by simp [go_sem], by simp [go_sem], by simp [go_sem], by simp [go_sem], by simp [go_sem], by simp [go_sem]⟩
theorem impl_playerOf (pi : Int) (A1 : Option Addr) (n1 c1 : Nat) (A2 : Option Addr) (n2 c2 : Nat) (A3 : Option Addr) (n3 c3 : Nat) (Av : Option Addr) (nv cv : Nat) (ns : List Node) (tb : List (List Int)) (outs : List Int) (cs : List (List Int)) (w : World)
    (h1 : RS tS w w.heap.size (.slice A1 n1 c1) tb) (h2 : RS tN w w.heap.size (.slice A2 n2 c2) ns) (h3 : RI w w.heap.size A3 n3 outs) (hS : tSS.R w w.heap.size [.slice Av nv cv] cs) (hF : M.PF ns tb (M.ord ns)) (h0 : 0 < n2) (hnz : hNS.sz ns ≤ 100000000) (hcz : hSS.sz cs ≤ 100000000) (hcl : cs.length = ns.length) :
    Calls Tryz.prog 114 #[.agg #[.int .i64 pi, .slice A1 n1 c1, .slice A2 n2 c2, .slice A3 n3 c3], .agg #[.slice Av nv cv]] w fun e w' => ∃ (b bv bc L : Nat) (Ao : Option Addr) (co cv' cc : Nat), e = .returned (.pointer (some ⟨b, 0, none⟩)) ∧
      Pl b bv bc L pi A1 n1 c1 A2 n2 c2 A3 n3 c3 Ao n2 co cv' cc ns tb outs (M.ord ns) w' ∧ OI 2 L w' (.slice (some ⟨bv, 0, none⟩) n2 cv') (List.replicate n2 0) ∧ CR (F2 bv bc) 26 L w' (.slice (some ⟨bc, 0, none⟩) n2 cc) cs ∧ Below w.heap.size w w' ∧ w.heap.size ≤ bv ∧ w.heap.size ≤ bc := by
  have hl := Lib.hid h2.cap.1
  have hnb : n2 ≤ 100000000 := by have e : ns.length + hN.szL ns = hNS.sz ns := rfl; have := hl.out; omega
  obtain ⟨W0, hW0, B0_, s0, p0, p1, p2, p3, pf⟩ := newbox4 w (.int .i64 pi) (.slice A1 n1 c1) (.slice A2 n2 c2) (.slice A3 n3 c3) 36
  obtain ⟨W, hW, B1_, s1, r0, rf⟩ := newbox1 W0 (.slice Av nv cv) 153
  have B0 := bel_trans B0_ B1_
  have q0 : W.cell? ⟨w.heap.size, 0, none⟩ = some (.int .i64 pi) := by rw [B1_.cell (by show w.heap.size < _; omega)]; exact p0
  have q1 : W.cell? ⟨w.heap.size, 1, none⟩ = some (.slice A1 n1 c1) := by rw [B1_.cell (by show w.heap.size < _; omega)]; exact p1
  have q2 : W.cell? ⟨w.heap.size, 2, none⟩ = some (.slice A2 n2 c2) := by rw [B1_.cell (by show w.heap.size < _; omega)]; exact p2
  have q3 : W.cell? ⟨w.heap.size, 3, none⟩ = some (.slice A3 n3 c3) := by rw [B1_.cell (by show w.heap.size < _; omega)]; exact p3
  rw [s0] at r0
  rw [hW0] at hW
  have HW := Lib.hid hW
  have lW : w.heap.size + 1 < W.heap.size := by omega
  have m0 := cell_regrown q0
  have m1 := cell_regrown q1
  have m2 := cell_regrown q2
  have m3 := cell_regrown q3
  have m4 := cell_regrown r0
  have D1 : Below W.heap.size W W.drew := below_drewN (Below.refl _ _) 1
  have hd0 : W.drew.heap.size = W.heap.size := rfl
  have BD : Below w.heap.size w W.drew := below_drewN B0 1
  have hid1 := Lib.hid (fun (x : Node) (hx : x ∈ ns) (f : Int) (hf : f ∈ x.2.2.2) => show M.idx n2 f = true from by
    obtain ⟨i, hi⟩ := List.getElem?_of_mem hx
    have := hF.fr i x hi f hf
    rw [hl.out] at this
    exact M.inn_iff.2 (by omega))
  have HO := Lib.hid hF.top.len
  have HCL := Lib.hid hcl
  clear hW0 hW s0 s1 p0 p1 p2 p3 pf rf B0_ B1_ q0 q1 q2 q3 r0 hcl
  go_enter Tryz.func114, Tryz.ntmps114
  go_wp2_with fail
  rw [← HW.out]
  (refine wp_region_fresh2 [3, 7] [0, 1, 4, 8] 4 (.one 2 (.one 5 (.one 6 (.one 9 .rest)))) [10] [10, 11, 12] (by kernel_rfl) (by kernel_rfl) ?_; simp only [pickOps]; simp only [List.filterMap, List.getElem?_cons_succ, List.getElem?_cons_zero]; (repeat (go_big_quiet_step (fail))); refine wpQuiet_nil ?_; (repeat (go_big_quiet_step (fail))); refine wpQuiet_nil ?_)
  refine seqT_one2 rfl ?_
  go_wp2_with fail
  refine (impl_order _ _ _ _ _ _ _ _ _ _ ns _ (h2.later BD) hnz hid1).mono ?_
  rintro e w1 ⟨v1, rfl, own1, bel1⟩
  have hln : (M.ord ns).length = n2 := by rw [HO.out, hl.out]
  obtain ⟨A4, c4, rfl, -⟩ := own1.shape
  rw [hln] at own1 ⊢
  have HLN := Lib.hid hln
  have B1 := bel_trans D1 bel1
  have s1 := bel1.size
  clear hln
  go_wp2_with fail
  refine ⟨regrown_of_below B1, ?_⟩
  refine seqT_one2 rfl ?_
  go_wp2_with (go_at_call 131; refine (impl_size_impl_Node _ _ _ _).mono ?_; rintro e w' ⟨rfl, rfl⟩)
  refine ⟨regrown_of_below B1, ?_⟩
  refine seqT_one2 rfl ?_
  go_wp2_with fail
  refine (impl_zeros _ _ (by omega) (by omega)).mono ?_
  rintro e w2 ⟨v2, rfl, own2, bel2⟩
  rw [Int.toNat_natCast] at own2
  have B2 := bel_trans B1 bel2
  have s2 := bel2.size
  obtain ⟨bv, cv', e2, hbv1, hbv2⟩ := own2.form (by simp; omega)
  rw [List.length_replicate] at e2
  subst e2
  go_wp2_with fail
  refine ⟨regrown_of_below B2, ?_⟩
  refine seqT_one2 rfl ?_
  go_wp2_with fail
  refine (impl_clones _ _ _ cs _ (tSS.later hS (bel_trans B0 B2)) hcz).mono ?_
  rintro e w3 ⟨v3, rfl, own3, bel3⟩
  have B3 := bel_trans B2 bel3
  have s3 := bel3.size
  obtain ⟨bc, cc, e3, hbc1, hbc2⟩ : ∃ bc cc, v3 = .slice (some ⟨bc, 0, none⟩) cs.length cc ∧ w2.heap.size ≤ bc ∧ bc < w3.heap.size := by
    obtain ⟨css, Fs, g1, g2, g3, _⟩ := own3
    obtain ⟨g, cap, hv, _, hg⟩ := World.ownsRow.form g1 (by rw [HCL.out, hl.out]; omega)
    exact ⟨g, cap, hv, (g3 g (by rw [hv]; rfl)).1, hg⟩
  have C3 : CR (F2 bv bc) 26 w1.heap.size w3 v3 cs := CR.of_os own3 (fun k hk hG => by
    rcases hk with rfl | rfl
    · have := hG.1; omega
    · rw [e3]; rfl) (fun k hk => by rw [e3] at hk; simp only [Value.ownBlock, Option.some.injEq] at hk; omega)
  rw [HCL.out, hl.out] at e3
  subst e3
  obtain ⟨U, hU, BU, sU, u0, u1, u2, u3, u4, u5, u6⟩ := newbox7 w3 (.int .i64 pi) (.slice A1 n1 c1) (.slice A2 n2 c2) (.slice A3 n3 c3) (.slice A4 n2 c4) (.slice (some ⟨bv, 0, none⟩) n2 cv') (.slice (some ⟨bc, 0, none⟩) n2 cc) 166
  have BB := bel_trans (bel_trans B0 B3) BU
  have sW := B0.size
  have o1 := (own1.base (show 0 ≤ _ by omega)).below ((bel_trans bel2 bel3).trans (BU.mono (by omega)))
  have R1 : RI U w1.heap.size A4 n2 (M.ord ns) := by
    have h := own1.ri'
    exact h.below ((bel_trans bel2 bel3).trans (BU.mono (by omega)))
  have HU := Lib.hid hU
  clear hU o1
  go_wp2_with fail
  refine ⟨regrown_of_below B3, ?_⟩
  refine seqT_rest2 ?_
  go_wp2_with fail
  rw [← HU.out]
  go_ret
  exact ⟨w3.heap.size, bv, bc, w1.heap.size, A4, c4, cv', cc, rfl, ⟨u0, u1, u2, u3, u4, u5, u6, (h1.below BB).more (by omega), (h2.below BB).more (by omega), (h3.below BB).more (by omega), R1, hbv1, by omega, by omega, by omega, by omega, by omega⟩,
    own2.below (bel_trans bel3 BU), C3.below BU, BB, by omega, by omega⟩
end Go.Proofs.YtfkcoiefkjmdeaaGreat
namespace Go.Proofs.YtfkcoiefkjmdeaaGreat
open Go.RowKit Go.Sort
set_option maxHeartbeats 4000000
set_option maxRecDepth 100000
set_option linter.unusedVariables false
set_option linter.unusedSimpArgs false
section
variable {P : Program} {t e : TypeId} {z : Value} {bytes : Nat}
/-- 'out = append(out, x)', and where the row lies then. -/
theorem wpList_push1b (hE : EI P t e z 1 bytes) {w : World} {ops : Array Oper} {rest : List Oper} {o : Oper} {a : Act} {Q : Exit → Act → World → Prop} {u : Value}
    (hgd : o.guard = none) (s x : Operand)
    (ho : o.op = .call { callee := .builtin .append, args := #[s, x], argTypes := #[t, t] })
    {B : Nat} {v : Value} {n : Nat} {xs : List Value} (hown : w.ownsRow B e 1 v n xs) (hs : a.eval s = v)
    (hx : a.eval x = .slice (some ⟨w.heap.size, 0, none⟩) 1 1) (h1 : u.oneCell' = true)
    (hn : n + 1 ≤ maxLen) (hbytes : (n + 1) * bytes ≤ 140737488355328) (hbase : B ≤ w.heap.size)
    (K : ∀ v' w', w'.ownsRow B e 1 v' (n + 1) (xs ++ [u]) → w.grownBy w' v.ownBlock → Below B w w' → (v'.ownBlock = v.ownBlock ∨ ∀ k, v'.ownBlock = some k → w.heap.size ≤ k) → wpList P ops Q rest (a.put o.dst v') w') :
    wpList P ops Q (o :: rest) a (w.alloc (.cells #[u] e)) := by
  obtain ⟨ht, hinfo, hzs, hsz⟩ := hE
  obtain ⟨i0, hi, hz0, hz1, hz2⟩ := info_parts hinfo
  refine wpList_append_own_at _ hgd s x t ho B e i0 z 1 bytes ht hi hz0 hz1 hz2 hzs hsz v n xs hs (hown.alloc _) ⟨w.heap.size, 0, none⟩ 1 1 [u] hx rfl ?_ (by simpa using h1) hn hbytes (by simp; omega) ?_
  · intro j u2 hj
    have hadd : (⟨w.heap.size, 0, none⟩ : Addr).add j = ⟨w.heap.size, j, none⟩ := by unfold Addr.add; split <;> simp_all
    rw [hadd, cell_of_row _ w.heap.size j #[u] e (0, 0) (heap_alloc_new w _)]
    simpa using hj
  · intro v' w' h2 h3 _ g4
    have h4 : w.grownBy w' v.ownBlock := by
      have := World.grownBy_alloc w (.cells #[u] e) none
      exact ⟨h3.os.trans this.os, h3.tape.trans this.tape, h3.output.trans this.output, Nat.le_trans this.size h3.size, fun k hk hne => by
        rw [h3.block k (by simp; omega) hne]; exact this.block k hk (by simp)⟩
    refine K v' w' h2 h4 ((Below.refl _ _).grown h4 hbase fun k hk => (hown.lt k hk).1) ?_
    rcases g4 with h | h
    · exact .inl h
    · refine .inr fun k hk => ?_
      rw [h] at hk
      have hsz' : (w.alloc (.cells #[u] e)).heap.size = w.heap.size + 1 := by simp
      rw [hsz', Option.some.injEq] at hk
      omega
end
theorem impl_player_block (b bv bc L : Nat) (A1 : Option Addr) (n1 c1 : Nat) (A2 : Option Addr) (n2 c2 : Nat) (A3 : Option Addr) (c3 : Nat) (Ao : Option Addr) (no co_ cv cc : Nat) (ns : List Node) (tb : List (List Int)) (o : Int) (O vs : List Int) (bi oi ci : Nat) (A : Option Addr) (m c : Nat) (xs : List Int) (n : Nat) (w : World)
    (hP : Pl b bv bc L 1 A1 n1 c1 A2 n2 c2 A3 1 c3 Ao no co_ cv cc ns tb [o] O w) (hF : M.PF ns tb O) (h0 : 0 < n2) (hnz : hNS.sz ns ≤ 100000000) (ho : 0 ≤ o ∧ o < n2)
    (hv : OI 2 L w (.slice (some ⟨bv, 0, none⟩) n2 cv) vs) (hvs : vs.all M.smp = true) (hc : CR (F2 bv bc) 26 L w (.slice (some ⟨bc, 0, none⟩) n2 cc) (ns.map M.start))
    (ci0 : w.cell? ⟨bi, oi, none⟩ = some (.slice A m c)) (hbi : bi ≠ bv ∧ bi ≠ bc) (hx : RN (F2 bv bc) w A m xs) (hxs : xs.all M.smp = true) (hm : m ≤ 1000000) (hn : n ≤ 4000) :
    Calls Tryz.prog 116 #[.pointer (some ⟨b, 0, none⟩), .slice (some ⟨bi, oi, none⟩) 1 ci, .int .i64 0, .int .i64 n] w fun e w' => ∃ (g c' : Nat) (A' : Option Addr) (c'' : Nat), e = .returned (.slice (some ⟨g, 0, none⟩) 1 c') ∧ w'.cell? ⟨g, 0, none⟩ = some (.slice A' n c'') ∧ RI w' w'.heap.size A' n (M.playO ns tb O xs o n) ∧ Chg (F2 bv bc) w w' := by
  have lbv : bv < w.heap.size := (World.ownsRow.lt hv _ rfl).2
  have lbc : bc < w.heap.size := by obtain ⟨us, h1, _⟩ := hc; exact (World.ownsRow.lt h1 _ rfl).2
  have lb : b < w.heap.size := World.block_lt_of_cell? w _ hP.p0
  have lbi : bi < w.heap.size := World.block_lt_of_cell? w _ ci0
  have nbi : ¬ F2 bv bc bi := fun e => e.elim hbi.1 hbi.2
  have lL := hP.lL
  have lv := hP.lv
  have lc := hP.lc
  have nbv := hP.nbv
  have nbc := hP.nbc
  have p0 := hP.p0
  have p3 := hP.p3
  have hx1 := Lib.hid hx.1.len
  have HXS := Lib.hid hxs
  have HL2 := Lib.hid hP.h2.cap.1
  have hnb : n2 ≤ 24 := by rw [← HL2.out]; exact hF.len
  clear hxs
  go_enter Tryz.func116, Tryz.ntmps116
  go_wp2_with (at_make; refine wpList_mk ei_S rfl _ _ rfl 1 _ _ rfl rfl rfl rfl (by omega) (by unfold maxLen; omega) ?_; intro w1 own1 bel1; have p0' : w1.cell? ⟨b, 0, none⟩ = some (.int .i64 1) := (by rw [bel1.cell (by show b < _; omega)]; exact p0))
  have z1 := (World.ownsRow.lt own1 _ rfl).2
  have s1 := bel1.size
  have oc0 : w1.cell? ⟨w.heap.size, 0, none⟩ = some (.slice none 0 0) := by rw [World.ownsRow.cellAt own1 0 (by omega)]; simp [madeCells, Value.cells]
  have of0 : w1.frozen? ⟨w.heap.size, 0, none⟩ = false := World.ownsRow.frozenAt own1 0
  clear own1 p0
  refine (impl_zeros 1 _ (by omega) (by omega)).mono ?_
  rintro e w2 ⟨v2, rfl, own2, bel2⟩
  obtain ⟨bf, cf, e2, hbf1, hbf2⟩ := own2.form (by decide)
  rw [show (List.replicate (1 : Int).toNat (0 : Int)).length = 1 from rfl] at e2
  subst e2
  have s2 := bel2.size
  replace own2 : OI 2 w1.heap.size w2 (.slice (some ⟨bf, 0, none⟩) 1 cf) [0] := own2
  have oc2 : w2.cell? ⟨w.heap.size, 0, none⟩ = some (.slice none 0 0) := by rw [bel2.cell (by show w.heap.size < _; omega)]; exact oc0
  have of2 : w2.frozen? ⟨w.heap.size, 0, none⟩ = false := by rw [bel2.frozen (by show w.heap.size < _; omega)]; exact of0
  have B2 := bel_trans bel1 bel2
  have hcG : CR (fun k => k = bv ∨ k = bc ∨ k = bf ∨ k = w.heap.size) 26 L w2 (.slice (some ⟨bc, 0, none⟩) n2 cc) (ns.map M.start) := (hc.more (F' := fun k => k = bv ∨ k = bc ∨ k = bf ∨ k = w.heap.size) (fun k hk => by
    rcases hk with h | h | h | h
    · exact .inl (.inl h)
    · exact .inl (.inr h)
    · exact .inr (by omega)
    · exact .inr (by omega))).below B2
  clear oc0 of0 p0' bel1 bel2 p3
  go_wp2_with fail
  go_loopw [11] (fun i wr => ∃ t : Nat, i = .int .i64 t ∧ t ≤ n ∧ ∃ (V : List Int) (y : Int) (vo : Value), Hid (V.all M.smp = true) ∧ Chg (F2 bv bc) w wr ∧ w2.heap.size ≤ wr.heap.size ∧ OI 2 L wr (.slice (some ⟨bv, 0, none⟩) n2 cv) V ∧ CR (fun k => k = bv ∨ k = bc ∨ k = bf ∨ k = w.heap.size ∨ vo.ownBlock = some k) 26 L wr (.slice (some ⟨bc, 0, none⟩) n2 cc) (M.celsN ns tb O xs t) ∧
    OI 2 w1.heap.size wr (.slice (some ⟨bf, 0, none⟩) 1 cf) [y] ∧ wr.cell? ⟨w.heap.size, 0, none⟩ = some vo ∧ wr.frozen? ⟨w.heap.size, 0, none⟩ = false ∧ OI 2 w2.heap.size wr vo (M.playO ns tb O xs o t)) (fun i _ => n - (intOf i).toNat)
  case atStart => exact ⟨0, rfl, by omega, vs, 0, _, Lib.hid hvs, grow_chg B2, Nat.le_refl _, hv.below B2, hcG.more (fun k hk => by rcases hk with h | h | h | h | h; (exact .inl (.inl h)); (exact .inl (.inr (.inl h))); (exact .inl (.inr (.inr (.inl h)))); (exact .inl (.inr (.inr (.inr h)))); cases h), own2, oc2, of2, OI.nil _ _ _⟩
  case round =>
    obtain ⟨t, rfl, ht, V, y, vo, HV, hch, hsz, ov, oc, ofr, co, fo, oo⟩ := hrel
    obtain ⟨wo, rfl⟩ : ∃ wo : World, wo = wr := ⟨_, rfl⟩
    by_cases hlt : t < n
    · have HC := M.celsN_ok hF HXS.out t
      have hP1 := hP.chg hch
      have HS := Lib.hid (M.playO_snoc ns tb O xs o t)
      have HN := Lib.hid (show M.celsN ns tb O xs (t + 1) = M.next_ ns tb [M.at_ xs (t : Int)] O (M.celsN ns tb O xs t) from rfl)
      have HW := Lib.hid (show M.valsN ns tb O xs t = M.vals ns tb [M.at_ xs (t : Int)] O (M.celsN ns tb O xs t) from rfl)
      have HVL := Lib.hid (M.valsN_smp hF HXS.out t)
      have hax := M.at_smp HXS.out (t : Int)
      have hxo := hx.chg hch
      have cio : wo.cell? ⟨bi, oi, none⟩ = some (.slice A m c) := by rw [hch.cell lbi nbi]; exact ci0
      have t0 : (0 : Int) ≤ (t : Int) := by omega
      have t1 : (t : Int) < (n : Int) := by omega
      obtain ⟨cy, hcy⟩ : ∃ cy, cy = M.at_ xs (t : Int) := ⟨_, rfl⟩
      have fz := World.ownsRow.frozenAt ofr 0
      have fc : wo.cell? ⟨bf, 0, none⟩ = some (.int .i64 y) := by rw [World.ownsRow.cellAt ofr 0 (by simp)]; rfl
      go_wp2_with fail
      go_loopw [38] (fun i wr => ∃ k : Nat, i = .int .i64 k ∧ ((k = 0 ∧ wr = wo) ∨ (k = 1 ∧ wr = wo.setCell ⟨bf, 0, none⟩ (.int .i64 cy)))) (fun i _ => 1 - (intOf i).toNat)
      case atStart => exact ⟨0, rfl, .inl ⟨rfl, rfl⟩⟩
      case round =>
        obtain ⟨k, rfl, hor⟩ := hrel
        rcases hor with ⟨rfl, rfl⟩ | ⟨rfl, rfl⟩
        · have HCY := Lib.hid hcy
          clear hcy
          go_wp2_with fail
          refine (impl_at _ _ _ xs _ _ hxo.1 (by omega) (by omega)).mono ?_
          rw [← HCY.out]
          rintro e w' ⟨rfl, rfl⟩
          go_wp2_with fail
          go_roundw
          case rel => exact ⟨1, by go_num, .inr ⟨rfl, by trivial⟩⟩
          case measure => simp [intOf]
        · have ofr2 : OI 2 w1.heap.size (wo.setCell ⟨bf, 0, none⟩ (.int .i64 cy)) (.slice (some ⟨bf, 0, none⟩) 1 cf) [cy] := ofr.stored' 0 cy
          have hcf : Chg (fun x => x = bf) wo (wo.setCell ⟨bf, 0, none⟩ (.int .i64 cy)) := Chg.set wo bf 0 _ rfl
          have cfc : (wo.setCell ⟨bf, 0, none⟩ (.int .i64 cy)).cell? ⟨bf, 0, none⟩ = some (.int .i64 cy) := by rw [World.ownsRow.cellAt ofr2 0 (by simp)]; rfl
          have ov2 := ov.kept (grown_setCell wo bf 0 (.int .i64 cy)) (.inr (by simp only [Value.ownBlock, ne_eq, Option.some.injEq]; omega))
          have oo2 := oo.kept (grown_setCell wo bf 0 (.int .i64 cy)) (.inr (fun e => by have := (World.ownsRow.lt oo _ e).1; omega))
          have hch2 : Chg (F2 bv bc) w (wo.setCell ⟨bf, 0, none⟩ (.int .i64 cy)) := hch.up hcf (fun x hx e => by omega)
          have oc2 : CR (fun k => k = bv ∨ k = bc ∨ k = bf ∨ k = w.heap.size ∨ vo.ownBlock = some k) 26 L (wo.setCell ⟨bf, 0, none⟩ (.int .i64 cy)) (.slice (some ⟨bc, 0, none⟩) n2 cc) (M.celsN ns tb O xs t) := oc.chg hcf (fun k hk => .inr (.inr (.inl hk))) (fun k hk hk2 => by simp only [Value.ownBlock, Option.some.injEq] at hk; omega)
          have co2 : (wo.setCell ⟨bf, 0, none⟩ (.int .i64 cy)).cell? ⟨w.heap.size, 0, none⟩ = some vo := by rw [hcf.cell (by omega) (by omega)]; exact co
          have fo2 : (wo.setCell ⟨bf, 0, none⟩ (.int .i64 cy)).frozen? ⟨w.heap.size, 0, none⟩ = false := by rw [hcf.frozen (by omega) (by omega)]; exact fo
          obtain ⟨wp, hwp⟩ : ∃ wp, wp = wo.setCell ⟨bf, 0, none⟩ (.int .i64 cy) := ⟨_, rfl⟩
          have swp : wo.heap.size ≤ wp.heap.size := by rw [hwp]; simp
          have hP2 := hP.chg hch2
          rw [← hwp] at ofr2 cfc ov2 oo2 hch2 oc2 co2 fo2 hP2 ⊢
          clear hwp hcf
          rw [← hcy] at hax
          have HCY := Lib.hid hcy
          clear hcy
          go_wp2_with fail
          refine (impl_player_frame b bv bc L 1 _ _ c1 _ _ c2 _ _ c3 _ _ co_ cv cc ns tb [o] O V (M.celsN ns tb O xs t) bf 0 cf cy (fun k => k = bv ∨ k = bc ∨ k = bf ∨ k = w.heap.size ∨ vo.ownBlock = some k) wp (fun k hk => hk.elim .inl (fun h => .inr (.inl h))) (fun k hk => by rcases hk with h | h | h | h | h; omega; omega; omega; omega; exact (World.ownsRow.lt oo2 _ h).2) hP2 hF hax h0 hnz ov2 HV.out oc2 HC cfc (by omega)).mono ?_
          rintro e w3 ⟨rfl, ch3, ov3, oc3⟩
          rw [← HCY.out] at HN HW
          rw [← HW.out] at ov3
          rw [← HN.out] at oc3
          have hch3 := hch2.trans ch3
          have hP3 := hP.chg hch3
          have s3 := ch3.size
          have p3_3 := hP3.p3
          have p5_3 := hP3.p5
          have ofr3 := ofr2.chg ch3 (fun k hk h => by simp only [Value.ownBlock, Option.some.injEq] at hk; rcases h with h | h <;> omega)
          have oo3 := oo2.chg ch3 (fun k hk h => by have := (World.ownsRow.lt oo2 _ hk).1; rcases h with h | h <;> omega)
          have co3 : w3.cell? ⟨w.heap.size, 0, none⟩ = some vo := by rw [ch3.cell (by omega) (fun h => by rcases h with h | h <;> omega)]; exact co2
          have fo3 : w3.frozen? ⟨w.heap.size, 0, none⟩ = false := by rw [ch3.frozen (by omega) (fun h => by rcases h with h | h <;> omega)]; exact fo2
          have HMI := Lib.hid (show M.mapI [o] (M.valsN ns tb O xs t) = [M.i_ (M.valsN ns tb O xs t) o.toNat] from rfl)
          clear ov2 oc2 oo2 ofr2 co2 fo2 hP2 hch2 cfc ov oc ofr co fo oo fz fc hP1 hxo cio
          go_wp2_with fail
          refine (impl_player_outputs b _ n2 cv (M.valsN ns tb O xs t) _ 1 c3 [o] w3 p3_3 p5_3 ov3.ri' (hP3.h3.more hP3.lL) (by omega) (by omega) (Lib.hid (fun f hf => by
            obtain rfl : f = o := by simpa using hf
            omega))).mono ?_
          rintro e w4 ⟨v4, rfl, own4, bel4⟩
          rw [HMI.out] at own4
          obtain ⟨g4, cap4, e4, hg4, hg4'⟩ := own4.form (by simp)
          rw [List.length_singleton] at e4
          subst e4
          obtain ⟨x4, hx4⟩ : ∃ x4, x4 = M.i_ (M.valsN ns tb O xs t) o.toNat := ⟨_, rfl⟩
          rw [← hx4] at own4 HS
          have s4 := bel4.size
          have c4 : w4.cell? ⟨g4, 0, none⟩ = some (.int .i64 x4) := by rw [World.ownsRow.cellAt own4 0 (by simp)]; rfl
          have co4 : w4.cell? ⟨w.heap.size, 0, none⟩ = some vo := by rw [bel4.cell (by show w.heap.size < _; omega)]; exact co3
          have fo4 : w4.frozen? ⟨w.heap.size, 0, none⟩ = false := by rw [bel4.frozen (by show w.heap.size < _; omega)]; exact fo3
          have oo4 := oo3.below bel4
          have hln := Lib.hid (M.playO_len ns tb O xs o t)
          clear hx4
          go_wp2_with fail
          obtain ⟨wq, rfl⟩ : ∃ wq : World, wq = w4 := ⟨_, rfl⟩
          go_loopw [57] (fun i wr => ∃ k : Nat, i = .int .i64 k ∧ ((k = 0 ∧ wr = wq) ∨ (k = 1 ∧ ∃ v', wr.cell? ⟨w.heap.size, 0, none⟩ = some v' ∧ wr.frozen? ⟨w.heap.size, 0, none⟩ = false ∧ OI 2 w2.heap.size wr v' (M.playO ns tb O xs o (t + 1)) ∧ Chg (fun b => b = w.heap.size ∨ vo.ownBlock = some b) wq wr ∧ (v'.ownBlock = vo.ownBlock ∨ ∀ k, v'.ownBlock = some k → wq.heap.size ≤ k)))) (fun i _ => 1 - (intOf i).toNat)
          case atStart => exact ⟨0, rfl, .inl ⟨rfl, rfl⟩⟩
          case round =>
            obtain ⟨k, rfl, hor⟩ := hrel
            rcases hor with ⟨rfl, rfl⟩ | ⟨rfl, v5, co5, fo5, oo5, ch5, hb5⟩
            · have hlp := M.playO_len ns tb O xs o t
              have hlp' : (M.playO ns tb O xs o t).length ≤ 1000000 := by omega
              clear hlp
              go_wp2_with (at_builtin; refine wpList_push1b ei_i64 rfl _ _ rfl oo4 rfl rfl rfl (by unfold maxLen; omega) (by omega) (by omega) ?_; intro v5 w5 own5 gr5 bel5 hb5; have op5 := OI.push own5; obtain ⟨A5, c5, e5, -⟩ := op5.shape; obtain ⟨n5, hn5⟩ : ∃ n5, n5 = (M.playO ns tb O xs o t ++ [x4]).length := ⟨_, rfl⟩; rw [← hn5] at e5; subst e5; have HN5 := Lib.hid hn5; clear hn5; have hc5 : w5.cell? ⟨w.heap.size, 0, none⟩ = some vo := (by rw [bel5.cell (by show w.heap.size < _; omega)]; exact co4); have hf5 : w5.frozen? ⟨w.heap.size, 0, none⟩ = false := (by rw [bel5.frozen (by show w.heap.size < _; omega)]; exact fo4))
              go_roundw
              case rel =>
                refine ⟨1, by go_num, .inr ⟨rfl, .slice A5 n5 c5, World.cell?_setCell_same (h := hc5) .., by simp [go_sem, hf5], ?_, ?_, hb5⟩⟩
                · rw [HS.out]
                  exact op5.kept (grown_setCell _ _ 0 _) (.inr (fun e => by have := (World.ownsRow.lt op5 _ e).1; omega))
                · exact (Chg.of_grown gr5 (fun k hk => .inr hk)).trans (Chg.set w5 _ 0 _ (.inl rfl))
              case measure => simp [intOf]
            · have s5 := ch5.size
              have hch5 : Chg (F2 bv bc) w wr := (hch3.trans (grow_chg bel4)).up ch5 (fun x hx e => by
                rcases e with e | e
                · omega
                · have := (World.ownsRow.lt oo4 _ e).1; omega)
              have nF : ∀ x, x < w2.heap.size → x ≠ w.heap.size → ¬ (x = w.heap.size ∨ vo.ownBlock = some x) := fun x hx hne e => by
                rcases e with e | e
                · exact hne e
                · have := (World.ownsRow.lt oo4 _ e).1; omega
              have ov5 := (ov3.below bel4).chg ch5 (fun k hk => by simp only [Value.ownBlock, Option.some.injEq] at hk; exact nF k (by omega) (by omega))
              have oc5 := (oc3.below bel4).more (F' := fun k => k = bv ∨ k = bc ∨ k = bf ∨ k = w.heap.size ∨ v5.ownBlock = some k ∨ vo.ownBlock = some k) (fun k hk => by
                rcases hk with h | h | h | h | h | h
                · exact .inl (.inl h)
                · exact .inl (.inr (.inl h))
                · exact .inl (.inr (.inr (.inl h)))
                · exact .inl (.inr (.inr (.inr (.inl h))))
                · rcases hb5 with h5 | h5
                  · exact .inl (.inr (.inr (.inr (.inr (h5 ▸ h)))))
                  · exact .inr (h5 k h)
                · exact .inl (.inr (.inr (.inr (.inr h)))))
              have oc6 := (oc5.chg ch5 (fun k hk => by
                rcases hk with h | h
                · exact .inr (.inr (.inr (.inl h)))
                · exact .inr (.inr (.inr (.inr (.inr h))))) (fun k hk => by simp only [Value.ownBlock, Option.some.injEq] at hk; exact nF k (by omega) (by omega))).sub (F' := fun k => k = bv ∨ k = bc ∨ k = bf ∨ k = w.heap.size ∨ v5.ownBlock = some k) (fun k hk => by
                rcases hk with h | h | h | h | h
                · exact .inl h
                · exact .inr (.inl h)
                · exact .inr (.inr (.inl h))
                · exact .inr (.inr (.inr (.inl h)))
                · exact .inr (.inr (.inr (.inr (.inl h)))))
              have ofr5 := (ofr3.below bel4).chg ch5 (fun k hk => by simp only [Value.ownBlock, Option.some.injEq] at hk; exact nF k (by omega) (by omega))
              clear ov3 oc3 oc5 oo3 co3 fo3 ofr3 oo4 co4 fo4
              go_wp2_with fail
              go_roundw
              case rel => exact ⟨t + 1, by go_num, by omega, _, _, v5, HVL, hch5, by omega, ov5, oc6, ofr5, co5, fo5, oo5⟩
              case measure => simp [intOf]; omega
    · obtain rfl : t = n := by omega
      obtain ⟨A5, c5, e5, hri⟩ := oo.shape
      rw [M.playO_len] at e5 hri
      subst e5
      go_wp2_with fail
      go_ret
      exact ⟨_, _, A5, c5, rfl, co, hri, hch⟩
end Go.Proofs.YtfkcoiefkjmdeaaGreat
namespace Go.Proofs.YtfkcoiefkjmdeaaGreat
open Go.RowKit Go.Sort
set_option maxHeartbeats 4000000
set_option maxRecDepth 100000
set_option linter.unusedVariables false
set_option linter.unusedSimpArgs false
theorem hS_szL_le {xs : List (List Int)} {m : Nat} (h : ∀ x ∈ xs, x.length ≤ m) : hS.szL xs ≤ m * xs.length := by
  induction xs with
  | nil => simp [Hs.szL]
  | cons x xs ih =>
    have h1 := h x (by simp)
    have h2 := ih (fun y hy => h y (by simp [hy]))
    have e : hS.szL (x :: xs) = hS.sz x + hS.szL xs := rfl
    rw [e, hS_sz, List.length_cons, Nat.mul_succ]
    omega
theorem start_sz {ns : List Node} {tb : List (List Int)} {O : List Int} (hF : M.PF ns tb O) : hSS.sz (ns.map M.start) ≤ 1000 := by
  have h1 := hS_szL_le (xs := ns.map M.start) (m := 16) (fun x hx => by
    obtain ⟨y, hy, rfl⟩ := List.mem_map.1 hx
    obtain ⟨i, hi⟩ := List.getElem?_of_mem hy
    exact M.start_len (hF.ok i y hi))
  have e : hSS.sz (ns.map M.start) = (ns.map M.start).length + hS.szL (ns.map M.start) := rfl
  have h2 := hF.len
  rw [e]
  rw [List.length_map] at h1 ⊢
  omega
theorem impl_render (A1 : Option Addr) (n1 c1 : Nat) (A2 : Option Addr) (n2 c2 : Nat) (A3 : Option Addr) (c3 : Nat) (ns : List Node) (tb : List (List Int)) (o : Int) (bi oi ci : Nat) (A : Option Addr) (m c : Nat) (xs : List Int) (n : Nat) (w : World)
    (h1 : RS tS w w.heap.size (.slice A1 n1 c1) tb) (h2 : RS tN w w.heap.size (.slice A2 n2 c2) ns) (h3 : RI w w.heap.size A3 1 [o]) (hF : M.PF ns tb (M.ord ns)) (ho : 0 ≤ o ∧ o < n2) (hnz : hNS.sz ns ≤ 100000000)
    (ci0 : w.cell? ⟨bi, oi, none⟩ = some (.slice A m c)) (hx : RI w w.heap.size A m xs) (hxs : xs.all M.smp = true) (hm : m ≤ 1000000) (hn : n ≤ 4000) :
    Calls Tryz.prog 94 #[.agg #[.int .i64 1, .slice A1 n1 c1, .slice A2 n2 c2, .slice A3 1 c3], .slice (some ⟨bi, oi, none⟩) 1 ci, .int .i64 n] w fun e w' => ∃ (g c' : Nat) (A' : Option Addr) (c'' : Nat), e = .returned (.slice (some ⟨g, 0, none⟩) 1 c') ∧ w'.cell? ⟨g, 0, none⟩ = some (.slice A' n c'') ∧ RI w' w'.heap.size A' n (M.playO ns tb (M.ord ns) xs o n) ∧ Below w.heap.size w w' := by
  have lbi : bi < w.heap.size := World.block_lt_of_cell? w _ ci0
  obtain ⟨W, hW, B0, s0, p0, p1, p2, p3, pf⟩ := newbox4 w (.int .i64 1) (.slice A1 n1 c1) (.slice A2 n2 c2) (.slice A3 1 c3) 36
  have m0 := cell_regrown p0
  have m1 := cell_regrown p1
  have m2 := cell_regrown p2
  have m3 := cell_regrown p3
  have HW := Lib.hid hW
  have lW : w.heap.size < W.heap.size := by omega
  have D1 : Below W.heap.size W W.drew := below_drewN (Below.refl _ _) 1
  have hd0 : W.drew.heap.size = W.heap.size := rfl
  have BD : Below w.heap.size w W.drew := below_drewN B0 1
  have HXS := Lib.hid hxs
  have HSZ := Lib.hid (start_sz hF)
  have HOK := Lib.hid (fun (x : Node) (hx : x ∈ ns) => show M.nodeOk x tb.length = true from by
    obtain ⟨i, hi⟩ := List.getElem?_of_mem hx
    exact hF.ok i x hi)
  clear hW s0 p0 p1 p2 p3 pf hxs
  go_enter Tryz.func94, Tryz.ntmps94
  go_wp2_with fail
  rw [← HW.out]
  (refine wp_region_fresh2 [4, 5] [0, 1] 2 (.one 2 (.one 3 .rest)) [6] [6, 7] (by kernel_rfl) (by kernel_rfl) ?_; simp only [pickOps]; simp only [List.filterMap, List.getElem?_cons_succ, List.getElem?_cons_zero]; (repeat (go_big_quiet_step (fail))); refine wpQuiet_nil ?_; (repeat (go_big_quiet_step (fail))); refine wpQuiet_nil ?_)
  refine seqT_one2 rfl ?_
  go_wp2_with fail
  refine (impl_startState _ _ _ _ _ _ _ _ _ _ ns tb.length _ (h2.later BD) hnz HOK).mono ?_
  rintro e w1 ⟨v1, rfl, own1, bel1⟩
  obtain ⟨Av, cv, e1⟩ := own1.shape
  rw [show (ns.map M.start).length = n2 by rw [List.length_map]; exact h2.cap.1] at e1
  subst e1
  have B1 := bel_trans D1 bel1
  have BB1 := bel_trans B0 B1
  have s1 := bel1.size
  have r1 : tSS.R w1 w1.heap.size [.slice Av n2 cv] (ns.map M.start) := sl_R.2 own1.read
  have hcl : (ns.map M.start).length = ns.length := List.length_map ..
  have HCL := Lib.hid hcl
  clear hcl
  go_wp2_with fail
  refine ⟨regrown_of_below B1, ?_⟩
  refine seqT_one2 rfl ?_
  go_wp2_with fail
  refine (impl_playerOf 1 _ _ c1 _ _ c2 _ _ c3 _ _ cv ns tb [o] (ns.map M.start) _ (h1.later BB1) (h2.later BB1) (h3.later BB1) r1 hF (by omega) hnz (by have := HSZ.out; omega) HCL.out).mono ?_
  rintro e w2 ⟨b, bv, bc, L, Ao, co, cv', cc, rfl, hP, ov, oc, bel2, hbv, hbc⟩
  have B2 := bel_trans B1 bel2
  have BB2 := bel_trans B0 B2
  have s2 := bel2.size
  have ci2 : w2.cell? ⟨bi, oi, none⟩ = some (.slice A m c) := by rw [BB2.cell (by show bi < _; omega)]; exact ci0
  have hx2 : RN (F2 bv bc) w2 A m xs := RN.of_ri (B := w.heap.size) (hx.below BB2) BB2.size (fun k hk => by rcases hk with h | h <;> omega)
  have hrp : (List.replicate n2 (0 : Int)).all M.smp = true := by
    rw [List.all_eq_true]
    intro z hz
    rw [List.eq_of_mem_replicate hz]
    rfl
  have HRP := Lib.hid hrp
  clear hrp
  go_wp2_with fail
  refine ⟨regrown_of_below B2, ?_⟩
  refine seqT_rest2 ?_
  go_wp2_with fail
  refine (impl_player_block b bv bc L _ _ c1 _ _ c2 _ c3 _ _ co cv' cc ns tb o (M.ord ns) _ bi oi ci A m c xs n w2 hP hF (by omega) hnz ho ov HRP.out oc ci2 (by omega) hx2 HXS.out hm hn).mono ?_
  rintro e w3 ⟨g, c', A', c'', rfl, cg, rg, ch⟩
  go_wp2_with fail
  go_ret
  exact ⟨g, c', A', c'', rfl, cg, rg, BB2.trans (ch.toBelow (fun k hk => by rcases hk with h | h <;> omega) (by omega))⟩
end Go.Proofs.YtfkcoiefkjmdeaaGreat
namespace Go.Proofs.YtfkcoiefkjmdeaaGreat
open Go.RowKit Go.Sort
set_option maxHeartbeats 4000000
set_option maxRecDepth 100000
set_option linter.unusedVariables false
set_option linter.unusedSimpArgs false
theorem RSN.of_os {F G : Nat → Prop} {e : TypeId} {w : World} {v : Value} {cs : List (List Int)} (h : OS tS e w G v cs) (hF : ∀ k, F k → ¬ G k) : RSN F w v cs := by
  have h2 := h
  obtain ⟨css, Fs, h1, _, h3, _⟩ := h
  exact RSN.of_cr (CR.of_os (base := 0) h2 (fun k hk hG => absurd hG (hF k hk)) (fun _ _ => Nat.zero_le _)) (fun k hk hf => hF k hf (h3 k hk))
end Go.Proofs.YtfkcoiefkjmdeaaGreat
namespace Go.Proofs.YtfkcoiefkjmdeaaGreat
open Go.RowKit Go.Sort
set_option maxHeartbeats 4000000
set_option maxRecDepth 100000
set_option linter.unusedVariables false
set_option linter.unusedSimpArgs false
theorem OS.one {e : TypeId} {w : World} {lo hi : Nat} {v : Value} {x : List Int} (h : OS tS e w (Iv lo hi) v [x]) :
    ∃ bo cO vo, v = .slice (some ⟨bo, 0, none⟩) 1 cO ∧ lo ≤ bo ∧ bo < w.heap.size ∧ w.cell? ⟨bo, 0, none⟩ = some vo ∧ w.frozen? ⟨bo, 0, none⟩ = false ∧ OI 2 lo w vo x ∧ vo.ownBlock ≠ some bo := by
  obtain ⟨A, c, rfl⟩ := h.shape
  obtain ⟨css, Fs, hO, cs, hcs, ho⟩ := h.open (k := 0) (by simp)
  obtain ⟨g, rfl, hF, hn, hg, -⟩ := hO.form (by simp)
  obtain ⟨vo, rfl, hvo⟩ := ho
  have hc := hO.cell hcs (j := 0) (u := vo) rfl
  rw [Nat.zero_mul, Nat.add_zero] at hc
  refine ⟨g, c, vo, rfl, hF.1, hg, hc.1, hc.2, (hvo.wide (F' := Iv lo hi) hO.fits).oi, fun e => hn (hvo.lt g e).1⟩
theorem RSN.more {F F' : Nat → Prop} {w : World} {v : Value} {cs : List (List Int)} (h : RSN F w v cs) (hF : ∀ k, F' k → F k ∨ w.heap.size ≤ k) : RSN F' w v cs := by
  obtain ⟨A, c, us, rfl, h1, h2, h3, h4, h5, h6⟩ := h
  refine ⟨A, c, us, rfl, h1, h2, h3, h4, fun ad hn he hf => ?_, fun k x hx => ?_⟩
  · obtain ⟨ad', e', hb, _⟩ := h4.2 hn
    rw [he] at e'
    injection e' with e'
    subst e'
    rcases hF _ hf with h | h
    · exact h5 ad hn he h
    · omega
  · obtain ⟨A', c', e1, e2, e3⟩ := h6 k x hx
    exact ⟨A', c', e1, e2, e3.more hF⟩
end Go.Proofs.YtfkcoiefkjmdeaaGreat
namespace Go.Proofs.YtfkcoiefkjmdeaaGreat
open Go.RowKit Go.Sort
set_option maxHeartbeats 4000000
set_option maxRecDepth 100000
end Go.Proofs.YtfkcoiefkjmdeaaGreat
namespace Go.Proofs.YtfkcoiefkjmdeaaGreat
open Go.RowKit
set_option maxHeartbeats 4000000
set_option maxRecDepth 100000
theorem spec_RenderTrack (A A' : Option Addr) (n c n' c' : Nat) (t : Int) (src : List (List Int)) (xs : List Clip) (w : World) (hs : RS tS w w.heap.size (.slice A n c) src) (hx : RA cl 5 w w.heap.size A' n' xs) (hlen : Hid (∀ x ∈ src, x.length ≤ 1000000000)) (hn : n ≤ 1000000000) (hn' : n' ≤ 1000000000) :
    Calls Tryz.prog 8 #[.slice A n c, .agg #[.slice A' n' c'], .int .i64 t] w (Ret2 2 w (M.renderR src xs t)) := by
  have hls := Lib.hid hs.cap.1
  have hlx := Lib.hid hx.len
  obtain ⟨W, hW⟩ : ∃ W, W = w.alloc (.cells #[.slice A' n' c'] 42) := ⟨_, rfl⟩
  have B0 : Below w.heap.size w W := by rw [hW]; exact (Below.refl _ _).alloc (Nat.le_refl _) _
  have p0 : W.cell? ⟨w.heap.size, 0, none⟩ = some (.slice A' n' c') := by rw [hW]; simp [go_sem]
  have l0 : w.heap.size < W.heap.size := by rw [hW]; simp
  have HW := Lib.hid hW
  clear hW
  have hs1 : RS tS W W.heap.size (.slice A n c) src := hs.later B0
  have hx1 := hx.later B0
  cases hok : M.srcOk src
  · have R := Lib.hid (show M.renderR src xs t = ([], 1) by rw [M.renderR, hok]; rfl)
    have OK := Lib.hid hok
    clear hok
    go_enter Tryz.func8, Tryz.ntmps8
    go_wp2_with fail
    rw [← HW.out]
    refine (spec_l23Sources _ _ _ _ W hs1 hlen hn).mono ?_
    rw [OK.out]
    rintro e w' ⟨rfl, rfl⟩
    go_wp2
    go_ret2
    rw [R.out]
    exact ⟨_, rfl, OI.nil _ _ _, B0⟩
  have OK := Lib.hid hok
  cases hk : M.trackOk xs
  · have R := Lib.hid (show M.renderR src xs t = ([], 1) by rw [M.renderR, hok, hk]; rfl)
    have HK := Lib.hid hk
    clear hok hk
    go_enter Tryz.func8, Tryz.ntmps8
    go_wp2_with fail
    rw [← HW.out]
    refine (spec_l23Sources _ _ _ _ W hs1 hlen hn).mono ?_
    rw [OK.out]
    rintro e w' ⟨rfl, rfl⟩
    go_wp2_with fail
    refine (spec_l23Ok _ _ _ _ _ W p0 hx1 hn').mono ?_
    rw [HK.out]
    rintro e w2 ⟨rfl, b2⟩
    go_wp2
    go_ret2
    rw [R.out]
    exact ⟨_, rfl, OI.nil _ _ _, bel_trans B0 b2⟩
  have HK := Lib.hid hk
  cases hi : M.inn t 0 4000
  · have R := Lib.hid (show M.renderR src xs t = ([], 2) by rw [M.renderR, hok, hk, hi]; rfl)
    have HI := Lib.hid hi
    clear hok hk hi
    go_enter Tryz.func8, Tryz.ntmps8
    go_wp2_with fail
    rw [← HW.out]
    refine (spec_l23Sources _ _ _ _ W hs1 hlen hn).mono ?_
    rw [OK.out]
    rintro e w' ⟨rfl, rfl⟩
    go_wp2_with fail
    refine (spec_l23Ok _ _ _ _ _ W p0 hx1 hn').mono ?_
    rw [HK.out]
    rintro e w2 ⟨rfl, b2⟩
    go_wp2_with fail
    refine (spec_l00In _ _ _ _).mono ?_
    rw [HI.out]
    rintro e w' ⟨rfl, rfl⟩
    go_wp2
    go_ret2
    rw [R.out]
    exact ⟨_, rfl, OI.nil _ _ _, bel_trans B0 b2⟩
  obtain ⟨t, rfl⟩ : ∃ q : Nat, t = q := ⟨t.toNat, by have := M.inn_iff.1 hi; omega⟩
  have ht : t ≤ 4000 := by have := M.inn_iff.1 hi; omega
  have HI := Lib.hid hi
  have R := Lib.hid (show M.renderR src xs t = if M.hasS xs src.length then (M.renT src xs t, 0) else ([], 3) by rw [M.renderR, hok, hk, hi]; rfl)
  clear hok hk hi
  go_enter Tryz.func8, Tryz.ntmps8
  go_wp2_with fail
  rw [← HW.out]
  refine (spec_l23Sources _ _ _ _ W hs1 hlen hn).mono ?_
  rw [OK.out]
  rintro e w' ⟨rfl, rfl⟩
  go_wp2_with fail
  refine (spec_l23Ok _ _ _ _ _ W p0 hx1 hn').mono ?_
  rw [HK.out]
  rintro e w2 ⟨rfl, b2⟩
  have p2 : w2.cell? ⟨w.heap.size, 0, none⟩ = some (.slice A' n' c') := by rw [b2.cell l0]; exact p0
  have l2 := Nat.lt_of_lt_of_le l0 b2.size
  have B2 := bel_trans B0 b2
  have hs2 : RS tS w2 w2.heap.size (.slice A n c) src := hs1.later b2
  have hx2 := hx1.later b2
  go_wp2_with fail
  refine (spec_l00In _ _ _ _).mono ?_
  rw [HI.out]
  rintro e w' ⟨rfl, rfl⟩
  go_wp2_with fail
  go_loopw [8] (fun i wr => ∃ k : Nat, i = .int .i64 k ∧ k ≤ n' ∧ Hid (M.hasS (xs.take k) src.length = true) ∧ Below w2.heap.size w2 wr) (fun i _ => n' - (intOf i).toNat)
  case atStart => exact ⟨0, rfl, by omega, Lib.hid (by simp [M.hasS]), Below.refl _ _⟩
  case round =>
    obtain ⟨k, rfl, hk, H, hb⟩ := hrel
    have pr : wr.cell? ⟨w.heap.size, 0, none⟩ = some (.slice A' n' c') := by rw [hb.cell l2]; exact p2
    by_cases hlt : k < n'
    · obtain ⟨b, o, ⟨p0', p1, p2', p3, p4⟩, rfl, hab, X, hc⟩ := (hx2.below hb).at cl_len (by decide) hlt
      have hc0 : wr.cell? ⟨b, o + k * 5, none⟩ = some (.int .i64 p0') := hc 0 _ rfl
      clear hc
      have hT := Lib.hid (M.take_at X.out)
      by_cases hs0 : (n : Int) ≤ p0'
      · have hno := Lib.hid (show M.hasS xs src.length = false by
          rw [M.hasS, List.all_eq_false]
          exact ⟨_, List.mem_of_getElem? X.out, by simp [hls.out]; omega⟩)
        go_wp2
        go_ret2
        rw [R.out, hno.out]
        exact ⟨_, rfl, OI.nil _ _ _, bel_trans B2 hb⟩
      · go_wp2
        go_roundw
        case rel =>
          refine ⟨k + 1, by go_num, by omega, Lib.hid ?_, hb⟩
          have h1 := H.out
          rw [M.hasS] at h1 ⊢
          rw [hT.out, List.all_append, h1, Bool.true_and]
          simp [hls.out]
          omega
        case measure => simp [intOf]; omega
    · have HH : Hid (M.hasS xs src.length = true) := by
        have := H.out
        rw [List.take_of_length_le (by rw [hlx.out]; omega)] at this
        exact Lib.hid this
      go_wp2_with fail
      refine (spec_l23Render _ _ _ _ _ _ _ _ _ _ wr pr (hs2.later hb) (hx2.later hb) OK.out HK.out HH.out ht).mono ?_
      rintro e w4 ⟨v4, rfl, own4, b4⟩
      have BB := bel_trans B2 hb
      go_wp2
      go_ret2
      rw [R.out, HH.out]
      exact ⟨_, rfl, own4.base BB.size, bel_trans BB b4⟩
end Go.Proofs.YtfkcoiefkjmdeaaGreat
namespace Go.Proofs.YtfkcoiefkjmdeaaGreat
open Go.RowKit
set_option maxHeartbeats 4000000
set_option maxRecDepth 100000
end Go.Proofs.YtfkcoiefkjmdeaaGreat
namespace Go.Proofs.YtfkcoiefkjmdeaaGreat
open Go.RowKit
set_option maxHeartbeats 1000000
/-- One send: the strip that it leads to is entered no earlier than this one ends. -/
def M.entSend (k : Nat) (l : Int) (acc : List Int) (p : Int × Int) : List Int := acc.set p.1.toNat (max ((acc[p.1.toNat]?).getD 0) ((acc[k]?).getD 0 + l))
/-- The entry times after the first k strips, and j sends of the next. -/
def M.entN (xs : List Strip) : Nat → List Int
  | 0 => List.replicate xs.length 0
  | k + 1 => ((xs[k]?).getD M.sz).2.2.foldl (M.entSend k ((xs[k]?).getD M.sz).2.1) (M.entN xs k)
def M.entS (xs : List Strip) (k : Nat) (l : Int) (us : List (Int × Int)) (j : Nat) : List Int := (us.take j).foldl (M.entSend k l) (M.entN xs k)
def M.entries (xs : List Strip) : List Int := M.entN xs xs.length
theorem M.entSend_len (k : Nat) (l : Int) (acc : List Int) (p : Int × Int) : (M.entSend k l acc p).length = acc.length := by simp [M.entSend]
theorem M.fold_len (k : Nat) (l : Int) (us : List (Int × Int)) : ∀ acc, (us.foldl (M.entSend k l) acc).length = acc.length := by
  induction us with
  | nil => intro acc; rfl
  | cons u us ih => intro acc; rw [List.foldl_cons, ih, M.entSend_len]
theorem M.entN_len (xs : List Strip) : ∀ k, (M.entN xs k).length = xs.length := by
  intro k
  induction k with
  | zero => simp [M.entN]
  | succ k ih => rw [M.entN, M.fold_len, ih]
theorem M.entS_next {xs : List Strip} {k : Nat} {l : Int} {us : List (Int × Int)} {j : Nat} {p : Int × Int} (h : us[j]? = some p) : M.entS xs k l us (j + 1) = M.entSend k l (M.entS xs k l us j) p := by
  rw [M.entS, M.take_at h, List.foldl_append]; rfl
theorem M.entS_end {xs : List Strip} {k : Nat} {s : ByteArray} {l : Int} {us : List (Int × Int)} (h : xs[k]? = some (s, l, us)) : M.entS xs k l us us.length = M.entN xs (k + 1) := by
  rw [M.entS, M.entN, h, List.take_of_length_le (Nat.le_refl _)]; rfl
/-- All values lie from 0 to b. -/
def M.upTo (b : Int) (acc : List Int) : Prop := ∀ v ∈ acc, 0 ≤ v ∧ v ≤ b
theorem M.upTo_at {b : Int} {acc : List Int} {i : Nat} {v : Int} (h : M.upTo b acc) (hv : acc[i]? = some v) : 0 ≤ v ∧ v ≤ b := h v (List.mem_of_getElem? hv)
theorem M.upTo_get {b : Int} {acc : List Int} (hb : 0 ≤ b) (h : M.upTo b acc) (i : Nat) : 0 ≤ (acc[i]?).getD 0 ∧ (acc[i]?).getD 0 ≤ b := by
  cases hv : acc[i]? with
  | none => simp; exact hb
  | some v => exact M.upTo_at h hv
theorem M.upTo_mono {b b' : Int} {acc : List Int} (h : M.upTo b acc) (hb : b ≤ b') : M.upTo b' acc := fun v hv => ⟨(h v hv).1, Int.le_trans (h v hv).2 hb⟩
theorem M.upTo_send {b : Int} {acc : List Int} {k : Nat} {l : Int} {p : Int × Int} (hb : 0 ≤ b) (h : M.upTo b acc) (hl : 0 ≤ l ∧ l ≤ 32) : M.upTo (b + 32) (M.entSend k l acc p) := by
  intro v hv
  rcases List.mem_or_eq_of_mem_set hv with h1 | rfl
  · have := h v h1; omega
  · have h1 := M.upTo_get hb h p.1.toNat
    have h2 := M.upTo_get hb h k
    omega
theorem M.upTo_fold {k : Nat} {l : Int} (hl : 0 ≤ l ∧ l ≤ 32) (us : List (Int × Int)) : ∀ {b : Int} {acc : List Int}, 0 ≤ b → M.upTo b acc → M.upTo (b + 32 * us.length) (us.foldl (M.entSend k l) acc) := by
  induction us with
  | nil => intro b acc _ h; simpa using h
  | cons u us ih =>
    intro b acc hb h
    have := ih (b := b + 32) (acc := M.entSend k l acc u) (by omega) (M.upTo_send hb h hl)
    refine M.upTo_mono this ?_
    simp only [List.length_cons]
    omega
theorem M.mix_n {xs : List Strip} (h : M.mixOk xs = true) : 1 ≤ xs.length ∧ xs.length ≤ 8 := by
  rw [M.mixOk, Bool.and_eq_true] at h
  have := M.inn_iffM.1 h.1
  omega
theorem M.mix_strip {xs : List Strip} (h : M.mixOk xs = true) {k : Nat} {s : ByteArray} {l : Int} {us : List (Int × Int)} (hk : xs[k]? = some (s, l, us)) : (0 ≤ l ∧ l ≤ 32) ∧ us.length ≤ 4 ∧ M.sendsB xs.length k us = true := by
  rw [M.mixOk, Bool.and_eq_true, List.all_eq_true] at h
  have h1 := h.2 k (List.mem_range.2 (List.getElem?_eq_some_iff.1 hk).1)
  rw [M.stepM_eq hk, Bool.and_eq_true] at h1
  have h2 := h1.1
  rw [M.stripOk, Bool.and_eq_true, Bool.and_eq_true, M.areSends, Bool.and_eq_true] at h2
  refine ⟨M.inn_iffM.1 h2.1.2, ?_, h2.2.1⟩
  have h3 := h2.2.2
  split at h3
  · have : us.length = 0 := by simpa using h3
    omega
  · have := M.inn_iffM.1 h3
    simp only at this
    omega
theorem M.sends_at {m : Int} {us : List (Int × Int)} : ∀ {last : Int} {j : Nat} {p0 p1 : Int}, M.sendsB m last us = true → us[j]? = some (p0, p1) → last < p0 ∧ p0 ≤ m - 1 ∧ M.smp p1 = true := by
  induction us with
  | nil => intro last j p0 p1 _ h; simp at h
  | cons u us ih =>
    intro last j p0 p1 h hj
    rw [M.sendsB, Bool.and_eq_true, Bool.and_eq_true] at h
    have h1 := M.inn_iffM.1 h.1.1
    cases j with
    | zero =>
      simp only [List.getElem?_cons_zero, Option.some.injEq] at hj
      subst hj
      exact ⟨by simp only at h1; omega, h1.2, h.1.2⟩
    | succ j =>
      simp only [List.getElem?_cons_succ] at hj
      have := ih h.2 hj
      exact ⟨by omega, this.2⟩
theorem M.entN_upTo {xs : List Strip} (h : M.mixOk xs = true) : ∀ k, k ≤ xs.length → M.upTo (128 * k) (M.entN xs k) := by
  intro k
  induction k with
  | zero => intro _ v hv; rw [M.entN] at hv; have := (List.mem_replicate.1 hv).2; omega
  | succ k ih =>
    intro hk
    have hx : xs[k]? = some xs[k] := List.getElem?_eq_getElem (by omega)
    generalize xs[k] = x at hx
    obtain ⟨s, l, us⟩ := x
    obtain ⟨h1, h2, _⟩ := M.mix_strip h hx
    rw [M.entN, hx]
    refine M.upTo_mono (M.upTo_fold h1 us (by omega) (ih (by omega))) ?_
    omega
theorem M.entS_upTo {xs : List Strip} (h : M.mixOk xs = true) {k : Nat} {s : ByteArray} {l : Int} {us : List (Int × Int)} (hx : xs[k]? = some (s, l, us)) (j : Nat) : M.upTo 2000 (M.entS xs k l us j) := by
  obtain ⟨h1, h2, _⟩ := M.mix_strip h hx
  have h3 := M.entN_upTo h k (by have := (List.getElem?_eq_some_iff.1 hx).1; omega)
  have h4 := M.mix_n h
  have h5 := (List.getElem?_eq_some_iff.1 hx).1
  refine M.upTo_mono (M.upTo_fold (k := k) h1 (us.take j) (by omega) h3) ?_
  have : (us.take j).length ≤ 4 := by rw [List.length_take]; omega
  omega
theorem M.entSend_eq {acc : List Int} {k q : Nat} {l g a b : Int} (ha : acc[q]? = some a) (hb : acc[k]? = some b) : M.entSend k l acc ((q : Int), g) = acc.set q (max a (b + l)) := by
  rw [M.entSend]
  simp only [Int.toNat_natCast]
  rw [ha, hb]; rfl
end Go.Proofs.YtfkcoiefkjmdeaaGreat
namespace Go.Proofs.YtfkcoiefkjmdeaaGreat
open Go.RowKit
set_option maxHeartbeats 4000000
set_option maxRecDepth 100000
theorem impl_entries (A : Option Addr) (n c : Nat) (xs : List Strip) (w : World) (hx : tM.R w w.heap.size [.slice A n c] xs) (hok : M.mixOk xs = true) :
    Calls Tryz.prog 89 #[.agg #[.slice A n c]] w (Ret1 2 w (M.entries xs)) := by
  have rx := sl_R.1 hx
  have hlx := rx.cap.1
  have hmn := M.mix_n hok
  have hnb : 1 ≤ n ∧ n ≤ 8 := by omega
  have HLX := Lib.hid hlx
  have HOK := Lib.hid hok
  have B0 : Below w.heap.size w (w.alloc (.cells #[.slice A n c] 30)) := (Below.refl _ _).alloc (Nat.le_refl _) _
  have hself : (w.alloc (.cells #[.slice A n c] 30)).cell? ⟨w.heap.size, 0, none⟩ = some (.slice A n c) := by simp [go_sem]
  have hsz : (w.alloc (.cells #[.slice A n c] 30)).heap.size = w.heap.size + 1 := by simp
  have HSZ := Lib.hid hsz
  clear hsz hlx hmn hok
  go_enter Tryz.func89, Tryz.ntmps89
  go_wp2_with (first | (go_at_call 55; refine (impl_size_impl_Strip _ _ _ _).mono ?_; rintro e w' ⟨rfl, rfl⟩) | (go_at_call 57; refine (impl_zeros _ _ (by omega) (by omega)).mono ?_; rintro e w1 ⟨v1, rfl, own1, bel1⟩; have hv1 : w1.cell? ⟨w.heap.size, 0, none⟩ = some (.slice A n c) := (by rw [bel1.cell (by rw [HSZ.out]; simp)]; exact hself)))
  rw [Int.toNat_natCast] at own1
  obtain ⟨A1, c1, rfl, -⟩ := own1.shape
  rw [List.length_replicate] at own1 ⊢
  have own1' : OI 2 (w.heap.size + 1) w1 (.slice A1 n c1) (M.entN xs 0) := by
    have h1 := own1
    rw [HSZ.out] at h1
    show OI 2 (w.heap.size + 1) w1 (.slice A1 n c1) (List.replicate xs.length 0)
    rw [HLX.out]
    exact h1
  have B1 := bel_trans B0 bel1
  clear own1 bel1 hself B0 hv1
  go_loopw [4, 5, 15] (fun _ _ i wr => ∃ k : Nat, i = .int .i64 k ∧ k ≤ n ∧ OI 2 (w.heap.size + 1) wr (.slice A1 n c1) (M.entN xs k) ∧ Below w.heap.size w wr) (fun _ _ i _ => n - (intOf i).toNat)
  case atStart => exact ⟨0, rfl, by omega, own1', B1⟩
  case round =>
    obtain ⟨k, rfl, hk, own, Bw⟩ := hrel
    by_cases hlt : k < n
    · have hX := Lib.hid (List.getElem?_eq_getElem (l := xs) (i := k) (by rw [HLX.out]; exact hlt))
      obtain ⟨b, o1, cc, cs, hv, hab, -, hE, hcc⟩ := (rx.below Bw).atX hX.out
      simp only [Value.slice.injEq] at hv
      obtain ⟨rfl, -, rfl⟩ := hv
      generalize xs[k]'(by rw [HLX.out]; exact hlt) = x at hX hE
      obtain ⟨s, l, us⟩ := x
      obtain ⟨A2, n2, c2, rfl, -, hE⟩ := st_R.1 hE
      have e0 : wr.cell? ⟨b, o1 + k * 3, none⟩ = some (.string s) := hcc 0 _ rfl
      have e1 : wr.cell? ⟨b, o1 + k * 3 + 1, none⟩ = some (.int .i64 l) := hcc 1 _ rfl
      have e2 : wr.cell? ⟨b, o1 + k * 3 + 2, none⟩ = some (.slice A2 n2 c2) := hcc 2 _ rfl
      have hbr : b < wr.heap.size := Nat.lt_of_lt_of_le hab Bw.size
      have rs := (tSdS_ra hE).1
      have hn2 := rs.1
      obtain ⟨hlat, hu4, hsb⟩ := M.mix_strip HOK.out hX.out
      have HN2 := Lib.hid hn2
      have HSB := Lib.hid hsb
      have HUP := Lib.hid (fun j => M.entS_upTo HOK.out hX.out j)
      obtain ⟨g, rfl, hg1, hg2⟩ := own.form' (by omega)
      have Bu := Bw.alloc Bw.size (.cells #[.string s, .int .i64 l, .slice A2 n2 c2] 100)
      have ownu := own.below ((Below.refl wr.heap.size wr).alloc (Nat.le_refl _) (.cells #[.string s, .int .i64 l, .slice A2 n2 c2] 100))
      have lb : (wr.alloc (.cells #[.string s, .int .i64 l, .slice A2 n2 c2] 100)).cell? ⟨wr.heap.size, 1, none⟩ = some (.int .i64 l) := by rw [cell_of_row _ wr.heap.size 1 _ 100 (0, 0) (heap_alloc_new wr _)]; rfl
      have hlu : (wr.alloc (.cells #[.string s, .int .i64 l, .slice A2 n2 c2] 100)).heap.size = wr.heap.size + 1 := by simp
      have n2b : n2 ≤ 4 := by omega
      clear hcc hE hn2 hu4 hsb
      go_wp2
      obtain ⟨wo, rfl⟩ : ∃ wo : World, wo = wr := ⟨_, rfl⟩
      go_loopw [7, 23] (fun _ i wr => ∃ j : Nat, i = .int .i64 j ∧ j ≤ n2 ∧ OI 2 (w.heap.size + 1) wr (.slice (some ⟨g, 0, none⟩) n c1) (M.entS xs k l us j) ∧ wr.cell? ⟨wo.heap.size, 1, none⟩ = some (.int .i64 l) ∧ wo.heap.size + 1 ≤ wr.heap.size ∧ Below w.heap.size w wr ∧ Below w.heap.size wo wr) (fun _ i _ => n2 - (intOf i).toNat)
      case atStart => exact ⟨0, rfl, by omega, ownu, lb, by omega, Bu, (Below.refl _ _).alloc Bw.size _⟩
      case round =>
        obtain ⟨j, rfl, hj, ownj, lj, hszj, Bj, Bo⟩ := hrel
        by_cases hlt2 : j < n2
        · obtain ⟨b2, o2, ⟨p0, p1⟩, rfl, hab2, X2, hdd⟩ := (rs.below Bo).at sd_len (by decide) hlt2
          have f0 : wr.cell? ⟨b2, o2 + j * 2, none⟩ = some (.int .i64 p0) := hdd 0 _ rfl
          have f1 : wr.cell? ⟨b2, o2 + j * 2 + 1, none⟩ = some (.int .i64 p1) := hdd 1 _ rfl
          obtain ⟨hp1, hp2, -⟩ := M.sends_at HSB.out X2.out
          obtain ⟨q, rfl⟩ : ∃ q : Nat, p0 = q := ⟨p0.toNat, by omega⟩
          have hqn : q < n := by have := HLX.out; omega
          obtain ⟨x, hxx, cx, fx, -, -⟩ := ownj.at' hqn
          obtain ⟨y, hyy, cy, fy, -, -⟩ := ownj.at' hlt
          have bx := M.upTo_at (HUP.out j) hxx.out
          have by_ := M.upTo_at (HUP.out j) hyy.out
          have hgw : g < wr.heap.size := by omega
          have hng : ¬ g = wo.heap.size := by omega
          have hE2 := Lib.hid (M.entS_next (xs := xs) (k := k) (l := l) X2.out)
          have hE3 := Lib.hid (M.entSend_eq (k := k) (l := l) (g := p1) hxx.out hyy.out)
          have lw : wo.heap.size < wr.heap.size := by omega
          have hb2w : b2 < wr.heap.size := Nat.lt_of_lt_of_le hab2 Bj.size
          clear hdd hp1 hp2
          obtain ⟨U, hU⟩ : ∃ U, U = wr.alloc (.cells #[.int .i64 (q : Int), .int .i64 p1] 68) := ⟨_, rfl⟩
          have G0 : Below wr.heap.size wr U := by rw [hU]; exact (Below.refl _ _).alloc (Nat.le_refl _) _
          have u0 : U.cell? ⟨wr.heap.size, 0, none⟩ = some (.int .i64 (q : Int)) := by rw [hU, cell_of_row _ wr.heap.size 0 _ 68 (0, 0) (heap_alloc_new wr _)]; rfl
          have ux : U.cell? ⟨g, q, none⟩ = some (.int .i64 x) := by rw [G0.cell hgw]; exact cx
          have vx : U.frozen? ⟨g, q, none⟩ = false := by rw [G0.frozen hgw]; exact fx
          have uy : U.cell? ⟨g, k, none⟩ = some (.int .i64 y) := by rw [G0.cell hgw]; exact cy
          have ul : U.cell? ⟨wo.heap.size, 1, none⟩ = some (.int .i64 l) := by rw [G0.cell lw]; exact lj
          have ownU := ownj.below G0
          have HU := Lib.hid hU
          have hqn2 : (q : Int) < (n : Int) := by omega
          have hkn2 : (k : Int) < (n : Int) := by omega
          clear hU
          go_wp2
          rw [← HU.out]
          refine wp_region_still_tail 17 (by kernel_rfl) (by kernel_rfl) ?_
          simp only [List.take_succ_cons, List.take_zero, List.drop_succ_cons, List.drop_zero]
          iterate 17 still_step
          refine wpStill_nil ?_
          change wpList _ _ _ _ _ U.drew
          go_wp2
          go_roundw
          case rel =>
            have h3 := OI.stored' ownU q (if x < y + l then y + l else x)
            have e3 : (M.entS xs k l us j).set q (if x < y + l then y + l else x) = M.entS xs k l us (j + 1) := by
              rw [hE2.out, hE3.out]
              congr 1
              split <;> omega
            rw [e3] at h3
            have z0 : w.heap.size ≤ wr.heap.size := by omega
            have z1 := G0.size
            have z2 : (U.setCell ⟨g, q, none⟩ (.int .i64 (if x < y + l then y + l else x))).heap.size = U.heap.size := by simp
            have z3 : (U.setCell ⟨g, q, none⟩ (.int .i64 (if x < y + l then y + l else x))).cell? ⟨wo.heap.size, 1, none⟩ = some (.int .i64 l) := by
              rw [World.cell?_of_block (heap_setCell_other U ⟨g, q, none⟩ wo.heap.size _ (fun e => hng e.symm))]
              exact ul
            exact ⟨j + 1, by go_num, by omega, h3, z3, by show wo.heap.size + 1 ≤ (U.setCell ⟨g, q, none⟩ (.int .i64 (if x < y + l then y + l else x))).heap.size; omega, ((Bj.trans (G0.mono z0)).setCell (Nat.le_trans (Nat.le_succ _) hg1) _).drew, ((Bo.trans (G0.mono z0)).setCell (Nat.le_trans (Nat.le_succ _) hg1) _).drew⟩
          case measure => simp [intOf]; omega
        · obtain rfl : j = n2 := by omega
          have hend := M.entS_end hX.out
          rw [HN2.out] at hend
          have HE := Lib.hid hend
          clear hend
          go_wp2
          go_roundw
          case rel => exact ⟨k + 1, by go_num, by omega, by rw [← HE.out]; exact ownj, Bj⟩
          case measure => simp [intOf]; omega
    · obtain rfl : k = n := by omega
      go_wp2
      go_ret
      exact ⟨_, rfl, by rw [M.entries, HLX.out]; exact own.base (by omega), Bw⟩
end Go.Proofs.YtfkcoiefkjmdeaaGreat
namespace Go.Proofs.YtfkcoiefkjmdeaaGreat
open Go.RowKit
set_option maxHeartbeats 4000000
set_option maxRecDepth 100000
end Go.Proofs.YtfkcoiefkjmdeaaGreat
namespace Go.Proofs.YtfkcoiefkjmdeaaGreat
open Go.RowKit
set_option maxHeartbeats 4000000
set_option maxRecDepth 100000
def M.total (xs : List Strip) : Int := ((M.entries xs)[xs.length - 1]?).getD 0 + ((xs[xs.length - 1]?).getD M.sz).2.1
theorem M.entries_len (xs : List Strip) : (M.entries xs).length = xs.length := M.entN_len _ _
theorem M.entries_upTo {xs : List Strip} (h : M.mixOk xs = true) : M.upTo 2000 (M.entries xs) := M.upTo_mono (M.entN_upTo h xs.length (Nat.le_refl _)) (by have := M.mix_n h; omega)
theorem impl_latency (A : Option Addr) (n c : Nat) (xs : List Strip) (w : World) (hx : tM.R w w.heap.size [.slice A n c] xs) (hok : M.mixOk xs = true) :
    Calls Tryz.prog 88 #[.agg #[.slice A n c]] w fun e w' => e = .returned (.int .i64 (M.total xs)) ∧ Below w.heap.size w w' := by
  have rx := sl_R.1 hx
  have hlx := rx.cap.1
  have hmn := M.mix_n hok
  have hnb : 1 ≤ n ∧ n ≤ 8 := by omega
  have HLX := Lib.hid hlx
  have HOK := Lib.hid hok
  obtain ⟨W, hW⟩ : ∃ W, W = w.alloc (.cells #[.slice A n c] 30) := ⟨_, rfl⟩
  have B0 : Below w.heap.size w W := by rw [hW]; exact (Below.refl _ _).alloc (Nat.le_refl _) _
  have hself : W.cell? ⟨w.heap.size, 0, none⟩ = some (.slice A n c) := by rw [hW]; simp [go_sem]
  have lx : w.heap.size < W.heap.size := by rw [hW]; simp
  have HW := Lib.hid hW
  have hX := Lib.hid (List.getElem?_eq_getElem (l := xs) (i := n - 1) (by omega))
  obtain ⟨b, o1, cc, cs, hv, hab, -, hE, hcc⟩ := (rx.below B0).atX hX.out
  simp only [Value.slice.injEq] at hv
  obtain ⟨rfl, -, rfl⟩ := hv
  generalize xs[n - 1]'(by omega) = x at hX hE
  obtain ⟨s, l, us⟩ := x
  obtain ⟨A2, n2, c2, rfl, -, -⟩ := st_R.1 hE
  have e1 : W.cell? ⟨b, o1 + (n - 1) * 3 + 1, none⟩ = some (.int .i64 l) := hcc 1 _ rfl
  obtain ⟨hlat, -, -⟩ := M.mix_strip HOK.out hX.out
  have hEl := Lib.hid (List.getElem?_eq_getElem (l := M.entries xs) (i := n - 1) (by rw [M.entries_len]; omega))
  generalize (M.entries xs)[n - 1]'(by rw [M.entries_len]; omega) = t at hEl
  have hbt := M.upTo_at (M.entries_upTo HOK.out) hEl.out
  have HT := Lib.hid (show M.total xs = t + l by rw [M.total, HLX.out, hEl.out, hX.out]; rfl)
  have hkk : IntKind.i64.wrap ((n : Int) - 1) = ((n - 1 : Nat) : Int) := by rw [IntWalk.i64_in _ (by omega)]; omega
  have i0 : (0 : Int) ≤ ((n - 1 : Nat) : Int) := by omega
  have i1 : ((n - 1 : Nat) : Int) < (n : Int) := by omega
  have i2 : n - 1 < n := by omega
  have htl : IntKind.i64.wrap (t + l) = t + l := IntWalk.i64_in _ (by omega)
  have D1 : Below W.heap.size W (W.drewN 1) := below_drewN (Below.refl _ _) 1
  have hxd := tM.later hx (bel_trans B0 D1)
  have lb : b < W.heap.size := Nat.lt_of_lt_of_le hab B0.size
  clear hcc hE hlx hmn hok hW
  go_enter Tryz.func88, Tryz.ntmps88
  go_wp2
  rw [← HW.out]
  go_region_with
    (first | (go_at_call 89; refine (impl_entries _ _ _ _ _ hxd HOK.out).mono ?_; rintro e w2 ⟨v2, rfl, own2, bel2⟩; obtain ⟨A3, c3, rfl, -⟩ := own2.shape; have hl3 := M.entries_len xs; rw [HLX.out] at hl3; rw [hl3] at own2 ⊢; clear hl3; obtain ⟨g, rfl, -, -⟩ := own2.form' (show 0 < n by omega); obtain ⟨t2, hT2, hct, -, -, -⟩ := own2.at' i2; have e9 := hT2.out; rw [hEl.out] at e9; injection e9 with e9; rw [← e9] at hct; clear e9; have G2 := bel_trans D1 bel2; have hself2 : w2.cell? ⟨w.heap.size, 0, none⟩ = some (.slice (some ⟨b, o1, none⟩) n c) := (by rw [G2.cell lx]; exact hself); have e12 : w2.cell? ⟨b, o1 + (n - 1) * 3 + 1, none⟩ = some (.int .i64 l) := (by rw [G2.cell lb]; exact e1)))
  all_goals
    go_wp2
    go_ret
    exact ⟨ret_int (by rw [HT.out]), bel_trans B0 G2⟩
end Go.Proofs.YtfkcoiefkjmdeaaGreat
namespace Go.Proofs.YtfkcoiefkjmdeaaGreat
open Go.RowKit
set_option maxHeartbeats 4000000
set_option maxRecDepth 100000
/-- The delay of one send of strip k. -/
def M.delayOf (es : List Int) (k : Nat) (l : Int) (p : Int × Int) : Int := (es[p.1.toNat]?).getD 0 - (es[k]?).getD 0 - l
def M.delayRow (xs : List Strip) (k : Nat) : List Int := ((xs[k]?).getD M.sz).2.2.map (M.delayOf (M.entries xs) k ((xs[k]?).getD M.sz).2.1)
def M.delays (xs : List Strip) : List (List Int) := (List.range xs.length).map (M.delayRow xs)
theorem M.delays_len (xs : List Strip) : (M.delays xs).length = xs.length := by simp [M.delays]
theorem M.delays_at {xs : List Strip} {k : Nat} (h : k < xs.length) : (M.delays xs)[k]? = some (M.delayRow xs k) := by simp [M.delays, h]
theorem M.delayRow_len {xs : List Strip} {k : Nat} {s : ByteArray} {l : Int} {us : List (Int × Int)} (h : xs[k]? = some (s, l, us)) : (M.delayRow xs k).length = us.length := by simp [M.delayRow, h]
theorem M.delayRow_at {xs : List Strip} {k : Nat} {s : ByteArray} {l : Int} {us : List (Int × Int)} (h : xs[k]? = some (s, l, us)) {j q : Nat} {g x y : Int} (hj : us[j]? = some ((q : Int), g)) (hx : (M.entries xs)[q]? = some x) (hy : (M.entries xs)[k]? = some y) : (M.delayRow xs k)[j]? = some (x - y - l) := by
  simp [M.delayRow, h, hj, M.delayOf, hx, hy]
theorem impl_delays (A : Option Addr) (n c : Nat) (xs : List Strip) (w : World) (hx : tM.R w w.heap.size [.slice A n c] xs) (hok : M.mixOk xs = true) :
    Calls Tryz.prog 90 #[.agg #[.slice A n c]] w fun e w' => ∃ v, e = .returned v ∧ OS tS 26 w' (Iv w.heap.size w'.heap.size) v (M.delays xs) ∧ Below w.heap.size w w' := by
  have rx := sl_R.1 hx
  have hlx := rx.cap.1
  have hmn := M.mix_n hok
  have hnb : 1 ≤ n ∧ n ≤ 8 := by omega
  have HLX := Lib.hid hlx
  have HOK := Lib.hid hok
  have hel := M.entries_len xs
  rw [hlx] at hel
  have HEL := Lib.hid hel
  have HUP := Lib.hid (M.entries_upTo hok)
  have hdl : (M.delays xs).length = n := by rw [M.delays_len]; exact hlx
  have HDL := Lib.hid hdl
  obtain ⟨W, hW⟩ : ∃ W, W = w.alloc (.cells #[.slice A n c] 30) := ⟨_, rfl⟩
  have B0 : Below w.heap.size w W := by rw [hW]; exact (Below.refl _ _).alloc (Nat.le_refl _) _
  have hself : W.cell? ⟨w.heap.size, 0, none⟩ = some (.slice A n c) := by rw [hW]; simp [go_sem]
  have lx : w.heap.size < W.heap.size := by rw [hW]; simp
  have hxW := tM.later hx B0
  have HW := Lib.hid hW
  clear hlx hmn hok hel hdl hW
  go_enter Tryz.func90, Tryz.ntmps90
  go_wp2_with fail
  rw [← HW.out]
  go_wp2_with (go_at_call 89; refine (impl_entries _ _ _ _ _ hxW HOK.out).mono ?_; rintro e w3 ⟨v3, rfl, own3, bel3⟩; obtain ⟨A3, c3, rfl, -⟩ := own3.shape; rw [HEL.out] at own3 ⊢; obtain ⟨g, rfl, hg1, hg2⟩ := own3.form' (show 0 < n by omega); have hs3 : w3.cell? ⟨w.heap.size, 0, none⟩ = some (.slice A n c) := (by rw [bel3.cell lx]; exact hself); have lw3 : w.heap.size < w3.heap.size := Nat.lt_of_lt_of_le lx bel3.size)
  have B03 : Below w.heap.size w w3 := bel_trans B0 bel3
  have hw3 := B03.size
  clear bel3 hself B0 hxW
  go_loopw [4, 5, 6, 7, 9, 16, 25] (fun v _ _ _ _ i _ wr => ∃ k : Nat, i = .int .i64 k ∧ k ≤ n ∧ OS tS 26 wr (Iv w3.heap.size wr.heap.size) v ((M.delays xs).take k) ∧ Below w3.heap.size w3 wr) (fun _ _ _ _ _ i _ _ => n - (intOf i).toNat)
  case atStart => exact ⟨0, rfl, by omega, OS.made0 _ _ _, (Below.refl _ _).alloc (Nat.le_refl _) _⟩
  case round =>
    obtain ⟨k, rfl, hk, own, Bw⟩ := hrel
    have hsb := Bw.size
    have BW := bel_trans B03 Bw
    have hpl : ((M.delays xs).take k).length ≤ 8 := by rw [List.length_take]; omega
    by_cases hlt : k < n
    · have hX := Lib.hid (List.getElem?_eq_getElem (l := xs) (i := k) (by rw [HLX.out]; exact hlt))
      obtain ⟨b, o1, cc, cs, hv, hab, -, hE, hcc⟩ := (rx.below BW).atX hX.out
      simp only [Value.slice.injEq] at hv
      obtain ⟨rfl, -, rfl⟩ := hv
      generalize xs[k]'(by rw [HLX.out]; exact hlt) = x at hX hE
      obtain ⟨s, l, us⟩ := x
      obtain ⟨A2, n2, c2, rfl, -, hE⟩ := st_R.1 hE
      have e0 : wr.cell? ⟨b, o1 + k * 3, none⟩ = some (.string s) := hcc 0 _ rfl
      have e1 : wr.cell? ⟨b, o1 + k * 3 + 1, none⟩ = some (.int .i64 l) := hcc 1 _ rfl
      have e2 : wr.cell? ⟨b, o1 + k * 3 + 2, none⟩ = some (.slice A2 n2 c2) := hcc 2 _ rfl
      have hbr : b < wr.heap.size := Nat.lt_of_lt_of_le hab BW.size
      have rs := (tSdS_ra hE).1
      have hn2 := rs.1
      obtain ⟨hlat, hu4, hsb2⟩ := M.mix_strip HOK.out hX.out
      have HSB := Lib.hid hsb2
      have n2b : n2 ≤ 4 := by omega
      have hkn2 : (k : Int) < (n : Int) := by omega
      have hrl : (M.delayRow xs k).length = n2 := by rw [M.delayRow_len hX.out]; exact hn2
      have HRL := Lib.hid hrl
      have hpt := Lib.hid (M.take_at (M.delays_at (xs := xs) (k := k) (by rw [HLX.out]; exact hlt)))
      clear hcc hE hn2 hu4 hsb2 hrl
      go_wp2
      obtain ⟨wo, rfl⟩ : ∃ wo : World, wo = wr := ⟨_, rfl⟩
      obtain ⟨U, hU⟩ : ∃ U, U = wo.alloc (.cells #[.string s, .int .i64 l, .slice A2 n2 c2] 100) := ⟨_, rfl⟩
      rw [← hU]
      have BUo : Below wo.heap.size wo U := by rw [hU]; exact (Below.refl _ _).alloc (Nat.le_refl _) _
      have HSU : U.heap.size = wo.heap.size + 1 := by rw [hU]; simp
      have lb : U.cell? ⟨wo.heap.size, 1, none⟩ = some (.int .i64 l) := by rw [hU, cell_of_row _ wo.heap.size 1 _ 100 (0, 0) (heap_alloc_new wo _)]; rfl
      have own0 := OI.made 2 U
      have BU0 : Below U.heap.size U (U.alloc (.cells #[] 2)) := (Below.refl _ _).alloc (Nat.le_refl _) _
      rw [HSU] at own0
      go_loopw [7, 9, 25] (fun v _ i wr => ∃ j : Nat, i = .int .i64 j ∧ j ≤ n2 ∧ OI 2 (wo.heap.size + 1) wr v ((M.delayRow xs k).take j) ∧ Below (wo.heap.size + 1) U wr) (fun _ _ i _ => n2 - (intOf i).toNat)
      case atStart => exact ⟨0, rfl, by omega, own0, by rw [← HSU]; exact BU0⟩
      case round =>
        obtain ⟨j, rfl, hj, ownj, BU⟩ := hrel
        have hszj : wo.heap.size + 1 ≤ wr.heap.size := by have := BU.size; omega
        have Bo : Below wo.heap.size wo wr := BUo.trans (BU.mono (Nat.le_succ _))
        have lj : wr.cell? ⟨wo.heap.size, 1, none⟩ = some (.int .i64 l) := by rw [BU.cell (Nat.lt_succ_self _)]; exact lb
        have ownE := own3.below (Bw.trans (Bo.mono hsb))
        have hpj : ((M.delayRow xs k).take j).length ≤ 4 := by rw [List.length_take]; omega
        by_cases hlt2 : j < n2
        · obtain ⟨b2, o2, ⟨p0, p1⟩, rfl, hab2, X2, hdd⟩ := (rs.below (Bo.mono BW.size)).at sd_len (by decide) hlt2
          have f0 : wr.cell? ⟨b2, o2 + j * 2, none⟩ = some (.int .i64 p0) := hdd 0 _ rfl
          have f1 : wr.cell? ⟨b2, o2 + j * 2 + 1, none⟩ = some (.int .i64 p1) := hdd 1 _ rfl
          obtain ⟨hp1, hp2, -⟩ := M.sends_at HSB.out X2.out
          obtain ⟨q, rfl⟩ : ∃ q : Nat, p0 = q := ⟨p0.toNat, by omega⟩
          have hqn : q < n := by have := HLX.out; omega
          have hqn2 : (q : Int) < (n : Int) := by omega
          obtain ⟨x, hxx, cx, -, -, gw⟩ := ownE.at' hqn
          obtain ⟨y, hyy, cy, -, -, -⟩ := ownE.at' hlt
          have bx := M.upTo_at HUP.out hxx.out
          have by_ := M.upTo_at HUP.out hyy.out
          have hP := Lib.hid (M.take_at (M.delayRow_at hX.out X2.out hxx.out hyy.out))
          have w1_ : IntKind.i64.wrap (x - y) = x - y := IntWalk.i64_in _ (by omega)
          have w2_ : IntKind.i64.wrap (x - y - l) = x - y - l := IntWalk.i64_in _ (by omega)
          clear hdd hp1 hp2
          obtain ⟨V, hV⟩ : ∃ V, V = wr.alloc (.cells #[.int .i64 (q : Int), .int .i64 p1] 68) := ⟨_, rfl⟩
          have G0 : Below wr.heap.size wr V := by rw [hV]; exact (Below.refl _ _).alloc (Nat.le_refl _) _
          have u0 : V.cell? ⟨wr.heap.size, 0, none⟩ = some (.int .i64 (q : Int)) := by rw [hV, cell_of_row _ wr.heap.size 0 _ 68 (0, 0) (heap_alloc_new wr _)]; rfl
          have ux : V.cell? ⟨g, q, none⟩ = some (.int .i64 x) := by rw [G0.cell gw]; exact cx
          have uy : V.cell? ⟨g, k, none⟩ = some (.int .i64 y) := by rw [G0.cell gw]; exact cy
          have ul : V.cell? ⟨wo.heap.size, 1, none⟩ = some (.int .i64 l) := by rw [G0.cell (show (⟨wo.heap.size, 1, none⟩ : Addr).block < _ from hszj)]; exact lj
          have ownV := ownj.below G0
          have lV : wr.heap.size < V.heap.size := by rw [hV]; simp
          have HV := Lib.hid hV
          have hsV := G0.size
          have BA : ∀ us, Below V.heap.size V (V.alloc (.cells us 2)).drew := fun us => ((Below.refl _ _).alloc (Nat.le_refl _) _).drew
          have gV : g < V.heap.size := by omega
          have oV : wo.heap.size < V.heap.size := by omega
          have gB : g < wo.heap.size + 1 := by omega
          have oB : wo.heap.size < wo.heap.size + 1 := Nat.lt_succ_self _
          have ownV0 : V.ownsRow (wo.heap.size + 1) 2 1 _ ((M.delayRow xs k).take j).length (((M.delayRow xs k).take j).map (.int .i64)) := ownV
          have c1_ : ((M.delayRow xs k).take j).length + 1 ≤ maxLen := by unfold maxLen; omega
          have c2_ : (((M.delayRow xs k).take j).length + 1) * 8 ≤ 140737488355328 := by omega
          have c3_ : wo.heap.size + 1 ≤ V.heap.size := by omega
          clear hV
          go_wp2
          rw [← HV.out]
          have hne : ∀ {v : Value}, OI 2 (wo.heap.size + 1) wr v ((M.delayRow xs k).take j) → v.ownBlock ≠ some wr.heap.size := fun h h2 => Nat.lt_irrefl _ (World.ownsRow.lt h _ h2).2
          go_region_held3 (fun w' => w'.cell? ⟨wr.heap.size, 0, none⟩ = some (.int .i64 (q : Int)) ∧ w'.cell? ⟨g, q, none⟩ = some (.int .i64 x) ∧ w'.cell? ⟨g, k, none⟩ = some (.int .i64 y) ∧ w'.cell? ⟨wo.heap.size, 1, none⟩ = some (.int .i64 l))
            (first | exact ⟨u0, ux, uy, ul⟩ | exact ⟨((BA _).cell lV).trans u0, ((BA _).cell gV).trans ux, ((BA _).cell gV).trans uy, ((BA _).cell oV).trans ul⟩ | exact ⟨z0, z1, z2, z3⟩)
            (first | (refine step_push1 (o := ⟨some 44, _, _, _, _, _⟩) ei_i64 rfl (.tmp 29) (.tmp 43) rfl (World.ownsRow.drew (World.ownsRow.alloc ownV0 _)) rfl rfl (cell_alloc1 _ _ _) rfl c1_ c2_ (base_alloc c3_) ?_; intro v1 w1 own1 gr1 bel1; have z0 : w1.cell? ⟨wr.heap.size, 0, none⟩ = some (.int .i64 (q : Int)) := (by rw [World.cell?_of_block (gr1.block wr.heap.size (Nat.lt_of_lt_of_le lV (BA _).size) (hne ownj).symm), (BA _).cell (show (⟨wr.heap.size, 0, none⟩ : Addr).block < _ from lV)]; exact u0); have z1 : w1.cell? ⟨g, q, none⟩ = some (.int .i64 x) := (by rw [bel1.cell (show (⟨g, q, none⟩ : Addr).block < _ from gB), (BA _).cell (show (⟨g, q, none⟩ : Addr).block < _ from gV)]; exact ux); have z2 : w1.cell? ⟨g, k, none⟩ = some (.int .i64 y) := (by rw [bel1.cell (show (⟨g, k, none⟩ : Addr).block < _ from gB), (BA _).cell (show (⟨g, k, none⟩ : Addr).block < _ from gV)]; exact uy); have z3 : w1.cell? ⟨wo.heap.size, 1, none⟩ = some (.int .i64 l) := (by rw [bel1.cell (show (⟨wo.heap.size, 1, none⟩ : Addr).block < _ from oB), (BA _).cell (show (⟨wo.heap.size, 1, none⟩ : Addr).block < _ from oV)]; exact ul)))
          go_wp2
          go_roundw
          case rel => exact ⟨j + 1, by go_num, by omega, by rw [hP.out]; exact OI.push own1, ((BU.trans (G0.mono hszj)).trans ((BA _).mono c3_)).trans bel1⟩
          case measure => simp [intOf]; omega
        · obtain rfl : j = n2 := by omega
          rw [List.take_of_length_le (by rw [HRL.out]; exact Nat.le_refl _)] at ownj
          obtain ⟨A4, c4, rfl, -⟩ := ownj.shape
          have ow := own.below Bo (Nat.le_refl _)
          have os2 := tS_O.2 (OI.os (OI.base ownj (show wo.heap.size ≤ _ by omega)))
          have s2 := Bo.size
          go_wp2_with (at_builtin; refine wpList_pushS ei_S #[.slice A4 (M.delayRow xs k).length c4] rfl _ _ rfl ow os2 (Iv.apart (Nat.le_refl _)) rfl rfl (by unfold maxLen; omega) (by omega) ?_; intro v3 w4 own4 ch4)
          go_roundw
          case rel =>
            refine ⟨k + 1, by go_num, by omega, ?_, (Bw.trans (Bo.mono hsb)).trans (ch4.toBelow (fun b hb => hb.1) (by omega))⟩
            rw [hpt.out]
            exact own4.wide (Iv.grow hsb s2 ch4.size)
          case measure => simp [intOf]; omega
    · obtain rfl : k = n := by omega
      go_wp2
      go_ret
      rw [List.take_of_length_le (by rw [HDL.out]; exact Nat.le_refl _)] at own
      exact ⟨_, rfl, own.wide (fun b hb => ⟨Nat.le_trans hw3 hb.1, hb.2⟩), BW⟩
end Go.Proofs.YtfkcoiefkjmdeaaGreat
namespace Go.Proofs.YtfkcoiefkjmdeaaGreat
open Go.RowKit Go.Sort
set_option maxHeartbeats 4000000
set_option maxRecDepth 100000
set_option linter.unusedVariables false
set_option linter.unusedSimpArgs false
/-- A part of a signal; a signal later. -/
def M.sl (a : List Int) (f : Int) (n : Nat) : List Int := (List.range n).map fun (i : Nat) => M.at_ a (f + i)
def M.late (a : List Int) (b : Int) (n : Nat) : List Int := (List.range n).map fun (i : Nat) => M.at_ a ((i : Int) - b)
theorem M.sl_len (a : List Int) (f : Int) (n : Nat) : (M.sl a f n).length = n := by simp [M.sl]
theorem M.late_len (a : List Int) (b : Int) (n : Nat) : (M.late a b n).length = n := by simp [M.late]
theorem M.sl_at {a : List Int} {f : Int} {n k : Nat} (h : k < n) : (M.sl a f n)[k]? = some (M.at_ a (f + k)) := by simp [M.sl, h]
theorem M.late_smp {a : List Int} (h : a.all M.smp = true) (b : Int) (n : Nat) : (M.late a b n).all M.smp = true := by
  rw [M.late, List.all_map, List.all_eq_true]
  intro i _
  exact M.at_smp h _
theorem M.addS_smp (a b : List Int) (g : Int) : (M.addS a b g).all M.smp = true := by
  rw [M.addS, List.all_map, List.all_eq_true]
  intro i _
  exact M.smp_wrap _
theorem M.at_none {a : List Int} {i : Int} (h : i < 0 ∨ (a.length : Int) ≤ i) : M.at_ a i = 0 := by
  rw [M.at_, if_neg (by omega)]
theorem M.at_pad (a : List Int) (b : Nat) {i : Int} (h : 0 ≤ i) : M.at_ (List.replicate b 0 ++ a) i = M.at_ a (i - b) := by
  obtain ⟨k, rfl⟩ := Int.eq_ofNat_of_zero_le h
  rw [M.at_, M.at_]
  simp only [List.length_append, List.length_replicate]
  by_cases h1 : k < b
  · rw [if_neg (by omega : ¬ (0 ≤ (k : Int) - b ∧ (k : Int) - b < a.length))]
    split
    · rw [Int.toNat_natCast, List.getElem?_append_left (by simpa using h1)]
      simp [h1]
    · rfl
  · by_cases h2 : k < b + a.length
    · rw [if_pos ⟨by omega, by omega⟩, if_pos ⟨by omega, by omega⟩, Int.toNat_natCast, List.getElem?_append_right (by simp; omega)]
      rw [List.length_replicate, show ((k : Int) - b).toNat = k - b by omega]
    · rw [if_neg (by omega), if_neg (by omega)]
theorem M.at_tail (a : List Int) (m : Nat) (i : Int) : M.at_ (a ++ List.replicate m 0) i = M.at_ a i := by
  rw [M.at_, M.at_]
  simp only [List.length_append, List.length_replicate]
  by_cases h1 : 0 ≤ i ∧ i < a.length
  · rw [if_pos ⟨h1.1, by omega⟩, if_pos h1, List.getElem?_append_left (by omega)]
  · rw [if_neg h1]
    split
    · rename_i h2
      rw [List.getElem?_append_right (by omega), List.getElem?_replicate]
      split <;> rfl
    · rfl
theorem M.late_pad (a : List Int) (b n : Nat) : M.sl (List.replicate b 0 ++ a) 0 n = M.late a b n := by
  rw [M.sl, M.late]
  refine List.map_congr_left fun i _ => ?_
  rw [M.at_pad a b (by omega)]
  congr 1
  omega
theorem M.late_take (a : List Int) (b : Nat) : (List.replicate b 0 ++ a).take a.length = M.late a b a.length := by
  rw [← M.late_pad]
  apply List.ext_getElem?
  intro k
  by_cases hk : k < a.length
  · rw [M.sl_at hk, List.getElem?_take, if_pos hk, M.at_, if_pos ⟨by omega, by simp; omega⟩, show ((0 : Int) + (k : Int)).toNat = k by omega, List.getElem?_eq_getElem (by simp; omega)]
    rfl
  · rw [List.getElem?_eq_none (by rw [List.length_take]; omega), List.getElem?_eq_none (by rw [M.sl_len]; omega)]
theorem M.late_tail (a : List Int) (m n : Nat) (b : Int) : M.late (a ++ List.replicate m 0) b n = M.late a b n := by
  rw [M.late, M.late]
  exact List.map_congr_left fun i _ => M.at_tail a m _
theorem OI.take {e : TypeId} {B : Nat} {w : World} {A : Option Addr} {m n c : Nat} {xs : List Int} (h : OI e B w (.slice A m c) xs) (hn : n ≤ m) : OI e B w (.slice A n c) (xs.take n) := by
  have hl : xs.length = m := by
    rcases h.2 with ⟨h0, h1⟩ | ⟨g, cap, cur, h0, _⟩
    · simp only [Value.slice.injEq] at h0
      rw [h0.2.1]; exact h1
    · simp only [Value.slice.injEq] at h0
      exact h0.2.1.symm
  have hl2 : (xs.take n).length = n := by rw [List.length_take]; omega
  refine ⟨by simp, ?_⟩
  rw [hl2]
  rcases h.2 with ⟨h0, h1⟩ | ⟨g, cap, cur, h0, hb, hg, hnc, hcm, hcs, ht⟩
  · simp only [Value.slice.injEq] at h0
    obtain ⟨rfl, rfl, rfl⟩ := h0
    obtain rfl : n = 0 := by omega
    exact .inl ⟨rfl, rfl⟩
  · simp only [Value.slice.injEq] at h0
    obtain ⟨rfl, -, rfl⟩ := h0
    refine .inr ⟨g, c, cur, rfl, hb, hg, by omega, hcm, hcs, ?_⟩
    rw [List.map_take, ← ht, List.take_take]
    congr 1
    omega
theorem impl_slice (A : Option Addr) (n c : Nat) (xs : List Int) (f : Nat) (m : Nat) (w : World) (hx : RI w w.heap.size A n xs) (hn : n ≤ 1000000) (hf : f ≤ 1000000) (hm : m ≤ 1000000) :
    Calls Tryz.prog 61 #[.slice A n c, .int .i64 f, .int .i64 m] w (Ret1 2 w (M.sl xs f m)) := by
  go_enter Tryz.func61, Tryz.ntmps61
  go_wp2_with fail
  refine (impl_zeros m _ (by omega) (by omega)).mono ?_
  rintro e w1 ⟨v1, rfl, own1, bel1⟩
  rw [Int.toNat_natCast] at own1
  obtain ⟨A1, c1, e1, -⟩ := own1.shape
  rw [List.length_replicate] at e1
  subst e1
  have s1 := bel1.size
  go_wp2_with fail
  go_loopw [13] (fun i wr => ∃ k : Nat, i = .int .i64 k ∧ k ≤ m ∧ OI 2 w.heap.size wr (.slice A1 m c1) ((M.sl xs f m).take k ++ List.replicate (m - k) 0) ∧ Below w.heap.size w wr ∧ w1.heap.size ≤ wr.heap.size) (fun i _ => m - (intOf i).toNat)
  case atStart => exact ⟨0, rfl, by omega, by simpa using own1, bel1, Nat.le_refl _⟩
  case round =>
    obtain ⟨k, rfl, hk, own, B, sz⟩ := hrel
    by_cases hlt : k < m
    · obtain ⟨g, rfl, hg1, hg2⟩ := own.form' (by omega)
      obtain ⟨y, hy1, hy2, hy3, -, -⟩ := own.at' (k := k) hlt
      have HT := Lib.hid (show ((M.sl xs f m).take k ++ List.replicate (m - k) 0).set k (M.at_ xs (f + k)) = (M.sl xs f m).take (k + 1) ++ List.replicate (m - (k + 1)) 0 by
        rw [M.take_at (M.sl_at hlt), List.set_append_right _ _ (by rw [List.length_take]; omega)]
        rw [show k - ((M.sl xs f m).take k).length = 0 by rw [List.length_take, M.sl_len]; omega, show m - k = (m - (k + 1)) + 1 by omega, List.replicate_succ, List.set_cons_zero]
        simp)
      have fk : (0 : Int) ≤ (f : Int) + (k : Int) := by omega
      have k0 : (0 : Int) ≤ (k : Int) := by omega
      have k1 : (k : Int) < (m : Int) := by omega
      have rx := (hx.below B).more B.size
      go_wp2_with fail
      refine (impl_at _ _ _ xs _ _ rx (by omega) (by omega)).mono ?_
      rintro e w' ⟨rfl, rfl⟩
      go_wp2_with fail
      go_roundw
      case rel => exact ⟨k + 1, by go_num, by omega, by rw [← HT.out]; exact own.stored' k _, B.setCell hg1 _, by simp; omega⟩
      case measure => simp [intOf]; omega
    · obtain rfl : k = m := by omega
      rw [List.take_of_length_le (by rw [M.sl_len]; omega), Nat.sub_self, List.replicate_zero, List.append_nil] at own
      go_wp2_with fail
      go_ret
      exact ⟨_, rfl, own, B⟩
theorem wrap32_r (p x : Int) : wrap32 (p + wrap64 x) = wrap32 (p + x) := by unfold wrap32 wrap64; omega
theorem impl_addTimes (A A' : Option Addr) (n c n' c' : Nat) (xs ys : List Int) (g : Int) (w : World) (hx : RI w w.heap.size A n xs) (hy : RI w w.heap.size A' n' ys) (hn : n ≤ 1000000) (hn' : n' ≤ 1000000) :
    Calls Tryz.prog 34 #[.slice A n c, .int .i64 g, .slice A' n' c'] w (Ret1 2 w (M.addS xs ys g)) := by
  have hl := Lib.hid hx.len
  have hl' := Lib.hid hy.len
  obtain ⟨m, hm⟩ : ∃ m : Nat, m = max n n' := ⟨_, rfl⟩
  have HM := Lib.hid (show max xs.length ys.length = m by rw [hl.out, hl'.out, hm])
  have hm2 : m ≤ 1000000 := by omega
  have hz := Lib.hid hm
  rcases (show (n' ≤ n ∧ m = n) ∨ (n < n' ∧ m = n') by omega) with ⟨hnn, rfl⟩ | ⟨hnn, rfl⟩
  all_goals
    clear hm hz
    go_enter Tryz.func34, Tryz.ntmps34
    go_wp2_with (first | (go_at_call 62; refine (impl_size_int64 _ _ _ _).mono ?_; rintro e w' ⟨rfl, rfl⟩))
    refine (impl_zeros m _ (by omega) (by omega)).mono ?_
    rintro e w1 ⟨v1, rfl, own1, bel1⟩
    rw [Int.toNat_natCast] at own1
    obtain ⟨A1, c1, e1, -⟩ := own1.shape
    rw [List.length_replicate] at e1
    subst e1
    have s1 := bel1.size
    go_wp2_with fail
    go_loopw [17] (fun i wr => ∃ k : Nat, i = .int .i64 k ∧ k ≤ m ∧ OI 2 w.heap.size wr (.slice A1 m c1) ((M.addS xs ys g).take k ++ List.replicate (m - k) 0) ∧ Below w.heap.size w wr ∧ w1.heap.size ≤ wr.heap.size) (fun i _ => m - (intOf i).toNat)
    case atStart => exact ⟨0, rfl, by omega, by simpa using own1, bel1, Nat.le_refl _⟩
    case round =>
      obtain ⟨k, rfl, hk, own, B, sz⟩ := hrel
      by_cases hlt : k < m
      · obtain ⟨q, rfl, hg1, hg2⟩ := own.form' (by omega)
        obtain ⟨y, hy1, hy2, hy3, -, -⟩ := own.at' (k := k) hlt
        have HT := Lib.hid (show ((M.addS xs ys g).take k ++ List.replicate (m - k) 0).set k (wrap32 (M.at_ xs (k : Int) + M.at_ ys (k : Int) * g)) = (M.addS xs ys g).take (k + 1) ++ List.replicate (m - (k + 1)) 0 by
          rw [M.take_at (M.addS_at (by rw [HM.out]; exact hlt)), List.set_append_right _ _ (by rw [List.length_take]; omega)]
          rw [show k - ((M.addS xs ys g).take k).length = 0 by rw [List.length_take, M.addS_len, HM.out]; omega, show m - k = (m - (k + 1)) + 1 by omega, List.replicate_succ, List.set_cons_zero]
          simp)
        have k0 : (0 : Int) ≤ (k : Int) := by omega
        have k1 : (k : Int) < (m : Int) := by omega
        have rx := (hx.below B).more B.size
        have ry := (hy.below B).more B.size
        obtain ⟨p, hp⟩ : ∃ p, p = M.at_ xs (k : Int) := ⟨_, rfl⟩
        obtain ⟨r, hr⟩ : ∃ r, r = M.at_ ys (k : Int) := ⟨_, rfl⟩
        have HP := Lib.hid hp
        have HR := Lib.hid hr
        clear hp hr
        go_wp2_with fail
        refine (impl_at _ _ _ xs _ _ rx (by omega) (by omega)).mono ?_
        rw [← HP.out]
        rintro e w' ⟨rfl, rfl⟩
        go_wp2_with fail
        refine (impl_at _ _ _ ys _ _ ry (by omega) (by omega)).mono ?_
        rw [← HR.out]
        rintro e w' ⟨rfl, rfl⟩
        go_wp2_with fail
        refine (impl_Wrap _ _).mono ?_
        rintro e w' ⟨rfl, rfl⟩
        go_wp2_with fail
        go_roundw
        case rel =>
          refine ⟨k + 1, by go_num, by omega, ?_, B.setCell hg1 _, by simp; omega⟩
          rw [← HT.out, ← HP.out, ← HR.out]
          have := own.stored' k (wrap32 (p + r * g))
          rw [show wrap32 (p + r * g) = wrap32 (wrap64 (p + wrap64 (g * r))) by rw [M.wrap32_64, wrap32_r, Int.mul_comm]] at this ⊢
          exact this
        case measure => simp [intOf]; omega
      · obtain rfl : k = m := by omega
        rw [List.take_of_length_le (by rw [M.addS_len, HM.out]; omega), Nat.sub_self, List.replicate_zero, List.append_nil] at own
        go_wp2_with fail
        go_ret
        exact ⟨_, rfl, own, B⟩
theorem impl_delayed (A : Option Addr) (n c : Nat) (xs : List Int) (b : Nat) (w : World) (hx : RI w w.heap.size A n xs) (hn : n ≤ 1000000) (hb : b ≤ 1000000) :
    Calls Tryz.prog 92 #[.slice A n c, .int .i64 b] w (Ret1 2 w (M.late xs b n)) := by
  have hl := Lib.hid hx.len
  go_enter Tryz.func92, Tryz.ntmps92
  go_wp2_with fail
  refine (impl_zeros b _ (by omega) (by omega)).mono ?_
  rintro e w1 ⟨v1, rfl, own1, bel1⟩
  rw [Int.toNat_natCast] at own1
  have hlr := List.length_replicate (n := b) (a := (0 : Int))
  have HLR := Lib.hid hlr
  have rx := hx.below bel1
  have s1 := bel1.size
  have hlb : (List.replicate b (0 : Int)).length ≤ 1000000 := by rw [List.length_replicate]; omega
  clear hlr
  go_wp2_with (at_builtin; refine wpList_cat ei_i64 rfl _ _ rfl own1 rfl rx rfl (ints_oneCell _ _) (by unfold maxLen; omega) (by omega) s1 ?_; intro v2 w2 own2 gr2 bel2; have op2 : OI 2 w.heap.size w2 v2 (List.replicate b 0 ++ xs) := (by unfold OI; rw [List.map_append, List.length_append, hl.out]; exact own2); obtain ⟨A2, c2, e2, -⟩ := op2.shape; obtain ⟨n2, hn2⟩ : ∃ n2, n2 = (List.replicate b 0 ++ xs).length := ⟨_, rfl⟩; rw [← hn2] at e2; subst e2; have hnn : n ≤ n2 := (by rw [hn2, List.length_append, hl.out]; omega); have hcc : n2 ≤ c2 := (by obtain ⟨A3, c3, e3, h3, -⟩ := own_shape op2; simp only [Value.slice.injEq] at e3; rw [e3.2.2, e3.2.1]; exact h3); have HN2 := Lib.hid hn2; clear hn2)
  go_ret
  have op3 := op2.take hnn
  have h := M.late_take xs b
  rw [hl.out] at h
  rw [h] at op3
  exact ⟨_, rfl, op3, bel1.trans bel2⟩
end Go.Proofs.YtfkcoiefkjmdeaaGreat
namespace Go.Proofs.YtfkcoiefkjmdeaaGreat
open Go.RowKit Go.Sort
set_option maxHeartbeats 4000000
set_option linter.unusedVariables false
set_option linter.unusedSimpArgs false
set_option synthInstance.maxSize 2000
set_option synthInstance.maxHeartbeats 400000
section
variable (L : Nat) (src : List (List Int)) (ts : List (List Clip_)) (fs : List Int) (ps : List Patch) (ms : List Strip)
def M.nT : Nat := L + (M.total ms).toNat
def M.tra (t : Nat) : List Clip_ := (ts[t]?).getD []
def M.pat (i : Nat) : Patch := (ps[i]?).getD M.p0
def M.stri (i : Nat) : Strip := (ms[i]?).getD M.sz
def M.ent (i : Nat) : Int := M.i_ (M.entries ms) i
def M.addAt (ins : List (List Int)) (k : Nat) (ys : List Int) (g : Int) : List (List Int) := ins.set k (M.addS (M.cel ins k) ys g)
/-- The inputs of all strips, after t tracks. -/
def M.trk : Nat → List (List Int)
  | 0 => List.replicate ms.length (List.replicate (M.nT L ms) 0)
  | t + 1 => M.addAt (M.trk t) (M.i_ fs t).toNat (M.late (M.renT src (M.tra ts t) L) (M.ent ms (M.i_ fs t).toNat) (M.nT L ms)) 1
/-- A strip's effect. -/
def M.fx (p : Patch) (xs : List Int) (n : Nat) : List Int := if p = M.p0 then xs else M.play p xs n
/-- A strip's output. -/
def M.outI (i : Nat) (ins : List (List Int)) : List Int := M.late (M.fx (M.pat ps i) (M.cel ins i) (M.nT L ms)) (M.stri ms i).2.1 (M.nT L ms)
/-- .. sent, j times. -/
def M.snd (i : Nat) (out : List Int) (ins : List (List Int)) : Nat → List (List Int)
  | 0 => ins
  | j + 1 => M.addAt (M.snd i out ins j) (((M.stri ms i).2.2[j]?).getD (0, 0)).1.toNat (M.late out (M.i_ (M.cel (M.delays ms) i) j) (M.nT L ms)) (((M.stri ms i).2.2[j]?).getD (0, 0)).2
/-- Inputs and outputs after i strips. -/
def M.stp : Nat → List (List Int) × List (List Int)
  | 0 => (M.trk L src ts fs ms ts.length, [])
  | i + 1 => (M.snd L ms i (M.outI L ps ms i (M.stp i).1) (M.stp i).1 (M.stri ms i).2.2.length, (M.stp i).2 ++ [M.outI L ps ms i (M.stp i).1])
def M.outs : List (List Int) := (M.stp L src ts fs ps ms ms.length).2
def M.rdyL : List Int := (List.range ms.length).map fun i => M.ent ms i + (M.stri ms i).2.1
def M.mixS : List Int := M.sl (M.cel (M.outs L src ts fs ps ms) (ms.length - 1)) (M.total ms) L
end
/-- A session is valid, part by part. -/
structure M.SO (L : Nat) (src : List (List Int)) (ts : List (List Clip_)) (fs : List Int) (ps : List Patch) (ms : List Strip) : Prop where
  l : L ≤ 1000
  so : M.srcOk src = true
  mix : M.mixOk ms = true
  fl : fs.length = ts.length
  tl : ts.length ≤ 6
  fr : ∀ f ∈ fs, 0 ≤ f ∧ f < ms.length
  pl : ps.length = ms.length
  tr : ∀ t ∈ ts, M.trackOk t = true ∧ M.hasS t src.length = true
  ef : ∀ p ∈ ps, M.effOk p = true
theorem M.SO_of {a0 : Int} {src : List (List Int)} {ts : List (List Clip_)} {fs : List Int} {ps : List Patch} {ms : List Strip} (h : M.sessOk (a0, src, ts, fs, ps, ms) = true) : ∃ L : Nat, a0 = L ∧ M.SO L src ts fs ps ms := by
  rw [M.sessOk] at h
  simp only [Bool.and_eq_true, decide_eq_true_eq] at h
  obtain ⟨⟨⟨⟨⟨⟨⟨⟨h1, h2⟩, h3⟩, h4⟩, h5⟩, h6⟩, h7⟩, h8⟩, h9⟩ := h
  have h1' := M.inn_iff.1 h1
  refine ⟨a0.toNat, by omega, by omega, h2, h4, h5, h3, fun f hf => ?_, h7, fun t ht => ?_, fun p hp => List.all_eq_true.1 h9 p hp⟩
  · have := M.inn_iff.1 (List.all_eq_true.1 h6 f hf)
    omega
  · have := List.all_eq_true.1 h8 t ht
    rwa [Bool.and_eq_true] at this
/-- m lists of n samples. -/
structure M.JO (m n : Nat) (ins : List (List Int)) : Prop where
  len : ins.length = m
  at_ : ∀ x ∈ ins, x.length = n ∧ x.all M.smp = true
theorem M.JO.cel {m n : Nat} {ins : List (List Int)} (h : M.JO m n ins) {k : Nat} (hk : k < m) : (M.cel ins k).length = n ∧ (M.cel ins k).all M.smp = true := by
  have hk2 : k < ins.length := by rw [h.len]; exact hk
  have e : M.cel ins k = ins[k] := by rw [M.cel, List.getElem?_eq_getElem hk2]; rfl
  rw [e]
  exact h.at_ _ (List.getElem_mem hk2)
theorem M.JO.add {m n : Nat} {ins : List (List Int)} (h : M.JO m n ins) {k : Nat} (hk : k < m) {ys : List Int} (hy : ys.length = n) (g : Int) : M.JO m n (M.addAt ins k ys g) := by
  refine ⟨by rw [M.addAt, List.length_set]; exact h.len, fun x hx => ?_⟩
  rcases List.mem_or_eq_of_mem_set hx with h1 | rfl
  · exact h.at_ x h1
  · exact ⟨by rw [M.addS_len, (h.cel hk).1, hy, Nat.max_self], M.addS_smp _ _ _⟩
section
variable {L : Nat} {src : List (List Int)} {ts : List (List Clip_)} {fs : List Int} {ps : List Patch} {ms : List Strip}
theorem M.total_bd (h : M.mixOk ms = true) : 0 ≤ M.total ms ∧ M.total ms ≤ 1100 := by
  obtain ⟨h1, h2⟩ := M.mix_n h
  have hx : ms[ms.length - 1]? = some (ms[ms.length - 1]'(by omega)) := List.getElem?_eq_getElem (by omega)
  rw [M.total, hx]
  generalize ms[ms.length - 1]'(by omega) = x at hx
  obtain ⟨s, l, us⟩ := x
  obtain ⟨h3, _, _⟩ := M.mix_strip h hx
  have h4 := M.upTo_get (by omega) (M.entN_upTo h ms.length (Nat.le_refl _)) (ms.length - 1)
  rw [M.entries]
  simp only [Option.getD_some]
  omega
theorem M.nT_le (h : M.SO L src ts fs ps ms) : M.nT L ms ≤ 2100 := by
  have h1 := M.total_bd h.mix
  have h2 := h.l
  rw [M.nT]; omega
theorem M.nT_int (h : M.SO L src ts fs ps ms) : ((M.nT L ms : Nat) : Int) = (L : Int) + M.total ms := by
  have h1 := M.total_bd h.mix
  rw [M.nT]; omega
theorem M.ent_bd (h : M.mixOk ms = true) (i : Nat) : 0 ≤ M.ent ms i ∧ M.ent ms i ≤ 1024 := by
  have h1 := M.mix_n h
  have h4 := M.upTo_get (by omega) (M.entN_upTo h ms.length (Nat.le_refl _)) i
  rw [M.ent, M.i_, M.entries]
  omega
theorem M.stri_at {i : Nat} {x : Strip} (h : ms[i]? = some x) : M.stri ms i = x := by rw [M.stri, h]; rfl
theorem M.pat_at {i : Nat} {x : Patch} (h : ps[i]? = some x) : M.pat ps i = x := by rw [M.pat, h]; rfl
theorem M.tra_at {i : Nat} {x : List Clip_} (h : ts[i]? = some x) : M.tra ts i = x := by rw [M.tra, h]; rfl
theorem M.stri_ok (h : M.mixOk ms = true) {i : Nat} (hi : i < ms.length) : (0 ≤ (M.stri ms i).2.1 ∧ (M.stri ms i).2.1 ≤ 32) ∧ (M.stri ms i).2.2.length ≤ 4 ∧ ∀ (j : Nat) (p0 p1 : Int), (M.stri ms i).2.2[j]? = some (p0, p1) → (i : Int) < p0 ∧ p0 < ms.length ∧ M.smp p1 = true := by
  have hx : ms[i]? = some ms[i] := List.getElem?_eq_getElem hi
  rw [M.stri_at hx]
  generalize ms[i] = x at hx
  obtain ⟨s, l, us⟩ := x
  obtain ⟨h1, h2, h3⟩ := M.mix_strip h hx
  refine ⟨h1, h2, fun j p0 p1 hj => ?_⟩
  have := M.sends_at h3 hj
  exact ⟨this.1, by omega, this.2.2⟩
theorem M.play_ok {p : Patch} (h : M.effOk p = true) (hp : p ≠ M.p0) : M.patchOk p = true ∧ p.1 = 1 ∧ p.2.2.2.length = 1 := by
  rw [M.effOk] at h
  simp only [Bool.or_eq_true, Bool.and_eq_true, decide_eq_true_eq] at h
  rcases h with h | h
  · exact absurd h hp
  · exact ⟨h.1.1, h.1.2, h.2⟩
theorem M.fx_ok {p : Patch} (h : M.effOk p = true) {xs : List Int} {n : Nat} (hl : xs.length = n) (hs : xs.all M.smp = true) : (M.fx p xs n).length = n ∧ (M.fx p xs n).all M.smp = true := by
  rw [M.fx]
  split
  · exact ⟨hl, hs⟩
  · rename_i hp
    obtain ⟨h1, h2, h3⟩ := M.play_ok h hp
    exact ⟨by rw [M.play, M.playO_len], M.playO_smp (M.PF_of h1 h2) hs _ _⟩
theorem M.trk_ok (h : M.SO L src ts fs ps ms) : ∀ t, t ≤ ts.length → M.JO ms.length (M.nT L ms) (M.trk L src ts fs ms t) := by
  intro t
  induction t with
  | zero =>
    refine fun _ => ⟨List.length_replicate .., fun x hx => ?_⟩
    rw [List.eq_of_mem_replicate hx]
    refine ⟨List.length_replicate .., ?_⟩
    rw [List.all_eq_true]
    intro z hz
    rw [List.eq_of_mem_replicate hz]
    rfl
  | succ t ih =>
    intro ht
    have hf : fs[t]? = some (M.i_ fs t) := by
      have : t < fs.length := by rw [h.fl]; omega
      rw [M.i_, List.getElem?_eq_getElem this]; rfl
    have hr := h.fr _ (List.mem_of_getElem? hf)
    exact (ih (by omega)).add (by omega) (M.late_len _ _ _) 1
theorem M.snd_ok (h : M.mixOk ms = true) {i : Nat} (hi : i < ms.length) {out : List Int} {ins : List (List Int)} (hins : M.JO ms.length (M.nT L ms) ins) : ∀ j, j ≤ (M.stri ms i).2.2.length → M.JO ms.length (M.nT L ms) (M.snd L ms i out ins j) := by
  intro j
  induction j with
  | zero => exact fun _ => hins
  | succ j ih =>
    intro hj
    obtain ⟨_, _, h3⟩ := M.stri_ok h hi
    have hx : (M.stri ms i).2.2[j]? = some ((M.stri ms i).2.2[j]'(by omega)) := List.getElem?_eq_getElem (by omega)
    generalize (M.stri ms i).2.2[j]'(by omega) = u at hx
    obtain ⟨p0, p1⟩ := u
    have h4 := h3 j p0 p1 hx
    rw [M.snd, hx]
    exact (ih (by omega)).add (by show p0.toNat < _; omega) (M.late_len _ _ _) _
theorem M.stp_ok (h : M.SO L src ts fs ps ms) : ∀ i, i ≤ ms.length → M.JO ms.length (M.nT L ms) (M.stp L src ts fs ps ms i).1 ∧ M.JO i (M.nT L ms) (M.stp L src ts fs ps ms i).2 := by
  intro i
  induction i with
  | zero => exact fun _ => ⟨M.trk_ok h _ (Nat.le_refl _), rfl, fun x hx => by cases hx⟩
  | succ i ih =>
    intro hi
    obtain ⟨h1, h2⟩ := ih (by omega)
    have hp : M.effOk (M.pat ps i) = true := by
      have hk : i < ps.length := by rw [h.pl]; omega
      rw [M.pat_at (List.getElem?_eq_getElem hk)]
      exact h.ef _ (List.getElem_mem hk)
    obtain ⟨c1, c2⟩ := h1.cel (k := i) (by omega)
    obtain ⟨f1, f2⟩ := M.fx_ok hp c1 c2
    refine ⟨M.snd_ok h.mix (by omega) h1 _ (Nat.le_refl _), by rw [M.stp, List.length_append, h2.len]; rfl, fun x hx => ?_⟩
    rw [M.stp, List.mem_append] at hx
    rcases hx with hx | hx
    · exact h2.at_ x hx
    · obtain rfl : x = _ := List.mem_singleton.1 hx
      exact ⟨M.late_len _ _ _, M.late_smp f2 _ _⟩
end
end Go.Proofs.YtfkcoiefkjmdeaaGreat
namespace Go.Proofs.YtfkcoiefkjmdeaaGreat
open Go.RowKit Go.Sort
set_option maxHeartbeats 4000000
set_option maxRecDepth 100000
set_option linter.unusedVariables false
theorem laws_b10Nums (A A' : Option Addr) (n c n' c' : Nat) (xs ys : List Int) (w : World) (hx : RI w w.heap.size A n xs) (hy : RI w w.heap.size A' n' ys) (hn : n ≤ 1000000000) :
    Calls Tryz.prog 11 #[.slice A n c, .slice A' n' c'] w fun e w' => e = .returned (.bool (decide (xs = ys))) ∧ Below w.heap.size w w' := by
  have hl := Lib.hid hx.len
  have hl' := Lib.hid hy.len
  by_cases hnn : n = n'
  · subst hnn
    go_enter Tryz.func11, Tryz.ntmps11
    go_wp2
    go_loopw [5] (fun i wr => ∃ k : Nat, i = .int .i64 k ∧ k ≤ n ∧ Hid (xs.take k = ys.take k) ∧ Below w.heap.size w wr) (fun i _ => n - (intOf i).toNat)
    case atStart => exact ⟨0, rfl, by omega, Lib.hid (by simp), Below.refl _ _⟩
    case round =>
      obtain ⟨k, rfl, hk, H, hb⟩ := hrel
      by_cases hlt : k < n
      · obtain ⟨ad, x, rfl, hab, X, hc⟩ := (hx.below hb).at hlt
        obtain ⟨ad', y, rfl, hab', Y, hc'⟩ := (hy.below hb).at hlt
        by_cases hxy : x = y
        · subst hxy
          go_wp2
          go_quiet (fail)
          go_wp2
          go_roundw
          case rel => exact ⟨k + 1, by go_num, by omega, Lib.hid (by rw [M.take_at X.out, M.take_at Y.out, H.out]), hb.trans (below_drewN (Below.refl _ _) _)⟩
          case measure => simp [intOf]; omega
        · have hne := Lib.hid (show ¬ xs = ys from fun e => hxy (by have h1 := X.out; have h2 := Y.out; rw [e, h2] at h1; injection h1 with h1; exact h1.symm))
          have hxy' : (x == y) = false := by simpa using hxy
          clear hxy
          go_wp2
          go_quiet (fail)
          go_wp2
          go_ret
          exact ⟨ret_bool (by simp [hne.out]), hb.trans (below_drewN (Below.refl _ _) _)⟩
      · go_wp2
        go_ret
        have h1 : xs = ys := by have := H.out; rwa [List.take_of_length_le (by rw [hl.out]; omega), List.take_of_length_le (by rw [hl'.out]; omega)] at this
        exact ⟨ret_bool (by simp [h1]), hb⟩
  · have hne := Lib.hid (show ¬ xs = ys from fun e => hnn (by rw [← hl.out, ← hl'.out, e]))
    go_enter Tryz.func11, Tryz.ntmps11
    go_wp2
    go_ret
    exact ⟨ret_bool (by simp [hne.out]), Below.refl _ _⟩
theorem spec_ScaleSignal (A : Option Addr) (n c : Nat) (xs : List Int) (g : Int) (w : World) (hx : RI w w.heap.size A n xs) (hn : n ≤ 1000000) (hs : M.sig xs = true) (hg : M.smp g = true) :
    Calls Tryz.prog 10 #[.slice A n c, .int .i64 g] w (Ret2 2 w (M.addS [] xs g, 0)) := by
  have H1 := Lib.hid hs
  have H2 := Lib.hid hg
  obtain ⟨W, hW⟩ : ∃ W, W = w.alloc (.cells #[] 2) := ⟨_, rfl⟩
  have B0 : Below w.heap.size w W := by rw [hW]; exact (Below.refl _ _).alloc (Nat.le_refl _) _
  have r0 : RI W W.heap.size (some ⟨w.heap.size, 0, none⟩) 0 [] := by
    have h1 : OI 2 w.heap.size W (.slice (some ⟨w.heap.size, 0, none⟩) 0 0) [] := by rw [hW]; exact OI.made _ _
    obtain ⟨A', c', e, hr⟩ := h1.shape
    simp only [Value.slice.injEq] at e
    obtain ⟨rfl, -, rfl⟩ := e
    exact hr
  have hx2 := hx.later B0
  have HW := Lib.hid hW
  clear hs hg hW
  go_enter Tryz.func10, Tryz.ntmps10
  go_wp2_with fail
  refine (spec_l03Ok _ _ _ _ _ hx (by omega)).mono ?_
  rw [H1.out]
  rintro e w' ⟨rfl, rfl⟩
  go_wp2_with fail
  refine (spec_l01Sample _ _).mono ?_
  rw [H2.out]
  rintro e w' ⟨rfl, rfl⟩
  go_wp2_with fail
  rw [← HW.out]
  refine (spec_l03Add _ _ _ _ _ _ _ _ _ W r0 hx2 (by omega) hn).mono ?_
  rintro e w1 ⟨v, rfl, o1, b1⟩
  go_wp2
  go_ret2
  exact ⟨_, rfl, o1.base B0.size, bel_trans B0 b1⟩
theorem Hs.szL_le {α : Type} (h : Hs α) {xs : List α} {B : Nat} (hB : ∀ x ∈ xs, h.sz x ≤ B) : h.szL xs ≤ xs.length * B := by
  induction xs with
  | nil => simp [Hs.szL]
  | cons x xs ih =>
    have h1 := hB x (by simp)
    have h2 := ih (fun y hy => hB y (by simp [hy]))
    rw [Hs.szL, List.length_cons, Nat.add_mul]
    omega
theorem Hs.slsz_le {α : Type} (h : Hs α) {xs : List α} {B C : Nat} (hB : ∀ x ∈ xs, h.sz x ≤ B) (hl : xs.length ≤ C) : h.sl.sz xs ≤ C + C * B := by
  have h1 := Hs.szL_le h hB
  have h2 : xs.length * B ≤ C * B := Nat.mul_le_mul_right B hl
  show xs.length + h.szL xs ≤ _
  omega
/-- A session of few parts. -/
structure M.fewZ (x : Sess) : Prop where
  sn : x.2.1.length ≤ 30 ∧ ∀ s ∈ x.2.1, s.length ≤ 30
  tn : x.2.2.1.length ≤ 30 ∧ ∀ t ∈ x.2.2.1, t.length ≤ 30
  fn : x.2.2.2.1.length ≤ 30
  en : x.2.2.2.2.1.length ≤ 30
  e1 : ∀ p ∈ x.2.2.2.2.1, p.2.1.length ≤ 30 ∧ ∀ t ∈ p.2.1, t.length ≤ 30
  e2 : ∀ p ∈ x.2.2.2.2.1, p.2.2.1.length ≤ 30 ∧ ∀ y ∈ p.2.2.1, y.2.2.2.length ≤ 30
  e3 : ∀ p ∈ x.2.2.2.2.1, p.2.2.2.length ≤ 30
  mn : x.2.2.2.2.2.length ≤ 8
  mt : M.tiny 10 x.2.2.2.2.2
theorem M.fewZ.sz {x : Sess} (h : M.fewZ x) : hZ.sz x ≤ 100000000 := by
  obtain ⟨a0, x1, x2, x3, x4, x5⟩ := x
  rw [hZ_sz]
  have iS : ∀ xs : List Int, xs.length ≤ 30 → hS.sz xs ≤ 30 := fun xs hl => by
    have := Hs.slsz_le hI (xs := xs) (B := 0) (fun _ _ => Nat.le_refl _) hl
    simpa using this
  have i1 : hSS.sz x1 ≤ 930 := Hs.slsz_le hS (B := 30) (fun s hs => iS s (h.sn.2 s hs)) h.sn.1
  have i2 : hTS.sz x2 ≤ 930 := Hs.slsz_le hT (B := 30) (fun t ht => by
    have := Hs.slsz_le hCl (xs := t) (B := 0) (fun _ _ => Nat.le_refl _) (h.tn.2 t ht)
    simpa using this) h.tn.1
  have i3 : hS.sz x3 ≤ 30 := iS x3 h.fn
  have i4 : hPS.sz x4 ≤ 30 + 30 * 1890 := Hs.slsz_le hP (B := 1890) (fun p hp => by
    have q1 : hSS.sz p.2.1 ≤ 930 := Hs.slsz_le hS (B := 30) (fun s hs => iS s ((h.e1 p hp).2 s hs)) (h.e1 p hp).1
    have q2 : hNS.sz p.2.2.1 ≤ 930 := Hs.slsz_le hN (B := 30) (fun y hy => by
      have := iS y.2.2.2 ((h.e2 p hp).2 y hy)
      show 0 + (0 + (0 + hS.sz y.2.2.2)) ≤ 30
      omega) (h.e2 p hp).1
    have q3 : hS.sz p.2.2.2 ≤ 30 := iS _ (h.e3 p hp)
    show 0 + (hSS.sz p.2.1 + (hNS.sz p.2.2.1 + hS.sz p.2.2.2)) ≤ 1890
    omega) h.en
  have i5 : hM.sz x5 ≤ 100000 := by
    have hf : M.fits (List.replicate x5.length (List.replicate 10 0)) x5 := ⟨by simp, fun i x L hx hL => by
      have h1 := h.mt x (List.mem_of_getElem? hx)
      have h2 : L = List.replicate 10 0 := by
        have := List.mem_of_getElem? hL
        exact (List.mem_replicate.1 this).2
      rw [h2, List.length_replicate]; omega⟩
    have := M.fits_sz hf
    have e : ((List.replicate x5.length (List.replicate 10 (0 : UInt8))).map List.length).sum = x5.length * 10 := by simp
    rw [e, List.length_replicate] at this
    have h8 : x5.length ≤ 8 := h.mn
    omega
  omega
theorem M.tiny.up {m k : Nat} {xs : List Strip} (h : M.tiny m xs) (hk : m ≤ k) : M.tiny k xs := fun x hx => ⟨(h x hx).1, Nat.le_trans (h x hx).2 hk⟩
/-- A drawn session has few parts. -/
theorem M.zD.few {lin : Bool} {x : Sess} (h : M.zD lin x) : M.fewZ x := by
  have key : ∀ p ∈ x.2.2.2.2.1, (p.2.1.length ≤ 2 ∧ ∀ t ∈ p.2.1, t.length ≤ 8) ∧ (p.2.2.1.length ≤ 10 ∧ ∀ y ∈ p.2.2.1, y.2.2.2.length ≤ 3) ∧ p.2.2.2.length ≤ 1 := fun p hp => by
    rcases h.ef p hp with rfl | q
    · exact ⟨⟨by simp, by simp⟩, ⟨by simp, by simp⟩, by simp⟩
    · exact ⟨q.t, ⟨q.n.2, q.f⟩, by rw [q.o]; exact Nat.le_refl _⟩
  have h1 := h.sn
  have h2 := h.tn
  have h3 := h.fn
  have h4 := h.en
  have h5 := h.mn
  refine ⟨⟨by omega, fun s hs => by have := (h.sl s hs).1; omega⟩, ⟨by omega, fun t ht => by have := (h.tk t ht).1; omega⟩, by omega, by omega, fun p hp => ⟨by have := (key p hp).1.1; omega, fun t ht => by have := (key p hp).1.2 t ht; omega⟩, fun p hp => ⟨by have := (key p hp).2.1.1; omega, fun y hy => by have := (key p hp).2.1.2 y hy; omega⟩, fun p hp => by have := (key p hp).2.2; omega, by omega, h.mt.up (by omega)⟩
/-- A drawn session is valid, with any effects that are. -/
theorem M.zD.ok {lin : Bool} {x : Sess} (h : M.zD lin x) {ps : List Patch} (hl : ps.length = x.2.2.2.2.2.length) (hp : ∀ p ∈ ps, M.effOk p = true) : M.sessOk (x.1, x.2.1, x.2.2.1, x.2.2.2.1, ps, x.2.2.2.2.2) = true := by
  have h1 := h.sn
  have h2 := h.tn
  have h0 := h.len
  rw [M.sessOk]
  simp only [Bool.and_eq_true, decide_eq_true_eq, List.all_eq_true]
  refine ⟨⟨⟨⟨⟨⟨⟨⟨M.inn_iff.2 (by omega), ?_⟩, by omega⟩, h.mx⟩, h.fn⟩, fun f hf => M.inn_iff.2 (by have := h.fd f hf; omega)⟩, hl⟩, fun t ht => ?_⟩, hp⟩
  · rw [M.srcOk, Bool.and_eq_true, decide_eq_true_eq, List.all_eq_true]
    refine ⟨by omega, fun s hs => ?_⟩
    have := h.sl s hs
    rw [M.sig, Bool.and_eq_true, decide_eq_true_eq, List.all_eq_true]
    exact ⟨by omega, this.2⟩
  · have := h.tk t ht
    exact ⟨M.trD_ok this.2 (by omega), M.trD_has this.2⟩
/-- A session that was drawn. -/
def SessL (P : Sess → Prop) (w : World) (e : Ending) (w' : World) : Prop :=
  ∃ i A1 n1 c1 A2 n2 c2 A3 n3 c3 A4 n4 c4 A5 n5 c5 x, e = .returned (.agg #[.int .i64 i, .slice A1 n1 c1, .slice A2 n2 c2, .slice A3 n3 c3, .slice A4 n4 c4, .slice A5 n5 c5]) ∧ tZ.O w' (Iv w.heap.size w'.heap.size) [.int .i64 i, .slice A1 n1 c1, .slice A2 n2 c2, .slice A3 n3 c3, .slice A4 n4 c4, .slice A5 n5 c5] x ∧ Hid (P x) ∧ Below w.heap.size w w'
theorem spec_DrawLinearSession (A : Option Addr) (n c : Nat) (code : List UInt8) (w : World) (hr : RS tU8 w w.heap.size (.slice A n c) code) :
    Calls Tryz.prog 6 #[.slice A n c] w (SessL (M.zD true) w) := by
  obtain ⟨W, hW, B0, z0, q0, q1, q2, q3, q4, q5, qf⟩ := newbox6 w (.int .i64 0) (.slice none 0 0) (.slice none 0 0) (.slice none 0 0) (.slice none 0 0) (.slice none 0 0) 32
  have HW := Lib.hid hW
  clear hW
  have hr0 := hr.later B0
  go_enter Tryz.func6, Tryz.ntmps6
  go_wp2_with fail
  rw [← HW.out]
  refine (spec_l00From A n c code W hr0).mono ?_
  rintro e w1 ⟨b, rfl, hb, s1, b1, z1⟩
  have hbl : w.heap.size + 1 ≤ b := by omega
  have lt1 : b + 1 ≤ w1.heap.size := by omega
  have hb' := Lib.hid hb
  clear z1 hb
  go_wp2_with fail
  refine (spec_l27Draw _ _ A n c code 0 true w1 s1 (by omega)).mono ?_
  rintro e w2 ⟨i, A1, n1, c1, A2, n2, c2, A3, n3, c3, A4, n4, c4, A5, n5, c5, x, rfl, o2, hP, s2, m2⟩
  have lt2 := m2.size
  have ck : ∀ j u, W.cell? ⟨w.heap.size, j, none⟩ = some u → w2.cell? ⟨w.heap.size, j, none⟩ = some u := fun j u hu => m2.cellK (by omega) (.inl (by omega)) (by rw [b1.cell (by show w.heap.size < _; omega)]; exact hu)
  have fk : ∀ j, w2.frozen? ⟨w.heap.size, j, none⟩ = false := fun j => m2.frozK (by omega) (.inl (by omega)) (by rw [b1.frozen (by show w.heap.size < _; omega)]; exact qf j)
  have r0 := ck 0 _ q0
  have r1 := ck 1 _ q1
  have r2 := ck 2 _ q2
  have r3 := ck 3 _ q3
  have r4 := ck 4 _ q4
  have r5 := ck 5 _ q5
  have v0 := fk 0
  have v1 := fk 1
  have v2 := fk 2
  have v3 := fk 3
  have v4 := fk 4
  have v5 := fk 5
  obtain ⟨U_, hU_, y0, y1, y2, y3, y4, y5, yf, ych, ysz⟩ := box6 r0 r1 r2 r3 r4 r5 fk (.int .i64 i) (.slice A1 n1 c1) (.slice A2 n2 c2) (.slice A3 n3 c3) (.slice A4 n4 c4) (.slice A5 n5 c5)
  have HU_ := Lib.hid hU_
  clear hU_ ck fk q0 q1 q2 q3 q4 q5 qf
  go_wp2
  rw [← HU_.out]
  have yf0 := yf 0
  have yf1 := yf 1
  have yf2 := yf 2
  have yf3 := yf 3
  have yf4 := yf 4
  have yf5 := yf 5
  refine bodyPost_ret (v := .agg #[.int .i64 i, .slice A1 n1 c1, .slice A2 n2 c2, .slice A3 n3 c3, .slice A4 n4 c4, .slice A5 n5 c5]) (by simp [results, Tryz.results6, go_sem, y0, y1, y2, y3, y4, y5, yf0, yf1, yf2, yf3, yf4, yf5]) rfl ?_
  have hb1 := hb'.out
  have o3 := tZ.ochg o2 ych (fun z h1 h2 => by have a1 : w1.heap.size ≤ z := h1.1; have a2 : z = w.heap.size := h2; omega)
  have B2 : Below w.heap.size w w2 := (B0.trans (b1.mono (by omega))).trans ((m2.toBelow (by omega)).mono (by omega))
  exact ⟨i, A1, n1, c1, A2, n2, c2, A3, n3, c3, A4, n4, c4, A5, n5, c5, x, rfl, tZ.oiv o3 (by omega) (by omega), hP, B2.trans (ych.toBelow (fun z (h : z = w.heap.size) => by omega) (by omega))⟩
end Go.Proofs.YtfkcoiefkjmdeaaGreat
namespace Go.Proofs.YtfkcoiefkjmdeaaGreat
open Go.RowKit Go.Sort
set_option maxHeartbeats 4000000
set_option linter.unusedVariables false
set_option linter.unusedSimpArgs false
/-- Entry times only grow, and a strip's own is fixed when its turn comes. -/
theorem M.send_ge (k : Nat) (l : Int) (acc : List Int) (p : Int × Int) (q : Nat) : M.i_ acc q ≤ M.i_ (M.entSend k l acc p) q := by
  rw [M.entSend]
  by_cases h : p.1.toNat = q
  · subst h
    by_cases hl : p.1.toNat < acc.length
    · rw [M.i_set_eq hl]
      exact Int.le_max_left _ _
    · rw [M.i_, M.i_, List.getElem?_eq_none (by omega), List.getElem?_eq_none (by rw [List.length_set]; omega)]
      exact Int.le_refl _
  · rw [M.i_set_ne h]
    exact Int.le_refl _
theorem M.fold_ge (k : Nat) (l : Int) (q : Nat) : ∀ (us : List (Int × Int)) (acc : List Int), M.i_ acc q ≤ M.i_ (us.foldl (M.entSend k l) acc) q := by
  intro us
  induction us with
  | nil => intro acc; exact Int.le_refl _
  | cons u us ih => intro acc; exact Int.le_trans (M.send_ge k l acc u q) (ih _)
theorem M.fold_fix (k : Nat) (l : Int) (q : Nat) : ∀ (us : List (Int × Int)) (acc : List Int), (∀ u ∈ us, u.1.toNat ≠ q) → M.i_ (us.foldl (M.entSend k l) acc) q = M.i_ acc q := by
  intro us
  induction us with
  | nil => intro acc _; rfl
  | cons u us ih =>
    intro acc h
    rw [List.foldl_cons, ih _ (fun v hv => h v (by simp [hv])), M.entSend, M.i_set_ne (h u (by simp))]
/-- What is sent arrives no earlier. -/
theorem M.fold_in (k : Nat) (l : Int) : ∀ (us : List (Int × Int)) (acc : List Int) (u : Int × Int), u ∈ us → u.1.toNat < acc.length → (∀ v ∈ us, v.1.toNat ≠ k) → M.i_ acc k + l ≤ M.i_ (us.foldl (M.entSend k l) acc) u.1.toNat := by
  intro us
  induction us with
  | nil => intro acc u h; cases h
  | cons v us ih =>
    intro acc u hu hlt hne
    rw [List.foldl_cons]
    have hk : M.i_ (M.entSend k l acc v) k = M.i_ acc k := by rw [M.entSend, M.i_set_ne (hne v (by simp))]
    rcases List.mem_cons.1 hu with rfl | hu
    · refine Int.le_trans ?_ (M.fold_ge k l _ us _)
      rw [M.entSend, M.i_set_eq hlt]
      exact Int.le_max_right _ _
    · have := ih (M.entSend k l acc v) u hu (by rw [M.entSend_len]; exact hlt) (fun x hx => hne x (by simp [hx]))
      rw [hk] at this
      exact this
section
variable {ms : List Strip}
theorem M.sends_gt (h : M.mixOk ms = true) {k : Nat} (hk : k < ms.length) : ∀ u ∈ (M.stri ms k).2.2, k < u.1.toNat ∧ u.1.toNat < ms.length := by
  intro u hu
  obtain ⟨j, hj⟩ := List.getElem?_of_mem hu
  obtain ⟨p0, p1⟩ := u
  have := (M.stri_ok h hk).2.2 j p0 p1 hj
  show k < p0.toNat ∧ p0.toNat < _
  omega
theorem M.entN_ge (q : Nat) {k k' : Nat} (h : k ≤ k') : M.i_ (M.entN ms k) q ≤ M.i_ (M.entN ms k') q := by
  induction k' with
  | zero =>
    obtain rfl : k = 0 := by omega
    exact Int.le_refl _
  | succ k' ih =>
    rcases Nat.lt_or_ge k' k with h1 | h1
    · obtain rfl : k = k' + 1 := by omega
      exact Int.le_refl _
    · exact Int.le_trans (ih h1) (M.fold_ge _ _ _ _ _)
theorem M.entN_fix (h : M.mixOk ms = true) {i k : Nat} (hi : i ≤ k) (hk : k ≤ ms.length) : M.i_ (M.entN ms k) i = M.i_ (M.entN ms i) i := by
  induction k with
  | zero =>
    obtain rfl : i = 0 := by omega
    rfl
  | succ k ih =>
    rcases Nat.lt_or_ge k i with h1 | h1
    · obtain rfl : i = k + 1 := by omega
      rfl
    · rw [← ih h1 (by omega), M.entN]
      refine M.fold_fix _ _ _ _ _ fun u hu => ?_
      have := M.sends_gt h (k := k) (by omega) u hu
      omega
theorem M.ent_send (h : M.mixOk ms = true) {i j : Nat} (hi : i < ms.length) {p0 p1 : Int} (hj : (M.stri ms i).2.2[j]? = some (p0, p1)) : M.ent ms i + (M.stri ms i).2.1 ≤ M.ent ms p0.toNat := by
  have h1 : M.i_ (M.entN ms i) i + (M.stri ms i).2.1 ≤ M.i_ (M.entN ms (i + 1)) p0.toNat := by
    refine M.fold_in i _ _ _ (p0, p1) (List.mem_of_getElem? hj) ?_ (fun v hv => ?_)
    · rw [M.entN_len]
      exact (M.sends_gt h hi _ (List.mem_of_getElem? hj)).2
    · have := M.sends_gt h hi v hv
      omega
  have h2 := M.entN_ge (ms := ms) p0.toNat (show i + 1 ≤ ms.length by omega)
  have h3 := M.entN_fix h (show i ≤ ms.length by omega) (Nat.le_refl _)
  rw [M.ent, M.ent, M.entries, h3]
  omega
/-- The delay of a send is none or positive. -/
theorem M.delay_at (h : M.mixOk ms = true) {i j : Nat} (hi : i < ms.length) {p0 p1 : Int} (hj : (M.stri ms i).2.2[j]? = some (p0, p1)) :
    (M.cel (M.delays ms) i)[j]? = some (M.ent ms p0.toNat - M.ent ms i - (M.stri ms i).2.1) ∧ 0 ≤ M.ent ms p0.toNat - M.ent ms i - (M.stri ms i).2.1 ∧ M.ent ms p0.toNat - M.ent ms i - (M.stri ms i).2.1 ≤ 1024 := by
  have h1 := M.ent_send h hi hj
  have h2 := M.ent_bd h p0.toNat
  have h3 := M.ent_bd h i
  have h4 := (M.stri_ok h hi).1
  refine ⟨?_, by omega, by omega⟩
  have e : M.cel (M.delays ms) i = M.delayRow ms i := by rw [M.cel, M.delays_at hi]; rfl
  have e2 : ((ms[i]?).getD M.sz) = M.stri ms i := rfl
  rw [e, M.delayRow, e2, List.getElem?_map, hj]
  rfl
theorem M.total_eq : M.total ms = M.ent ms (ms.length - 1) + (M.stri ms (ms.length - 1)).2.1 := rfl
end
end Go.Proofs.YtfkcoiefkjmdeaaGreat
