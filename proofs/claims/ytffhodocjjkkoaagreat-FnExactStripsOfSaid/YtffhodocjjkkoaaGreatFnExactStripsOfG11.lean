import Derived.Test.YtffhodocjjkkoaaGreatFnExactStripsOfG10
import Derived.Test.YtffhodocjjkkoaaGreatFnExactStripsOfG7
set_option linter.unusedVariables false
set_option linter.unusedSimpArgs false
namespace Go.Proofs.YtffhodocjjkkoaaGreat
open Go.RowKit Go.Sort
set_option maxHeartbeats 4000000
set_option maxRecDepth 100000
set_option linter.unusedVariables false
set_option linter.unusedSimpArgs false
/-- The two rows that a player writes. -/
def F2 (bv bc : Nat) : Nat → Prop := fun k => k = bv ∨ k = bc
/-- A player in memory: what it holds but for its two rows. -/
structure Pl (b bv bc L : Nat) (pi : Int) (A1 : Option Addr) (n1 c1 : Nat) (A2 : Option Addr) (n2 c2 : Nat) (A3 : Option Addr) (n3 c3 : Nat) (Ao : Option Addr) (no co cv cc : Nat) (ns : List Node) (tb : List (List Int)) (outs O : List Int) (w : World) : Prop where
  p0 : w.cell? ⟨b, 0, none⟩ = some (.int .i64 pi)
  p1 : w.cell? ⟨b, 1, none⟩ = some (.slice A1 n1 c1)
  p2 : w.cell? ⟨b, 2, none⟩ = some (.slice A2 n2 c2)
  p3 : w.cell? ⟨b, 3, none⟩ = some (.slice A3 n3 c3)
  p4 : w.cell? ⟨b, 4, none⟩ = some (.slice Ao no co)
  p5 : w.cell? ⟨b, 5, none⟩ = some (.slice (some ⟨bv, 0, none⟩) n2 cv)
  p6 : w.cell? ⟨b, 6, none⟩ = some (.slice (some ⟨bc, 0, none⟩) n2 cc)
  h1 : RS tS w L (.slice A1 n1 c1) tb
  h2 : RS tN w L (.slice A2 n2 c2) ns
  h3 : RI w L A3 n3 outs
  h4 : RI w L Ao no O
  lv : L ≤ bv
  lc : L ≤ bc
  ne : bv ≠ bc
  nbv : b ≠ bv
  nbc : b ≠ bc
  lL : L ≤ w.heap.size
section
variable {b bv bc L : Nat} {pi : Int} {A1 : Option Addr} {n1 c1 : Nat} {A2 : Option Addr} {n2 c2 : Nat} {A3 : Option Addr} {n3 c3 : Nat} {Ao : Option Addr} {no co cv cc : Nat} {ns : List Node} {tb : List (List Int)} {outs O : List Int} {w w' : World}
theorem Pl.chg (h : Pl b bv bc L pi A1 n1 c1 A2 n2 c2 A3 n3 c3 Ao no co cv cc ns tb outs O w) (hc : Chg (F2 bv bc) w w') : Pl b bv bc L pi A1 n1 c1 A2 n2 c2 A3 n3 c3 Ao no co cv cc ns tb outs O w' := by
  have lb : b < w.heap.size := World.block_lt_of_cell? w _ h.p0
  have hn : ¬ F2 bv bc b := fun e => e.elim h.nbv h.nbc
  have hB : Below L w w' := hc.toBelow (fun k hk => hk.elim (fun e => e ▸ h.lv) (fun e => e ▸ h.lc)) h.lL
  have key : ∀ j, w'.cell? ⟨b, j, none⟩ = w.cell? ⟨b, j, none⟩ := fun j => hc.cell lb hn
  exact ⟨(key 0).trans h.p0, (key 1).trans h.p1, (key 2).trans h.p2, (key 3).trans h.p3, (key 4).trans h.p4, (key 5).trans h.p5, (key 6).trans h.p6, h.h1.below hB, h.h2.below hB, h.h3.below hB, h.h4.below hB, h.lv, h.lc, h.ne, h.nbv, h.nbc, Nat.le_trans h.lL hc.size⟩
end
theorem ri_one {w : World} {b o : Nat} {x : Int} (h : w.cell? ⟨b, o, none⟩ = some (.int .i64 x)) : RI w w.heap.size (some ⟨b, o, none⟩) 1 [x] := by
  refine ⟨rfl, fun _ => ⟨_, rfl, World.block_lt_of_cell? w _ h, fun j u hu => ?_⟩⟩
  match j, hu with
  | 0, hu =>
    simp at hu
    subst hu
    simpa [Addr.add] using h
theorem ri_x {w : World} {B b o n : Nat} {xs : List Int} (h : RI w B (some ⟨b, o, none⟩) n xs) {k : Nat} {x : Int} (hx : xs[k]? = some x) : w.cell? ⟨b, o + k, none⟩ = some (.int .i64 x) := by
  have hk : k < n := by rw [← h.len]; exact (List.getElem?_eq_some_iff.1 hx).1
  obtain ⟨b', o', e, -, hc⟩ := ri_lit h (by omega)
  simp only [Option.some.injEq, Addr.mk.injEq] at e
  obtain ⟨rfl, rfl, -⟩ := e
  exact hc k x hx
theorem OI.ri' {e : TypeId} {B : Nat} {w : World} {A : Option Addr} {n c : Nat} {xs : List Int} (h : OI e B w (.slice A n c) xs) : RI w w.heap.size A n xs := (RN.of_oi (F := fun _ => False) h (fun _ h => h.elim)).1
theorem M.cel_some {cs : List (List Int)} {i : Nat} {s : List Int} (h : cs[i]? = some s) : M.cel cs i = s := by rw [M.cel, h]; rfl
theorem grow_chg {F : Nat → Prop} {w U : World} (h : Below w.heap.size w U) : Chg F w U := Chg.of_below h F
theorem impl_player_frame (b bv bc L : Nat) (pi : Int) (A1 : Option Addr) (n1 c1 : Nat) (A2 : Option Addr) (n2 c2 : Nat) (A3 : Option Addr) (n3 c3 : Nat) (Ao : Option Addr) (no co cv cc : Nat) (ns : List Node) (tb : List (List Int)) (outs O vs : List Int) (cs : List (List Int)) (bf of cf : Nat) (x : Int) (G : Nat → Prop) (w : World) (hG : ∀ k, F2 bv bc k → G k) (hGs : ∀ k, G k → k < w.heap.size)
    (hP : Pl b bv bc L pi A1 n1 c1 A2 n2 c2 A3 n3 c3 Ao no co cv cc ns tb outs O w) (hF : M.PF ns tb O) (hx : M.smp x = true) (h0 : 0 < n2) (hnz : hNS.sz ns ≤ 100000000)
    (hv : OI 2 L w (.slice (some ⟨bv, 0, none⟩) n2 cv) vs) (hvs : vs.all M.smp = true) (hc : CR G 24 L w (.slice (some ⟨bc, 0, none⟩) n2 cc) cs) (hco : M.CO ns cs)
    (cf0 : w.cell? ⟨bf, of, none⟩ = some (.int .i64 x)) (hbf : bf ≠ bv ∧ bf ≠ bc) :
    Calls Tryz.prog 176 #[.pointer (some ⟨b, 0, none⟩), .slice (some ⟨bf, of, none⟩) 1 cf] w fun e w' => e = .returned (.tuple #[]) ∧ Chg (F2 bv bc) w w' ∧ OI 2 L w' (.slice (some ⟨bv, 0, none⟩) n2 cv) (M.vals ns tb [x] O cs) ∧ CR G 24 L w' (.slice (some ⟨bc, 0, none⟩) n2 cc) (M.next_ ns tb [x] O cs) := by
  have hl2 : ns.length = n2 := hP.h2.cap.1
  have hl1 : tb.length = n1 := hP.h1.cap.1
  have hlo : O.length = no := hP.h4.len
  have hno : no = n2 := by rw [← hlo, hF.top.len, hl2]
  have hlv : vs.length = n2 := hv.n_eq.symm
  have hlc : cs.length = n2 := hc.lenV.symm
  have hxs : [x].all M.smp = true := by simpa using hx
  have hnb : n2 ≤ 24 := by rw [← hl2]; exact hF.len
  have lbf : bf < w.heap.size := World.block_lt_of_cell? w _ cf0
  have lbv : bv < w.heap.size := (World.ownsRow.lt hv _ rfl).2
  have lbc : bc < w.heap.size := by obtain ⟨us, h1, _⟩ := hc; exact (World.ownsRow.lt h1 _ rfl).2
  have lb : b < w.heap.size := World.block_lt_of_cell? w _ hP.p0
  have hne := hP.ne
  have nbv := hP.nbv
  have nbc := hP.nbc
  have lv := hP.lv
  have lc := hP.lc
  have nf : ¬ F2 bv bc bf := fun e => e.elim hbf.1 hbf.2
  obtain ⟨E1, E2⟩ := M.frame_eq (tb := tb) (fr := [x]) hF.top vs cs (by rw [hlv, hl2]) (by rw [hlc, hl2])
  rw [hlo] at E1 E2
  obtain ⟨bo, oo, rfl, hbo, -⟩ := ri_lit hP.h4 (by omega)
  have p1_ := hP.p1
  have p2_ := hP.p2
  have p4_ := hP.p4
  have HL2 := Lib.hid hl2
  have HL1 := Lib.hid hl1
  have HLO := Lib.hid hlo
  have HNO := Lib.hid hno
  have HLV := Lib.hid hlv
  have HE1 := Lib.hid E1
  have HE2 := Lib.hid E2
  have HX := Lib.hid hxs
  have HVS := Lib.hid hvs
  have hno' : no ≤ n2 := by omega
  have hno2 : n2 ≤ no := by omega
  clear hl2 hl1 hlo hno hlv hlc E1 E2 hxs hvs hx
  go_enter Tryz.func176, Tryz.ntmps176
  go_wp2_with fail
  go_loopw [14] (fun i wr => ∃ t : Nat, i = .int .i64 t ∧ t ≤ no ∧ Chg (F2 bv bc) w wr ∧ OI 2 L wr (.slice (some ⟨bv, 0, none⟩) n2 cv) (M.runN ns tb [x] O vs cs t).1 ∧ CR G 24 L wr (.slice (some ⟨bc, 0, none⟩) n2 cc) (M.runN ns tb [x] O vs cs t).2) (fun i _ => no - (intOf i).toNat)
  case atStart => exact ⟨0, rfl, by omega, Chg.refl _ _, hv, hc⟩
  case round =>
    obtain ⟨t, rfl, ht, hch, ov, oc⟩ := hrel
    by_cases hlt : t < no
    · obtain ⟨xn, hxn, eN, eO, hi⟩ := hF.ord (t := t) (by rw [HLO.out]; exact hlt)
      obtain ⟨r1, r2⟩ := M.runN_ok hF HX.out hco HVS.out t (by rw [HLO.out]; omega)
      have HR := Lib.hid (show M.runN ns tb [x] O vs cs (t + 1) = _ from by rw [M.runN])
      generalize hri : M.ordI O t = i at *
      generalize hrv : (M.runN ns tb [x] O vs cs t).1 = V at *
      generalize hrc : (M.runN ns tb [x] O vs cs t).2 = C at *
      rw [HL2.out] at hi
      have hok := hF.ok _ _ hxn
      have hfr := hF.fr _ _ hxn
      have hinp := hF.inp _ _ hxn
      have hcx := r2.at_ _ _ hxn
      clear hri hrv hrc
      obtain ⟨bb, o, a0, a1, a2, A6, c6, x3, rfl, hbb, X, e0, e1, e2, e3, hr3, h3b⟩ := node_cell (hP.chg hch).h2 hnz hi
      obtain rfl : xn = (a0, a1, a2, x3) := Option.some.inj (hxn.symm.trans X.out)
      have hot : O[t]? = some (i : Int) := by
        have h2 : t < O.length := by rw [HLO.out]; exact hlt
        rw [M.i_, List.getElem?_eq_getElem h2] at eO
        rw [List.getElem?_eq_getElem h2]
        exact congrArg some eO
      have co1 : wr.cell? ⟨bo, oo + t, none⟩ = some (.int .i64 (i : Int)) := ri_x (hP.chg hch).h4 hot
      obtain ⟨U, hU, GU, sU, q0, q1, q2, q3, qf⟩ := newbox4 wr (.int .i64 a0) (.int .i64 a1) (.int .i64 a2) (.slice A6 x3.length c6) 171
      have HU := Lib.hid hU
      have hchU : Chg (F2 bv bc) w U := hch.trans (grow_chg GU)
      have hPU := hP.chg hchU
      have ovU := ov.below GU
      have ocU := oc.below GU
      obtain ⟨A', c', s, hs1, hs2, hs3, hs4, hs5⟩ := ocU.at (k := i) hi
      obtain ⟨y, hy1, hy2, hy3, -, -⟩ := ovU.at' (k := i) hi
      have hcs : M.cel C i = s := M.cel_some hs1
      rw [hcs] at hcx
      have cfU : U.cell? ⟨bf, of, none⟩ = some (.int .i64 x) := by rw [hchU.cell lbf nf]; exact cf0
      have hszr := hch.size
      have hszU := GU.size
      have p1 := hPU.p1
      have p2 := hPU.p2
      have p5 := hPU.p5
      have p6 := hPU.p6
      have p2r := (hP.chg hch).p2
      have i0 : (0 : Int) ≤ (i : Int) := by omega
      have i1 : (i : Int) < (n2 : Int) := by omega
      have t0 : (0 : Int) ≤ (t : Int) := by omega
      have t1 : (t : Int) < (no : Int) := by omega
      have HCX := Lib.hid hcx
      have HCS := Lib.hid hcs
      have HXN := Lib.hid hxn
      have HEN := Lib.hid eN
      have HOK := Lib.hid hok
      have HFR := Lib.hid hfr
      have lblk : wr.heap.size < U.heap.size := by omega
      have D1 : Below U.heap.size U U.drew := below_drewN (Below.refl _ _) 1
      have hd0 : U.drew.heap.size = U.heap.size := rfl
      clear hU sU hcx hcs hxn eN hok hfr eO hs1
      by_cases h6 : a0 = 6
      · subst h6
        have h6' := (M.nodeOk_start HOK.out).2.1 rfl
        simp only at h6'
        have hsl : 1 ≤ s.length := by rw [HCX.out.1]; simp [M.stLen]; omega
        obtain ⟨bs, os, s0, rfl, hbs, hnF, hs0, cs0⟩ := hs3.at (k := 0) (by omega)
        rw [Nat.add_zero] at cs0
        have HT := Lib.hid (show M.runN ns tb [x] O vs cs (t + 1) = (V.set i s0, C) by rw [HR.out, HEN.out, if_pos rfl, HCS.out, i_get hs0])
        have nsv : bs ≠ bv := fun e => hnF (hG _ (Or.inl e))
        have nsc : bs ≠ bc := fun e => hnF (hG _ (Or.inr e))
        have pp5 := cell_regrown p5
        have pp6 := cell_regrown p6
        have ppc := cell_regrown hs4
        have pps := cell_regrown cs0
        have zv : U.drew.cell? ⟨bv, i, none⟩ = some (.int .i64 y) := hy2
        have zf : U.drew.frozen? ⟨bv, i, none⟩ = false := hy3
        have hs0' := Lib.hid hs0
        have hl1s : (0 : Int) < (s.length : Int) := by omega
        clear HR HCS hs0 h6' hinp
        go_wp2_with fail
        rw [← HU.out]
        go_wp2_with fail
        (refine wp_region_fresh2 [0, 1, 2, 4, 5, 6, 7, 9] [3, 8, 10, 11, 12, 13] 1 (.first 14 .rest) [15] [15] (by kernel_rfl) (by kernel_rfl) ?_; simp only [pickOps]; simp only [List.filterMap, List.getElem?_cons_succ, List.getElem?_cons_zero]; (repeat (go_big_quiet_step (fail))); refine wpQuiet_nil ?_; (repeat (go_big_quiet_step (fail))); refine wpQuiet_nil ?_)
        (refine seqT_first2 rfl ?_; (repeat (go_big_quiet_step (fail))); refine wpQuiet_nil ?_)
        refine seqT_rest2 ?_
        go_wp2_with fail
        have O2 := (ovU.stored' i s0).below (below_drewN (Below.refl _ _) 1)
        have C2 := (ocU.chg (Chg.set (F := fun k => k = bv) U bv i (.int .i64 s0) rfl) (fun k hk => hG _ (Or.inl hk)) (fun k hk hk2 => by simp only [Value.ownBlock, Option.some.injEq] at hk; omega)).below (below_drewN (Below.refl _ _) 1)
        refine ⟨⟨t + 1, by go_num, by omega, (hchU.trans (Chg.set U bv i (.int .i64 s0) (Or.inl rfl))).trans (grow_chg (below_drewN (Below.refl _ _) 1)), ?_, ?_⟩, by simp [intOf]; omega⟩
        · rw [HT.out]
          exact O2
        · rw [HT.out]
          exact C2
      · have hne6 : (a0 == 6) = false := by simpa using h6
        have HIL := Lib.hid (M.insN_len (x := (a0, a1, a2, x3)) HOK.out [x] V)
        have HIA := Lib.hid (M.insN_smp (x := (a0, a1, a2, x3)) HX.out r1)
        have HT := Lib.hid (show M.runN ns tb [x] O vs cs (t + 1) = (V.set i (M.nOut (a0, a1, a2, x3) tb (M.insN (a0, a1, a2, x3) [x] V) s), C.set i (M.nNext (a0, a1, a2, x3) (M.insN (a0, a1, a2, x3) [x] V) s (M.nOut (a0, a1, a2, x3) tb (M.insN (a0, a1, a2, x3) [x] V) s))) by rw [HR.out, HEN.out, if_neg h6, HCS.out])
        have pp1 := cell_regrown p1
        have pp5 := cell_regrown p5
        have pp6 := cell_regrown p6
        have ppc := cell_regrown hs4
        have pq0 := cell_regrown q0
        have pq1 := cell_regrown q1
        have pq2 := cell_regrown q2
        have pq3 := cell_regrown q3
        have hfrU : RI U.drew U.drew.heap.size (some ⟨bf, of, none⟩) 1 [x] := ri_one (by show U.cell? _ = _; exact cfU)
        have hvU := (ovU.below D1).ri'
        generalize hI : M.insN (a0, a1, a2, x3) [x] V = I at *
        clear HR HCS
        go_wp2_with fail
        rw [← HU.out]
        go_wp2_with fail
        (refine wp_region_fresh2 [0, 1, 2, 4, 5, 6, 7, 9, 11, 12, 13, 14, 16, 18, 20, 21, 22, 24] [3, 8, 10, 15, 17, 23, 25, 26] 6 (.one 19 (.one 27 (.first 28 (.first 29 (.first 30 (.first 31 .rest)))))) [32, 34] [32, 33, 34] (by kernel_rfl) (by kernel_rfl) ?_; simp only [pickOps]; simp only [List.filterMap, List.getElem?_cons_succ, List.getElem?_cons_zero]; (repeat (go_big_quiet_step (fail))); refine wpQuiet_nil ?_; (repeat (go_big_quiet_step (fail))); refine wpQuiet_nil ?_)
        refine seqT_one2 rfl ?_
        go_wp2_with fail
        refine (impl_player_inputs b _ _ cv V a0 a1 a2 _ _ c6 x3 _ _ cf [x] _ (show U.drew.cell? _ = _ from p5) hvU ((hr3.more (by omega)).later (bel_trans GU D1)) hfrU (by omega) (by omega) (by omega) (fun e => by have : a1 = 0 := hinp e; omega) (Lib.hid (fun f hf => by have := HFR.out f hf; rw [HL2.out] at this; exact this))).mono ?_
        rintro e w2 ⟨v4, rfl, own1, bel1⟩
        rw [hI] at own1
        obtain ⟨A4, c4, rfl, hri4⟩ := own1.shape
        have B2 := bel_trans D1 bel1
        have s2 := bel1.size
        go_wp2_with fail
        refine ⟨regrown_of_below B2, ?_⟩
        refine seqT_one2 rfl ?_
        go_wp2_with fail
        refine (impl_step a0 a1 a2 _ _ c6 x3 _ _ c1 tb _ _ c4 I _ _ c' s _ ((hPU.h1.below (B2.mono (by omega))).more (by omega)) hF.tabs hri4 (hs3.below B2).1 (by omega) (by rw [← HL1.out]; exact HOK.out) HIL.out HIA.out HCX.out.1 HCX.out.2).mono ?_
        rintro e w3 ⟨v5, rfl, own2, bel2⟩
        obtain ⟨A5, c5, rfl, hle5, -, -⟩ := own_shape own2
        have B3 := bel_trans B2 bel2
        have s3 := bel2.size
        go_wp2_with fail
        refine ⟨regrown_of_below B3, ?_⟩
        (refine seqT_first2 rfl ?_; (repeat (go_big_quiet_step (fail))); refine wpQuiet_nil ?_)
        (refine seqT_first2 rfl ?_; (repeat (go_big_quiet_step (fail))); refine wpQuiet_nil ?_)
        (refine seqT_first2 rfl ?_; (repeat (go_big_quiet_step (fail))); refine wpQuiet_nil ?_)
        (refine seqT_first2 rfl ?_; (repeat (go_big_quiet_step (fail))); refine wpQuiet_nil ?_)
        refine seqT_rest2 ?_
        have zv : w3.cell? ⟨bv, i, none⟩ = some (.int .i64 y) := by rw [B3.cell (by show bv < _; omega)]; exact hy2
        have zf : w3.frozen? ⟨bv, i, none⟩ = false := by rw [B3.frozen (by show bv < _; omega)]; exact hy3
        have zc : w3.cell? ⟨bc, i, none⟩ = some (.slice A' s.length c') := by rw [B3.cell (by show bc < _; omega)]; exact hs4
        have zcf : w3.frozen? ⟨bc, i, none⟩ = false := by rw [B3.frozen (by show bc < _; omega)]; exact hs5
        generalize hOut : M.nOut (a0, a1, a2, x3) tb I s = out at *
        generalize hNx : M.nNext (a0, a1, a2, x3) I s out = nx at *
        go_wp2_with fail
        have hRN : RN G w3 A5 nx.length nx := RN.of_oi own2 (fun k hk => by have := hGs k hk; omega)
        have O2 := ((ovU.below B3).stored' i out).kept (grown_setCell _ bc i (.slice A5 nx.length c5)) (.inr (by simp only [Value.ownBlock, ne_eq, Option.some.injEq]; exact hne))
        have C2 := ((ocU.below B3).chg (Chg.set (F := fun k => k = bv) w3 bv i (.int .i64 out) rfl) (fun k hk => hG _ (Or.inl hk)) (fun k hk hk2 => by simp only [Value.ownBlock, Option.some.injEq] at hk; omega)).set (hG _ (Or.inr rfl)) i hle5 (hRN.chg (Chg.set _ bv i _ (hG _ (Or.inl rfl))))
        refine ⟨⟨t + 1, by go_num, by omega, ((hchU.trans (grow_chg B3)).trans (Chg.set w3 bv i _ (Or.inl rfl))).trans (Chg.set _ bc i _ (Or.inr rfl)), ?_, ?_⟩, by simp [intOf]; omega⟩
        · rw [HT.out]
          exact O2
        · rw [HT.out]
          exact C2
    · have htn : t = no := by omega
      obtain ⟨r1, r2⟩ := M.runN_ok hF HX.out hco HVS.out no (by rw [HLO.out]; omega)
      rw [htn] at ov oc
      rw [HE1.out] at ov r1
      clear htn
      generalize hV : M.vals ns tb [x] O cs = V at *
      generalize hC : (M.runN ns tb [x] O vs cs no).2 = C at *
      have hPr := hP.chg hch
      have hszr := hch.size
      have p2 := hPr.p2
      have HV := Lib.hid hV
      clear hV hC hv hc p1_ p2_ p4_ HE1
      go_wp2_with fail
      obtain ⟨wo, rfl⟩ : ∃ wo : World, wo = wr := ⟨_, rfl⟩
      go_loopw [84] (fun i wr => ∃ t : Nat, i = .int .i64 t ∧ t ≤ n2 ∧ Chg (F2 bv bc) w wr ∧ OI 2 L wr (.slice (some ⟨bv, 0, none⟩) n2 cv) V ∧ CR G 24 L wr (.slice (some ⟨bc, 0, none⟩) n2 cc) (M.delN ns [x] V C t)) (fun i _ => n2 - (intOf i).toNat)
      case atStart => exact ⟨0, rfl, by omega, hch, ov, oc⟩
      case round =>
        clear hch ov oc hPr hszr p2
        obtain ⟨t, rfl, ht, hch, ov, oc⟩ := hrel
        by_cases hlt : t < n2
        · have r3 := M.delN_ok hF HX.out r2 r1 t (by rw [HL2.out]; omega)
          have HR := Lib.hid (show M.delN ns [x] V C (t + 1) = _ from by rw [M.delN])
          have hxn := M.node_lt (ns := ns) (i := t) (by rw [HL2.out]; exact hlt)
          generalize hrd : M.delN ns [x] V C t = C1 at *
          obtain ⟨xn, hN⟩ : ∃ xn, M.node ns t = xn := ⟨_, rfl⟩
          rw [hN] at hxn
          have hok := hF.ok _ _ hxn
          have hfr := hF.fr _ _ hxn
          have hcx := r3.at_ _ _ hxn
          clear hrd
          obtain ⟨bb, o, a0, a1, a2, A6, c6, x3, rfl, hbb, X, e0, e1, e2, e3, hr3, h3b⟩ := node_cell (hP.chg hch).h2 hnz hlt
          obtain rfl : xn = (a0, a1, a2, x3) := Option.some.inj (hxn.symm.trans X.out)
          obtain ⟨U, hU, GU, sU, q0, q1, q2, q3, qf⟩ := newbox4 wr (.int .i64 a0) (.int .i64 a1) (.int .i64 a2) (.slice A6 x3.length c6) 171
          have HU := Lib.hid hU
          have hchU : Chg (F2 bv bc) w U := hch.trans (grow_chg GU)
          have hPU := hP.chg hchU
          have ovU := ov.below GU
          have ocU := oc.below GU
          obtain ⟨A', c', s, hs1, hs2, hs3, hs4, hs5⟩ := ocU.at (k := t) hlt
          have hcs : M.cel C1 t = s := M.cel_some hs1
          rw [hcs] at hcx
          have cfU : U.cell? ⟨bf, of, none⟩ = some (.int .i64 x) := by rw [hchU.cell lbf nf]; exact cf0
          have hszr := hch.size
          have hszU := GU.size
          have p5 := hPU.p5
          have p6 := hPU.p6
          have i0 : (0 : Int) ≤ (t : Int) := by omega
          have i1 : (t : Int) < (n2 : Int) := by omega
          have HCX := Lib.hid hcx
          have HCS := Lib.hid hcs
          have HNN := Lib.hid hN
          have HOK := Lib.hid hok
          have HFR := Lib.hid hfr
          have lblk : wr.heap.size < U.heap.size := by omega
          have D1 : Below U.heap.size U U.drew := below_drewN (Below.refl _ _) 1
          have hd0 : U.drew.heap.size = U.heap.size := rfl
          clear hU sU hcx hcs hxn hN hok hfr hs1
          by_cases h6 : a0 = 6
          · subst h6
            have h6' := (M.nodeOk_start HOK.out).2.1 rfl
            simp only at h6'
            have hsl : 1 ≤ s.length := by rw [HCX.out.1]; simp [M.stLen]; omega
            have HIL := Lib.hid (M.insN_len (x := (6, a1, a2, x3)) HOK.out [x] V)
            have HIA := Lib.hid (M.insN_smp (x := (6, a1, a2, x3)) HX.out r1)
            have HT := Lib.hid (show M.delN ns [x] V C (t + 1) = C1.set t (M.nNext (6, a1, a2, x3) (M.insN (6, a1, a2, x3) [x] V) s 0) by rw [HR.out, HNN.out, if_pos rfl, HCS.out])
            have pp5 := cell_regrown p5
            have pp6 := cell_regrown p6
            have ppc := cell_regrown hs4
            have pq0 := cell_regrown q0
            have pq1 := cell_regrown q1
            have pq2 := cell_regrown q2
            have pq3 := cell_regrown q3
            have hfrU : RI U.drew U.drew.heap.size (some ⟨bf, of, none⟩) 1 [x] := ri_one (by show U.cell? _ = _; exact cfU)
            have hvU := (ovU.below D1).ri'
            generalize hI : M.insN (6, a1, a2, x3) [x] V = I at *
            clear HR HCS h6'
            obtain ⟨s0, ss, rfl⟩ := cons_of hsl
            go_wp2_with fail
            rw [← HU.out]
            go_wp2_with fail
            (refine wp_region_fresh2 [0, 1, 2, 4, 6, 8, 10, 11, 12, 14] [3, 5, 7, 13, 15, 16] 6 (.one 9 (.one 17 (.first 18 (.first 19 (.first 20 (.first 21 .rest)))))) [22] [22] (by kernel_rfl) (by kernel_rfl) ?_; simp only [pickOps]; simp only [List.filterMap, List.getElem?_cons_succ, List.getElem?_cons_zero]; (repeat (go_big_quiet_step (fail))); refine wpQuiet_nil ?_; (repeat (go_big_quiet_step (fail))); refine wpQuiet_nil ?_)
            refine seqT_one2 rfl ?_
            go_wp2_with fail
            refine (impl_player_inputs b _ _ cv V 6 a1 a2 _ _ c6 x3 _ _ cf [x] _ (show U.drew.cell? _ = _ from p5) hvU ((hr3.more (by omega)).later (bel_trans GU D1)) hfrU (by omega) (by omega) (by omega) (fun e => absurd e (by decide)) (Lib.hid (fun f hf => by have := HFR.out f hf; rw [HL2.out] at this; exact this))).mono ?_
            rintro e w2 ⟨v4, rfl, own1, bel1⟩
            rw [hI] at own1
            have hil : I.length = 1 := HIL.out
            obtain ⟨x0, rfl⟩ := len1 hil
            obtain ⟨g4, cap4, hA4, -, -⟩ := own1.form (by simp)
            subst hA4
            obtain ⟨y4, hy4, cy4, -, -, -⟩ := own1.at' (k := 0) (by simp)
            obtain rfl : y4 = x0 := by have := hy4.out; simpa using this.symm
            have B2 := bel_trans D1 bel1
            have s2 := bel1.size
            clear hil hy4
            go_wp2_with fail
            refine ⟨regrown_of_below B2, ?_⟩
            refine seqT_one2 rfl ?_
            obtain ⟨bs, os, rfl, hbs, hcs0⟩ := ri_lit hs3.1 (by simp)
            go_wp2_with fail
            refine (impl_step6 a1 a2 _ _ c6 _ _ _ cap4 _ _ _ c' y4 s0 ss _ cy4 (hs3.below B2).1 (by have := HCX.out.1; have h6' := (M.nodeOk_start HOK.out).2.1 rfl; simp [M.stLen] at this h6'; simp; omega) hs2).mono ?_
            rintro e w3 ⟨v5, rfl, own2, bel2⟩
            obtain ⟨A5, c5, rfl, hle5, -, -⟩ := own_shape own2
            have B3 := bel_trans B2 bel2
            have s3 := bel2.size
            go_wp2_with fail
            refine ⟨regrown_of_below B3, ?_⟩
            (refine seqT_first2 rfl ?_; (repeat (go_big_quiet_step (fail))); refine wpQuiet_nil ?_)
            (refine seqT_first2 rfl ?_; (repeat (go_big_quiet_step (fail))); refine wpQuiet_nil ?_)
            (refine seqT_first2 rfl ?_; (repeat (go_big_quiet_step (fail))); refine wpQuiet_nil ?_)
            (refine seqT_first2 rfl ?_; (repeat (go_big_quiet_step (fail))); refine wpQuiet_nil ?_)
            refine seqT_rest2 ?_
            have zc : w3.cell? ⟨bc, t, none⟩ = some (.slice (some ⟨bs, os, none⟩) (s0 :: ss).length c') := by rw [B3.cell (by show bc < _; omega)]; exact hs4
            have zcf : w3.frozen? ⟨bc, t, none⟩ = false := by rw [B3.frozen (by show bc < _; omega)]; exact hs5
            have HNX := Lib.hid (show M.nNext (6, a1, a2, x3) [y4] (s0 :: ss) 0 = ss ++ [y4] by simp [M.nNext, M.i_])
            have hln : (ss ++ [y4]).length = ss.length + 1 := by simp
            have hRN : RN G w3 A5 (ss ++ [y4]).length (ss ++ [y4]) := RN.of_oi own2 (fun k hk => by have := hGs k hk; omega)
            have C2 := (ocU.below B3).set (hG _ (Or.inr rfl)) t hle5 hRN
            rw [hln] at C2
            have HLN := Lib.hid hln
            have O2 := (ovU.below B3).kept (grown_setCell _ bc t (.slice A5 (ss.length + 1) c5)) (.inr (by simp only [Value.ownBlock, ne_eq, Option.some.injEq]; exact hne))
            clear hln
            go_wp2_with fail
            refine ⟨⟨t + 1, by go_num, by omega, (hchU.trans (grow_chg B3)).trans (Chg.set w3 bc t _ (Or.inr rfl)), O2, ?_⟩, by simp [intOf]; omega⟩
            rw [HT.out, HNX.out]
            exact C2
          · have hne6 : (a0 == 6) = false := by simpa using h6
            have HT := Lib.hid (show M.delN ns [x] V C (t + 1) = C1 by rw [HR.out, HNN.out, if_neg h6])
            clear HR
            go_wp2_with fail
            rw [← HU.out]
            go_wp2_with fail
            exact ⟨⟨t + 1, by go_num, by omega, hchU, ovU, by rw [HT.out]; exact ocU⟩, by simp [intOf]; omega⟩
        · have htn : t = n2 := by omega
          subst htn
          have HE := HE2.out
          rw [HL2.out] at HE
          rw [HE] at oc
          go_wp2_with fail
          go_end0
          exact ⟨rfl, hch, by rw [HV.out]; exact ov, oc⟩
end Go.Proofs.YtffhodocjjkkoaaGreat
namespace Go.Proofs.YtffhodocjjkkoaaGreat
open Go.RowKit Go.Sort
set_option maxHeartbeats 4000000
set_option maxRecDepth 100000
set_option linter.unusedVariables false
set_option linter.unusedSimpArgs false
theorem M.start_len {x : Node} {t : Int} (h : M.nodeOk x t = true) : (M.start x).length ≤ 16 := by
  rw [(M.start_ok h).1]
  obtain ⟨k, a, b, l⟩ := x
  obtain ⟨hk, h6, h17⟩ := M.nodeOk_start h
  simp only at hk h6 h17
  rw [M.stLen]
  dsimp only
  by_cases e6 : k = 6
  · have := h6 e6
    rw [if_pos e6]; omega
  rw [if_neg e6]
  by_cases e17 : k = 17
  · have := h17 e17
    rw [if_pos e17]; omega
  rw [if_neg e17]
  repeat' split
  all_goals omega
theorem M.start_take {ns : List Node} {k : Nat} {x : Node} (h : ns[k]? = some x) : (ns.map M.start).take (k + 1) = (ns.map M.start).take k ++ [M.start x] := by
  rw [M.take_at]
  simp [h]
theorem impl_startState (a0 : Int) (A1 : Option Addr) (n1 c1 : Nat) (A2 : Option Addr) (n2 c2 : Nat) (A3 : Option Addr) (n3 c3 : Nat) (ns : List Node) (tb : Int) (w : World) (h2 : RS tN w w.heap.size (.slice A2 n2 c2) ns) (hnz : hNS.sz ns ≤ 100000000) (hok : Hid (∀ x ∈ ns, M.nodeOk x tb = true)) :
    Calls Tryz.prog 140 #[.agg #[.int .i64 a0, .slice A1 n1 c1, .slice A2 n2 c2, .slice A3 n3 c3]] w fun e w' => ∃ v, e = .returned (.agg #[v]) ∧ OS tS 24 w' (Iv w.heap.size w'.heap.size) v (ns.map M.start) ∧ Below w.heap.size w w' := by
  obtain ⟨W0, hW0, B0_, s0, p0, p1, p2, p3, pf⟩ := newbox4 w (.int .i64 a0) (.slice A1 n1 c1) (.slice A2 n2 c2) (.slice A3 n3 c3) 107
  obtain ⟨W1, hW1, B1_, s1, r0, rf⟩ := newbox1 W0 (.slice none 0 0) 177
  obtain ⟨W, hW, B2_, s2, d0, df⟩ := newbox1 W1 (.slice none 0 0) 177
  have BW := bel_trans (bel_trans B0_ B1_) B2_
  have q2 : W.cell? ⟨w.heap.size, 2, none⟩ = some (.slice A2 n2 c2) := by rw [(bel_trans B1_ B2_).cell (by show w.heap.size < _; omega)]; exact p2
  have R0 : W.cell? ⟨w.heap.size + 1, 0, none⟩ = some (.slice none 0 0) := by rw [s0] at r0; rw [B2_.cell (by show w.heap.size + 1 < _; omega)]; exact r0
  have RF : W.frozen? ⟨w.heap.size + 1, 0, none⟩ = false := by have := rf 0; rw [s0] at this; rw [B2_.frozen (by show w.heap.size + 1 < _; omega)]; exact this
  have e1 : W1.heap.size = w.heap.size + 1 + 1 := by omega
  rw [e1] at d0 df
  have df0 := df 0
  rw [hW0] at hW1
  rw [hW1] at hW
  have HW := Lib.hid hW
  have lW : w.heap.size + 1 + 1 < W.heap.size := by omega
  have hl := Lib.hid h2.cap.1
  have hnb : n2 ≤ 100000000 := by have e : ns.length + hN.szL ns = hNS.sz ns := rfl; have := hl.out; omega
  clear hW0 hW1 hW s0 s1 s2 e1 p0 p1 p2 p3 pf r0 rf df B0_ B1_ B2_
  go_enter Tryz.func140, Tryz.ntmps140
  go_wp2_with fail
  rw [← HW.out]
  go_wp2_with fail
  go_loopw [10] (fun i wr => ∃ (k : Nat) (v : Value), i = .int .i64 k ∧ k ≤ n2 ∧ OS tS 24 wr (Iv W.heap.size wr.heap.size) v ((ns.map M.start).take k) ∧ Gr (w.heap.size + 1 + 1) 0 W wr v) (fun i _ => n2 - (intOf i).toNat)
  case atStart => exact ⟨0, _, rfl, by omega, OS.nil _ _ _ _, Gr.start d0⟩
  case round =>
    obtain ⟨k, v, rfl, hk, own, G⟩ := hrel
    have sr := G.chg.size
    have Cwr : Below w.heap.size w wr := BW.trans (G.chg.toBelow (fun b (hb : b = _) => by omega) (by omega))
    by_cases hlt : k < n2
    · obtain ⟨bb, o, b0, b1, b2, A5, c5, y3, rfl, hbb, X, e0, e1, e2, e3, hr3, h3b⟩ := node_cell (h2.below Cwr) hnz hlt
      have hbw : bb < wr.heap.size := by omega
      obtain ⟨V, hV, BV, sV, n0, n1, n2_, n3_, nf⟩ := newbox4 wr (.int .i64 b0) (.int .i64 b1) (.int .i64 b2) (.slice A5 y3.length c5) 171
      have hvg : V.cell? ⟨w.heap.size + 1 + 1, 0, none⟩ = some v := by rw [BV.cell (by show w.heap.size + 1 + 1 < _; omega)]; exact G.cel
      have m0 := cell_regrown n0
      have m1 := cell_regrown n1
      have m2 := cell_regrown n2_
      have m3 := cell_regrown n3_
      have mg := cell_regrown hvg
      have HV := Lib.hid hV
      have DV : Below wr.heap.size wr V.drew := below_drewN BV 1
      have DD : Below V.heap.size V V.drew := below_drewN (Below.refl _ _) 1
      have hdv : V.drew.heap.size = V.heap.size := rfl
      have hpt := Lib.hid (M.start_take X.out)
      have hxl : ((ns.map M.start).take k).length ≤ 100000000 := by rw [List.length_take]; omega
      have hokx := hok.out _ (List.mem_of_getElem? X.out)
      have HOK := Lib.hid hokx
      clear hV hokx
      go_wp2_with fail
      rw [← HV.out]
      (refine wp_region_fresh [0] [1, 2] 2 (.one 3 (.one 4 .rest)) [5, 6, 7] (by kernel_rfl) (by kernel_rfl) ?_; simp only [pickOps]; simp only [List.filterMap, List.getElem?_cons_succ, List.getElem?_cons_zero]; (repeat (go_big_quiet_step (fail))); refine wpQuiet_nil ?_; (repeat (go_big_quiet_step (fail))); refine wpQuiet_nil ?_)
      refine seqT_one rfl ?_
      go_wp2_with fail
      refine (impl_start b0 b1 b2 _ _ c5 y3 tb _ HOK.out).mono ?_
      rintro e w2 ⟨v1, rfl, on, bel2⟩
      generalize hS : M.start (b0, b1, b2, y3) = st at *
      obtain ⟨A6, c6, rfl, -⟩ := on.shape
      have s2_ := bel2.size
      have Bw2 := bel_trans DV bel2
      have BVw := bel_trans DD bel2
      have own2 := own.below Bw2 (Nat.le_refl _)
      have G2 := G.below Bw2 (by omega)
      have os2 := tS_O.2 (OI.os on)
      go_wp2_with fail
      refine ⟨regrown_of_below BVw, seqT_one rfl ?_⟩
      go_wp2_with fail
      refine ⟨regrown_of_below (bel_trans BVw ((Below.refl _ _).alloc (Nat.le_refl _) _)), seqT_rest ?_⟩
      go_wp2_with (at_builtin; refine wpList_pushS ei_S #[.slice A6 st.length c6] rfl _ _ rfl own2 os2 (Iv.apart (by omega)) rfl rfl (by unfold maxLen; omega) (by omega) ?_; intro v3 w4 own4 ch4; obtain ⟨A7, c7, e7⟩ := own4.shape; obtain ⟨n7, hn7⟩ : ∃ n7, n7 = ((ns.map M.start).take k ++ [st]).length := ⟨_, rfl⟩; rw [← hn7] at e7; subst e7; have HN7 := Lib.hid hn7; clear hn7; have G4 := G2.row ch4 (by omega) (fun b hb => ⟨hb.1, by have := hb.1; omega⟩); have hc4 := G4.cel; have hf4 : w4.frozen? ⟨w.heap.size + 1 + 1, 0, none⟩ = false := (by rw [G4.fro]; exact df0))
      go_roundw
      case rel =>
        have s4 := ch4.size
        refine ⟨k + 1, _, by go_num, by omega, ?_, G4.set df0 _⟩
        rw [hpt.out]
        refine (own4.chg (Chg.set (F := fun b => b = w.heap.size + 1 + 1) w4 (w.heap.size + 1 + 1) 0 _ rfl) (fun b hb (e : b = _) => ?_)).wide (fun b hb => ?_)
        · rcases hb with hb | hb | hb
          · have := hb.1; omega
          · have := hb.1; omega
          · omega
        · have e9 : (w4.setCell ⟨w.heap.size + 1 + 1, 0, none⟩ (.slice A7 n7 c7)).heap.size = w4.heap.size := by simp
          rcases hb with hb | hb | hb
          · exact ⟨hb.1, by have := hb.2; omega⟩
          · exact ⟨by have := hb.1; omega, by have := hb.2; omega⟩
          · exact ⟨by omega, by omega⟩
      case measure => simp [intOf]; omega
    · obtain rfl : k = n2 := by omega
      rw [List.take_of_length_le (by rw [List.length_map, hl.out]; exact Nat.le_refl _)] at own
      obtain ⟨A2', c2', rfl⟩ := own.shape
      have gc := G.cel
      have R1 : wr.cell? ⟨w.heap.size + 1, 0, none⟩ = some (.slice none 0 0) := by rw [G.chg.cell (by omega) (by omega)]; exact R0
      have S1 : wr.frozen? ⟨w.heap.size + 1, 0, none⟩ = false := by rw [G.chg.frozen (by omega) (by omega)]; exact RF
      generalize hsl : (ns.map M.start).length = sl at *
      go_wp2
      refine bodyPost_ret (v := .agg #[.slice A2' sl c2']) (by simp [results, Tryz.results140, go_sem, R1, S1]) rfl ?_
      refine ⟨_, rfl, ?_, ?_⟩
      · exact ((own.chg (Chg.set (F := fun b => b = w.heap.size + 1) wr (w.heap.size + 1) 0 _ rfl) (fun b hb (e : b = _) => by have := hb.1; omega))).wide (fun b hb => ⟨by have := hb.1; omega, by have := hb.2; simpa using this⟩)
      · exact Cwr.setCell (by simp) _
theorem spec_l08Start (vb vo : Nat) (A2 : Option Addr) (n2 c2 : Nat) (ns : List Node) (tb : Int) (w : World) (f2 : w.cell? ⟨vb, vo + 2, none⟩ = some (.slice A2 n2 c2)) (h2 : RS tN w w.heap.size (.slice A2 n2 c2) ns) (hnz : hNS.sz ns ≤ 100000000) (hok : Hid (∀ x ∈ ns, M.nodeOk x tb = true)) :
    Calls Tryz.prog 136 #[.pointer (some ⟨vb, vo, none⟩)] w fun e w' => ∃ v, e = .returned (.agg #[v]) ∧ OS tS 24 w' (Iv w.heap.size w'.heap.size) v (ns.map M.start) ∧ Below w.heap.size w w' := by
  have lv : vb < w.heap.size := World.block_lt_of_cell? w _ f2
  obtain ⟨W1, hW1, B1_, s1, r0, rf⟩ := newbox1 w (.slice none 0 0) 177
  have O0 : OS tS 24 (W1.alloc (.cells #[] 24)) (Iv W1.heap.size (W1.heap.size + 1)) (.slice (some ⟨W1.heap.size, 0, none⟩) 0 0) [] :=
    ⟨[], fun _ _ => False, own_base (World.ownsRow_made _ _ _ (Nat.le_refl _) (by simp [maxLen]) rfl) (Nat.zero_le _), rfl, fun g hg => by simp only [Value.ownBlock, Option.some.injEq] at hg; exact ⟨by omega, by omega⟩, fun _ _ h => h.elim, fun _ _ _ _ h => h.elim, fun k h => by simp at h⟩
  have BX : Below W1.heap.size W1 (W1.alloc (.cells #[] 24)) := (Below.refl _ _).alloc (Nat.le_refl _) _
  have sX : (W1.alloc (.cells #[] 24)).heap.size = W1.heap.size + 1 := by simp
  obtain ⟨X, hX⟩ : ∃ X, X = W1.alloc (.cells #[] 24) := ⟨_, rfl⟩
  rw [← hX] at O0 BX sX
  rw [s1] at O0
  obtain ⟨W, hW, B2_, s2, d0, df⟩ := newbox1 X (.slice (some ⟨w.heap.size + 1, 0, none⟩) 0 0) 177
  have BW := bel_trans (bel_trans B1_ BX) B2_
  have R0 : W.cell? ⟨w.heap.size, 0, none⟩ = some (.slice none 0 0) := by rw [(bel_trans BX B2_).cell (by show w.heap.size < _; omega)]; exact r0
  have RF : W.frozen? ⟨w.heap.size, 0, none⟩ = false := by rw [(bel_trans BX B2_).frozen (by show w.heap.size < _; omega)]; exact rf 0
  have e1 : X.heap.size = w.heap.size + 1 + 1 := by omega
  rw [e1] at d0 df
  have df0 := df 0
  have O1 := O0.below B2_ (by omega)
  rw [hW1] at hX
  rw [hX] at hW
  have HW := Lib.hid hW
  have lW : w.heap.size + 1 + 1 < W.heap.size := by omega
  have hl := Lib.hid h2.cap.1
  have hnb : n2 ≤ 100000000 := by have e : ns.length + hN.szL ns = hNS.sz ns := rfl; have := hl.out; omega
  have g2 : W.cell? ⟨vb, vo + 2, none⟩ = some (.slice A2 n2 c2) := by rw [BW.cell (by show vb < _; omega)]; exact f2
  clear hW1 hX hW s1 s2 sX e1 r0 rf df B1_ B2_ BX O0
  go_enter Tryz.func136, Tryz.ntmps136
  go_wp2_with fail
  rw [← HW.out]
  go_wp2_with fail
  go_loopw [4] (fun i wr => ∃ (k : Nat) (v : Value), i = .int .i64 k ∧ k ≤ n2 ∧ OS tS 24 wr (fun b => w.heap.size + 1 ≤ b ∧ b ≠ w.heap.size + 1 + 1) v ((ns.map M.start).take k) ∧ Chg (fun b => w.heap.size + 1 ≤ b) W wr ∧ wr.cell? ⟨w.heap.size + 1 + 1, 0, none⟩ = some v ∧ wr.frozen? ⟨w.heap.size + 1 + 1, 0, none⟩ = false) (fun i _ => n2 - (intOf i).toNat)
  case atStart => exact ⟨0, _, rfl, by omega, O1.wide (fun b hb => ⟨hb.1, by have := hb.2; omega⟩), Chg.refl _ _, d0, df0⟩
  case round =>
    obtain ⟨k, v, rfl, hk, own, G, gc, gf⟩ := hrel
    have sr := G.size
    have Cwr : Below w.heap.size w wr := BW.trans (G.toBelow (fun b (hb : w.heap.size + 1 ≤ b) => by omega) (by omega))
    have q2 : wr.cell? ⟨vb, vo + 2, none⟩ = some (.slice A2 n2 c2) := by rw [G.cell (by omega) (by omega)]; exact g2
    by_cases hlt : k < n2
    · obtain ⟨bb, o, b0, b1, b2, A5, c5, y3, rfl, hbb, X, e0, e1, e2, e3, hr3, h3b⟩ := node_cell (h2.below Cwr) hnz hlt
      have m1 := cell_regrown q2
      have m3 := cell_regrown gc
      have DV : Below wr.heap.size wr wr.drew := below_drewN (Below.refl _ _) 1
      have hdv : wr.drew.heap.size = wr.heap.size := rfl
      have hpt := Lib.hid (M.start_take X.out)
      have hxl : ((ns.map M.start).take k).length ≤ 100000000 := by rw [List.length_take]; omega
      have hokx := hok.out _ (List.mem_of_getElem? X.out)
      have HOK := Lib.hid hokx
      have E0 : wr.drew.cell? ⟨bb, o + k * 4, none⟩ = some (.int .i64 b0) := e0
      have E1 : wr.drew.cell? ⟨bb, o + k * 4 + 1, none⟩ = some (.int .i64 b1) := e1
      have E2 : wr.drew.cell? ⟨bb, o + k * 4 + 2, none⟩ = some (.int .i64 b2) := e2
      have hk0 : (0 : Int) ≤ (k : Int) := by omega
      have hkn : (k : Int) < (n2 : Int) := by omega
      have ownr := own.real
      clear hokx
      go_wp2_with fail
      (refine wp_region_fresh [0, 2, 3, 4, 6] [1, 5, 7] 2 (.one 8 (.one 9 .rest)) [10, 11, 12] (by kernel_rfl) (by kernel_rfl) ?_; simp only [pickOps]; simp only [List.filterMap, List.getElem?_cons_succ, List.getElem?_cons_zero]; (repeat (go_big_quiet_step (fail))); refine wpQuiet_nil ?_; (repeat (go_big_quiet_step (fail))); refine wpQuiet_nil ?_)
      refine seqT_one rfl ?_
      go_wp2_with fail
      refine (spec_l06Start _ _ b0 b1 b2 y3 tb _ E0 E1 E2 HOK.out).mono ?_
      rintro e w2 ⟨v1, rfl, on, bel2⟩
      generalize hS : M.start (b0, b1, b2, y3) = st at *
      obtain ⟨A6, c6, rfl, -⟩ := on.shape
      have s2_ := bel2.size
      have Bw2 := bel_trans DV bel2
      have own2 := ownr.chg (grow_chg (F := fun _ => False) Bw2) (fun _ _ h => h)
      have gc2 : w2.cell? ⟨w.heap.size + 1 + 1, 0, none⟩ = some v := by rw [Bw2.cell (by show w.heap.size + 1 + 1 < _; omega)]; exact gc
      have gf2 : w2.frozen? ⟨w.heap.size + 1 + 1, 0, none⟩ = false := by rw [Bw2.frozen (by show w.heap.size + 1 + 1 < _; omega)]; exact gf
      have os2 := tS_O.2 (OI.os on)
      go_wp2_with fail
      refine ⟨regrown_of_below Bw2, seqT_one rfl ?_⟩
      go_wp2_with fail
      refine ⟨regrown_of_below (bel_trans Bw2 ((Below.refl _ _).alloc (Nat.le_refl _) _)), seqT_rest ?_⟩
      go_wp2_with (at_builtin; refine wpList_pushS ei_S #[.slice A6 st.length c6] rfl _ _ rfl own2 os2 (fun b hb hb2 => by have := hb.2; have := hb2.1; omega) rfl rfl (by unfold maxLen; omega) (by omega) ?_; intro v3 w4 own4 ch4; obtain ⟨A7, c7, e7⟩ := own4.shape; obtain ⟨n7, hn7⟩ : ∃ n7, n7 = ((ns.map M.start).take k ++ [st]).length := ⟨_, rfl⟩; rw [← hn7] at e7; subst e7; have HN7 := Lib.hid hn7; clear hn7; have hc4 : w4.cell? ⟨w.heap.size + 1 + 1, 0, none⟩ = some v := (by rw [ch4.cell (by omega) (fun hb => hb.1.2 rfl)]; exact gc2); have hf4 : w4.frozen? ⟨w.heap.size + 1 + 1, 0, none⟩ = false := (by rw [ch4.frozen (by omega) (fun hb => hb.1.2 rfl)]; exact gf2))
      go_roundw
      case rel =>
        have s4 := ch4.size
        refine ⟨k + 1, _, by go_num, by omega, ?_, ((G.upB Bw2).up ch4 (fun b hb hF => hF.1.1)).trans (Chg.set w4 _ 0 _ (by omega)), World.cell?_setCell_same (h := hc4) .., by simp [go_sem, hf4]⟩
        rw [hpt.out]
        refine (own4.chg (Chg.set (F := fun b => b = w.heap.size + 1 + 1) w4 (w.heap.size + 1 + 1) 0 _ rfl) (fun b hb (e : b = _) => ?_)).wide (fun b hb => ?_)
        · rcases hb with hb | hb | hb
          · exact hb.1.2 e
          · have := hb.1; omega
          · omega
        · rcases hb with hb | hb | hb
          · exact hb.1
          · have := hb.1; exact ⟨by omega, by omega⟩
          · exact ⟨by omega, by omega⟩
      case measure => simp [intOf]; omega
    · obtain rfl : k = n2 := by omega
      rw [List.take_of_length_le (by rw [List.length_map, hl.out]; exact Nat.le_refl _)] at own
      obtain ⟨A2', c2', rfl⟩ := own.shape
      have R1 : wr.cell? ⟨w.heap.size, 0, none⟩ = some (.slice none 0 0) := by rw [G.cell (by omega) (by omega)]; exact R0
      have S1 : wr.frozen? ⟨w.heap.size, 0, none⟩ = false := by rw [G.frozen (by omega) (by omega)]; exact RF
      generalize hsl : (ns.map M.start).length = sl at *
      have ownr := own.real
      go_wp2
      refine bodyPost_ret (v := .agg #[.slice A2' sl c2']) (by simp [results, Tryz.results136, go_sem, R1, S1]) rfl ?_
      refine ⟨_, rfl, ?_, ?_⟩
      · exact ((ownr.chg (Chg.set (F := fun b => b = w.heap.size) wr w.heap.size 0 _ rfl) (fun b hb (e : b = _) => by have := hb.1.1; omega))).wide (fun b hb => ⟨by have := hb.1.1; omega, by have := hb.2; simpa using this⟩)
      · exact Cwr.setCell (by simp) _
end Go.Proofs.YtffhodocjjkkoaaGreat
namespace Go.Proofs.YtffhodocjjkkoaaGreat
open Go.RowKit Go.Sort
set_option maxHeartbeats 4000000
set_option maxRecDepth 100000
set_option linter.unusedVariables false
set_option linter.unusedSimpArgs false
theorem newbox7 (w : World) (z0 z1 z2 z3 z4 z5 z6 : Value) (t : TypeId) : ∃ U, U = w.alloc (.cells #[z0, z1, z2, z3, z4, z5, z6] t) ∧ Below w.heap.size w U ∧ U.heap.size = w.heap.size + 1 ∧ U.cell? ⟨w.heap.size, 0, none⟩ = some z0 ∧ U.cell? ⟨w.heap.size, 1, none⟩ = some z1 ∧ U.cell? ⟨w.heap.size, 2, none⟩ = some z2 ∧ U.cell? ⟨w.heap.size, 3, none⟩ = some z3 ∧ U.cell? ⟨w.heap.size, 4, none⟩ = some z4 ∧ U.cell? ⟨w.heap.size, 5, none⟩ = some z5 ∧ U.cell? ⟨w.heap.size, 6, none⟩ = some z6 :=
  ⟨_, rfl, (Below.refl _ _).alloc (Nat.le_refl _) _, by simp, by simp [go_sem], by simp [go_sem], by simp [go_sem], by simp [go_sem], by simp [go_sem], by simp [go_sem], by simp [go_sem]⟩
theorem impl_playerOf (pi : Int) (A1 : Option Addr) (n1 c1 : Nat) (A2 : Option Addr) (n2 c2 : Nat) (A3 : Option Addr) (n3 c3 : Nat) (Av : Option Addr) (nv cv : Nat) (ns : List Node) (tb : List (List Int)) (outs : List Int) (cs : List (List Int)) (w : World)
    (h1 : RS tS w w.heap.size (.slice A1 n1 c1) tb) (h2 : RS tN w w.heap.size (.slice A2 n2 c2) ns) (h3 : RI w w.heap.size A3 n3 outs) (hS : tSS.R w w.heap.size [.slice Av nv cv] cs) (hF : M.PF ns tb (M.ord ns)) (h0 : 0 < n2) (hnz : hNS.sz ns ≤ 100000000) (hcz : hSS.sz cs ≤ 100000000) (hcl : cs.length = ns.length) :
    Calls Tryz.prog 139 #[.agg #[.int .i64 pi, .slice A1 n1 c1, .slice A2 n2 c2, .slice A3 n3 c3], .agg #[.slice Av nv cv]] w fun e w' => ∃ (b bv bc L : Nat) (Ao : Option Addr) (co cv' cc : Nat), e = .returned (.pointer (some ⟨b, 0, none⟩)) ∧
      Pl b bv bc L pi A1 n1 c1 A2 n2 c2 A3 n3 c3 Ao n2 co cv' cc ns tb outs (M.ord ns) w' ∧ OI 2 L w' (.slice (some ⟨bv, 0, none⟩) n2 cv') (List.replicate n2 0) ∧ CR (F2 bv bc) 24 L w' (.slice (some ⟨bc, 0, none⟩) n2 cc) cs ∧ Below w.heap.size w w' ∧ w.heap.size ≤ bv ∧ w.heap.size ≤ bc := by
  have hl := Lib.hid h2.cap.1
  have hnb : n2 ≤ 100000000 := by have e : ns.length + hN.szL ns = hNS.sz ns := rfl; have := hl.out; omega
  obtain ⟨W0, hW0, B0_, s0, p0, p1, p2, p3, pf⟩ := newbox4 w (.int .i64 pi) (.slice A1 n1 c1) (.slice A2 n2 c2) (.slice A3 n3 c3) 107
  obtain ⟨W, hW, B1_, s1, r0, rf⟩ := newbox1 W0 (.slice Av nv cv) 177
  have B0 := bel_trans B0_ B1_
  have q0 : W.cell? ⟨w.heap.size, 0, none⟩ = some (.int .i64 pi) := by rw [B1_.cell (by show w.heap.size < _; omega)]; exact p0
  have q1 : W.cell? ⟨w.heap.size, 1, none⟩ = some (.slice A1 n1 c1) := by rw [B1_.cell (by show w.heap.size < _; omega)]; exact p1
  have q2 : W.cell? ⟨w.heap.size, 2, none⟩ = some (.slice A2 n2 c2) := by rw [B1_.cell (by show w.heap.size < _; omega)]; exact p2
  have q3 : W.cell? ⟨w.heap.size, 3, none⟩ = some (.slice A3 n3 c3) := by rw [B1_.cell (by show w.heap.size < _; omega)]; exact p3
  rw [s0] at r0
  rw [hW0] at hW
  have HW := Lib.hid hW
  have lW : w.heap.size + 1 < W.heap.size := by omega
  have m0 := cell_regrown q0
  have m1 := cell_regrown q1
  have m2 := cell_regrown q2
  have m3 := cell_regrown q3
  have m4 := cell_regrown r0
  have D1 : Below W.heap.size W W.drew := below_drewN (Below.refl _ _) 1
  have hd0 : W.drew.heap.size = W.heap.size := rfl
  have BD : Below w.heap.size w W.drew := below_drewN B0 1
  have hid1 := Lib.hid (fun (x : Node) (hx : x ∈ ns) (f : Int) (hf : f ∈ x.2.2.2) => show M.idx n2 f = true from by
    obtain ⟨i, hi⟩ := List.getElem?_of_mem hx
    have := hF.fr i x hi f hf
    rw [hl.out] at this
    exact M.inn_iff.2 (by omega))
  have HO := Lib.hid hF.top.len
  have HCL := Lib.hid hcl
  clear hW0 hW s0 s1 p0 p1 p2 p3 pf rf B0_ B1_ q0 q1 q2 q3 r0 hcl
  go_enter Tryz.func139, Tryz.ntmps139
  go_wp2_with fail
  rw [← HW.out]
  (refine wp_region_fresh2 [3, 7] [0, 1, 4, 8] 4 (.one 2 (.one 5 (.one 6 (.one 9 .rest)))) [10] [10, 11, 12] (by kernel_rfl) (by kernel_rfl) ?_; simp only [pickOps]; simp only [List.filterMap, List.getElem?_cons_succ, List.getElem?_cons_zero]; (repeat (go_big_quiet_step (fail))); refine wpQuiet_nil ?_; (repeat (go_big_quiet_step (fail))); refine wpQuiet_nil ?_)
  refine seqT_one2 rfl ?_
  go_wp2_with fail
  refine (impl_order _ _ _ _ _ _ _ _ _ _ ns _ (h2.later BD) hnz hid1).mono ?_
  rintro e w1 ⟨v1, rfl, own1, bel1⟩
  have hln : (M.ord ns).length = n2 := by rw [HO.out, hl.out]
  obtain ⟨A4, c4, rfl, -⟩ := own1.shape
  rw [hln] at own1 ⊢
  have HLN := Lib.hid hln
  have B1 := bel_trans D1 bel1
  have s1 := bel1.size
  clear hln
  go_wp2_with fail
  refine ⟨regrown_of_below B1, ?_⟩
  refine seqT_one2 rfl ?_
  go_wp2_with (go_at_call 173; refine (impl_size_impl_Node _ _ _ _).mono ?_; rintro e w' ⟨rfl, rfl⟩)
  refine ⟨regrown_of_below B1, ?_⟩
  refine seqT_one2 rfl ?_
  go_wp2_with fail
  refine (impl_zeros _ _ (by omega) (by omega)).mono ?_
  rintro e w2 ⟨v2, rfl, own2, bel2⟩
  rw [Int.toNat_natCast] at own2
  have B2 := bel_trans B1 bel2
  have s2 := bel2.size
  obtain ⟨bv, cv', e2, hbv1, hbv2⟩ := own2.form (by simp; omega)
  rw [List.length_replicate] at e2
  subst e2
  go_wp2_with fail
  refine ⟨regrown_of_below B2, ?_⟩
  refine seqT_one2 rfl ?_
  go_wp2_with fail
  refine (impl_clones _ _ _ cs _ (tSS.later hS (bel_trans B0 B2)) hcz).mono ?_
  rintro e w3 ⟨v3, rfl, own3, bel3⟩
  have B3 := bel_trans B2 bel3
  have s3 := bel3.size
  obtain ⟨bc, cc, e3, hbc1, hbc2⟩ : ∃ bc cc, v3 = .slice (some ⟨bc, 0, none⟩) cs.length cc ∧ w2.heap.size ≤ bc ∧ bc < w3.heap.size := by
    obtain ⟨css, Fs, g1, g2, g3, _⟩ := own3
    obtain ⟨g, cap, hv, _, hg⟩ := World.ownsRow.form g1 (by rw [HCL.out, hl.out]; omega)
    exact ⟨g, cap, hv, (g3 g (by rw [hv]; rfl)).1, hg⟩
  have C3 : CR (F2 bv bc) 24 w1.heap.size w3 v3 cs := CR.of_os own3 (fun k hk hG => by
    rcases hk with rfl | rfl
    · have := hG.1; omega
    · rw [e3]; rfl) (fun k hk => by rw [e3] at hk; simp only [Value.ownBlock, Option.some.injEq] at hk; omega)
  rw [HCL.out, hl.out] at e3
  subst e3
  obtain ⟨U, hU, BU, sU, u0, u1, u2, u3, u4, u5, u6⟩ := newbox7 w3 (.int .i64 pi) (.slice A1 n1 c1) (.slice A2 n2 c2) (.slice A3 n3 c3) (.slice A4 n2 c4) (.slice (some ⟨bv, 0, none⟩) n2 cv') (.slice (some ⟨bc, 0, none⟩) n2 cc) 210
  have BB := bel_trans (bel_trans B0 B3) BU
  have sW := B0.size
  have o1 := (own1.base (show 0 ≤ _ by omega)).below ((bel_trans bel2 bel3).trans (BU.mono (by omega)))
  have R1 : RI U w1.heap.size A4 n2 (M.ord ns) := by
    have h := own1.ri'
    exact h.below ((bel_trans bel2 bel3).trans (BU.mono (by omega)))
  have HU := Lib.hid hU
  clear hU o1
  go_wp2_with fail
  refine ⟨regrown_of_below B3, ?_⟩
  refine seqT_rest2 ?_
  go_wp2_with fail
  rw [← HU.out]
  go_ret
  exact ⟨w3.heap.size, bv, bc, w1.heap.size, A4, c4, cv', cc, rfl, ⟨u0, u1, u2, u3, u4, u5, u6, (h1.below BB).more (by omega), (h2.below BB).more (by omega), (h3.below BB).more (by omega), R1, hbv1, by omega, by omega, by omega, by omega, by omega⟩,
    own2.below (bel_trans bel3 BU), C3.below BU, BB, by omega, by omega⟩
end Go.Proofs.YtffhodocjjkkoaaGreat
namespace Go.Proofs.YtffhodocjjkkoaaGreat
open Go.RowKit Go.Sort
set_option maxHeartbeats 4000000
set_option maxRecDepth 100000
set_option linter.unusedVariables false
set_option linter.unusedSimpArgs false
section
variable {P : Program} {t e : TypeId} {z : Value} {bytes : Nat}
/-- 'out = append(out, x)', and where the row lies then. -/
theorem wpList_push1b (hE : EI P t e z 1 bytes) {w : World} {ops : Array Oper} {rest : List Oper} {o : Oper} {a : Act} {Q : Exit → Act → World → Prop} {u : Value}
    (hgd : o.guard = none) (s x : Operand)
    (ho : o.op = .call { callee := .builtin .append, args := #[s, x], argTypes := #[t, t] })
    {B : Nat} {v : Value} {n : Nat} {xs : List Value} (hown : w.ownsRow B e 1 v n xs) (hs : a.eval s = v)
    (hx : a.eval x = .slice (some ⟨w.heap.size, 0, none⟩) 1 1) (h1 : u.oneCell' = true)
    (hn : n + 1 ≤ maxLen) (hbytes : (n + 1) * bytes ≤ 140737488355328) (hbase : B ≤ w.heap.size)
    (K : ∀ v' w', w'.ownsRow B e 1 v' (n + 1) (xs ++ [u]) → w.grownBy w' v.ownBlock → Below B w w' → (v'.ownBlock = v.ownBlock ∨ ∀ k, v'.ownBlock = some k → w.heap.size ≤ k) → wpList P ops Q rest (a.put o.dst v') w') :
    wpList P ops Q (o :: rest) a (w.alloc (.cells #[u] e)) := by
  obtain ⟨ht, hinfo, hzs, hsz⟩ := hE
  obtain ⟨i0, hi, hz0, hz1, hz2⟩ := info_parts hinfo
  refine wpList_append_own_at _ hgd s x t ho B e i0 z 1 bytes ht hi hz0 hz1 hz2 hzs hsz v n xs hs (hown.alloc _) ⟨w.heap.size, 0, none⟩ 1 1 [u] hx rfl ?_ (by simpa using h1) hn hbytes (by simp; omega) ?_
  · intro j u2 hj
    have hadd : (⟨w.heap.size, 0, none⟩ : Addr).add j = ⟨w.heap.size, j, none⟩ := by unfold Addr.add; split <;> simp_all
    rw [hadd, cell_of_row _ w.heap.size j #[u] e (0, 0) (heap_alloc_new w _)]
    simpa using hj
  · intro v' w' h2 h3 _ g4
    have h4 : w.grownBy w' v.ownBlock := by
      have := World.grownBy_alloc w (.cells #[u] e) none
      exact ⟨h3.os.trans this.os, h3.tape.trans this.tape, h3.output.trans this.output, Nat.le_trans this.size h3.size, fun k hk hne => by
        rw [h3.block k (by simp; omega) hne]; exact this.block k hk (by simp)⟩
    refine K v' w' h2 h4 ((Below.refl _ _).grown h4 hbase fun k hk => (hown.lt k hk).1) ?_
    rcases g4 with h | h
    · exact .inl h
    · refine .inr fun k hk => ?_
      rw [h] at hk
      have hsz' : (w.alloc (.cells #[u] e)).heap.size = w.heap.size + 1 := by simp
      rw [hsz', Option.some.injEq] at hk
      omega
end
theorem impl_player_block (b bv bc L : Nat) (A1 : Option Addr) (n1 c1 : Nat) (A2 : Option Addr) (n2 c2 : Nat) (A3 : Option Addr) (c3 : Nat) (Ao : Option Addr) (no co_ cv cc : Nat) (ns : List Node) (tb : List (List Int)) (o : Int) (O vs : List Int) (bi oi ci : Nat) (A : Option Addr) (m c : Nat) (xs : List Int) (n : Nat) (w : World)
    (hP : Pl b bv bc L 1 A1 n1 c1 A2 n2 c2 A3 1 c3 Ao no co_ cv cc ns tb [o] O w) (hF : M.PF ns tb O) (h0 : 0 < n2) (hnz : hNS.sz ns ≤ 100000000) (ho : 0 ≤ o ∧ o < n2)
    (hv : OI 2 L w (.slice (some ⟨bv, 0, none⟩) n2 cv) vs) (hvs : vs.all M.smp = true) (hc : CR (F2 bv bc) 24 L w (.slice (some ⟨bc, 0, none⟩) n2 cc) (ns.map M.start))
    (ci0 : w.cell? ⟨bi, oi, none⟩ = some (.slice A m c)) (hbi : bi ≠ bv ∧ bi ≠ bc) (hx : RN (F2 bv bc) w A m xs) (hxs : xs.all M.smp = true) (hm : m ≤ 1000000) (hn : n ≤ 4000) :
    Calls Tryz.prog 141 #[.pointer (some ⟨b, 0, none⟩), .slice (some ⟨bi, oi, none⟩) 1 ci, .int .i64 0, .int .i64 n] w fun e w' => ∃ (g c' : Nat) (A' : Option Addr) (c'' : Nat), e = .returned (.slice (some ⟨g, 0, none⟩) 1 c') ∧ w'.cell? ⟨g, 0, none⟩ = some (.slice A' n c'') ∧ RI w' w'.heap.size A' n (M.playO ns tb O xs o n) ∧ Chg (F2 bv bc) w w' := by
  have lbv : bv < w.heap.size := (World.ownsRow.lt hv _ rfl).2
  have lbc : bc < w.heap.size := by obtain ⟨us, h1, _⟩ := hc; exact (World.ownsRow.lt h1 _ rfl).2
  have lb : b < w.heap.size := World.block_lt_of_cell? w _ hP.p0
  have lbi : bi < w.heap.size := World.block_lt_of_cell? w _ ci0
  have nbi : ¬ F2 bv bc bi := fun e => e.elim hbi.1 hbi.2
  have lL := hP.lL
  have lv := hP.lv
  have lc := hP.lc
  have nbv := hP.nbv
  have nbc := hP.nbc
  have p0 := hP.p0
  have p3 := hP.p3
  have hx1 := Lib.hid hx.1.len
  have HXS := Lib.hid hxs
  have HL2 := Lib.hid hP.h2.cap.1
  have hnb : n2 ≤ 24 := by rw [← HL2.out]; exact hF.len
  clear hxs
  go_enter Tryz.func141, Tryz.ntmps141
  go_wp2_with (at_make; refine wpList_mk ei_S rfl _ _ rfl 1 _ _ rfl rfl rfl rfl (by omega) (by unfold maxLen; omega) ?_; intro w1 own1 bel1; have p0' : w1.cell? ⟨b, 0, none⟩ = some (.int .i64 1) := (by rw [bel1.cell (by show b < _; omega)]; exact p0))
  have z1 := (World.ownsRow.lt own1 _ rfl).2
  have s1 := bel1.size
  have oc0 : w1.cell? ⟨w.heap.size, 0, none⟩ = some (.slice none 0 0) := by rw [World.ownsRow.cellAt own1 0 (by omega)]; simp [madeCells, Value.cells]
  have of0 : w1.frozen? ⟨w.heap.size, 0, none⟩ = false := World.ownsRow.frozenAt own1 0
  clear own1 p0
  refine (impl_zeros 1 _ (by omega) (by omega)).mono ?_
  rintro e w2 ⟨v2, rfl, own2, bel2⟩
  obtain ⟨bf, cf, e2, hbf1, hbf2⟩ := own2.form (by decide)
  rw [show (List.replicate (1 : Int).toNat (0 : Int)).length = 1 from rfl] at e2
  subst e2
  have s2 := bel2.size
  replace own2 : OI 2 w1.heap.size w2 (.slice (some ⟨bf, 0, none⟩) 1 cf) [0] := own2
  have oc2 : w2.cell? ⟨w.heap.size, 0, none⟩ = some (.slice none 0 0) := by rw [bel2.cell (by show w.heap.size < _; omega)]; exact oc0
  have of2 : w2.frozen? ⟨w.heap.size, 0, none⟩ = false := by rw [bel2.frozen (by show w.heap.size < _; omega)]; exact of0
  have B2 := bel_trans bel1 bel2
  have hcG : CR (fun k => k = bv ∨ k = bc ∨ k = bf ∨ k = w.heap.size) 24 L w2 (.slice (some ⟨bc, 0, none⟩) n2 cc) (ns.map M.start) := (hc.more (F' := fun k => k = bv ∨ k = bc ∨ k = bf ∨ k = w.heap.size) (fun k hk => by
    rcases hk with h | h | h | h
    · exact .inl (.inl h)
    · exact .inl (.inr h)
    · exact .inr (by omega)
    · exact .inr (by omega))).below B2
  clear oc0 of0 p0' bel1 bel2 p3
  go_wp2_with fail
  go_loopw [11] (fun i wr => ∃ t : Nat, i = .int .i64 t ∧ t ≤ n ∧ ∃ (V : List Int) (y : Int) (vo : Value), Hid (V.all M.smp = true) ∧ Chg (F2 bv bc) w wr ∧ w2.heap.size ≤ wr.heap.size ∧ OI 2 L wr (.slice (some ⟨bv, 0, none⟩) n2 cv) V ∧ CR (fun k => k = bv ∨ k = bc ∨ k = bf ∨ k = w.heap.size ∨ vo.ownBlock = some k) 24 L wr (.slice (some ⟨bc, 0, none⟩) n2 cc) (M.celsN ns tb O xs t) ∧
    OI 2 w1.heap.size wr (.slice (some ⟨bf, 0, none⟩) 1 cf) [y] ∧ wr.cell? ⟨w.heap.size, 0, none⟩ = some vo ∧ wr.frozen? ⟨w.heap.size, 0, none⟩ = false ∧ OI 2 w2.heap.size wr vo (M.playO ns tb O xs o t)) (fun i _ => n - (intOf i).toNat)
  case atStart => exact ⟨0, rfl, by omega, vs, 0, _, Lib.hid hvs, grow_chg B2, Nat.le_refl _, hv.below B2, hcG.more (fun k hk => by rcases hk with h | h | h | h | h; (exact .inl (.inl h)); (exact .inl (.inr (.inl h))); (exact .inl (.inr (.inr (.inl h)))); (exact .inl (.inr (.inr (.inr h)))); cases h), own2, oc2, of2, OI.nil _ _ _⟩
  case round =>
    obtain ⟨t, rfl, ht, V, y, vo, HV, hch, hsz, ov, oc, ofr, co, fo, oo⟩ := hrel
    obtain ⟨wo, rfl⟩ : ∃ wo : World, wo = wr := ⟨_, rfl⟩
    by_cases hlt : t < n
    · have HC := M.celsN_ok hF HXS.out t
      have hP1 := hP.chg hch
      have HS := Lib.hid (M.playO_snoc ns tb O xs o t)
      have HN := Lib.hid (show M.celsN ns tb O xs (t + 1) = M.next_ ns tb [M.at_ xs (t : Int)] O (M.celsN ns tb O xs t) from rfl)
      have HW := Lib.hid (show M.valsN ns tb O xs t = M.vals ns tb [M.at_ xs (t : Int)] O (M.celsN ns tb O xs t) from rfl)
      have HVL := Lib.hid (M.valsN_smp hF HXS.out t)
      have hax := M.at_smp HXS.out (t : Int)
      have hxo := hx.chg hch
      have cio : wo.cell? ⟨bi, oi, none⟩ = some (.slice A m c) := by rw [hch.cell lbi nbi]; exact ci0
      have t0 : (0 : Int) ≤ (t : Int) := by omega
      have t1 : (t : Int) < (n : Int) := by omega
      obtain ⟨cy, hcy⟩ : ∃ cy, cy = M.at_ xs (t : Int) := ⟨_, rfl⟩
      have fz := World.ownsRow.frozenAt ofr 0
      have fc : wo.cell? ⟨bf, 0, none⟩ = some (.int .i64 y) := by rw [World.ownsRow.cellAt ofr 0 (by simp)]; rfl
      go_wp2_with fail
      go_loopw [38] (fun i wr => ∃ k : Nat, i = .int .i64 k ∧ ((k = 0 ∧ wr = wo) ∨ (k = 1 ∧ wr = wo.setCell ⟨bf, 0, none⟩ (.int .i64 cy)))) (fun i _ => 1 - (intOf i).toNat)
      case atStart => exact ⟨0, rfl, .inl ⟨rfl, rfl⟩⟩
      case round =>
        obtain ⟨k, rfl, hor⟩ := hrel
        rcases hor with ⟨rfl, rfl⟩ | ⟨rfl, rfl⟩
        · have HCY := Lib.hid hcy
          clear hcy
          go_wp2_with fail
          refine (impl_at _ _ _ xs _ _ hxo.1 (by omega) (by omega)).mono ?_
          rw [← HCY.out]
          rintro e w' ⟨rfl, rfl⟩
          go_wp2_with fail
          go_roundw
          case rel => exact ⟨1, by go_num, .inr ⟨rfl, by trivial⟩⟩
          case measure => simp [intOf]
        · have ofr2 : OI 2 w1.heap.size (wo.setCell ⟨bf, 0, none⟩ (.int .i64 cy)) (.slice (some ⟨bf, 0, none⟩) 1 cf) [cy] := ofr.stored' 0 cy
          have hcf : Chg (fun x => x = bf) wo (wo.setCell ⟨bf, 0, none⟩ (.int .i64 cy)) := Chg.set wo bf 0 _ rfl
          have cfc : (wo.setCell ⟨bf, 0, none⟩ (.int .i64 cy)).cell? ⟨bf, 0, none⟩ = some (.int .i64 cy) := by rw [World.ownsRow.cellAt ofr2 0 (by simp)]; rfl
          have ov2 := ov.kept (grown_setCell wo bf 0 (.int .i64 cy)) (.inr (by simp only [Value.ownBlock, ne_eq, Option.some.injEq]; omega))
          have oo2 := oo.kept (grown_setCell wo bf 0 (.int .i64 cy)) (.inr (fun e => by have := (World.ownsRow.lt oo _ e).1; omega))
          have hch2 : Chg (F2 bv bc) w (wo.setCell ⟨bf, 0, none⟩ (.int .i64 cy)) := hch.up hcf (fun x hx e => by omega)
          have oc2 : CR (fun k => k = bv ∨ k = bc ∨ k = bf ∨ k = w.heap.size ∨ vo.ownBlock = some k) 24 L (wo.setCell ⟨bf, 0, none⟩ (.int .i64 cy)) (.slice (some ⟨bc, 0, none⟩) n2 cc) (M.celsN ns tb O xs t) := oc.chg hcf (fun k hk => .inr (.inr (.inl hk))) (fun k hk hk2 => by simp only [Value.ownBlock, Option.some.injEq] at hk; omega)
          have co2 : (wo.setCell ⟨bf, 0, none⟩ (.int .i64 cy)).cell? ⟨w.heap.size, 0, none⟩ = some vo := by rw [hcf.cell (by omega) (by omega)]; exact co
          have fo2 : (wo.setCell ⟨bf, 0, none⟩ (.int .i64 cy)).frozen? ⟨w.heap.size, 0, none⟩ = false := by rw [hcf.frozen (by omega) (by omega)]; exact fo
          obtain ⟨wp, hwp⟩ : ∃ wp, wp = wo.setCell ⟨bf, 0, none⟩ (.int .i64 cy) := ⟨_, rfl⟩
          have swp : wo.heap.size ≤ wp.heap.size := by rw [hwp]; simp
          have hP2 := hP.chg hch2
          rw [← hwp] at ofr2 cfc ov2 oo2 hch2 oc2 co2 fo2 hP2 ⊢
          clear hwp hcf
          rw [← hcy] at hax
          have HCY := Lib.hid hcy
          clear hcy
          go_wp2_with fail
          refine (impl_player_frame b bv bc L 1 _ _ c1 _ _ c2 _ _ c3 _ _ co_ cv cc ns tb [o] O V (M.celsN ns tb O xs t) bf 0 cf cy (fun k => k = bv ∨ k = bc ∨ k = bf ∨ k = w.heap.size ∨ vo.ownBlock = some k) wp (fun k hk => hk.elim .inl (fun h => .inr (.inl h))) (fun k hk => by rcases hk with h | h | h | h | h; omega; omega; omega; omega; exact (World.ownsRow.lt oo2 _ h).2) hP2 hF hax h0 hnz ov2 HV.out oc2 HC cfc (by omega)).mono ?_
          rintro e w3 ⟨rfl, ch3, ov3, oc3⟩
          rw [← HCY.out] at HN HW
          rw [← HW.out] at ov3
          rw [← HN.out] at oc3
          have hch3 := hch2.trans ch3
          have hP3 := hP.chg hch3
          have s3 := ch3.size
          have p3_3 := hP3.p3
          have p5_3 := hP3.p5
          have ofr3 := ofr2.chg ch3 (fun k hk h => by simp only [Value.ownBlock, Option.some.injEq] at hk; rcases h with h | h <;> omega)
          have oo3 := oo2.chg ch3 (fun k hk h => by have := (World.ownsRow.lt oo2 _ hk).1; rcases h with h | h <;> omega)
          have co3 : w3.cell? ⟨w.heap.size, 0, none⟩ = some vo := by rw [ch3.cell (by omega) (fun h => by rcases h with h | h <;> omega)]; exact co2
          have fo3 : w3.frozen? ⟨w.heap.size, 0, none⟩ = false := by rw [ch3.frozen (by omega) (fun h => by rcases h with h | h <;> omega)]; exact fo2
          have HMI := Lib.hid (show M.mapI [o] (M.valsN ns tb O xs t) = [M.i_ (M.valsN ns tb O xs t) o.toNat] from rfl)
          clear ov2 oc2 oo2 ofr2 co2 fo2 hP2 hch2 cfc ov oc ofr co fo oo fz fc hP1 hxo cio
          go_wp2_with fail
          refine (impl_player_outputs b _ n2 cv (M.valsN ns tb O xs t) _ 1 c3 [o] w3 p3_3 p5_3 ov3.ri' (hP3.h3.more hP3.lL) (by omega) (by omega) (Lib.hid (fun f hf => by
            obtain rfl : f = o := by simpa using hf
            omega))).mono ?_
          rintro e w4 ⟨v4, rfl, own4, bel4⟩
          rw [HMI.out] at own4
          obtain ⟨g4, cap4, e4, hg4, hg4'⟩ := own4.form (by simp)
          rw [List.length_singleton] at e4
          subst e4
          obtain ⟨x4, hx4⟩ : ∃ x4, x4 = M.i_ (M.valsN ns tb O xs t) o.toNat := ⟨_, rfl⟩
          rw [← hx4] at own4 HS
          have s4 := bel4.size
          have c4 : w4.cell? ⟨g4, 0, none⟩ = some (.int .i64 x4) := by rw [World.ownsRow.cellAt own4 0 (by simp)]; rfl
          have co4 : w4.cell? ⟨w.heap.size, 0, none⟩ = some vo := by rw [bel4.cell (by show w.heap.size < _; omega)]; exact co3
          have fo4 : w4.frozen? ⟨w.heap.size, 0, none⟩ = false := by rw [bel4.frozen (by show w.heap.size < _; omega)]; exact fo3
          have oo4 := oo3.below bel4
          have hln := Lib.hid (M.playO_len ns tb O xs o t)
          clear hx4
          go_wp2_with fail
          obtain ⟨wq, rfl⟩ : ∃ wq : World, wq = w4 := ⟨_, rfl⟩
          go_loopw [57] (fun i wr => ∃ k : Nat, i = .int .i64 k ∧ ((k = 0 ∧ wr = wq) ∨ (k = 1 ∧ ∃ v', wr.cell? ⟨w.heap.size, 0, none⟩ = some v' ∧ wr.frozen? ⟨w.heap.size, 0, none⟩ = false ∧ OI 2 w2.heap.size wr v' (M.playO ns tb O xs o (t + 1)) ∧ Chg (fun b => b = w.heap.size ∨ vo.ownBlock = some b) wq wr ∧ (v'.ownBlock = vo.ownBlock ∨ ∀ k, v'.ownBlock = some k → wq.heap.size ≤ k)))) (fun i _ => 1 - (intOf i).toNat)
          case atStart => exact ⟨0, rfl, .inl ⟨rfl, rfl⟩⟩
          case round =>
            obtain ⟨k, rfl, hor⟩ := hrel
            rcases hor with ⟨rfl, rfl⟩ | ⟨rfl, v5, co5, fo5, oo5, ch5, hb5⟩
            · have hlp := M.playO_len ns tb O xs o t
              have hlp' : (M.playO ns tb O xs o t).length ≤ 1000000 := by omega
              clear hlp
              go_wp2_with (at_builtin; refine wpList_push1b ei_i64 rfl _ _ rfl oo4 rfl rfl rfl (by unfold maxLen; omega) (by omega) (by omega) ?_; intro v5 w5 own5 gr5 bel5 hb5; have op5 := OI.push own5; obtain ⟨A5, c5, e5, -⟩ := op5.shape; obtain ⟨n5, hn5⟩ : ∃ n5, n5 = (M.playO ns tb O xs o t ++ [x4]).length := ⟨_, rfl⟩; rw [← hn5] at e5; subst e5; have HN5 := Lib.hid hn5; clear hn5; have hc5 : w5.cell? ⟨w.heap.size, 0, none⟩ = some vo := (by rw [bel5.cell (by show w.heap.size < _; omega)]; exact co4); have hf5 : w5.frozen? ⟨w.heap.size, 0, none⟩ = false := (by rw [bel5.frozen (by show w.heap.size < _; omega)]; exact fo4))
              go_roundw
              case rel =>
                refine ⟨1, by go_num, .inr ⟨rfl, .slice A5 n5 c5, World.cell?_setCell_same (h := hc5) .., by simp [go_sem, hf5], ?_, ?_, hb5⟩⟩
                · rw [HS.out]
                  exact op5.kept (grown_setCell _ _ 0 _) (.inr (fun e => by have := (World.ownsRow.lt op5 _ e).1; omega))
                · exact (Chg.of_grown gr5 (fun k hk => .inr hk)).trans (Chg.set w5 _ 0 _ (.inl rfl))
              case measure => simp [intOf]
            · have s5 := ch5.size
              have hch5 : Chg (F2 bv bc) w wr := (hch3.trans (grow_chg bel4)).up ch5 (fun x hx e => by
                rcases e with e | e
                · omega
                · have := (World.ownsRow.lt oo4 _ e).1; omega)
              have nF : ∀ x, x < w2.heap.size → x ≠ w.heap.size → ¬ (x = w.heap.size ∨ vo.ownBlock = some x) := fun x hx hne e => by
                rcases e with e | e
                · exact hne e
                · have := (World.ownsRow.lt oo4 _ e).1; omega
              have ov5 := (ov3.below bel4).chg ch5 (fun k hk => by simp only [Value.ownBlock, Option.some.injEq] at hk; exact nF k (by omega) (by omega))
              have oc5 := (oc3.below bel4).more (F' := fun k => k = bv ∨ k = bc ∨ k = bf ∨ k = w.heap.size ∨ v5.ownBlock = some k ∨ vo.ownBlock = some k) (fun k hk => by
                rcases hk with h | h | h | h | h | h
                · exact .inl (.inl h)
                · exact .inl (.inr (.inl h))
                · exact .inl (.inr (.inr (.inl h)))
                · exact .inl (.inr (.inr (.inr (.inl h))))
                · rcases hb5 with h5 | h5
                  · exact .inl (.inr (.inr (.inr (.inr (h5 ▸ h)))))
                  · exact .inr (h5 k h)
                · exact .inl (.inr (.inr (.inr (.inr h)))))
              have oc6 := (oc5.chg ch5 (fun k hk => by
                rcases hk with h | h
                · exact .inr (.inr (.inr (.inl h)))
                · exact .inr (.inr (.inr (.inr (.inr h))))) (fun k hk => by simp only [Value.ownBlock, Option.some.injEq] at hk; exact nF k (by omega) (by omega))).sub (F' := fun k => k = bv ∨ k = bc ∨ k = bf ∨ k = w.heap.size ∨ v5.ownBlock = some k) (fun k hk => by
                rcases hk with h | h | h | h | h
                · exact .inl h
                · exact .inr (.inl h)
                · exact .inr (.inr (.inl h))
                · exact .inr (.inr (.inr (.inl h)))
                · exact .inr (.inr (.inr (.inr (.inl h)))))
              have ofr5 := (ofr3.below bel4).chg ch5 (fun k hk => by simp only [Value.ownBlock, Option.some.injEq] at hk; exact nF k (by omega) (by omega))
              clear ov3 oc3 oc5 oo3 co3 fo3 ofr3 oo4 co4 fo4
              go_wp2_with fail
              go_roundw
              case rel => exact ⟨t + 1, by go_num, by omega, _, _, v5, HVL, hch5, by omega, ov5, oc6, ofr5, co5, fo5, oo5⟩
              case measure => simp [intOf]; omega
    · obtain rfl : t = n := by omega
      obtain ⟨A5, c5, e5, hri⟩ := oo.shape
      rw [M.playO_len] at e5 hri
      subst e5
      go_wp2_with fail
      go_ret
      exact ⟨_, _, A5, c5, rfl, co, hri, hch⟩
end Go.Proofs.YtffhodocjjkkoaaGreat
namespace Go.Proofs.YtffhodocjjkkoaaGreat
open Go.RowKit Go.Sort
set_option maxHeartbeats 4000000
set_option maxRecDepth 100000
set_option linter.unusedVariables false
set_option linter.unusedSimpArgs false
theorem hS_szL_le {xs : List (List Int)} {m : Nat} (h : ∀ x ∈ xs, x.length ≤ m) : hS.szL xs ≤ m * xs.length := by
  induction xs with
  | nil => simp [Hs.szL]
  | cons x xs ih =>
    have h1 := h x (by simp)
    have h2 := ih (fun y hy => h y (by simp [hy]))
    have e : hS.szL (x :: xs) = hS.sz x + hS.szL xs := rfl
    rw [e, hS_sz, List.length_cons, Nat.mul_succ]
    omega
theorem start_sz {ns : List Node} {tb : List (List Int)} {O : List Int} (hF : M.PF ns tb O) : hSS.sz (ns.map M.start) ≤ 1000 := by
  have h1 := hS_szL_le (xs := ns.map M.start) (m := 16) (fun x hx => by
    obtain ⟨y, hy, rfl⟩ := List.mem_map.1 hx
    obtain ⟨i, hi⟩ := List.getElem?_of_mem hy
    exact M.start_len (hF.ok i y hi))
  have e : hSS.sz (ns.map M.start) = (ns.map M.start).length + hS.szL (ns.map M.start) := rfl
  have h2 := hF.len
  rw [e]
  rw [List.length_map] at h1 ⊢
  omega
theorem impl_render (A1 : Option Addr) (n1 c1 : Nat) (A2 : Option Addr) (n2 c2 : Nat) (A3 : Option Addr) (c3 : Nat) (ns : List Node) (tb : List (List Int)) (o : Int) (bi oi ci : Nat) (A : Option Addr) (m c : Nat) (xs : List Int) (n : Nat) (w : World)
    (h1 : RS tS w w.heap.size (.slice A1 n1 c1) tb) (h2 : RS tN w w.heap.size (.slice A2 n2 c2) ns) (h3 : RI w w.heap.size A3 1 [o]) (hF : M.PF ns tb (M.ord ns)) (ho : 0 ≤ o ∧ o < n2) (hnz : hNS.sz ns ≤ 100000000)
    (ci0 : w.cell? ⟨bi, oi, none⟩ = some (.slice A m c)) (hx : RI w w.heap.size A m xs) (hxs : xs.all M.smp = true) (hm : m ≤ 1000000) (hn : n ≤ 4000) :
    Calls Tryz.prog 102 #[.agg #[.int .i64 1, .slice A1 n1 c1, .slice A2 n2 c2, .slice A3 1 c3], .slice (some ⟨bi, oi, none⟩) 1 ci, .int .i64 n] w fun e w' => ∃ (g c' : Nat) (A' : Option Addr) (c'' : Nat), e = .returned (.slice (some ⟨g, 0, none⟩) 1 c') ∧ w'.cell? ⟨g, 0, none⟩ = some (.slice A' n c'') ∧ RI w' w'.heap.size A' n (M.playO ns tb (M.ord ns) xs o n) ∧ Below w.heap.size w w' := by
  have lbi : bi < w.heap.size := World.block_lt_of_cell? w _ ci0
  obtain ⟨W, hW, B0, s0, p0, p1, p2, p3, pf⟩ := newbox4 w (.int .i64 1) (.slice A1 n1 c1) (.slice A2 n2 c2) (.slice A3 1 c3) 107
  have m0 := cell_regrown p0
  have m1 := cell_regrown p1
  have m2 := cell_regrown p2
  have m3 := cell_regrown p3
  have HW := Lib.hid hW
  have lW : w.heap.size < W.heap.size := by omega
  have D1 : Below W.heap.size W W.drew := below_drewN (Below.refl _ _) 1
  have hd0 : W.drew.heap.size = W.heap.size := rfl
  have BD : Below w.heap.size w W.drew := below_drewN B0 1
  have HXS := Lib.hid hxs
  have HSZ := Lib.hid (start_sz hF)
  have HOK := Lib.hid (fun (x : Node) (hx : x ∈ ns) => show M.nodeOk x tb.length = true from by
    obtain ⟨i, hi⟩ := List.getElem?_of_mem hx
    exact hF.ok i x hi)
  clear hW s0 p0 p1 p2 p3 pf hxs
  go_enter Tryz.func102, Tryz.ntmps102
  go_wp2_with fail
  rw [← HW.out]
  (refine wp_region_fresh2 [4, 5] [0, 1] 2 (.one 2 (.one 3 .rest)) [6] [6, 7] (by kernel_rfl) (by kernel_rfl) ?_; simp only [pickOps]; simp only [List.filterMap, List.getElem?_cons_succ, List.getElem?_cons_zero]; (repeat (go_big_quiet_step (fail))); refine wpQuiet_nil ?_; (repeat (go_big_quiet_step (fail))); refine wpQuiet_nil ?_)
  refine seqT_one2 rfl ?_
  go_wp2_with fail
  refine (impl_startState _ _ _ _ _ _ _ _ _ _ ns tb.length _ (h2.later BD) hnz HOK).mono ?_
  rintro e w1 ⟨v1, rfl, own1, bel1⟩
  obtain ⟨Av, cv, e1⟩ := own1.shape
  rw [show (ns.map M.start).length = n2 by rw [List.length_map]; exact h2.cap.1] at e1
  subst e1
  have B1 := bel_trans D1 bel1
  have BB1 := bel_trans B0 B1
  have s1 := bel1.size
  have r1 : tSS.R w1 w1.heap.size [.slice Av n2 cv] (ns.map M.start) := sl_R.2 own1.read
  have hcl : (ns.map M.start).length = ns.length := List.length_map ..
  have HCL := Lib.hid hcl
  clear hcl
  go_wp2_with fail
  refine ⟨regrown_of_below B1, ?_⟩
  refine seqT_one2 rfl ?_
  go_wp2_with fail
  refine (impl_playerOf 1 _ _ c1 _ _ c2 _ _ c3 _ _ cv ns tb [o] (ns.map M.start) _ (h1.later BB1) (h2.later BB1) (h3.later BB1) r1 hF (by omega) hnz (by have := HSZ.out; omega) HCL.out).mono ?_
  rintro e w2 ⟨b, bv, bc, L, Ao, co, cv', cc, rfl, hP, ov, oc, bel2, hbv, hbc⟩
  have B2 := bel_trans B1 bel2
  have BB2 := bel_trans B0 B2
  have s2 := bel2.size
  have ci2 : w2.cell? ⟨bi, oi, none⟩ = some (.slice A m c) := by rw [BB2.cell (by show bi < _; omega)]; exact ci0
  have hx2 : RN (F2 bv bc) w2 A m xs := RN.of_ri (B := w.heap.size) (hx.below BB2) BB2.size (fun k hk => by rcases hk with h | h <;> omega)
  have hrp : (List.replicate n2 (0 : Int)).all M.smp = true := by
    rw [List.all_eq_true]
    intro z hz
    rw [List.eq_of_mem_replicate hz]
    rfl
  have HRP := Lib.hid hrp
  clear hrp
  go_wp2_with fail
  refine ⟨regrown_of_below B2, ?_⟩
  refine seqT_rest2 ?_
  go_wp2_with fail
  refine (impl_player_block b bv bc L _ _ c1 _ _ c2 _ c3 _ _ co cv' cc ns tb o (M.ord ns) _ bi oi ci A m c xs n w2 hP hF (by omega) hnz ho ov HRP.out oc ci2 (by omega) hx2 HXS.out hm hn).mono ?_
  rintro e w3 ⟨g, c', A', c'', rfl, cg, rg, ch⟩
  go_wp2_with fail
  go_ret
  exact ⟨g, c', A', c'', rfl, cg, rg, BB2.trans (ch.toBelow (fun k hk => by rcases hk with h | h <;> omega) (by omega))⟩
end Go.Proofs.YtffhodocjjkkoaaGreat
namespace Go.Proofs.YtffhodocjjkkoaaGreat
open Go.RowKit Go.Sort
set_option maxHeartbeats 4000000
set_option maxRecDepth 100000
set_option linter.unusedVariables false
set_option linter.unusedSimpArgs false
theorem spec_l08In (bn on_ : Nat) (a0 a1 : Int) (A : Option Addr) (n c : Nat) (xs : List Int) (bf of cf : Nat) (x : Int) (Av : Option Addr) (nv cv : Nat) (vs : List Int) (a2 : Int) (w : World)
    (p0 : w.cell? ⟨bn, on_, none⟩ = some (.int .i64 a0)) (p1 : w.cell? ⟨bn, on_ + 1, none⟩ = some (.int .i64 a1)) (p3 : w.cell? ⟨bn, on_ + 3, none⟩ = some (.slice A n c)) (cf0 : w.cell? ⟨bf, of, none⟩ = some (.int .i64 x))
    (hv : RI w w.heap.size Av nv vs) (hx : RI w w.heap.size A n xs) (hn : n ≤ 1000000000) (hnv : nv ≤ 1000000000) (h1 : a0 = 1 → a1 = 0) (hr : Hid (∀ f ∈ xs, 0 ≤ f ∧ f < nv)) :
    Calls Tryz.prog 194 #[.pointer (some ⟨bn, on_, none⟩), .slice (some ⟨bf, of, none⟩) 1 cf, .slice Av nv cv] w (Ret1 2 w (M.insN (a0, a1, a2, xs) [x] vs)) := by
  by_cases h : a0 = 1
  · have h1' := h1 h
    subst h h1'
    have E := Lib.hid (show M.insN (1, (0 : Int), a2, xs) [x] vs = [x] by rw [M.insN_one rfl]; rfl)
    have O1 := OI_lit w x
    have B1 : Below w.heap.size w (w.alloc (.cells #[.int .i64 x] 2)) := (Below.refl _ _).alloc (Nat.le_refl _) _
    have lf : bf < w.heap.size := World.block_lt_of_cell? w _ cf0
    have cf1 : w.cell? ⟨bf, of + 0, none⟩ = some (.int .i64 x) := cf0
    clear h1
    go_enter Tryz.func194, Tryz.ntmps194
    go_wp2_with fail
    go_ret
    rw [E.out]
    exact ⟨_, rfl, O1, B1⟩
  · have E := Lib.hid (show M.insN (a0, a1, a2, xs) [x] vs = M.mapI xs vs from M.insN_map h [x] vs)
    have hne : (a0 == 1) = false := by simpa using h
    clear h1
    go_enter Tryz.func194, Tryz.ntmps194
    go_wp2_with fail
    refine (spec_l07Map _ _ _ _ _ _ _ _ _ hx hv hn hnv hr).mono ?_
    rintro e w2 ⟨v4, rfl, own1, bel1⟩
    go_wp2_with fail
    go_ret
    rw [E.out]
    exact ⟨_, rfl, own1, bel1⟩
theorem spec_l08Values (vb vo : Nat) (A1 : Option Addr) (n1 c1 : Nat) (A2 : Option Addr) (n2 c2 : Nat) (Ao : Option Addr) (co : Nat) (sb so : Nat) (AV : Option Addr) (cV : Nat) (ns : List Node) (tb : List (List Int)) (O : List Int) (cs : List (List Int)) (bf of cf : Nat) (x : Int) (w : World)
    (f1 : w.cell? ⟨vb, vo + 1, none⟩ = some (.slice A1 n1 c1)) (f2 : w.cell? ⟨vb, vo + 2, none⟩ = some (.slice A2 n2 c2)) (fs : w.cell? ⟨sb, so, none⟩ = some (.slice AV n2 cV))
    (h1 : RS tS w w.heap.size (.slice A1 n1 c1) tb) (h2 : RS tN w w.heap.size (.slice A2 n2 c2) ns) (h4 : RI w w.heap.size Ao n2 O) {F : Nat → Prop} (hs : RSN F w (.slice AV n2 cV) cs) (hF : M.PF ns tb O) (hx : M.smp x = true) (h0 : 0 < n2) (hnz : hNS.sz ns ≤ 100000000) (hco : M.CO ns cs)
    (cf0 : w.cell? ⟨bf, of, none⟩ = some (.int .i64 x)) :
    Calls Tryz.prog 168 #[.pointer (some ⟨vb, vo, none⟩), .slice Ao n2 co, .pointer (some ⟨sb, so, none⟩), .slice (some ⟨bf, of, none⟩) 1 cf] w (Ret1 2 w (M.vals ns tb [x] O cs)) := by
  have HL2 := Lib.hid h2.cap.1
  have HL1 := Lib.hid h1.cap.1
  have HLO := Lib.hid h4.len
  have hnb : n2 ≤ 24 := by rw [← HL2.out]; exact hF.len
  have hxs : [x].all M.smp = true := by simpa using hx
  have HX := Lib.hid hxs
  have lvb : vb < w.heap.size := World.block_lt_of_cell? w _ f1
  have lsb : sb < w.heap.size := World.block_lt_of_cell? w _ fs
  have lbf : bf < w.heap.size := World.block_lt_of_cell? w _ cf0
  obtain ⟨bo, oo, rfl, hbo, hcO⟩ := ri_lit h4 (by omega)
  have HRP := Lib.hid (show (List.replicate n2 (0 : Int)).all M.smp = true by
    rw [List.all_eq_true]
    intro z hz
    rw [List.eq_of_mem_replicate hz]
    rfl)
  have HCO := Lib.hid hcO
  clear hxs hcO
  go_enter Tryz.func168, Tryz.ntmps168
  go_wp2_with (at_make; refine wpList_mk ei_i64 rfl _ _ rfl n2 _ _ rfl rfl rfl rfl (by omega) (by unfold maxLen; omega) ?_; intro w1 own1 bel1)
  have s1 := bel1.size
  have s1' := (World.ownsRow.lt own1 _ rfl).2
  have ow : OI 2 w.heap.size w1 (.slice (some ⟨w.heap.size, 0, none⟩) n2 n2) (List.replicate n2 0) := by
    unfold OI
    have := toList_madeCells_one (.int .i64 0) n2
    simp only [Nat.mul_one, Value.cells] at own1
    rw [this] at own1
    simpa using own1
  clear own1
  go_loopw [10] (fun i wr => ∃ t : Nat, i = .int .i64 t ∧ t ≤ n2 ∧ OI 2 w.heap.size wr (.slice (some ⟨w.heap.size, 0, none⟩) n2 n2) (M.valN ns tb [x] O cs (List.replicate n2 0) t) ∧ Below w.heap.size w wr ∧ w1.heap.size ≤ wr.heap.size) (fun i _ => n2 - (intOf i).toNat)
  case atStart => exact ⟨0, rfl, by omega, ow, bel1, by omega⟩
  case round =>
    obtain ⟨t, rfl, ht, ov, B, sz⟩ := hrel
    by_cases hlt : t < n2
    · obtain ⟨xn, hxn, eN, eO, hi⟩ := hF.ord (t := t) (by rw [HLO.out]; exact hlt)
      have r1 := M.valN_smp (tb := tb) hF HX.out hco HRP.out t (by rw [HLO.out]; omega)
      have HR := (show M.valN ns tb [x] O cs (List.replicate n2 0) (t + 1) = _ from by rw [M.valN])
      generalize hri : M.ordI O t = i at *
      generalize hrv : M.valN ns tb [x] O cs (List.replicate n2 0) t = V at *
      rw [HL2.out] at hi
      have hok := hF.ok _ _ hxn
      have hfr := hF.fr _ _ hxn
      have hinp := hF.inp _ _ hxn
      have hcx := hco.at_ _ _ hxn
      clear hri hrv
      obtain ⟨bb, o, a0, a1, a2, A6, c6, x3, rfl, hbb, X, e0, e1, e2, e3, hr3, h3b⟩ := node_cell (h2.below B) hnz hi
      obtain rfl : xn = (a0, a1, a2, x3) := Option.some.inj (hxn.symm.trans X.out)
      have hot : O[t]? = some (i : Int) := by
        have h2 : t < O.length := by rw [HLO.out]; exact hlt
        rw [M.i_, List.getElem?_eq_getElem h2] at eO
        rw [List.getElem?_eq_getElem h2]
        exact congrArg some eO
      have co1 : wr.cell? ⟨bo, oo + t, none⟩ = some (.int .i64 (i : Int)) := ri_x (h4.below B) hot
      obtain ⟨bs, os, cV', A', c', s, eV, hbs, -, hs1, hcS, rS, cS⟩ := (hs.chg (grow_chg B)).at (k := i) (by rw [hco.len, HL2.out]; exact hi)
      simp only [Value.slice.injEq] at eV
      obtain ⟨rfl, -, -⟩ := eV
      have hcs : M.cel cs i = s := M.cel_some hs1
      rw [hcs] at hcx
      obtain ⟨y, hy1, hy2, hy3, -, -⟩ := ov.at' (k := i) hi
      have g1 : wr.cell? ⟨vb, vo + 1, none⟩ = some (.slice A1 n1 c1) := by rw [B.cell (by show vb < _; omega)]; exact f1
      have g2 : wr.cell? ⟨vb, vo + 2, none⟩ = some (.slice (some ⟨bb, o, none⟩) n2 c2) := by rw [B.cell (by show vb < _; omega)]; exact f2
      have gs : wr.cell? ⟨sb, so, none⟩ = some (.slice (some ⟨bs, os, none⟩) n2 cV) := by rw [B.cell (by show sb < _; omega)]; exact fs
      have gf : wr.cell? ⟨bf, of, none⟩ = some (.int .i64 x) := by rw [B.cell (by show bf < _; omega)]; exact cf0
      have i0 : (0 : Int) ≤ (i : Int) := by omega
      have i1 : (i : Int) < (n2 : Int) := by omega
      have t0 : (0 : Int) ≤ (t : Int) := by omega
      have t1 : (t : Int) < (n2 : Int) := by omega
      have HCX := Lib.hid hcx
      have HEN := Lib.hid eN
      have HOK := Lib.hid hok
      have HFR := Lib.hid hfr
      have HIL := Lib.hid (M.insN_len (x := (a0, a1, a2, x3)) HOK.out [x] V)
      have HIA := Lib.hid (M.insN_smp (x := (a0, a1, a2, x3)) HX.out r1)
      have HT := Lib.hid (show M.valN ns tb [x] O cs (List.replicate n2 0) (t + 1) = V.set i (M.nOut (a0, a1, a2, x3) tb (M.insN (a0, a1, a2, x3) [x] V) s) by rw [HR, HEN.out, hcs])
      have D1 : Below wr.heap.size wr wr.drew := below_drewN (Below.refl _ _) 1
      have hd0 : wr.drew.heap.size = wr.heap.size := rfl
      have szw := B.size
      have pp1 := cell_regrown g1
      have pps := cell_regrown gs
      have ppc := cell_regrown cS
      have hvU := (ov.below D1).ri'
      generalize hI : M.insN (a0, a1, a2, x3) [x] V = I at *
      clear HR hcx hxn eN hok hfr eO hot hs1 hcs
      go_wp2_with fail
      (refine wp_region_fresh2 [0, 1, 2, 3, 4, 5, 7, 8, 9, 11, 12, 13, 15] [6, 14, 16, 17] 3 (.one 10 (.one 18 (.first 19 .rest))) [20] [20] (by kernel_rfl) (by kernel_rfl) ?_; simp only [pickOps]; simp only [List.filterMap, List.getElem?_cons_succ, List.getElem?_cons_zero]; (repeat (go_big_quiet_step (fail))); refine wpQuiet_nil ?_; (repeat (go_big_quiet_step (fail))); refine wpQuiet_nil ?_)
      refine seqT_one2 rfl ?_
      go_wp2_with fail
      refine (spec_l08In bb (o + i * 4) a0 a1 _ _ c6 x3 bf of cf x _ n2 _ V a2 _ (show wr.drew.cell? _ = _ from e0) (show wr.drew.cell? _ = _ from e1) (show wr.drew.cell? _ = _ from e3) (show wr.drew.cell? _ = _ from gf) hvU ((hr3.more (by omega)).later D1) (by omega) (by omega) (fun e => hinp e) (Lib.hid (fun f hf => by have := HFR.out f hf; rw [HL2.out] at this; exact this))).mono ?_
      rintro e w2 ⟨v4, rfl, own1, bel2⟩
      rw [hI] at own1
      obtain ⟨A4, c4, rfl, hri4⟩ := own1.shape
      have B2 := bel_trans D1 bel2
      have s2 := bel2.size
      go_wp2_with fail
      refine ⟨regrown_of_below B2, ?_⟩
      refine seqT_one2 rfl ?_
      have e0' : w2.cell? ⟨bb, o + i * 4, none⟩ = some (.int .i64 a0) := by rw [B2.cell (by show bb < _; omega)]; exact e0
      have e1' : w2.cell? ⟨bb, o + i * 4 + 1, none⟩ = some (.int .i64 a1) := by rw [B2.cell (by show bb < _; omega)]; exact e1
      go_wp2_with fail
      refine (spec_l06Out bb (o + i * 4) a0 a1 a2 x3 _ _ c1 tb _ _ c4 I _ _ c' s _ ((h1.below (B.trans (B2.mono (by omega)))).more (by omega)) hF.tabs hri4 (rS.below B2).1 (by omega) (by rw [← HL1.out]; exact HOK.out) HIL.out HIA.out HCX.out.1 HCX.out.2 e0' e1').mono ?_
      rintro e w3 ⟨rfl, bel3⟩
      have B3 := bel_trans B2 bel3
      have s3 := bel3.size
      go_wp2_with fail
      refine ⟨regrown_of_below B3, ?_⟩
      (refine seqT_first2 rfl ?_; (repeat (go_big_quiet_step (fail))); refine wpQuiet_nil ?_)
      refine seqT_rest2 ?_
      have zv : w3.cell? ⟨w.heap.size, i, none⟩ = some (.int .i64 y) := by rw [B3.cell (by show w.heap.size < _; omega)]; exact hy2
      have zf : w3.frozen? ⟨w.heap.size, i, none⟩ = false := by rw [B3.frozen (by show w.heap.size < _; omega)]; exact hy3
      generalize hOut : M.nOut (a0, a1, a2, x3) tb I s = out at *
      go_wp2_with fail
      refine ⟨⟨t + 1, by go_num, by omega, ?_, ((B.trans (B3.mono (by omega))).setCell (by simp) _), by simp; omega⟩, by simp [intOf]; omega⟩
      rw [HT.out]
      exact (ov.below B3).stored' i out
    · obtain rfl : t = n2 := by omega
      go_wp2_with fail
      go_ret
      refine ⟨_, rfl, ?_, B⟩
      rw [M.vals, HLO.out, HL2.out]
      exact ov
theorem M.next_take (ns : List Node) (tb : List (List Int)) (fr O : List Int) (cs : List (List Int)) {k : Nat} (hk : k < ns.length) :
    (M.next_ ns tb fr O cs).take (k + 1) = (M.next_ ns tb fr O cs).take k ++ [M.nNext (M.node ns k) (M.insN (M.node ns k) fr (M.vals ns tb fr O cs)) (M.cel cs k) (M.i_ (M.vals ns tb fr O cs) k)] := by
  rw [M.take_at]
  simp [M.next_, hk]
theorem RSN.of_os {F G : Nat → Prop} {e : TypeId} {w : World} {v : Value} {cs : List (List Int)} (h : OS tS e w G v cs) (hF : ∀ k, F k → ¬ G k) : RSN F w v cs := by
  have h2 := h
  obtain ⟨css, Fs, h1, _, h3, _⟩ := h
  exact RSN.of_cr (CR.of_os (base := 0) h2 (fun k hk hG => absurd hG (hF k hk)) (fun _ _ => Nat.zero_le _)) (fun k hk hf => hF k hf (h3 k hk))
theorem spec_l08Step (vb vo : Nat) (A1 : Option Addr) (n1 c1 : Nat) (A2 : Option Addr) (n2 c2 : Nat) (sb : Nat) (AV : Option Addr) (cV : Nat) (ns : List Node) (tb : List (List Int)) (O : List Int) (cs : List (List Int)) (bf of cf : Nat) (x : Int) (Av : Option Addr) (cv : Nat) (w : World)
    (f1 : w.cell? ⟨vb, vo + 1, none⟩ = some (.slice A1 n1 c1)) (f2 : w.cell? ⟨vb, vo + 2, none⟩ = some (.slice A2 n2 c2)) (fs : w.cell? ⟨sb, 0, none⟩ = some (.slice AV n2 cV)) (ff : w.frozen? ⟨sb, 0, none⟩ = false)
    (h1 : RS tS w w.heap.size (.slice A1 n1 c1) tb) (h2 : RS tN w w.heap.size (.slice A2 n2 c2) ns) {F : Nat → Prop} (hs : RSN F w (.slice AV n2 cV) cs) (hv : RI w w.heap.size Av n2 (M.vals ns tb [x] O cs)) (hF : M.PF ns tb O) (hx : M.smp x = true) (hnz : hNS.sz ns ≤ 100000000) (hco : M.CO ns cs)
    (cf0 : w.cell? ⟨bf, of, none⟩ = some (.int .i64 x)) :
    Calls Tryz.prog 169 #[.pointer (some ⟨vb, vo, none⟩), .pointer (some ⟨sb, 0, none⟩), .slice (some ⟨bf, of, none⟩) 1 cf, .slice Av n2 cv] w fun e w' => e = .returned (.tuple #[]) ∧ ∃ v, w'.cell? ⟨sb, 0, none⟩ = some v ∧ w'.frozen? ⟨sb, 0, none⟩ = false ∧ (∀ G : Nat → Prop, (∀ k, G k → k < w.heap.size) → RSN G w' v (M.next_ ns tb [x] O cs)) ∧ Chg (fun k => k = sb) w w' := by
  have HL2 := Lib.hid h2.cap.1
  have HL1 := Lib.hid h1.cap.1
  have HCL := Lib.hid hco.len
  have hnb : n2 ≤ 24 := by rw [← HL2.out]; exact hF.len
  have hxs : [x].all M.smp = true := by simpa using hx
  have HX := Lib.hid hxs
  have HVS := Lib.hid (M.vals_smp (fr := [x]) hF hxs hco)
  have lvb : vb < w.heap.size := World.block_lt_of_cell? w _ f1
  have lsb : sb < w.heap.size := World.block_lt_of_cell? w _ fs
  have lbf : bf < w.heap.size := World.block_lt_of_cell? w _ cf0
  have hnl := Lib.hid (show (M.next_ ns tb [x] O cs).length = n2 by rw [M.next_, List.length_map, List.length_range]; exact HL2.out)
  have O0 : OS tS 24 (w.alloc (.cells #[] 24)) (Iv w.heap.size (w.alloc (.cells #[] 24)).heap.size) (.slice (some ⟨w.heap.size, 0, none⟩) 0 0) [] :=
    ⟨[], fun _ _ => False, own_base (World.ownsRow_made _ _ _ (Nat.le_refl _) (by simp [maxLen]) rfl) (Nat.zero_le _), rfl, fun g hg => by simp only [Value.ownBlock, Option.some.injEq] at hg; exact ⟨by omega, by simp; omega⟩, fun _ _ h => h.elim, fun _ _ _ _ h => h.elim, fun k h => by simp at h⟩
  have BX : Below w.heap.size w (w.alloc (.cells #[] 24)) := (Below.refl _ _).alloc (Nat.le_refl _) _
  clear hxs
  go_enter Tryz.func169, Tryz.ntmps169
  go_wp2_with fail
  go_loopw [8, 9] (fun v i wr => ∃ k : Nat, i = .int .i64 k ∧ k ≤ n2 ∧ OS tS 24 wr (Iv w.heap.size wr.heap.size) v ((M.next_ ns tb [x] O cs).take k) ∧ Below w.heap.size w wr) (fun _ i _ => n2 - (intOf i).toNat)
  case atStart => exact ⟨0, rfl, by omega, O0, BX⟩
  case round =>
    obtain ⟨k, rfl, hk, own, B⟩ := hrel
    have g2 : wr.cell? ⟨vb, vo + 2, none⟩ = some (.slice A2 n2 c2) := by rw [B.cell (by show vb < _; omega)]; exact f2
    have gs : wr.cell? ⟨sb, 0, none⟩ = some (.slice AV n2 cV) := by rw [B.cell (by show sb < _; omega)]; exact fs
    have gsf : wr.frozen? ⟨sb, 0, none⟩ = false := by rw [B.frozen (by show sb < _; omega)]; exact ff
    by_cases hlt : k < n2
    · have hxn := M.node_lt (ns := ns) (i := k) (by rw [HL2.out]; exact hlt)
      obtain ⟨xn, hN⟩ : ∃ xn, M.node ns k = xn := ⟨_, rfl⟩
      have HT := Lib.hid (M.next_take ns tb [x] O cs (k := k) (by rw [HL2.out]; exact hlt))
      rw [hN] at hxn HT
      have hok := hF.ok _ _ hxn
      have hfr := hF.fr _ _ hxn
      have hinp := hF.inp _ _ hxn
      have hcx := hco.at_ _ _ hxn
      obtain ⟨bb, o, a0, a1, a2, A6, c6, x3, rfl, hbb, X, e0, e1, e2, e3, hr3, h3b⟩ := node_cell (h2.below B) hnz hlt
      obtain rfl : xn = (a0, a1, a2, x3) := Option.some.inj (hxn.symm.trans X.out)
      obtain ⟨bs, os, cV', A', c', s, eV, hbs, -, hs1, hcS, rS, cS⟩ := (hs.chg (grow_chg B)).at (k := k) (by rw [HCL.out, HL2.out]; exact hlt)
      simp only [Value.slice.injEq] at eV
      obtain ⟨rfl, -, -⟩ := eV
      have hcs : M.cel cs k = s := M.cel_some hs1
      rw [hcs] at hcx HT
      obtain ⟨bV, oV, rfl, hbV, hcV⟩ := ri_lit hv (by omega)
      have hVl : (M.vals ns tb [x] O cs).length = n2 := hv.len
      have hvk : (M.vals ns tb [x] O cs)[k]? = some (M.i_ (M.vals ns tb [x] O cs) k) := by rw [M.i_, List.getElem?_eq_getElem (by omega)]; rfl
      have cv1 : wr.cell? ⟨bV, oV + k, none⟩ = some (.int .i64 (M.i_ (M.vals ns tb [x] O cs) k)) := by rw [B.cell (by show bV < _; omega)]; exact hcV k _ hvk
      -- the value is the node's output
      obtain ⟨u, hu, hou⟩ := hF.top.all (j := k) (by rw [HL2.out]; exact hlt)
      have hout := M.vals_at (tb := tb) (fr := [x]) hF.top cs hu
      rw [hou, hN, hcs] at hout
      generalize hV : M.vals ns tb [x] O cs = V at *
      have gf : wr.cell? ⟨bf, of, none⟩ = some (.int .i64 x) := by rw [B.cell (by show bf < _; omega)]; exact cf0
      have k0 : (0 : Int) ≤ (k : Int) := by omega
      have k1 : (k : Int) < (n2 : Int) := by omega
      have HCX := Lib.hid hcx
      have HOK := Lib.hid hok
      have HFR := Lib.hid hfr
      have HIL := Lib.hid (M.insN_len (x := (a0, a1, a2, x3)) HOK.out [x] V)
      have HIA := Lib.hid (M.insN_smp (x := (a0, a1, a2, x3)) HX.out HVS.out)
      have D1 : Below wr.heap.size wr wr.drew := below_drewN (Below.refl _ _) 1
      have hd0 : wr.drew.heap.size = wr.heap.size := rfl
      have szw := B.size
      have pps := cell_regrown gs
      have ppc := cell_regrown cS
      have ppv := cell_regrown cv1
      have hvU := (hv.below (B.trans (D1.mono (by omega)))).more (show w.heap.size ≤ wr.drew.heap.size by omega)
      generalize hI : M.insN (a0, a1, a2, x3) [x] V = I at *
      generalize hov : M.i_ V k = ov at *
      have HOV := Lib.hid hout
      have hxl : ((M.next_ ns tb [x] O cs).take k).length ≤ 1000000 := by rw [List.length_take]; omega
      clear hcx hxn hok hfr hs1 hcs hN hout hou hu hVl hvk hcV hov
      go_wp2_with fail
      (refine wp_region_fresh2 [0, 1, 2, 3, 4, 6, 7, 8, 10, 13, 14, 15] [9, 11, 12, 16] 3 (.one 5 (.one 17 (.one 18 .rest))) [19] [19, 20] (by kernel_rfl) (by kernel_rfl) ?_; simp only [pickOps]; simp only [List.filterMap, List.getElem?_cons_succ, List.getElem?_cons_zero]; (repeat (go_big_quiet_step (fail))); refine wpQuiet_nil ?_; (repeat (go_big_quiet_step (fail))); refine wpQuiet_nil ?_)
      refine seqT_one2 rfl ?_
      go_wp2_with fail
      refine (spec_l08In bb (o + k * 4) a0 a1 _ _ c6 x3 bf of cf x _ n2 _ V a2 _ (show wr.drew.cell? _ = _ from e0) (show wr.drew.cell? _ = _ from e1) (show wr.drew.cell? _ = _ from e3) (show wr.drew.cell? _ = _ from gf) hvU ((hr3.more (by omega)).later D1) (by omega) (by omega) (fun e => hinp e) (Lib.hid (fun f hf => by have := HFR.out f hf; rw [HL2.out] at this; exact this))).mono ?_
      rintro e w2 ⟨v4, rfl, own1, bel2⟩
      rw [hI] at own1
      obtain ⟨A4, c4, rfl, hri4⟩ := own1.shape
      have B2 := bel_trans D1 bel2
      have s2 := bel2.size
      go_wp2_with fail
      refine ⟨regrown_of_below B2, ?_⟩
      refine seqT_one2 rfl ?_
      have e0' : w2.cell? ⟨bb, o + k * 4, none⟩ = some (.int .i64 a0) := by rw [B2.cell (by show bb < _; omega)]; exact e0
      go_wp2_with fail
      have hnx := spec_l06Next bb (o + k * 4) a0 a1 a2 x3 _ _ c1 tb _ _ c4 I _ _ c' s _ ((h1.below (B.trans (B2.mono (by omega)))).more (by omega)) hF.tabs hri4 (rS.below B2).1 (by omega) (by rw [← HL1.out]; exact HOK.out) HIL.out HIA.out HCX.out.1 HCX.out.2 e0'
      rw [← HOV.out] at hnx
      refine hnx.mono ?_
      clear hnx
      rintro e w3 ⟨v5, rfl, own2, bel3⟩
      generalize hNx : M.nNext (a0, a1, a2, x3) I s ov = nx at *
      obtain ⟨A5, c5, rfl, -⟩ := own2.shape
      have B3 := bel_trans B2 bel3
      have s3 := bel3.size
      have os2 := tS_O.2 (OI.os own2)
      have own3 := own.below B3 (Nat.le_refl _)
      go_wp2_with fail
      refine ⟨regrown_of_below B3, ?_⟩
      refine seqT_one2 rfl ?_
      go_wp2_with fail
      refine ⟨regrown_of_below (bel_trans B3 ((Below.refl _ _).alloc (Nat.le_refl _) _)), ?_⟩
      refine seqT_rest2 ?_
      go_wp2_with (at_builtin; refine wpList_pushS ei_S #[.slice A5 nx.length c5] rfl _ _ rfl own3 os2 (Iv.apart (by omega)) rfl rfl (by unfold maxLen; omega) (by omega) ?_; intro v3 w4 own4 ch4)
      have s4 := ch4.size
      refine ⟨⟨k + 1, by go_num, by omega, ?_, (B.trans (B3.mono (by omega))).trans (ch4.toBelow (fun b hb => by have := hb.1; omega) (by omega))⟩, by simp [intOf]; omega⟩
      rw [HT.out]
      refine own4.wide (fun b hb => ?_)
      rcases hb with hb | hb | hb
      · exact ⟨hb.1, by have := hb.2; omega⟩
      · exact ⟨by have := hb.1; omega, by have := hb.2; omega⟩
      · exact ⟨by omega, by omega⟩
    · obtain rfl : k = n2 := by omega
      rw [List.take_of_length_le (by rw [hnl.out]; exact Nat.le_refl _)] at own
      obtain ⟨A5, c5, e5⟩ := own.shape
      rw [hnl.out] at e5
      subst e5
      have szw := B.size
      go_wp2_with fail
      go_end0
      refine ⟨rfl, _, World.cell?_setCell_same (h := gs) .., by simp [go_sem, gsf], fun G hG => ?_, (grow_chg B).trans (Chg.set wr sb 0 _ rfl)⟩
      exact RSN.of_os (own.chg (Chg.set (F := fun k => k = sb) wr sb 0 _ rfl) (fun b hb (e : b = sb) => by have := hb.1; omega)) (fun b hG2 hb => by have := hb.1; have := hG b hG2; omega)
end Go.Proofs.YtffhodocjjkkoaaGreat
