import Derived.Test.YtffhodocjjkkoaaGreatFnExactStripsOfG11
import Derived.Test.YtffhodocjjkkoaaGreatFnExactStripsOfG8
import Derived.Lib.QuietBelow
import Derived.BigQuiet
import Derived.StillTailTactics
import Derived.Deep.RegionWith
import Derived.Test.YtffhodocjjkkoaaGreatFnExactStripsOfG6
import Derived.Deep.RegionHeld3
set_option linter.unusedVariables false
set_option linter.unusedSimpArgs false
namespace Go.Proofs.YtffhodocjjkkoaaGreat
open Go.RowKit Go.Sort
set_option maxHeartbeats 4000000
set_option maxRecDepth 100000
set_option linter.unusedVariables false
set_option linter.unusedSimpArgs false
theorem OS.one {e : TypeId} {w : World} {lo hi : Nat} {v : Value} {x : List Int} (h : OS tS e w (Iv lo hi) v [x]) :
    ∃ bo cO vo, v = .slice (some ⟨bo, 0, none⟩) 1 cO ∧ lo ≤ bo ∧ bo < w.heap.size ∧ w.cell? ⟨bo, 0, none⟩ = some vo ∧ w.frozen? ⟨bo, 0, none⟩ = false ∧ OI 2 lo w vo x ∧ vo.ownBlock ≠ some bo := by
  obtain ⟨A, c, rfl⟩ := h.shape
  obtain ⟨css, Fs, hO, cs, hcs, ho⟩ := h.open (k := 0) (by simp)
  obtain ⟨g, rfl, hF, hn, hg, -⟩ := hO.form (by simp)
  obtain ⟨vo, rfl, hvo⟩ := ho
  have hc := hO.cell hcs (j := 0) (u := vo) rfl
  rw [Nat.zero_mul, Nat.add_zero] at hc
  refine ⟨g, c, vo, rfl, hF.1, hg, hc.1, hc.2, (hvo.wide (F' := Iv lo hi) hO.fits).oi, fun e => hn (hvo.lt g e).1⟩
theorem RSN.more {F F' : Nat → Prop} {w : World} {v : Value} {cs : List (List Int)} (h : RSN F w v cs) (hF : ∀ k, F' k → F k ∨ w.heap.size ≤ k) : RSN F' w v cs := by
  obtain ⟨A, c, us, rfl, h1, h2, h3, h4, h5, h6⟩ := h
  refine ⟨A, c, us, rfl, h1, h2, h3, h4, fun ad hn he hf => ?_, fun k x hx => ?_⟩
  · obtain ⟨ad', e', hb, _⟩ := h4.2 hn
    rw [he] at e'
    injection e' with e'
    subst e'
    rcases hF _ hf with h | h
    · exact h5 ad hn he h
    · omega
  · obtain ⟨A', c', e1, e2, e3⟩ := h6 k x hx
    exact ⟨A', c', e1, e2, e3.more hF⟩
theorem spec_l08Block (vb vo : Nat) (A1 : Option Addr) (n1 c1 : Nat) (A2 : Option Addr) (n2 c2 : Nat) (A3 : Option Addr) (c3 : Nat) (sb : Nat) (v0 : Value) (ns : List Node) (tb : List (List Int)) (o : Int) (bi oi ci : Nat) (A : Option Addr) (m c : Nat) (xs : List Int) (n : Nat) (w : World)
    (f1 : w.cell? ⟨vb, vo + 1, none⟩ = some (.slice A1 n1 c1)) (f2 : w.cell? ⟨vb, vo + 2, none⟩ = some (.slice A2 n2 c2)) (f3 : w.cell? ⟨vb, vo + 3, none⟩ = some (.slice A3 1 c3)) (fs : w.cell? ⟨sb, 0, none⟩ = some v0) (ff : w.frozen? ⟨sb, 0, none⟩ = false) (hvs : vb ≠ sb)
    {L : Nat} (hL : L ≤ sb) (h1 : RS tS w L (.slice A1 n1 c1) tb) (h2 : RS tN w L (.slice A2 n2 c2) ns) (h3 : RI w L A3 1 [o]) (hs : RSN (fun k => k = sb) w v0 (ns.map M.start)) (hF : M.PF ns tb (M.ord ns)) (ho : 0 ≤ o ∧ o < n2) (hnz : hNS.sz ns ≤ 100000000)
    (ci0 : w.cell? ⟨bi, oi, none⟩ = some (.slice A m c)) (hbi : bi ≠ sb) (hx : RI w L A m xs) (hxs : xs.all M.smp = true) (hm : m ≤ 1000000) (hn : n ≤ 4000) :
    Calls Tryz.prog 137 #[.pointer (some ⟨vb, vo, none⟩), .pointer (some ⟨sb, 0, none⟩), .slice (some ⟨bi, oi, none⟩) 1 ci, .int .i64 0, .int .i64 n] w fun e w' => ∃ (g c' : Nat) (A' : Option Addr) (c'' : Nat), e = .returned (.slice (some ⟨g, 0, none⟩) 1 c') ∧ w'.cell? ⟨g, 0, none⟩ = some (.slice A' n c'') ∧ RI w' w'.heap.size A' n (M.playO ns tb (M.ord ns) xs o n) ∧ Chg (fun k => k = sb) w w' := by
  have HL2 := Lib.hid h2.cap.1
  have hnb : n2 ≤ 24 := by rw [← HL2.out]; exact hF.len
  have lvb : vb < w.heap.size := World.block_lt_of_cell? w _ f1
  have lsb : sb < w.heap.size := World.block_lt_of_cell? w _ fs
  have lbi : bi < w.heap.size := World.block_lt_of_cell? w _ ci0
  have HXS := Lib.hid hxs
  have hx1 := Lib.hid hx.len
  have HO := Lib.hid hF.top.len
  clear hxs
  go_enter Tryz.func137, Tryz.ntmps137
  go_wp2_with fail
  refine (spec_l07Order vb vo _ _ c2 ns w f2 (h2.more (by omega)) hnz).mono ?_
  rintro e w1 ⟨vO, rfl, own1, bel1⟩
  replace own1 := own1 HO.out
  have hln : (M.ord ns).length = n2 := by rw [HO.out, HL2.out]
  obtain ⟨AO, cO_, eO, -⟩ := own1.shape
  rw [hln] at eO
  subst eO
  have s1 := bel1.size
  have O0 : OS tS 24 (w1.alloc (.cells #[] 24)) (Iv w1.heap.size (w1.alloc (.cells #[] 24)).heap.size) (.slice (some ⟨w1.heap.size, 0, none⟩) 0 0) [] :=
    ⟨[], fun _ _ => False, own_base (World.ownsRow_made _ _ _ (Nat.le_refl _) (by simp [maxLen]) rfl) (Nat.zero_le _), rfl, fun g hg => by simp only [Value.ownBlock, Option.some.injEq] at hg; exact ⟨by omega, by simp; omega⟩, fun _ _ h => h.elim, fun _ _ _ _ h => h.elim, fun k h => by simp at h⟩
  have BX : Below w1.heap.size w1 (w1.alloc (.cells #[] 24)) := (Below.refl _ _).alloc (Nat.le_refl _) _
  have hdec : (decide ((M.ord ns).length = ns.length)) = true := by simpa using HO.out
  have HLN := Lib.hid hln
  clear hln hdec
  go_wp2_with fail
  go_loopw [13, 14] (fun v i wr => ∃ k : Nat, i = .int .i64 k ∧ k ≤ 1 ∧ OS tS 24 wr (Iv w1.heap.size wr.heap.size) v ((List.replicate 1 []).take k) ∧ Below w1.heap.size w1 wr) (fun _ i _ => 1 - (intOf i).toNat)
  case atStart => exact ⟨0, rfl, by omega, O0, BX⟩
  case round =>
    obtain ⟨k, rfl, hk, own, B⟩ := hrel
    have g3 : wr.cell? ⟨vb, vo + 3, none⟩ = some (.slice A3 1 c3) := by rw [(bel1.trans (B.mono s1)).cell (by show vb < _; omega)]; exact f3
    rcases Nat.lt_or_ge k 1 with hlt | hge
    · obtain rfl : k = 0 := by omega
      have M1 := OI.made 2 wr
      have BY : Below wr.heap.size wr (wr.alloc (.cells #[] 2)) := (Below.refl _ _).alloc (Nat.le_refl _) _
      have own2 := own.below BY (Nat.le_refl _)
      have os2 := tS_O.2 (OI.os M1)
      have hsz : (wr.alloc (.cells #[] 2)).heap.size = wr.heap.size + 1 := by simp
      have HSZ := Lib.hid hsz
      have sB := B.size
      clear hsz
      go_wp2_with (at_builtin; refine wpList_pushS ei_S #[.slice (some ⟨wr.heap.size, 0, none⟩) 0 0] rfl _ _ rfl own2 os2 (Iv.apart (Nat.le_refl _)) rfl (by rw [HSZ.out]; rfl) (by simp [maxLen]) (by simp) ?_; intro v3 w4 own4 ch4)
      have s4 := ch4.size
      rw [HSZ.out] at s4
      go_roundw
      case rel =>
        refine ⟨1, by go_num, by omega, ?_, (B.trans (BY.mono sB)).trans (ch4.toBelow (fun b hb => hb.1) (by rw [HSZ.out]; omega))⟩
        refine own4.wide (fun b hb => ?_)
        rw [HSZ.out] at hb
        rcases hb with hb | hb | hb
        · exact ⟨hb.1, by have := hb.2; omega⟩
        · exact ⟨by have := hb.1; omega, by have := hb.2; omega⟩
        · exact ⟨by omega, by omega⟩
      case measure => simp [intOf]
    · obtain rfl : k = 1 := by omega
      rw [show ((1 : Nat) : Int) = 1 from rfl]
      obtain ⟨bo, cO, vo0, rfl, hbo1, hbo2, cb, fb, oo, hne⟩ := OS.one own
      have BW := bel1.trans (B.mono s1)
      have sB := B.size
      have fs1 : wr.cell? ⟨sb, 0, none⟩ = some v0 := by rw [BW.cell (by show sb < _; omega)]; exact fs
      have ff1 : wr.frozen? ⟨sb, 0, none⟩ = false := by rw [BW.frozen (by show sb < _; omega)]; exact ff
      obtain ⟨W, rfl⟩ : ∃ W : World, W = wr := ⟨_, rfl⟩
      have s0 : RSN (fun k => k = sb ∨ k = bo ∨ vo0.ownBlock = some k) W v0 (ns.map M.start) := (hs.more (fun k hk => by
        rcases hk with h | h | h
        · exact .inl h
        · exact .inr (by omega)
        · exact .inr (by have := (World.ownsRow.lt oo _ h).1; omega))).below BW
      have hbl : RN (fun k => k = sb ∨ w1.heap.size ≤ k) W AO n2 (M.ord ns) := ((RN.of_oi own1 (F := fun k => k = sb) (fun k hk => by omega)).more (F' := fun k => k = sb ∨ w1.heap.size ≤ k) (fun k hk => hk)).below B
      have C0 : Chg (fun k => k = sb) w W := grow_chg BW
      have HI := Lib.hid hF
      clear own O0 BX hk own1
      go_wp2_with fail
      go_loopw [15] (fun i wr => ∃ t : Nat, i = .int .i64 t ∧ t ≤ n ∧ ∃ (vs_ vo : Value), Chg (fun k => k = sb) w wr ∧ W.heap.size ≤ wr.heap.size ∧ RN (fun k => k = sb ∨ w1.heap.size ≤ k) wr AO n2 (M.ord ns) ∧ wr.cell? ⟨sb, 0, none⟩ = some vs_ ∧ wr.frozen? ⟨sb, 0, none⟩ = false ∧ RSN (fun k => k = sb ∨ k = bo ∨ vo.ownBlock = some k) wr vs_ (M.celsN ns tb (M.ord ns) xs t) ∧
        wr.cell? ⟨bo, 0, none⟩ = some vo ∧ wr.frozen? ⟨bo, 0, none⟩ = false ∧ OI 2 w1.heap.size wr vo (M.playO ns tb (M.ord ns) xs o t) ∧ vo.ownBlock ≠ some bo) (fun i _ => n - (intOf i).toNat)
      case atStart => exact ⟨0, rfl, by omega, v0, vo0, C0, Nat.le_refl _, hbl, fs1, ff1, s0, cb, fb, oo, hne⟩
      case round =>
        clear s0 hbl fs1 ff1 cb fb oo hne C0
        obtain ⟨t, rfl, ht, vs_, vo_, hch, hsz, hO, fs1, ff1, rs, cb, fb, oo, hne⟩ := hrel
        obtain ⟨wo, rfl⟩ : ∃ wo : World, wo = wr := ⟨_, rfl⟩
        have hso := hch.size
        have hvob : ∀ k, vo_.ownBlock = some k → k < wo.heap.size := fun k hk => (World.ownsRow.lt oo _ hk).2
        have BL : Below L w wo := hch.toBelow (fun k hk => by omega) (by omega)
        have hrsl : (M.celsN ns tb (M.ord ns) xs t).length = n2 := by rw [(M.celsN_ok hF HXS.out t).len, HL2.out]
        obtain ⟨AV, cV, eV⟩ := rs.shape
        rw [hrsl] at eV
        subst eV
        have g1 : wo.cell? ⟨vb, vo + 1, none⟩ = some (.slice A1 n1 c1) := by rw [hch.cell lvb hvs]; exact f1
        have g2 : wo.cell? ⟨vb, vo + 2, none⟩ = some (.slice A2 n2 c2) := by rw [hch.cell lvb hvs]; exact f2
        have g3 : wo.cell? ⟨vb, vo + 3, none⟩ = some (.slice A3 1 c3) := by rw [hch.cell lvb hvs]; exact f3
        have gi : wo.cell? ⟨bi, oi, none⟩ = some (.slice A m c) := by rw [hch.cell lbi hbi]; exact ci0
        by_cases hlt : t < n
        · have HC := M.celsN_ok hF HXS.out t
          have HS := Lib.hid (M.playO_snoc ns tb (M.ord ns) xs o t)
          have HN := Lib.hid (show M.celsN ns tb (M.ord ns) xs (t + 1) = M.next_ ns tb [M.at_ xs (t : Int)] (M.ord ns) (M.celsN ns tb (M.ord ns) xs t) from rfl)
          have HW := Lib.hid (show M.valsN ns tb (M.ord ns) xs t = M.vals ns tb [M.at_ xs (t : Int)] (M.ord ns) (M.celsN ns tb (M.ord ns) xs t) from rfl)
          have HVL := Lib.hid (M.valsN_smp hF HXS.out t)
          have hax := M.at_smp HXS.out (t : Int)
          have t0 : (0 : Int) ≤ (t : Int) := by omega
          have t1 : (t : Int) < (n : Int) := by omega
          have hxo := (hx.below BL).more (show L ≤ wo.heap.size by omega)
          obtain ⟨cy, hcy⟩ : ∃ cy, cy = M.at_ xs (t : Int) := ⟨_, rfl⟩
          rw [← hcy] at HN HW hax
          have HCY := Lib.hid hcy
          clear hrsl hcy
          go_wp2_with fail
          go_loopw [16, 17] (fun v i wr => ∃ k : Nat, i = .int .i64 k ∧ k ≤ 1 ∧ OI 2 wo.heap.size wr v ([cy].take k) ∧ Below wo.heap.size wo wr) (fun _ i _ => 1 - (intOf i).toNat)
          case atStart => exact ⟨0, rfl, by omega, OI.made _ _, (Below.refl _ _).alloc (Nat.le_refl _) _⟩
          case round =>
            obtain ⟨k, rfl, hk, own, B3⟩ := hrel
            have s3 := B3.size
            rcases Nat.lt_or_ge k 1 with hlt | hge
            · obtain rfl : k = 0 := by omega
              have gi3 : wr.cell? ⟨bi, oi, none⟩ = some (.slice A m c) := by rw [B3.cell (by show bi < _; omega)]; exact gi
              go_wp2_with fail
              refine (spec_l03At _ _ _ xs _ _ (hxo.later B3) (by omega)).mono ?_
              rw [← HCY.out]
              rintro e w' ⟨rfl, rfl⟩
              go_wp2_with (at_builtin; refine wpList_push1 ei_i64 rfl _ _ rfl own rfl rfl rfl (by simp [maxLen]) (by simp) s3 ?_; intro v5 w5 own5 gr5 bel5)
              go_roundw
              case rel => exact ⟨1, by go_num, by omega, OI.push own5, B3.trans bel5⟩
              case measure => simp [intOf]
            · obtain rfl : k = 1 := by omega
              rw [show ((1 : Nat) : Int) = 1 from rfl]
              replace own : OI 2 wo.heap.size wr _ [cy] := own
              obtain ⟨bf, cf, e2, hbf1, hbf2⟩ := own.form (by simp)
              rw [List.length_singleton] at e2
              subst e2
              have cfc : wr.cell? ⟨bf, 0, none⟩ = some (.int .i64 cy) := by rw [World.ownsRow.cellAt own 0 (by simp)]; rfl
              have hO3 := hO.below B3
              have rs3 := rs.below B3
              have q1 : wr.cell? ⟨vb, vo + 1, none⟩ = some (.slice A1 n1 c1) := by rw [B3.cell (by show vb < _; omega)]; exact g1
              have q2 : wr.cell? ⟨vb, vo + 2, none⟩ = some (.slice A2 n2 c2) := by rw [B3.cell (by show vb < _; omega)]; exact g2
              have q3 : wr.cell? ⟨vb, vo + 3, none⟩ = some (.slice A3 1 c3) := by rw [B3.cell (by show vb < _; omega)]; exact g3
              have qs : wr.cell? ⟨sb, 0, none⟩ = some (.slice AV n2 cV) := by rw [B3.cell (by show sb < _; omega)]; exact fs1
              have qsf : wr.frozen? ⟨sb, 0, none⟩ = false := by rw [B3.frozen (by show sb < _; omega)]; exact ff1
              have qb : wr.cell? ⟨bo, 0, none⟩ = some vo_ := by rw [B3.cell (by show bo < _; omega)]; exact cb
              have qbf : wr.frozen? ⟨bo, 0, none⟩ = false := by rw [B3.frozen (by show bo < _; omega)]; exact fb
              have oo3 := oo.below B3
              have BL3 := BL.trans (B3.mono (by omega))
              clear g1 g2 g3 gi fs1 ff1 cb fb oo rs own hO
              go_wp2_with fail
              refine (spec_l08Values vb vo _ _ c1 _ _ c2 _ cO_ sb 0 AV cV ns tb (M.ord ns) _ bf 0 cf cy _ q1 q2 qs ((h1.below BL3).more (by omega)) ((h2.below BL3).more (by omega)) hO3.1 rs3 hF hax (by omega) hnz HC cfc).mono ?_
              rw [← HW.out]
              rintro e w4 ⟨v4, rfl, own4, bel4⟩
              have s4 := bel4.size
              have hvl : (M.valsN ns tb (M.ord ns) xs t).length = n2 := by rw [M.valsN, M.vals_len]; exact HL2.out
              obtain ⟨A4, c4, e4, hri4⟩ := own4.shape
              rw [hvl] at e4 hri4
              subst e4
              have HVN := Lib.hid hvl
              have RN4 : RN (fun b => b = bo ∨ vo_.ownBlock = some b) w4 A4 n2 (M.valsN ns tb (M.ord ns) xs t) := RN.of_oi own4 (fun k hk => by
                rcases hk with h | h
                · omega
                · exact (World.ownsRow.lt oo3 _ h).2)
              clear hvl
              obtain ⟨b4, o4, rfl, hb4, hc4⟩ := ri_lit hri4 (by omega)
              obtain ⟨j, rfl⟩ : ∃ j : Nat, o = (j : Int) := ⟨o.toNat, by omega⟩
              obtain ⟨x4, hx4⟩ : ∃ x4, x4 = M.i_ (M.valsN ns tb (M.ord ns) xs t) j := ⟨_, rfl⟩
              have hvj : (M.valsN ns tb (M.ord ns) xs t)[j]? = some x4 := by
                rw [hx4, M.i_, List.getElem?_eq_getElem (by rw [HVN.out]; omega)]; rfl
              have cx4 := hc4 j x4 hvj
              have HS2 := Lib.hid (show M.playO ns tb (M.ord ns) xs (j : Int) (t + 1) = M.playO ns tb (M.ord ns) xs (j : Int) t ++ [x4] by rw [HS.out, hx4, Int.toNat_natCast])
              have hq3 := (h3.below (BL3.trans (bel4.mono (by omega))))
              obtain ⟨b3, o3, rfl, hb3, hc3_⟩ := ri_lit hq3 (by omega)
              have c3o : w4.cell? ⟨b3, o3, none⟩ = some (.int .i64 (j : Int)) := hc3_ 0 _ rfl
              have r1 : w4.cell? ⟨vb, vo + 1, none⟩ = some (.slice A1 n1 c1) := by rw [bel4.cell (by show vb < _; omega)]; exact q1
              have r2 : w4.cell? ⟨vb, vo + 2, none⟩ = some (.slice A2 n2 c2) := by rw [bel4.cell (by show vb < _; omega)]; exact q2
              have r3 : w4.cell? ⟨vb, vo + 3, none⟩ = some (.slice (some ⟨b3, o3, none⟩) 1 c3) := by rw [bel4.cell (by show vb < _; omega)]; exact q3
              have rss : w4.cell? ⟨sb, 0, none⟩ = some (.slice AV n2 cV) := by rw [bel4.cell (by show sb < _; omega)]; exact qs
              have rsf : w4.frozen? ⟨sb, 0, none⟩ = false := by rw [bel4.frozen (by show sb < _; omega)]; exact qsf
              have rb : w4.cell? ⟨bo, 0, none⟩ = some vo_ := by rw [bel4.cell (by show bo < _; omega)]; exact qb
              have rbf : w4.frozen? ⟨bo, 0, none⟩ = false := by rw [bel4.frozen (by show bo < _; omega)]; exact qbf
              have oo4 := oo3.below bel4
              have hO4 := hO3.below bel4
              have rs4 := rs3.below bel4
              have cf4 : w4.cell? ⟨bf, 0, none⟩ = some (.int .i64 cy) := by rw [bel4.cell (by show bf < _; omega)]; exact cfc
              have B4 := B3.trans (bel4.mono s3)
              have s4_ := bel4.size
              clear q1 q2 q3 qs qsf qb qbf oo3 hO3 rs3 cfc hx4 hvj hc4 hc3_
              go_wp2_with fail
              obtain ⟨wq, rfl⟩ : ∃ wq : World, wq = w4 := ⟨_, rfl⟩
              go_loopw [19] (fun i wr => ∃ k : Nat, i = .int .i64 k ∧ ((k = 0 ∧ wr = wq) ∨ (k = 1 ∧ ∃ v', wr.cell? ⟨bo, 0, none⟩ = some v' ∧ wr.frozen? ⟨bo, 0, none⟩ = false ∧ OI 2 w1.heap.size wr v' (M.playO ns tb (M.ord ns) xs (j : Int) (t + 1)) ∧ Chg (fun b => b = bo ∨ vo_.ownBlock = some b) wq wr ∧ (v'.ownBlock = vo_.ownBlock ∨ ∀ k, v'.ownBlock = some k → wq.heap.size ≤ k)))) (fun i _ => 1 - (intOf i).toNat)
              case atStart => exact ⟨0, rfl, .inl ⟨rfl, rfl⟩⟩
              case round =>
                obtain ⟨k, rfl, hor⟩ := hrel
                rcases hor with ⟨rfl, rfl⟩ | ⟨rfl, v5, co5, fo5, oo5, ch5, hb5⟩
                · rw [show ((0 : Nat) : Int) = 0 from rfl]
                  have D1 : Below wr.heap.size wr wr.drew := below_drewN (Below.refl _ _) 1
                  have hd0 : wr.drew.heap.size = wr.heap.size := rfl
                  have pp1 := cell_regrown r3
                  have ppb := cell_regrown rb
                  have ppo := cell_regrown c3o
                  have ppx := cell_regrown cx4
                  have ood := oo4.below D1
                  have hlp := M.playO_len ns tb (M.ord ns) xs (j : Int) t
                  have hlp' : (M.playO ns tb (M.ord ns) xs (j : Int) t).length ≤ 1000000 := by omega
                  have j0 : (0 : Int) ≤ (j : Int) := by omega
                  have j1 : (j : Int) < (n2 : Int) := by omega
                  have rbd : wr.drew.cell? ⟨bo, 0, none⟩ = some vo_ := rb
                  have rbfd : wr.drew.frozen? ⟨bo, 0, none⟩ = false := rbf
                  clear hlp
                  go_wp2_with fail
                  (refine wp_region_fresh2 [0, 1, 2, 3, 4, 6, 7, 8, 9, 11] [5, 10, 12, 13, 14, 15] 1 (.one 16 .rest) [17, 19] [17, 18, 19] (by kernel_rfl) (by kernel_rfl) ?_; simp only [pickOps]; simp only [List.filterMap, List.getElem?_cons_succ, List.getElem?_cons_zero]; (repeat (go_big_quiet_step (fail))); refine wpQuiet_nil ?_; (repeat (go_big_quiet_step (fail))); refine wpQuiet_nil ?_)
                  refine seqT_one2 rfl ?_
                  go_wp2_with fail
                  refine ⟨regrown_of_below ((Below.refl _ _).alloc (Nat.le_refl _) _ |> bel_trans D1), ?_⟩
                  refine seqT_rest2 ?_
                  go_wp2_with (at_builtin; refine wpList_push1b ei_i64 rfl _ _ rfl ood rfl rfl rfl (by unfold maxLen; omega) (by omega) (by omega) ?_; intro v5 w5 own5 gr5 bel5 hb5; have op5 := OI.push own5; obtain ⟨A5, c5, e5, -⟩ := op5.shape; obtain ⟨n5, hn5⟩ : ∃ n5, n5 = (M.playO ns tb (M.ord ns) xs (j : Int) t ++ [x4]).length := ⟨_, rfl⟩; rw [← hn5] at e5; subst e5; have HN5 := Lib.hid hn5; clear hn5; have hc5 : w5.cell? ⟨bo, 0, none⟩ = some vo_ := (by rw [World.cell?_of_block (gr5.block bo (by show bo < _; omega) (fun e => hne e.symm))]; exact rb); have hf5 : w5.frozen? ⟨bo, 0, none⟩ = false := (by have h9 := gr5.block bo (by show bo < _; omega) (fun e => hne e.symm); simp only [World.frozen?]; rw [h9]; exact rbf))
                  have hnb5 : (Value.slice A5 n5 c5).ownBlock ≠ some bo := fun e => by
                    rcases hb5 with h | h
                    · exact hne (h.symm.trans e)
                    · have := h bo e; omega
                  refine ⟨⟨1, by go_num, .inr ⟨rfl, .slice A5 n5 c5, World.cell?_setCell_same (h := hc5) .., by simp [go_sem, hf5], ?_, ?_, hb5⟩⟩, by simp [intOf]⟩
                  · rw [HS2.out]
                    exact op5.kept (grown_setCell _ _ 0 _) (.inr hnb5)
                  · exact ((grow_chg D1).trans (Chg.of_grown gr5 (fun k hk => .inr hk))).trans (Chg.set w5 _ 0 _ (.inl rfl))
                · rw [show ((1 : Nat) : Int) = 1 from rfl]
                  have s5 := ch5.size
                  have nF : ∀ x, x < w1.heap.size → ¬ (x = bo ∨ vo_.ownBlock = some x) := fun x hx e => by
                    rcases e with e | e
                    · omega
                    · have := (World.ownsRow.lt oo4 _ e).1; omega
                  have nF2 : ∀ x, wo.heap.size ≤ x → ¬ (x = bo ∨ vo_.ownBlock = some x) := fun x hx e => by
                    rcases e with e | e
                    · omega
                    · have := hvob _ e; omega
                  have y1 : wr.cell? ⟨vb, vo + 1, none⟩ = some (.slice A1 n1 c1) := by rw [ch5.cell (by omega) (nF _ (by omega))]; exact r1
                  have y2 : wr.cell? ⟨vb, vo + 2, none⟩ = some (.slice A2 n2 c2) := by rw [ch5.cell (by omega) (nF _ (by omega))]; exact r2
                  have y3 : wr.cell? ⟨vb, vo + 3, none⟩ = some (.slice (some ⟨b3, o3, none⟩) 1 c3) := by rw [ch5.cell (by omega) (nF _ (by omega))]; exact r3
                  have ys : wr.cell? ⟨sb, 0, none⟩ = some (.slice AV n2 cV) := by rw [ch5.cell (by omega) (nF _ (by omega))]; exact rss
                  have ysf : wr.frozen? ⟨sb, 0, none⟩ = false := by rw [ch5.frozen (by omega) (nF _ (by omega))]; exact rsf
                  have yf : wr.cell? ⟨bf, 0, none⟩ = some (.int .i64 cy) := by rw [ch5.cell (by omega) (nF2 _ (by omega))]; exact cf4
                  have BL5 : Below L w wr := (BL.trans (B4.mono (by omega))).trans (ch5.toBelow (fun k hk => by
                    rcases hk with h | h
                    · omega
                    · have := (World.ownsRow.lt oo4 _ h).1; omega) (by omega))
                  have rs5 := rs4.chg (ch5.wide (F' := fun k => k = sb ∨ k = bo ∨ vo_.ownBlock = some k) (fun k hk => .inr hk))
                  have hO5 := hO4.chg (ch5.wide (F' := fun k => k = sb ∨ w1.heap.size ≤ k) (fun k hk => by
                    rcases hk with h | h
                    · exact .inr (by omega)
                    · exact .inr (World.ownsRow.lt oo4 _ h).1))
                  have RN5 := RN4.chg ch5
                  rw [HW.out] at RN5
                  go_wp2_with fail
                  refine (spec_l08Step vb vo _ _ c1 _ _ c2 sb AV cV ns tb (M.ord ns) _ bf 0 cf cy _ c4 _ y1 y2 ys ysf ((h1.below BL5).more (by omega)) ((h2.below BL5).more (by omega)) rs5 RN5.1 hF hax hnz HC yf).mono ?_
                  rintro e w6 ⟨rfl, v6, cs6, cf6, rs6, ch6⟩
                  rw [← HN.out] at rs6
                  have s6 := ch6.size
                  have ch6w : Chg (fun k => k = sb) w w6 := ((hch.trans (grow_chg B4)).up ch5 (fun x hx e => by
                    rcases e with e | e
                    · omega
                    · have := (World.ownsRow.lt oo4 _ e).1; omega)).trans ch6
                  have z5 : ∀ k, v5.ownBlock = some k → w1.heap.size ≤ k ∧ k < wr.heap.size := fun k hk => World.ownsRow.lt oo5 _ hk
                  have cb6 : w6.cell? ⟨bo, 0, none⟩ = some v5 := by rw [ch6.cell (by omega) (by omega)]; exact co5
                  have fb6 : w6.frozen? ⟨bo, 0, none⟩ = false := by rw [ch6.frozen (by omega) (by omega)]; exact fo5
                  have oo6 := oo5.chg ch6 (fun k hk (e : k = sb) => by have := (z5 k hk).1; omega)
                  have hO6 := hO5.chg (ch6.wide (F' := fun k => k = sb ∨ w1.heap.size ≤ k) (fun k hk => .inl hk))
                  have rs7 := rs6 (fun k => k = sb ∨ k = bo ∨ v5.ownBlock = some k) (fun k hk => by
                    rcases hk with h | h | h
                    · omega
                    · omega
                    · exact (z5 k h).2)
                  have hnb5 : v5.ownBlock ≠ some bo := fun e => by
                    rcases hb5 with h | h
                    · exact hne (h.symm.trans e)
                    · have := h bo e; omega
                  clear rs6
                  go_wp2_with fail
                  go_roundw
                  case rel => exact ⟨t + 1, by go_num, by omega, v6, v5, ch6w, by omega, hO6, cs6, cf6, rs7, cb6, fb6, oo6, hnb5⟩
                  case measure => simp [intOf]; omega
        · obtain rfl : t = n := by omega
          obtain ⟨A5, c5, e5, hri⟩ := oo.shape
          rw [M.playO_len] at e5 hri
          subst e5
          go_wp2_with fail
          go_ret
          exact ⟨_, _, A5, c5, rfl, cb, hri, hch⟩
theorem spec_l08Render (vb vo : Nat) (A1 : Option Addr) (n1 c1 : Nat) (A2 : Option Addr) (n2 c2 : Nat) (A3 : Option Addr) (c3 : Nat) (ns : List Node) (tb : List (List Int)) (o : Int) (bi oi ci : Nat) (A : Option Addr) (m c : Nat) (xs : List Int) (n : Nat) (w : World)
    (f1 : w.cell? ⟨vb, vo + 1, none⟩ = some (.slice A1 n1 c1)) (f2 : w.cell? ⟨vb, vo + 2, none⟩ = some (.slice A2 n2 c2)) (f3 : w.cell? ⟨vb, vo + 3, none⟩ = some (.slice A3 1 c3))
    (h1 : RS tS w w.heap.size (.slice A1 n1 c1) tb) (h2 : RS tN w w.heap.size (.slice A2 n2 c2) ns) (h3 : RI w w.heap.size A3 1 [o]) (hF : M.PF ns tb (M.ord ns)) (ho : 0 ≤ o ∧ o < n2) (hnz : hNS.sz ns ≤ 100000000)
    (ci0 : w.cell? ⟨bi, oi, none⟩ = some (.slice A m c)) (hx : RI w w.heap.size A m xs) (hxs : xs.all M.smp = true) (hm : m ≤ 1000000) (hn : n ≤ 4000) :
    Calls Tryz.prog 93 #[.pointer (some ⟨vb, vo, none⟩), .slice (some ⟨bi, oi, none⟩) 1 ci, .int .i64 n] w fun e w' => ∃ (g c' : Nat) (A' : Option Addr) (c'' : Nat), e = .returned (.slice (some ⟨g, 0, none⟩) 1 c') ∧ w'.cell? ⟨g, 0, none⟩ = some (.slice A' n c'') ∧ RI w' w'.heap.size A' n (M.playO ns tb (M.ord ns) xs o n) ∧ Below w.heap.size w w' := by
  have lvb : vb < w.heap.size := World.block_lt_of_cell? w _ f1
  have lbi : bi < w.heap.size := World.block_lt_of_cell? w _ ci0
  have HXS := Lib.hid hxs
  have HOK := Lib.hid (fun (x : Node) (hx : x ∈ ns) => show M.nodeOk x tb.length = true from by
    obtain ⟨i, hi⟩ := List.getElem?_of_mem hx
    exact hF.ok i x hi)
  clear hxs
  go_enter Tryz.func93, Tryz.ntmps93
  go_wp2_with fail
  refine (spec_l08Start vb vo _ _ c2 ns tb.length w f2 h2 hnz HOK).mono ?_
  rintro e w1 ⟨v1, rfl, own1, bel1⟩
  obtain ⟨Av, cv, e1⟩ := own1.shape
  obtain ⟨nv, hnv⟩ : ∃ nv, nv = (ns.map M.start).length := ⟨_, rfl⟩
  rw [← hnv] at e1
  subst e1
  have HNV := Lib.hid hnv
  clear hnv
  obtain ⟨U, hU, BU, sU, u0, uf⟩ := newbox1 w1 (.slice Av nv cv) 177
  have HU := Lib.hid hU
  have BW := bel_trans bel1 BU
  have s1 := bel1.size
  have rs := RSN.of_os (F := fun k => k = w1.heap.size) (own1.below BU (Nat.le_refl _)) (fun k hk hG => by have := hG.2; omega)
  have g1 : U.cell? ⟨vb, vo + 1, none⟩ = some (.slice A1 n1 c1) := by rw [BW.cell (by show vb < _; omega)]; exact f1
  have g2 : U.cell? ⟨vb, vo + 2, none⟩ = some (.slice A2 n2 c2) := by rw [BW.cell (by show vb < _; omega)]; exact f2
  have g3 : U.cell? ⟨vb, vo + 3, none⟩ = some (.slice A3 1 c3) := by rw [BW.cell (by show vb < _; omega)]; exact f3
  have gi : U.cell? ⟨bi, oi, none⟩ = some (.slice A m c) := by rw [BW.cell (by show bi < _; omega)]; exact ci0
  have uf0 := uf 0
  clear hU
  go_wp2_with fail
  rw [← HU.out]
  refine (spec_l08Block vb vo _ _ c1 _ _ c2 _ c3 w1.heap.size _ ns tb o bi oi ci A m c xs n U g1 g2 g3 u0 uf0 (by omega) (L := w.heap.size) s1 (h1.below BW) (h2.below BW) (h3.below BW) rs hF ho hnz gi (by omega) (hx.below BW) HXS.out hm hn).mono ?_
  rintro e w3 ⟨g, c', A', c'', rfl, cg, rg, ch⟩
  go_wp2_with fail
  go_ret
  exact ⟨g, c', A', c'', rfl, cg, rg, BW.trans (ch.toBelow (fun k hk => by omega) (by omega))⟩
end Go.Proofs.YtffhodocjjkkoaaGreat
namespace Go.Proofs.YtffhodocjjkkoaaGreat
open Go.RowKit Go.Sort
set_option maxHeartbeats 4000000
set_option maxRecDepth 100000
end Go.Proofs.YtffhodocjjkkoaaGreat
namespace Go.Proofs.YtffhodocjjkkoaaGreat
open Go.RowKit
set_option maxHeartbeats 4000000
set_option maxRecDepth 100000
theorem spec_RenderTrack (A A' : Option Addr) (n c n' c' : Nat) (t : Int) (src : List (List Int)) (xs : List Clip) (w : World) (hs : RS tS w w.heap.size (.slice A n c) src) (hx : RA cl 5 w w.heap.size A' n' xs) (hlen : Hid (∀ x ∈ src, x.length ≤ 1000000000)) (hn : n ≤ 1000000000) (hn' : n' ≤ 1000000000) :
    Calls Tryz.prog 91 #[.slice A n c, .agg #[.slice A' n' c'], .int .i64 t] w (Ret2 2 w (M.renderR src xs t)) := by
  have hls := Lib.hid hs.cap.1
  have hlx := Lib.hid hx.len
  obtain ⟨W, hW⟩ : ∃ W, W = w.alloc (.cells #[.slice A' n' c'] 89) := ⟨_, rfl⟩
  have B0 : Below w.heap.size w W := by rw [hW]; exact (Below.refl _ _).alloc (Nat.le_refl _) _
  have p0 : W.cell? ⟨w.heap.size, 0, none⟩ = some (.slice A' n' c') := by rw [hW]; simp [go_sem]
  have l0 : w.heap.size < W.heap.size := by rw [hW]; simp
  have HW := Lib.hid hW
  clear hW
  have hs1 : RS tS W W.heap.size (.slice A n c) src := hs.later B0
  have hx1 := hx.later B0
  cases hok : M.srcOk src
  · have R := Lib.hid (show M.renderR src xs t = ([], 1) by rw [M.renderR, hok]; rfl)
    have OK := Lib.hid hok
    clear hok
    go_enter Tryz.func91, Tryz.ntmps91
    go_wp2_with fail
    rw [← HW.out]
    refine (spec_l23Sources _ _ _ _ W hs1 hlen hn).mono ?_
    rw [OK.out]
    rintro e w' ⟨rfl, rfl⟩
    go_wp2
    go_ret2
    rw [R.out]
    exact ⟨_, rfl, OI.nil _ _ _, B0⟩
  have OK := Lib.hid hok
  cases hk : M.trackOk xs
  · have R := Lib.hid (show M.renderR src xs t = ([], 1) by rw [M.renderR, hok, hk]; rfl)
    have HK := Lib.hid hk
    clear hok hk
    go_enter Tryz.func91, Tryz.ntmps91
    go_wp2_with fail
    rw [← HW.out]
    refine (spec_l23Sources _ _ _ _ W hs1 hlen hn).mono ?_
    rw [OK.out]
    rintro e w' ⟨rfl, rfl⟩
    go_wp2_with fail
    refine (spec_l23Ok _ _ _ _ _ W p0 hx1 hn').mono ?_
    rw [HK.out]
    rintro e w2 ⟨rfl, b2⟩
    go_wp2
    go_ret2
    rw [R.out]
    exact ⟨_, rfl, OI.nil _ _ _, bel_trans B0 b2⟩
  have HK := Lib.hid hk
  cases hi : M.inn t 0 4000
  · have R := Lib.hid (show M.renderR src xs t = ([], 2) by rw [M.renderR, hok, hk, hi]; rfl)
    have HI := Lib.hid hi
    clear hok hk hi
    go_enter Tryz.func91, Tryz.ntmps91
    go_wp2_with fail
    rw [← HW.out]
    refine (spec_l23Sources _ _ _ _ W hs1 hlen hn).mono ?_
    rw [OK.out]
    rintro e w' ⟨rfl, rfl⟩
    go_wp2_with fail
    refine (spec_l23Ok _ _ _ _ _ W p0 hx1 hn').mono ?_
    rw [HK.out]
    rintro e w2 ⟨rfl, b2⟩
    go_wp2_with fail
    refine (spec_l00In _ _ _ _).mono ?_
    rw [HI.out]
    rintro e w' ⟨rfl, rfl⟩
    go_wp2
    go_ret2
    rw [R.out]
    exact ⟨_, rfl, OI.nil _ _ _, bel_trans B0 b2⟩
  obtain ⟨t, rfl⟩ : ∃ q : Nat, t = q := ⟨t.toNat, by have := M.inn_iff.1 hi; omega⟩
  have ht : t ≤ 4000 := by have := M.inn_iff.1 hi; omega
  have HI := Lib.hid hi
  have R := Lib.hid (show M.renderR src xs t = if M.hasS xs src.length then (M.renT src xs t, 0) else ([], 3) by rw [M.renderR, hok, hk, hi]; rfl)
  clear hok hk hi
  go_enter Tryz.func91, Tryz.ntmps91
  go_wp2_with fail
  rw [← HW.out]
  refine (spec_l23Sources _ _ _ _ W hs1 hlen hn).mono ?_
  rw [OK.out]
  rintro e w' ⟨rfl, rfl⟩
  go_wp2_with fail
  refine (spec_l23Ok _ _ _ _ _ W p0 hx1 hn').mono ?_
  rw [HK.out]
  rintro e w2 ⟨rfl, b2⟩
  have p2 : w2.cell? ⟨w.heap.size, 0, none⟩ = some (.slice A' n' c') := by rw [b2.cell l0]; exact p0
  have l2 := Nat.lt_of_lt_of_le l0 b2.size
  have B2 := bel_trans B0 b2
  have hs2 : RS tS w2 w2.heap.size (.slice A n c) src := hs1.later b2
  have hx2 := hx1.later b2
  go_wp2_with fail
  refine (spec_l00In _ _ _ _).mono ?_
  rw [HI.out]
  rintro e w' ⟨rfl, rfl⟩
  go_wp2_with fail
  go_loopw [8] (fun i wr => ∃ k : Nat, i = .int .i64 k ∧ k ≤ n' ∧ Hid (M.hasS (xs.take k) src.length = true) ∧ Below w2.heap.size w2 wr) (fun i _ => n' - (intOf i).toNat)
  case atStart => exact ⟨0, rfl, by omega, Lib.hid (by simp [M.hasS]), Below.refl _ _⟩
  case round =>
    obtain ⟨k, rfl, hk, H, hb⟩ := hrel
    have pr : wr.cell? ⟨w.heap.size, 0, none⟩ = some (.slice A' n' c') := by rw [hb.cell l2]; exact p2
    by_cases hlt : k < n'
    · obtain ⟨b, o, ⟨p0', p1, p2', p3, p4⟩, rfl, hab, X, hc⟩ := (hx2.below hb).at cl_len (by decide) hlt
      have hc0 : wr.cell? ⟨b, o + k * 5, none⟩ = some (.int .i64 p0') := hc 0 _ rfl
      clear hc
      have hT := Lib.hid (M.take_at X.out)
      by_cases hs0 : (n : Int) ≤ p0'
      · have hno := Lib.hid (show M.hasS xs src.length = false by
          rw [M.hasS, List.all_eq_false]
          exact ⟨_, List.mem_of_getElem? X.out, by simp [hls.out]; omega⟩)
        go_wp2
        go_ret2
        rw [R.out, hno.out]
        exact ⟨_, rfl, OI.nil _ _ _, bel_trans B2 hb⟩
      · go_wp2
        go_roundw
        case rel =>
          refine ⟨k + 1, by go_num, by omega, Lib.hid ?_, hb⟩
          have h1 := H.out
          rw [M.hasS] at h1 ⊢
          rw [hT.out, List.all_append, h1, Bool.true_and]
          simp [hls.out]
          omega
        case measure => simp [intOf]; omega
    · have HH : Hid (M.hasS xs src.length = true) := by
        have := H.out
        rw [List.take_of_length_le (by rw [hlx.out]; omega)] at this
        exact Lib.hid this
      go_wp2_with fail
      refine (spec_l23Render _ _ _ _ _ _ _ _ _ _ wr pr (hs2.later hb) (hx2.later hb) OK.out HK.out HH.out ht).mono ?_
      rintro e w4 ⟨v4, rfl, own4, b4⟩
      have BB := bel_trans B2 hb
      go_wp2
      go_ret2
      rw [R.out, HH.out]
      exact ⟨_, rfl, own4.base BB.size, bel_trans BB b4⟩
end Go.Proofs.YtffhodocjjkkoaaGreat
namespace Go.Proofs.YtffhodocjjkkoaaGreat
open Go.RowKit
set_option maxHeartbeats 4000000
set_option maxRecDepth 100000
/-- The strip with a name. -/
def M.named (xs : List Strip) (s : ByteArray) : Int := match xs.findIdx? (fun x => decide (x.1 = s)) with
  | some i => (i : Int)
  | none => -1
def M.namedR (xs : List Strip) (s : ByteArray) : Int × Bool := if M.mixOk xs = true ∧ 0 ≤ M.named xs s then (M.named xs s, true) else (0, false)
end Go.Proofs.YtffhodocjjkkoaaGreat
namespace Go.Proofs.YtffhodocjjkkoaaGreat
open Go.RowKit
set_option maxHeartbeats 1000000
/-- One send: the strip that it leads to is entered no earlier than this one ends. -/
def M.entSend (k : Nat) (l : Int) (acc : List Int) (p : Int × Int) : List Int := acc.set p.1.toNat (max ((acc[p.1.toNat]?).getD 0) ((acc[k]?).getD 0 + l))
/-- The entry times after the first k strips, and j sends of the next. -/
def M.entN (xs : List Strip) : Nat → List Int
  | 0 => List.replicate xs.length 0
  | k + 1 => ((xs[k]?).getD M.sz).2.2.foldl (M.entSend k ((xs[k]?).getD M.sz).2.1) (M.entN xs k)
def M.entS (xs : List Strip) (k : Nat) (l : Int) (us : List (Int × Int)) (j : Nat) : List Int := (us.take j).foldl (M.entSend k l) (M.entN xs k)
def M.entries (xs : List Strip) : List Int := M.entN xs xs.length
theorem M.entSend_len (k : Nat) (l : Int) (acc : List Int) (p : Int × Int) : (M.entSend k l acc p).length = acc.length := by simp [M.entSend]
theorem M.fold_len (k : Nat) (l : Int) (us : List (Int × Int)) : ∀ acc, (us.foldl (M.entSend k l) acc).length = acc.length := by
  induction us with
  | nil => intro acc; rfl
  | cons u us ih => intro acc; rw [List.foldl_cons, ih, M.entSend_len]
theorem M.entN_len (xs : List Strip) : ∀ k, (M.entN xs k).length = xs.length := by
  intro k
  induction k with
  | zero => simp [M.entN]
  | succ k ih => rw [M.entN, M.fold_len, ih]
theorem M.entS_next {xs : List Strip} {k : Nat} {l : Int} {us : List (Int × Int)} {j : Nat} {p : Int × Int} (h : us[j]? = some p) : M.entS xs k l us (j + 1) = M.entSend k l (M.entS xs k l us j) p := by
  rw [M.entS, M.take_at h, List.foldl_append]; rfl
theorem M.entS_end {xs : List Strip} {k : Nat} {s : ByteArray} {l : Int} {us : List (Int × Int)} (h : xs[k]? = some (s, l, us)) : M.entS xs k l us us.length = M.entN xs (k + 1) := by
  rw [M.entS, M.entN, h, List.take_of_length_le (Nat.le_refl _)]; rfl
/-- All values lie from 0 to b. -/
def M.upTo (b : Int) (acc : List Int) : Prop := ∀ v ∈ acc, 0 ≤ v ∧ v ≤ b
theorem M.upTo_at {b : Int} {acc : List Int} {i : Nat} {v : Int} (h : M.upTo b acc) (hv : acc[i]? = some v) : 0 ≤ v ∧ v ≤ b := h v (List.mem_of_getElem? hv)
theorem M.upTo_get {b : Int} {acc : List Int} (hb : 0 ≤ b) (h : M.upTo b acc) (i : Nat) : 0 ≤ (acc[i]?).getD 0 ∧ (acc[i]?).getD 0 ≤ b := by
  cases hv : acc[i]? with
  | none => simp; exact hb
  | some v => exact M.upTo_at h hv
theorem M.upTo_mono {b b' : Int} {acc : List Int} (h : M.upTo b acc) (hb : b ≤ b') : M.upTo b' acc := fun v hv => ⟨(h v hv).1, Int.le_trans (h v hv).2 hb⟩
theorem M.upTo_send {b : Int} {acc : List Int} {k : Nat} {l : Int} {p : Int × Int} (hb : 0 ≤ b) (h : M.upTo b acc) (hl : 0 ≤ l ∧ l ≤ 32) : M.upTo (b + 32) (M.entSend k l acc p) := by
  intro v hv
  rcases List.mem_or_eq_of_mem_set hv with h1 | rfl
  · have := h v h1; omega
  · have h1 := M.upTo_get hb h p.1.toNat
    have h2 := M.upTo_get hb h k
    omega
theorem M.upTo_fold {k : Nat} {l : Int} (hl : 0 ≤ l ∧ l ≤ 32) (us : List (Int × Int)) : ∀ {b : Int} {acc : List Int}, 0 ≤ b → M.upTo b acc → M.upTo (b + 32 * us.length) (us.foldl (M.entSend k l) acc) := by
  induction us with
  | nil => intro b acc _ h; simpa using h
  | cons u us ih =>
    intro b acc hb h
    have := ih (b := b + 32) (acc := M.entSend k l acc u) (by omega) (M.upTo_send hb h hl)
    refine M.upTo_mono this ?_
    simp only [List.length_cons]
    omega
theorem M.mix_n {xs : List Strip} (h : M.mixOk xs = true) : 1 ≤ xs.length ∧ xs.length ≤ 8 := by
  rw [M.mixOk, Bool.and_eq_true] at h
  have := M.inn_iffM.1 h.1
  omega
theorem M.mix_strip {xs : List Strip} (h : M.mixOk xs = true) {k : Nat} {s : ByteArray} {l : Int} {us : List (Int × Int)} (hk : xs[k]? = some (s, l, us)) : (0 ≤ l ∧ l ≤ 32) ∧ us.length ≤ 4 ∧ M.sendsB xs.length k us = true := by
  rw [M.mixOk, Bool.and_eq_true, List.all_eq_true] at h
  have h1 := h.2 k (List.mem_range.2 (List.getElem?_eq_some_iff.1 hk).1)
  rw [M.stepM_eq hk, Bool.and_eq_true] at h1
  have h2 := h1.1
  rw [M.stripOk, Bool.and_eq_true, Bool.and_eq_true, M.areSends, Bool.and_eq_true] at h2
  refine ⟨M.inn_iffM.1 h2.1.2, ?_, h2.2.1⟩
  have h3 := h2.2.2
  split at h3
  · have : us.length = 0 := by simpa using h3
    omega
  · have := M.inn_iffM.1 h3
    simp only at this
    omega
theorem M.sends_at {m : Int} {us : List (Int × Int)} : ∀ {last : Int} {j : Nat} {p0 p1 : Int}, M.sendsB m last us = true → us[j]? = some (p0, p1) → last < p0 ∧ p0 ≤ m - 1 ∧ M.smp p1 = true := by
  induction us with
  | nil => intro last j p0 p1 _ h; simp at h
  | cons u us ih =>
    intro last j p0 p1 h hj
    rw [M.sendsB, Bool.and_eq_true, Bool.and_eq_true] at h
    have h1 := M.inn_iffM.1 h.1.1
    cases j with
    | zero =>
      simp only [List.getElem?_cons_zero, Option.some.injEq] at hj
      subst hj
      exact ⟨by simp only at h1; omega, h1.2, h.1.2⟩
    | succ j =>
      simp only [List.getElem?_cons_succ] at hj
      have := ih h.2 hj
      exact ⟨by omega, this.2⟩
theorem M.entN_upTo {xs : List Strip} (h : M.mixOk xs = true) : ∀ k, k ≤ xs.length → M.upTo (128 * k) (M.entN xs k) := by
  intro k
  induction k with
  | zero => intro _ v hv; rw [M.entN] at hv; have := (List.mem_replicate.1 hv).2; omega
  | succ k ih =>
    intro hk
    have hx : xs[k]? = some xs[k] := List.getElem?_eq_getElem (by omega)
    generalize xs[k] = x at hx
    obtain ⟨s, l, us⟩ := x
    obtain ⟨h1, h2, _⟩ := M.mix_strip h hx
    rw [M.entN, hx]
    refine M.upTo_mono (M.upTo_fold h1 us (by omega) (ih (by omega))) ?_
    omega
theorem M.entS_upTo {xs : List Strip} (h : M.mixOk xs = true) {k : Nat} {s : ByteArray} {l : Int} {us : List (Int × Int)} (hx : xs[k]? = some (s, l, us)) (j : Nat) : M.upTo 2000 (M.entS xs k l us j) := by
  obtain ⟨h1, h2, _⟩ := M.mix_strip h hx
  have h3 := M.entN_upTo h k (by have := (List.getElem?_eq_some_iff.1 hx).1; omega)
  have h4 := M.mix_n h
  have h5 := (List.getElem?_eq_some_iff.1 hx).1
  refine M.upTo_mono (M.upTo_fold (k := k) h1 (us.take j) (by omega) h3) ?_
  have : (us.take j).length ≤ 4 := by rw [List.length_take]; omega
  omega
theorem M.entSend_eq {acc : List Int} {k q : Nat} {l g a b : Int} (ha : acc[q]? = some a) (hb : acc[k]? = some b) : M.entSend k l acc ((q : Int), g) = acc.set q (max a (b + l)) := by
  rw [M.entSend]
  simp only [Int.toNat_natCast]
  rw [ha, hb]; rfl
end Go.Proofs.YtffhodocjjkkoaaGreat
namespace Go.Proofs.YtffhodocjjkkoaaGreat
open Go.RowKit
set_option maxHeartbeats 4000000
set_option maxRecDepth 100000
theorem impl_entries (A : Option Addr) (n c : Nat) (xs : List Strip) (w : World) (hx : tM.R w w.heap.size [.slice A n c] xs) (hok : M.mixOk xs = true) :
    Calls Tryz.prog 96 #[.agg #[.slice A n c]] w (Ret1 2 w (M.entries xs)) := by
  have rx := sl_R.1 hx
  have hlx := rx.cap.1
  have hmn := M.mix_n hok
  have hnb : 1 ≤ n ∧ n ≤ 8 := by omega
  have HLX := Lib.hid hlx
  have HOK := Lib.hid hok
  have B0 : Below w.heap.size w (w.alloc (.cells #[.slice A n c] 38)) := (Below.refl _ _).alloc (Nat.le_refl _) _
  have hself : (w.alloc (.cells #[.slice A n c] 38)).cell? ⟨w.heap.size, 0, none⟩ = some (.slice A n c) := by simp [go_sem]
  have hsz : (w.alloc (.cells #[.slice A n c] 38)).heap.size = w.heap.size + 1 := by simp
  have HSZ := Lib.hid hsz
  clear hsz hlx hmn hok
  go_enter Tryz.func96, Tryz.ntmps96
  go_wp2_with (first | (go_at_call 72; refine (impl_size_impl_Strip _ _ _ _).mono ?_; rintro e w' ⟨rfl, rfl⟩) | (go_at_call 98; refine (impl_zeros _ _ (by omega) (by omega)).mono ?_; rintro e w1 ⟨v1, rfl, own1, bel1⟩; have hv1 : w1.cell? ⟨w.heap.size, 0, none⟩ = some (.slice A n c) := (by rw [bel1.cell (by rw [HSZ.out]; simp)]; exact hself)))
  rw [Int.toNat_natCast] at own1
  obtain ⟨A1, c1, rfl, -⟩ := own1.shape
  rw [List.length_replicate] at own1 ⊢
  have own1' : OI 2 (w.heap.size + 1) w1 (.slice A1 n c1) (M.entN xs 0) := by
    have h1 := own1
    rw [HSZ.out] at h1
    show OI 2 (w.heap.size + 1) w1 (.slice A1 n c1) (List.replicate xs.length 0)
    rw [HLX.out]
    exact h1
  have B1 := bel_trans B0 bel1
  clear own1 bel1 hself B0 hv1
  go_loopw [4, 5, 15] (fun _ _ i wr => ∃ k : Nat, i = .int .i64 k ∧ k ≤ n ∧ OI 2 (w.heap.size + 1) wr (.slice A1 n c1) (M.entN xs k) ∧ Below w.heap.size w wr) (fun _ _ i _ => n - (intOf i).toNat)
  case atStart => exact ⟨0, rfl, by omega, own1', B1⟩
  case round =>
    obtain ⟨k, rfl, hk, own, Bw⟩ := hrel
    by_cases hlt : k < n
    · have hX := Lib.hid (List.getElem?_eq_getElem (l := xs) (i := k) (by rw [HLX.out]; exact hlt))
      obtain ⟨b, o1, cc, cs, hv, hab, -, hE, hcc⟩ := (rx.below Bw).atX hX.out
      simp only [Value.slice.injEq] at hv
      obtain ⟨rfl, -, rfl⟩ := hv
      generalize xs[k]'(by rw [HLX.out]; exact hlt) = x at hX hE
      obtain ⟨s, l, us⟩ := x
      obtain ⟨A2, n2, c2, rfl, -, hE⟩ := st_R.1 hE
      have e0 : wr.cell? ⟨b, o1 + k * 3, none⟩ = some (.string s) := hcc 0 _ rfl
      have e1 : wr.cell? ⟨b, o1 + k * 3 + 1, none⟩ = some (.int .i64 l) := hcc 1 _ rfl
      have e2 : wr.cell? ⟨b, o1 + k * 3 + 2, none⟩ = some (.slice A2 n2 c2) := hcc 2 _ rfl
      have hbr : b < wr.heap.size := Nat.lt_of_lt_of_le hab Bw.size
      have rs := (tSdS_ra hE).1
      have hn2 := rs.1
      obtain ⟨hlat, hu4, hsb⟩ := M.mix_strip HOK.out hX.out
      have HN2 := Lib.hid hn2
      have HSB := Lib.hid hsb
      have HUP := Lib.hid (fun j => M.entS_upTo HOK.out hX.out j)
      obtain ⟨g, rfl, hg1, hg2⟩ := own.form' (by omega)
      have Bu := Bw.alloc Bw.size (.cells #[.string s, .int .i64 l, .slice A2 n2 c2] 78)
      have ownu := own.below ((Below.refl wr.heap.size wr).alloc (Nat.le_refl _) (.cells #[.string s, .int .i64 l, .slice A2 n2 c2] 78))
      have lb : (wr.alloc (.cells #[.string s, .int .i64 l, .slice A2 n2 c2] 78)).cell? ⟨wr.heap.size, 1, none⟩ = some (.int .i64 l) := by rw [cell_of_row _ wr.heap.size 1 _ 78 (0, 0) (heap_alloc_new wr _)]; rfl
      have hlu : (wr.alloc (.cells #[.string s, .int .i64 l, .slice A2 n2 c2] 78)).heap.size = wr.heap.size + 1 := by simp
      have n2b : n2 ≤ 4 := by omega
      clear hcc hE hn2 hu4 hsb
      go_wp2
      obtain ⟨wo, rfl⟩ : ∃ wo : World, wo = wr := ⟨_, rfl⟩
      go_loopw [7, 23] (fun _ i wr => ∃ j : Nat, i = .int .i64 j ∧ j ≤ n2 ∧ OI 2 (w.heap.size + 1) wr (.slice (some ⟨g, 0, none⟩) n c1) (M.entS xs k l us j) ∧ wr.cell? ⟨wo.heap.size, 1, none⟩ = some (.int .i64 l) ∧ wo.heap.size + 1 ≤ wr.heap.size ∧ Below w.heap.size w wr ∧ Below w.heap.size wo wr) (fun _ i _ => n2 - (intOf i).toNat)
      case atStart => exact ⟨0, rfl, by omega, ownu, lb, by omega, Bu, (Below.refl _ _).alloc Bw.size _⟩
      case round =>
        obtain ⟨j, rfl, hj, ownj, lj, hszj, Bj, Bo⟩ := hrel
        by_cases hlt2 : j < n2
        · obtain ⟨b2, o2, ⟨p0, p1⟩, rfl, hab2, X2, hdd⟩ := (rs.below Bo).at sd_len (by decide) hlt2
          have f0 : wr.cell? ⟨b2, o2 + j * 2, none⟩ = some (.int .i64 p0) := hdd 0 _ rfl
          have f1 : wr.cell? ⟨b2, o2 + j * 2 + 1, none⟩ = some (.int .i64 p1) := hdd 1 _ rfl
          obtain ⟨hp1, hp2, -⟩ := M.sends_at HSB.out X2.out
          obtain ⟨q, rfl⟩ : ∃ q : Nat, p0 = q := ⟨p0.toNat, by omega⟩
          have hqn : q < n := by have := HLX.out; omega
          obtain ⟨x, hxx, cx, fx, -, -⟩ := ownj.at' hqn
          obtain ⟨y, hyy, cy, fy, -, -⟩ := ownj.at' hlt
          have bx := M.upTo_at (HUP.out j) hxx.out
          have by_ := M.upTo_at (HUP.out j) hyy.out
          have hgw : g < wr.heap.size := by omega
          have hng : ¬ g = wo.heap.size := by omega
          have hE2 := Lib.hid (M.entS_next (xs := xs) (k := k) (l := l) X2.out)
          have hE3 := Lib.hid (M.entSend_eq (k := k) (l := l) (g := p1) hxx.out hyy.out)
          have lw : wo.heap.size < wr.heap.size := by omega
          have hb2w : b2 < wr.heap.size := Nat.lt_of_lt_of_le hab2 Bj.size
          clear hdd hp1 hp2
          obtain ⟨U, hU⟩ : ∃ U, U = wr.alloc (.cells #[.int .i64 (q : Int), .int .i64 p1] 130) := ⟨_, rfl⟩
          have G0 : Below wr.heap.size wr U := by rw [hU]; exact (Below.refl _ _).alloc (Nat.le_refl _) _
          have u0 : U.cell? ⟨wr.heap.size, 0, none⟩ = some (.int .i64 (q : Int)) := by rw [hU, cell_of_row _ wr.heap.size 0 _ 130 (0, 0) (heap_alloc_new wr _)]; rfl
          have ux : U.cell? ⟨g, q, none⟩ = some (.int .i64 x) := by rw [G0.cell hgw]; exact cx
          have vx : U.frozen? ⟨g, q, none⟩ = false := by rw [G0.frozen hgw]; exact fx
          have uy : U.cell? ⟨g, k, none⟩ = some (.int .i64 y) := by rw [G0.cell hgw]; exact cy
          have ul : U.cell? ⟨wo.heap.size, 1, none⟩ = some (.int .i64 l) := by rw [G0.cell lw]; exact lj
          have ownU := ownj.below G0
          have HU := Lib.hid hU
          have hqn2 : (q : Int) < (n : Int) := by omega
          have hkn2 : (k : Int) < (n : Int) := by omega
          clear hU
          go_wp2
          rw [← HU.out]
          refine wp_region_still_tail 17 (by kernel_rfl) (by kernel_rfl) ?_
          simp only [List.take_succ_cons, List.take_zero, List.drop_succ_cons, List.drop_zero]
          iterate 17 still_step
          refine wpStill_nil ?_
          change wpList _ _ _ _ _ U.drew
          go_wp2
          go_roundw
          case rel =>
            have h3 := OI.stored' ownU q (if x < y + l then y + l else x)
            have e3 : (M.entS xs k l us j).set q (if x < y + l then y + l else x) = M.entS xs k l us (j + 1) := by
              rw [hE2.out, hE3.out]
              congr 1
              split <;> omega
            rw [e3] at h3
            have z0 : w.heap.size ≤ wr.heap.size := by omega
            have z1 := G0.size
            have z2 : (U.setCell ⟨g, q, none⟩ (.int .i64 (if x < y + l then y + l else x))).heap.size = U.heap.size := by simp
            have z3 : (U.setCell ⟨g, q, none⟩ (.int .i64 (if x < y + l then y + l else x))).cell? ⟨wo.heap.size, 1, none⟩ = some (.int .i64 l) := by
              rw [World.cell?_of_block (heap_setCell_other U ⟨g, q, none⟩ wo.heap.size _ (fun e => hng e.symm))]
              exact ul
            exact ⟨j + 1, by go_num, by omega, h3, z3, by show wo.heap.size + 1 ≤ (U.setCell ⟨g, q, none⟩ (.int .i64 (if x < y + l then y + l else x))).heap.size; omega, ((Bj.trans (G0.mono z0)).setCell (Nat.le_trans (Nat.le_succ _) hg1) _).drew, ((Bo.trans (G0.mono z0)).setCell (Nat.le_trans (Nat.le_succ _) hg1) _).drew⟩
          case measure => simp [intOf]; omega
        · obtain rfl : j = n2 := by omega
          have hend := M.entS_end hX.out
          rw [HN2.out] at hend
          have HE := Lib.hid hend
          clear hend
          go_wp2
          go_roundw
          case rel => exact ⟨k + 1, by go_num, by omega, by rw [← HE.out]; exact ownj, Bj⟩
          case measure => simp [intOf]; omega
    · obtain rfl : k = n := by omega
      go_wp2
      go_ret
      exact ⟨_, rfl, by rw [M.entries, HLX.out]; exact own.base (by omega), Bw⟩
end Go.Proofs.YtffhodocjjkkoaaGreat
namespace Go.Proofs.YtffhodocjjkkoaaGreat
open Go.RowKit
set_option maxHeartbeats 4000000
set_option maxRecDepth 100000
theorem spec_l00Max (a b : Int) (w : World) : Calls Tryz.prog 88 #[.int .i64 a, .int .i64 b] w fun e w' => e = .returned (.int .i64 (max a b)) ∧ w = w' := by
  by_cases h : b < a
  · have h2 := Lib.hid (show max a b = a by omega)
    go_enter Tryz.func88, Tryz.ntmps88
    go_wp2
    go_ret
    exact ⟨ret_int (by rw [h2.out]), rfl⟩
  · have h2 := Lib.hid (show max a b = b by omega)
    go_enter Tryz.func88, Tryz.ntmps88
    go_wp2
    go_ret
    exact ⟨ret_int (by rw [h2.out]), rfl⟩
theorem spec_l26Entries_at (vb vo : Nat) (A : Option Addr) (n c : Nat) (xs : List Strip) (w : World) (hv0 : w.cell? ⟨vb, vo, none⟩ = some (.slice A n c)) (hx : tM.R w w.heap.size [.slice A n c] xs) (hok : M.mixOk xs = true) :
    Calls Tryz.prog 48 #[.pointer (some ⟨vb, vo, none⟩)] w (Ret1 2 w (M.entries xs)) := by
  have hvb : vb < w.heap.size := World.block_lt_of_cell? w _ hv0
  have rx := sl_R.1 hx
  have hlx := rx.cap.1
  have hmn := M.mix_n hok
  have hnb : 1 ≤ n ∧ n ≤ 8 := by omega
  have HLX := Lib.hid hlx
  have HOK := Lib.hid hok
  clear hlx hmn hok
  go_enter Tryz.func48, Tryz.ntmps48
  go_wp2_with (at_make; refine wpList_mk ei_i64 rfl _ _ rfl n _ _ rfl rfl rfl rfl (by omega) (by unfold maxLen; omega) ?_; intro w1 own1 B1)
  have own1' : OI 2 w.heap.size w1 (.slice (some ⟨w.heap.size, 0, none⟩) n n) (M.entN xs 0) := by
    show OI 2 w.heap.size w1 _ (List.replicate xs.length 0)
    rw [HLX.out]
    unfold OI
    have := toList_madeCells_one (.int .i64 0) n
    simp only [Nat.mul_one, Value.cells] at own1
    rw [this] at own1
    simpa using own1
  clear own1
  go_loopw [4, 5, 6, 7] (fun i _ _ _ wr => ∃ k : Nat, i = .int .i64 k ∧ k ≤ n ∧ OI 2 w.heap.size wr (.slice (some ⟨w.heap.size, 0, none⟩) n n) (M.entN xs k) ∧ Below w.heap.size w wr) (fun i _ _ _ _ => n - (intOf i).toNat)
  case atStart => exact ⟨0, rfl, by omega, own1', B1⟩
  case round =>
    obtain ⟨k, rfl, hk, own, Bw⟩ := hrel
    have c0 : wr.cell? ⟨vb, vo, none⟩ = some (.slice A n c) := by rw [Bw.cell hvb]; exact hv0
    by_cases hlt : k < n
    · have hX := Lib.hid (List.getElem?_eq_getElem (l := xs) (i := k) (by rw [HLX.out]; exact hlt))
      obtain ⟨b, o1, cc, cs, hv, hab, -, hE, hcc⟩ := (rx.below Bw).atX hX.out
      simp only [Value.slice.injEq] at hv
      obtain ⟨rfl, -, rfl⟩ := hv
      generalize xs[k]'(by rw [HLX.out]; exact hlt) = x at hX hE
      obtain ⟨s, l, us⟩ := x
      obtain ⟨A2, n2, c2, rfl, -, hE⟩ := st_R.1 hE
      have e1 : wr.cell? ⟨b, o1 + k * 3 + 1, none⟩ = some (.int .i64 l) := hcc 1 _ rfl
      have e2 : wr.cell? ⟨b, o1 + k * 3 + 2, none⟩ = some (.slice A2 n2 c2) := hcc 2 _ rfl
      have rs := (tSdS_ra hE).1
      have hn2 := rs.1
      obtain ⟨hlat, hu4, hsb⟩ := M.mix_strip HOK.out hX.out
      have HN2 := Lib.hid hn2
      have HSB := Lib.hid hsb
      have HUP := Lib.hid (fun j => M.entS_upTo HOK.out hX.out j)
      have hkn2 : (k : Int) < (n : Int) := by omega
      have n2b : n2 ≤ 4 := by omega
      clear hcc hE hn2 hu4 hsb
      go_wp2
      obtain ⟨wo, rfl⟩ : ∃ wo : World, wo = wr := ⟨_, rfl⟩
      go_loopw [6, 7] (fun i _ wr => ∃ j : Nat, i = .int .i64 j ∧ j ≤ n2 ∧ OI 2 w.heap.size wr (.slice (some ⟨w.heap.size, 0, none⟩) n n) (M.entS xs k l us j) ∧ Below w.heap.size w wr ∧ Below w.heap.size wo wr) (fun i _ _ => n2 - (intOf i).toNat)
      case atStart => exact ⟨0, rfl, by omega, own, Bw, (Below.refl _ _).mono Bw.size⟩
      case round =>
        obtain ⟨j, rfl, hj, ownj, Bj, Bo⟩ := hrel
        have g1 : wr.cell? ⟨b, o1 + k * 3 + 1, none⟩ = some (.int .i64 l) := by rw [Bo.cell hab]; exact e1
        have g2 : wr.cell? ⟨b, o1 + k * 3 + 2, none⟩ = some (.slice A2 n2 c2) := by rw [Bo.cell hab]; exact e2
        by_cases hlt2 : j < n2
        · obtain ⟨b2, o2, ⟨p0, p1⟩, rfl, hab2, X2, hdd⟩ := (rs.below Bo).at sd_len (by decide) hlt2
          have f0 : wr.cell? ⟨b2, o2 + j * 2, none⟩ = some (.int .i64 p0) := hdd 0 _ rfl
          obtain ⟨hp1, hp2, -⟩ := M.sends_at HSB.out X2.out
          obtain ⟨q, rfl⟩ : ∃ q : Nat, p0 = q := ⟨p0.toNat, by omega⟩
          have hqn : q < n := by have := HLX.out; omega
          have hqn2 : (q : Int) < (n : Int) := by omega
          obtain ⟨x, hxx, cx, fx, -, -⟩ := ownj.at' hqn
          obtain ⟨y, hyy, cy, fy, -, -⟩ := ownj.at' hlt
          have bx := M.upTo_at (HUP.out j) hxx.out
          have by_ := M.upTo_at (HUP.out j) hyy.out
          have hE2 := Lib.hid (M.entS_next (xs := xs) (k := k) (l := l) X2.out)
          have hE3 := Lib.hid (M.entSend_eq (k := k) (l := l) (g := p1) hxx.out hyy.out)
          have hwr : w.heap.size < wr.heap.size := by
            obtain ⟨g, hg, h1, h2⟩ := ownj.form' (by omega)
            injection hg with hg
            injection hg with hg
            omega
          clear hdd hp1 hp2
          go_wp2
          refine wp_region_still_tail 17 (by kernel_rfl) (by kernel_rfl) ?_
          simp only [List.take_succ_cons, List.take_zero, List.drop_succ_cons, List.drop_zero]
          iterate 15 still_step
          still_call (still_of (spec_l00Max _ _ _))
          still_step
          refine wpStill_nil ?_
          change wpList _ _ _ _ _ wr.drew
          go_wp2
          go_roundw
          case rel =>
            have h3 := OI.stored' ownj q (max x (y + l))
            have e3 : (M.entS xs k l us j).set q (max x (y + l)) = M.entS xs k l us (j + 1) := by rw [hE2.out, hE3.out]
            rw [e3] at h3
            exact ⟨j + 1, by go_num, by omega, h3, (Bj.setCell (Nat.le_refl _) _).drew, (Bo.setCell (Nat.le_refl _) _).drew⟩
          case measure => simp [intOf]; omega
        · obtain rfl : j = n2 := by omega
          have hend := M.entS_end hX.out
          rw [HN2.out] at hend
          have HE := Lib.hid hend
          clear hend
          go_wp2
          go_roundw
          case rel => exact ⟨k + 1, by go_num, by omega, by rw [← HE.out]; exact ownj, Bj⟩
          case measure => simp [intOf]; omega
    · obtain rfl : k = n := by omega
      go_wp2
      go_ret
      exact ⟨_, rfl, by rw [M.entries, HLX.out]; exact own, Bw⟩
end Go.Proofs.YtffhodocjjkkoaaGreat
namespace Go.Proofs.YtffhodocjjkkoaaGreat
open Go.RowKit
set_option maxHeartbeats 4000000
set_option maxRecDepth 100000
def M.total (xs : List Strip) : Int := ((M.entries xs)[xs.length - 1]?).getD 0 + ((xs[xs.length - 1]?).getD M.sz).2.1
def M.totalR (xs : List Strip) : Int × Int := if M.mixOk xs then (M.total xs, 0) else (0, 1)
def M.entryR (xs : List Strip) : List Int × Int := if M.mixOk xs then (M.entries xs, 0) else ([], 1)
theorem M.entries_len (xs : List Strip) : (M.entries xs).length = xs.length := M.entN_len _ _
theorem M.entries_upTo {xs : List Strip} (h : M.mixOk xs = true) : M.upTo 2000 (M.entries xs) := M.upTo_mono (M.entN_upTo h xs.length (Nat.le_refl _)) (by have := M.mix_n h; omega)
theorem impl_latency (A : Option Addr) (n c : Nat) (xs : List Strip) (w : World) (hx : tM.R w w.heap.size [.slice A n c] xs) (hok : M.mixOk xs = true) :
    Calls Tryz.prog 95 #[.agg #[.slice A n c]] w fun e w' => e = .returned (.int .i64 (M.total xs)) ∧ Below w.heap.size w w' := by
  have rx := sl_R.1 hx
  have hlx := rx.cap.1
  have hmn := M.mix_n hok
  have hnb : 1 ≤ n ∧ n ≤ 8 := by omega
  have HLX := Lib.hid hlx
  have HOK := Lib.hid hok
  obtain ⟨W, hW⟩ : ∃ W, W = w.alloc (.cells #[.slice A n c] 38) := ⟨_, rfl⟩
  have B0 : Below w.heap.size w W := by rw [hW]; exact (Below.refl _ _).alloc (Nat.le_refl _) _
  have hself : W.cell? ⟨w.heap.size, 0, none⟩ = some (.slice A n c) := by rw [hW]; simp [go_sem]
  have lx : w.heap.size < W.heap.size := by rw [hW]; simp
  have HW := Lib.hid hW
  have hX := Lib.hid (List.getElem?_eq_getElem (l := xs) (i := n - 1) (by omega))
  obtain ⟨b, o1, cc, cs, hv, hab, -, hE, hcc⟩ := (rx.below B0).atX hX.out
  simp only [Value.slice.injEq] at hv
  obtain ⟨rfl, -, rfl⟩ := hv
  generalize xs[n - 1]'(by omega) = x at hX hE
  obtain ⟨s, l, us⟩ := x
  obtain ⟨A2, n2, c2, rfl, -, -⟩ := st_R.1 hE
  have e1 : W.cell? ⟨b, o1 + (n - 1) * 3 + 1, none⟩ = some (.int .i64 l) := hcc 1 _ rfl
  obtain ⟨hlat, -, -⟩ := M.mix_strip HOK.out hX.out
  have hEl := Lib.hid (List.getElem?_eq_getElem (l := M.entries xs) (i := n - 1) (by rw [M.entries_len]; omega))
  generalize (M.entries xs)[n - 1]'(by rw [M.entries_len]; omega) = t at hEl
  have hbt := M.upTo_at (M.entries_upTo HOK.out) hEl.out
  have HT := Lib.hid (show M.total xs = t + l by rw [M.total, HLX.out, hEl.out, hX.out]; rfl)
  have hkk : IntKind.i64.wrap ((n : Int) - 1) = ((n - 1 : Nat) : Int) := by rw [IntWalk.i64_in _ (by omega)]; omega
  have i0 : (0 : Int) ≤ ((n - 1 : Nat) : Int) := by omega
  have i1 : ((n - 1 : Nat) : Int) < (n : Int) := by omega
  have i2 : n - 1 < n := by omega
  have htl : IntKind.i64.wrap (t + l) = t + l := IntWalk.i64_in _ (by omega)
  have D1 : Below W.heap.size W (W.drewN 1) := below_drewN (Below.refl _ _) 1
  have hxd := tM.later hx (bel_trans B0 D1)
  have lb : b < W.heap.size := Nat.lt_of_lt_of_le hab B0.size
  clear hcc hE hlx hmn hok hW
  go_enter Tryz.func95, Tryz.ntmps95
  go_wp2
  rw [← HW.out]
  go_region_with
    (first | (go_at_call 96; refine (impl_entries _ _ _ _ _ hxd HOK.out).mono ?_; rintro e w2 ⟨v2, rfl, own2, bel2⟩; obtain ⟨A3, c3, rfl, -⟩ := own2.shape; have hl3 := M.entries_len xs; rw [HLX.out] at hl3; rw [hl3] at own2 ⊢; clear hl3; obtain ⟨g, rfl, -, -⟩ := own2.form' (show 0 < n by omega); obtain ⟨t2, hT2, hct, -, -, -⟩ := own2.at' i2; have e9 := hT2.out; rw [hEl.out] at e9; injection e9 with e9; rw [← e9] at hct; clear e9; have G2 := bel_trans D1 bel2; have hself2 : w2.cell? ⟨w.heap.size, 0, none⟩ = some (.slice (some ⟨b, o1, none⟩) n c) := (by rw [G2.cell lx]; exact hself); have e12 : w2.cell? ⟨b, o1 + (n - 1) * 3 + 1, none⟩ = some (.int .i64 l) := (by rw [G2.cell lb]; exact e1)))
  all_goals
    go_wp2
    go_ret
    exact ⟨ret_int (by rw [HT.out]), bel_trans B0 G2⟩
theorem spec_l26Total_at (vb vo : Nat) (A : Option Addr) (n c : Nat) (xs : List Strip) (W : World) (hself : W.cell? ⟨vb, vo, none⟩ = some (.slice A n c)) (hx : tM.R W W.heap.size [.slice A n c] xs) (hok : M.mixOk xs = true) :
    Calls Tryz.prog 68 #[.pointer (some ⟨vb, vo, none⟩)] W fun e w' => e = .returned (.int .i64 (M.total xs)) ∧ Below W.heap.size W w' := by
  have lx : vb < W.heap.size := World.block_lt_of_cell? W _ hself
  have rx := sl_R.1 hx
  have hlx := rx.cap.1
  have hmn := M.mix_n hok
  have hnb : 1 ≤ n ∧ n ≤ 8 := by omega
  have HLX := Lib.hid hlx
  have HOK := Lib.hid hok
  have hX := Lib.hid (List.getElem?_eq_getElem (l := xs) (i := n - 1) (by omega))
  obtain ⟨b, o1, cc, cs, hv, hab, -, hE, hcc⟩ := rx.atX hX.out
  simp only [Value.slice.injEq] at hv
  obtain ⟨rfl, -, rfl⟩ := hv
  generalize xs[n - 1]'(by omega) = x at hX hE
  obtain ⟨s, l, us⟩ := x
  obtain ⟨A2, n2, c2, rfl, -, -⟩ := st_R.1 hE
  have e1 : W.cell? ⟨b, o1 + (n - 1) * 3 + 1, none⟩ = some (.int .i64 l) := hcc 1 _ rfl
  obtain ⟨hlat, -, -⟩ := M.mix_strip HOK.out hX.out
  have hEl := Lib.hid (List.getElem?_eq_getElem (l := M.entries xs) (i := n - 1) (by rw [M.entries_len]; omega))
  generalize (M.entries xs)[n - 1]'(by rw [M.entries_len]; omega) = t at hEl
  have hbt := M.upTo_at (M.entries_upTo HOK.out) hEl.out
  have HT := Lib.hid (show M.total xs = t + l by rw [M.total, HLX.out, hEl.out, hX.out]; rfl)
  have hkk : IntKind.i64.wrap ((n : Int) - 1) = ((n - 1 : Nat) : Int) := by rw [IntWalk.i64_in _ (by omega)]; omega
  have i0 : (0 : Int) ≤ ((n - 1 : Nat) : Int) := by omega
  have i1 : ((n - 1 : Nat) : Int) < (n : Int) := by omega
  have i2 : n - 1 < n := by omega
  have htl : IntKind.i64.wrap (t + l) = t + l := IntWalk.i64_in _ (by omega)
  have D1 : Below W.heap.size W (W.drewN 1) := below_drewN (Below.refl _ _) 1
  have hxd := tM.later hx D1
  have hsd : (W.drewN 1).cell? ⟨vb, vo, none⟩ = some (.slice (some ⟨b, o1, none⟩) n c) := by rw [D1.cell lx]; exact hself
  clear hcc hE hlx hmn hok
  go_enter Tryz.func68, Tryz.ntmps68
  go_wp2
  go_region_with
    (first | (go_at_call 48; refine (spec_l26Entries_at _ _ _ _ _ _ _ hsd hxd HOK.out).mono ?_; rintro e w2 ⟨v2, rfl, own2, bel2⟩; obtain ⟨A3, c3, rfl, -⟩ := own2.shape; have hl3 := M.entries_len xs; rw [HLX.out] at hl3; rw [hl3] at own2 ⊢; clear hl3; obtain ⟨g, rfl, -, -⟩ := own2.form' (show 0 < n by omega); obtain ⟨t2, hT2, hct, -, -, -⟩ := own2.at' i2; have e9 := hT2.out; rw [hEl.out] at e9; injection e9 with e9; rw [← e9] at hct; clear e9; have G2 := bel_trans D1 bel2; have hself2 : w2.cell? ⟨vb, vo, none⟩ = some (.slice (some ⟨b, o1, none⟩) n c) := (by rw [G2.cell lx]; exact hself); have e12 : w2.cell? ⟨b, o1 + (n - 1) * 3 + 1, none⟩ = some (.int .i64 l) := (by rw [G2.cell hab]; exact e1)))
  all_goals
    go_wp2
    go_ret
    exact ⟨ret_int (by rw [HT.out]), G2⟩
end Go.Proofs.YtffhodocjjkkoaaGreat
namespace Go.Proofs.YtffhodocjjkkoaaGreat
open Go.RowKit
set_option maxHeartbeats 4000000
set_option maxRecDepth 100000
/-- The delay of one send of strip k. -/
def M.delayOf (es : List Int) (k : Nat) (l : Int) (p : Int × Int) : Int := (es[p.1.toNat]?).getD 0 - (es[k]?).getD 0 - l
def M.delayRow (xs : List Strip) (k : Nat) : List Int := ((xs[k]?).getD M.sz).2.2.map (M.delayOf (M.entries xs) k ((xs[k]?).getD M.sz).2.1)
def M.delays (xs : List Strip) : List (List Int) := (List.range xs.length).map (M.delayRow xs)
def M.delaysR (xs : List Strip) : List (List Int) × Int := if M.mixOk xs then (M.delays xs, 0) else ([], 1)
theorem M.delays_len (xs : List Strip) : (M.delays xs).length = xs.length := by simp [M.delays]
theorem M.delays_at {xs : List Strip} {k : Nat} (h : k < xs.length) : (M.delays xs)[k]? = some (M.delayRow xs k) := by simp [M.delays, h]
theorem M.delayRow_len {xs : List Strip} {k : Nat} {s : ByteArray} {l : Int} {us : List (Int × Int)} (h : xs[k]? = some (s, l, us)) : (M.delayRow xs k).length = us.length := by simp [M.delayRow, h]
theorem M.delayRow_at {xs : List Strip} {k : Nat} {s : ByteArray} {l : Int} {us : List (Int × Int)} (h : xs[k]? = some (s, l, us)) {j q : Nat} {g x y : Int} (hj : us[j]? = some ((q : Int), g)) (hx : (M.entries xs)[q]? = some x) (hy : (M.entries xs)[k]? = some y) : (M.delayRow xs k)[j]? = some (x - y - l) := by
  simp [M.delayRow, h, hj, M.delayOf, hx, hy]
theorem impl_delays (A : Option Addr) (n c : Nat) (xs : List Strip) (w : World) (hx : tM.R w w.heap.size [.slice A n c] xs) (hok : M.mixOk xs = true) :
    Calls Tryz.prog 97 #[.agg #[.slice A n c]] w fun e w' => ∃ v, e = .returned v ∧ OS tS 24 w' (Iv w.heap.size w'.heap.size) v (M.delays xs) ∧ Below w.heap.size w w' := by
  have rx := sl_R.1 hx
  have hlx := rx.cap.1
  have hmn := M.mix_n hok
  have hnb : 1 ≤ n ∧ n ≤ 8 := by omega
  have HLX := Lib.hid hlx
  have HOK := Lib.hid hok
  have hel := M.entries_len xs
  rw [hlx] at hel
  have HEL := Lib.hid hel
  have HUP := Lib.hid (M.entries_upTo hok)
  have hdl : (M.delays xs).length = n := by rw [M.delays_len]; exact hlx
  have HDL := Lib.hid hdl
  obtain ⟨W, hW⟩ : ∃ W, W = w.alloc (.cells #[.slice A n c] 38) := ⟨_, rfl⟩
  have B0 : Below w.heap.size w W := by rw [hW]; exact (Below.refl _ _).alloc (Nat.le_refl _) _
  have hself : W.cell? ⟨w.heap.size, 0, none⟩ = some (.slice A n c) := by rw [hW]; simp [go_sem]
  have lx : w.heap.size < W.heap.size := by rw [hW]; simp
  have hxW := tM.later hx B0
  have HW := Lib.hid hW
  clear hlx hmn hok hel hdl hW
  go_enter Tryz.func97, Tryz.ntmps97
  go_wp2_with fail
  rw [← HW.out]
  go_wp2_with (go_at_call 96; refine (impl_entries _ _ _ _ _ hxW HOK.out).mono ?_; rintro e w3 ⟨v3, rfl, own3, bel3⟩; obtain ⟨A3, c3, rfl, -⟩ := own3.shape; rw [HEL.out] at own3 ⊢; obtain ⟨g, rfl, hg1, hg2⟩ := own3.form' (show 0 < n by omega); have hs3 : w3.cell? ⟨w.heap.size, 0, none⟩ = some (.slice A n c) := (by rw [bel3.cell lx]; exact hself); have lw3 : w.heap.size < w3.heap.size := Nat.lt_of_lt_of_le lx bel3.size)
  have B03 : Below w.heap.size w w3 := bel_trans B0 bel3
  have hw3 := B03.size
  clear bel3 hself B0 hxW
  go_loopw [4, 5, 6, 7, 9, 16, 25] (fun v _ _ _ _ i _ wr => ∃ k : Nat, i = .int .i64 k ∧ k ≤ n ∧ OS tS 24 wr (Iv w3.heap.size wr.heap.size) v ((M.delays xs).take k) ∧ Below w3.heap.size w3 wr) (fun _ _ _ _ _ i _ _ => n - (intOf i).toNat)
  case atStart => exact ⟨0, rfl, by omega, OS.made0 _ _ _, (Below.refl _ _).alloc (Nat.le_refl _) _⟩
  case round =>
    obtain ⟨k, rfl, hk, own, Bw⟩ := hrel
    have hsb := Bw.size
    have BW := bel_trans B03 Bw
    have hpl : ((M.delays xs).take k).length ≤ 8 := by rw [List.length_take]; omega
    by_cases hlt : k < n
    · have hX := Lib.hid (List.getElem?_eq_getElem (l := xs) (i := k) (by rw [HLX.out]; exact hlt))
      obtain ⟨b, o1, cc, cs, hv, hab, -, hE, hcc⟩ := (rx.below BW).atX hX.out
      simp only [Value.slice.injEq] at hv
      obtain ⟨rfl, -, rfl⟩ := hv
      generalize xs[k]'(by rw [HLX.out]; exact hlt) = x at hX hE
      obtain ⟨s, l, us⟩ := x
      obtain ⟨A2, n2, c2, rfl, -, hE⟩ := st_R.1 hE
      have e0 : wr.cell? ⟨b, o1 + k * 3, none⟩ = some (.string s) := hcc 0 _ rfl
      have e1 : wr.cell? ⟨b, o1 + k * 3 + 1, none⟩ = some (.int .i64 l) := hcc 1 _ rfl
      have e2 : wr.cell? ⟨b, o1 + k * 3 + 2, none⟩ = some (.slice A2 n2 c2) := hcc 2 _ rfl
      have hbr : b < wr.heap.size := Nat.lt_of_lt_of_le hab BW.size
      have rs := (tSdS_ra hE).1
      have hn2 := rs.1
      obtain ⟨hlat, hu4, hsb2⟩ := M.mix_strip HOK.out hX.out
      have HSB := Lib.hid hsb2
      have n2b : n2 ≤ 4 := by omega
      have hkn2 : (k : Int) < (n : Int) := by omega
      have hrl : (M.delayRow xs k).length = n2 := by rw [M.delayRow_len hX.out]; exact hn2
      have HRL := Lib.hid hrl
      have hpt := Lib.hid (M.take_at (M.delays_at (xs := xs) (k := k) (by rw [HLX.out]; exact hlt)))
      clear hcc hE hn2 hu4 hsb2 hrl
      go_wp2
      obtain ⟨wo, rfl⟩ : ∃ wo : World, wo = wr := ⟨_, rfl⟩
      obtain ⟨U, hU⟩ : ∃ U, U = wo.alloc (.cells #[.string s, .int .i64 l, .slice A2 n2 c2] 78) := ⟨_, rfl⟩
      rw [← hU]
      have BUo : Below wo.heap.size wo U := by rw [hU]; exact (Below.refl _ _).alloc (Nat.le_refl _) _
      have HSU : U.heap.size = wo.heap.size + 1 := by rw [hU]; simp
      have lb : U.cell? ⟨wo.heap.size, 1, none⟩ = some (.int .i64 l) := by rw [hU, cell_of_row _ wo.heap.size 1 _ 78 (0, 0) (heap_alloc_new wo _)]; rfl
      have own0 := OI.made 2 U
      have BU0 : Below U.heap.size U (U.alloc (.cells #[] 2)) := (Below.refl _ _).alloc (Nat.le_refl _) _
      rw [HSU] at own0
      go_loopw [7, 9, 25] (fun v _ i wr => ∃ j : Nat, i = .int .i64 j ∧ j ≤ n2 ∧ OI 2 (wo.heap.size + 1) wr v ((M.delayRow xs k).take j) ∧ Below (wo.heap.size + 1) U wr) (fun _ _ i _ => n2 - (intOf i).toNat)
      case atStart => exact ⟨0, rfl, by omega, own0, by rw [← HSU]; exact BU0⟩
      case round =>
        obtain ⟨j, rfl, hj, ownj, BU⟩ := hrel
        have hszj : wo.heap.size + 1 ≤ wr.heap.size := by have := BU.size; omega
        have Bo : Below wo.heap.size wo wr := BUo.trans (BU.mono (Nat.le_succ _))
        have lj : wr.cell? ⟨wo.heap.size, 1, none⟩ = some (.int .i64 l) := by rw [BU.cell (Nat.lt_succ_self _)]; exact lb
        have ownE := own3.below (Bw.trans (Bo.mono hsb))
        have hpj : ((M.delayRow xs k).take j).length ≤ 4 := by rw [List.length_take]; omega
        by_cases hlt2 : j < n2
        · obtain ⟨b2, o2, ⟨p0, p1⟩, rfl, hab2, X2, hdd⟩ := (rs.below (Bo.mono BW.size)).at sd_len (by decide) hlt2
          have f0 : wr.cell? ⟨b2, o2 + j * 2, none⟩ = some (.int .i64 p0) := hdd 0 _ rfl
          have f1 : wr.cell? ⟨b2, o2 + j * 2 + 1, none⟩ = some (.int .i64 p1) := hdd 1 _ rfl
          obtain ⟨hp1, hp2, -⟩ := M.sends_at HSB.out X2.out
          obtain ⟨q, rfl⟩ : ∃ q : Nat, p0 = q := ⟨p0.toNat, by omega⟩
          have hqn : q < n := by have := HLX.out; omega
          have hqn2 : (q : Int) < (n : Int) := by omega
          obtain ⟨x, hxx, cx, -, -, gw⟩ := ownE.at' hqn
          obtain ⟨y, hyy, cy, -, -, -⟩ := ownE.at' hlt
          have bx := M.upTo_at HUP.out hxx.out
          have by_ := M.upTo_at HUP.out hyy.out
          have hP := Lib.hid (M.take_at (M.delayRow_at hX.out X2.out hxx.out hyy.out))
          have w1_ : IntKind.i64.wrap (x - y) = x - y := IntWalk.i64_in _ (by omega)
          have w2_ : IntKind.i64.wrap (x - y - l) = x - y - l := IntWalk.i64_in _ (by omega)
          clear hdd hp1 hp2
          obtain ⟨V, hV⟩ : ∃ V, V = wr.alloc (.cells #[.int .i64 (q : Int), .int .i64 p1] 130) := ⟨_, rfl⟩
          have G0 : Below wr.heap.size wr V := by rw [hV]; exact (Below.refl _ _).alloc (Nat.le_refl _) _
          have u0 : V.cell? ⟨wr.heap.size, 0, none⟩ = some (.int .i64 (q : Int)) := by rw [hV, cell_of_row _ wr.heap.size 0 _ 130 (0, 0) (heap_alloc_new wr _)]; rfl
          have ux : V.cell? ⟨g, q, none⟩ = some (.int .i64 x) := by rw [G0.cell gw]; exact cx
          have uy : V.cell? ⟨g, k, none⟩ = some (.int .i64 y) := by rw [G0.cell gw]; exact cy
          have ul : V.cell? ⟨wo.heap.size, 1, none⟩ = some (.int .i64 l) := by rw [G0.cell (show (⟨wo.heap.size, 1, none⟩ : Addr).block < _ from hszj)]; exact lj
          have ownV := ownj.below G0
          have lV : wr.heap.size < V.heap.size := by rw [hV]; simp
          have HV := Lib.hid hV
          have hsV := G0.size
          have BA : ∀ us, Below V.heap.size V (V.alloc (.cells us 2)).drew := fun us => ((Below.refl _ _).alloc (Nat.le_refl _) _).drew
          have gV : g < V.heap.size := by omega
          have oV : wo.heap.size < V.heap.size := by omega
          have gB : g < wo.heap.size + 1 := by omega
          have oB : wo.heap.size < wo.heap.size + 1 := Nat.lt_succ_self _
          have ownV0 : V.ownsRow (wo.heap.size + 1) 2 1 _ ((M.delayRow xs k).take j).length (((M.delayRow xs k).take j).map (.int .i64)) := ownV
          have c1_ : ((M.delayRow xs k).take j).length + 1 ≤ maxLen := by unfold maxLen; omega
          have c2_ : (((M.delayRow xs k).take j).length + 1) * 8 ≤ 140737488355328 := by omega
          have c3_ : wo.heap.size + 1 ≤ V.heap.size := by omega
          clear hV
          go_wp2
          rw [← HV.out]
          have hne : ∀ {v : Value}, OI 2 (wo.heap.size + 1) wr v ((M.delayRow xs k).take j) → v.ownBlock ≠ some wr.heap.size := fun h h2 => Nat.lt_irrefl _ (World.ownsRow.lt h _ h2).2
          go_region_held3 (fun w' => w'.cell? ⟨wr.heap.size, 0, none⟩ = some (.int .i64 (q : Int)) ∧ w'.cell? ⟨g, q, none⟩ = some (.int .i64 x) ∧ w'.cell? ⟨g, k, none⟩ = some (.int .i64 y) ∧ w'.cell? ⟨wo.heap.size, 1, none⟩ = some (.int .i64 l))
            (first | exact ⟨u0, ux, uy, ul⟩ | exact ⟨((BA _).cell lV).trans u0, ((BA _).cell gV).trans ux, ((BA _).cell gV).trans uy, ((BA _).cell oV).trans ul⟩ | exact ⟨z0, z1, z2, z3⟩)
            (first | (refine step_push1 (o := ⟨some 44, _, _, _, _, _⟩) ei_i64 rfl (.tmp 29) (.tmp 43) rfl (World.ownsRow.drew (World.ownsRow.alloc ownV0 _)) rfl rfl (cell_alloc1 _ _ _) rfl c1_ c2_ (base_alloc c3_) ?_; intro v1 w1 own1 gr1 bel1; have z0 : w1.cell? ⟨wr.heap.size, 0, none⟩ = some (.int .i64 (q : Int)) := (by rw [World.cell?_of_block (gr1.block wr.heap.size (Nat.lt_of_lt_of_le lV (BA _).size) (hne ownj).symm), (BA _).cell (show (⟨wr.heap.size, 0, none⟩ : Addr).block < _ from lV)]; exact u0); have z1 : w1.cell? ⟨g, q, none⟩ = some (.int .i64 x) := (by rw [bel1.cell (show (⟨g, q, none⟩ : Addr).block < _ from gB), (BA _).cell (show (⟨g, q, none⟩ : Addr).block < _ from gV)]; exact ux); have z2 : w1.cell? ⟨g, k, none⟩ = some (.int .i64 y) := (by rw [bel1.cell (show (⟨g, k, none⟩ : Addr).block < _ from gB), (BA _).cell (show (⟨g, k, none⟩ : Addr).block < _ from gV)]; exact uy); have z3 : w1.cell? ⟨wo.heap.size, 1, none⟩ = some (.int .i64 l) := (by rw [bel1.cell (show (⟨wo.heap.size, 1, none⟩ : Addr).block < _ from oB), (BA _).cell (show (⟨wo.heap.size, 1, none⟩ : Addr).block < _ from oV)]; exact ul)))
          go_wp2
          go_roundw
          case rel => exact ⟨j + 1, by go_num, by omega, by rw [hP.out]; exact OI.push own1, ((BU.trans (G0.mono hszj)).trans ((BA _).mono c3_)).trans bel1⟩
          case measure => simp [intOf]; omega
        · obtain rfl : j = n2 := by omega
          rw [List.take_of_length_le (by rw [HRL.out]; exact Nat.le_refl _)] at ownj
          obtain ⟨A4, c4, rfl, -⟩ := ownj.shape
          have ow := own.below Bo (Nat.le_refl _)
          have os2 := tS_O.2 (OI.os (OI.base ownj (show wo.heap.size ≤ _ by omega)))
          have s2 := Bo.size
          go_wp2_with (at_builtin; refine wpList_pushS ei_S #[.slice A4 (M.delayRow xs k).length c4] rfl _ _ rfl ow os2 (Iv.apart (Nat.le_refl _)) rfl rfl (by unfold maxLen; omega) (by omega) ?_; intro v3 w4 own4 ch4)
          go_roundw
          case rel =>
            refine ⟨k + 1, by go_num, by omega, ?_, (Bw.trans (Bo.mono hsb)).trans (ch4.toBelow (fun b hb => hb.1) (by omega))⟩
            rw [hpt.out]
            exact own4.wide (Iv.grow hsb s2 ch4.size)
          case measure => simp [intOf]; omega
    · obtain rfl : k = n := by omega
      go_wp2
      go_ret
      rw [List.take_of_length_le (by rw [HDL.out]; exact Nat.le_refl _)] at own
      exact ⟨_, rfl, own.wide (fun b hb => ⟨Nat.le_trans hw3 hb.1, hb.2⟩), BW⟩
theorem spec_l26Delays_at (vb vo : Nat) (A : Option Addr) (n c : Nat) (xs : List Strip) (w : World) (hv0 : w.cell? ⟨vb, vo, none⟩ = some (.slice A n c)) (hx : tM.R w w.heap.size [.slice A n c] xs) (hok : M.mixOk xs = true) :
    Calls Tryz.prog 89 #[.pointer (some ⟨vb, vo, none⟩)] w fun e w' => ∃ v, e = .returned v ∧ OS tS 24 w' (Iv w.heap.size w'.heap.size) v (M.delays xs) ∧ Below w.heap.size w w' := by
  have hvb : vb < w.heap.size := World.block_lt_of_cell? w _ hv0
  have rx := sl_R.1 hx
  have hlx := rx.cap.1
  have hmn := M.mix_n hok
  have hnb : 1 ≤ n ∧ n ≤ 8 := by omega
  have HLX := Lib.hid hlx
  have HOK := Lib.hid hok
  have hel := M.entries_len xs
  rw [hlx] at hel
  have HEL := Lib.hid hel
  have HUP := Lib.hid (M.entries_upTo hok)
  have hdl : (M.delays xs).length = n := by rw [M.delays_len]; exact hlx
  have HDL := Lib.hid hdl
  clear hlx hmn hok hel hdl
  go_enter Tryz.func89, Tryz.ntmps89
  go_wp2_with (go_at_call 48; refine (spec_l26Entries_at _ _ _ _ _ _ _ hv0 hx HOK.out).mono ?_; rintro e w3 ⟨v3, rfl, own3, bel3⟩; obtain ⟨A3, c3, rfl, -⟩ := own3.shape; rw [HEL.out] at own3 ⊢; obtain ⟨g, rfl, hg1, hg2⟩ := own3.form' (show 0 < n by omega))
  have B03 := bel3
  have hw3 := B03.size
  clear bel3
  go_loopw [4, 5, 6, 7, 8] (fun v i _ _ _ wr => ∃ k : Nat, i = .int .i64 k ∧ k ≤ n ∧ OS tS 24 wr (Iv w3.heap.size wr.heap.size) v ((M.delays xs).take k) ∧ Below w3.heap.size w3 wr) (fun _ i _ _ _ _ => n - (intOf i).toNat)
  case atStart => exact ⟨0, rfl, by omega, OS.made0 _ _ _, (Below.refl _ _).alloc (Nat.le_refl _) _⟩
  case round =>
    obtain ⟨k, rfl, hk, own, Bw⟩ := hrel
    have hsb := Bw.size
    have BW := bel_trans B03 Bw
    have hpl : ((M.delays xs).take k).length ≤ 8 := by rw [List.length_take]; omega
    have c0 : wr.cell? ⟨vb, vo, none⟩ = some (.slice A n c) := by rw [BW.cell hvb]; exact hv0
    by_cases hlt : k < n
    · have hX := Lib.hid (List.getElem?_eq_getElem (l := xs) (i := k) (by rw [HLX.out]; exact hlt))
      obtain ⟨b, o1, cc, cs, hv, hab, -, hE, hcc⟩ := (rx.below BW).atX hX.out
      simp only [Value.slice.injEq] at hv
      obtain ⟨rfl, -, rfl⟩ := hv
      generalize xs[k]'(by rw [HLX.out]; exact hlt) = x at hX hE
      obtain ⟨s, l, us⟩ := x
      obtain ⟨A2, n2, c2, rfl, -, hE⟩ := st_R.1 hE
      have e0 : wr.cell? ⟨b, o1 + k * 3, none⟩ = some (.string s) := hcc 0 _ rfl
      have e1 : wr.cell? ⟨b, o1 + k * 3 + 1, none⟩ = some (.int .i64 l) := hcc 1 _ rfl
      have e2 : wr.cell? ⟨b, o1 + k * 3 + 2, none⟩ = some (.slice A2 n2 c2) := hcc 2 _ rfl
      have hbr : b < wr.heap.size := Nat.lt_of_lt_of_le hab BW.size
      have rs := (tSdS_ra hE).1
      have hn2 := rs.1
      obtain ⟨hlat, hu4, hsb2⟩ := M.mix_strip HOK.out hX.out
      have HSB := Lib.hid hsb2
      have n2b : n2 ≤ 4 := by omega
      have hkn2 : (k : Int) < (n : Int) := by omega
      have hrl : (M.delayRow xs k).length = n2 := by rw [M.delayRow_len hX.out]; exact hn2
      have HRL := Lib.hid hrl
      have hpt := Lib.hid (M.take_at (M.delays_at (xs := xs) (k := k) (by rw [HLX.out]; exact hlt)))
      clear hcc hE hn2 hu4 hsb2 hrl
      go_wp2
      obtain ⟨wo, rfl⟩ : ∃ wo : World, wo = wr := ⟨_, rfl⟩
      go_loopw [7, 8] (fun v i wr => ∃ j : Nat, i = .int .i64 j ∧ j ≤ n2 ∧ OI 2 wo.heap.size wr v ((M.delayRow xs k).take j) ∧ Below wo.heap.size wo wr) (fun _ i _ => n2 - (intOf i).toNat)
      case atStart => exact ⟨0, rfl, by omega, OI.made _ _, (Below.refl _ _).alloc (Nat.le_refl _) _⟩
      case round =>
        obtain ⟨j, rfl, hj, ownj, Bo⟩ := hrel
        have hszj : wo.heap.size ≤ wr.heap.size := Bo.size
        have g1 : wr.cell? ⟨b, o1 + k * 3 + 1, none⟩ = some (.int .i64 l) := by rw [Bo.cell hbr]; exact e1
        have g2 : wr.cell? ⟨b, o1 + k * 3 + 2, none⟩ = some (.slice A2 n2 c2) := by rw [Bo.cell hbr]; exact e2
        have ownE := own3.below (Bw.trans (Bo.mono hsb))
        have hpj : ((M.delayRow xs k).take j).length ≤ 4 := by rw [List.length_take]; omega
        by_cases hlt2 : j < n2
        · obtain ⟨b2, o2, ⟨p0, p1⟩, rfl, hab2, X2, hdd⟩ := (rs.below (Bo.mono BW.size)).at sd_len (by decide) hlt2
          have f0 : wr.cell? ⟨b2, o2 + j * 2, none⟩ = some (.int .i64 p0) := hdd 0 _ rfl
          have f1 : wr.cell? ⟨b2, o2 + j * 2 + 1, none⟩ = some (.int .i64 p1) := hdd 1 _ rfl
          obtain ⟨hp1, hp2, -⟩ := M.sends_at HSB.out X2.out
          obtain ⟨q, rfl⟩ : ∃ q : Nat, p0 = q := ⟨p0.toNat, by omega⟩
          have hqn : q < n := by have := HLX.out; omega
          have hqn2 : (q : Int) < (n : Int) := by omega
          obtain ⟨x, hxx, cx, -, -, gw⟩ := ownE.at' hqn
          obtain ⟨y, hyy, cy, -, -, -⟩ := ownE.at' hlt
          have bx := M.upTo_at HUP.out hxx.out
          have by_ := M.upTo_at HUP.out hyy.out
          have hP := Lib.hid (M.take_at (M.delayRow_at hX.out X2.out hxx.out hyy.out))
          have w1_ : IntKind.i64.wrap (x - y) = x - y := IntWalk.i64_in _ (by omega)
          have w2_ : IntKind.i64.wrap (x - y - l) = x - y - l := IntWalk.i64_in _ (by omega)
          clear hdd hp1 hp2
          have hb2w : b2 < wr.heap.size := Nat.lt_of_lt_of_le hab2 (Nat.le_trans BW.size Bo.size)
          have BA : ∀ us, Below wr.heap.size wr (wr.alloc (.cells us 2)).drew := fun us => ((Below.refl _ _).alloc (Nat.le_refl _) _).drew
          have gV : g < wr.heap.size := by omega
          have gB : g < wo.heap.size := by omega
          have bV : b < wr.heap.size := by omega
          have hbo : b < wo.heap.size := hbr
          have hb2o : b2 < wo.heap.size := Nat.lt_of_lt_of_le hab2 BW.size
          have ownV0 : wr.ownsRow wo.heap.size 2 1 _ ((M.delayRow xs k).take j).length (((M.delayRow xs k).take j).map (.int .i64)) := ownj
          have c1_ : ((M.delayRow xs k).take j).length + 1 ≤ maxLen := by unfold maxLen; omega
          have c2_ : (((M.delayRow xs k).take j).length + 1) * 8 ≤ 140737488355328 := by omega
          go_wp2
          go_region_held3 (fun w' => w'.cell? ⟨b, o1 + k * 3 + 2, none⟩ = some (.slice (some ⟨b2, o2, none⟩) n2 c2) ∧ w'.cell? ⟨b2, o2 + j * 2, none⟩ = some (.int .i64 (q : Int)) ∧ w'.cell? ⟨g, q, none⟩ = some (.int .i64 x) ∧ w'.cell? ⟨g, k, none⟩ = some (.int .i64 y) ∧ w'.cell? ⟨b, o1 + k * 3 + 1, none⟩ = some (.int .i64 l))
            (first | exact ⟨g2, f0, cx, cy, g1⟩ | exact ⟨((BA _).cell bV).trans g2, ((BA _).cell hb2w).trans f0, ((BA _).cell gV).trans cx, ((BA _).cell gV).trans cy, ((BA _).cell bV).trans g1⟩ | exact ⟨z1, z2, z3, z4, z5⟩)
            (first | (refine step_push1 (o := ⟨some 60, _, _, _, _, _⟩) ei_i64 rfl (.tmp 37) (.tmp 59) rfl (World.ownsRow.drew (World.ownsRow.alloc ownV0 _)) rfl rfl (cell_alloc1 _ _ _) rfl c1_ c2_ (base_alloc hszj) ?_; intro v1 w1 own1 gr1 bel1; have z1 : w1.cell? ⟨b, o1 + k * 3 + 2, none⟩ = some (.slice (some ⟨b2, o2, none⟩) n2 c2) := (by rw [bel1.cell (show (⟨b, o1 + k * 3 + 2, none⟩ : Addr).block < _ from hbo), (BA _).cell (show (⟨b, o1 + k * 3 + 2, none⟩ : Addr).block < _ from bV)]; exact g2); have z2 : w1.cell? ⟨b2, o2 + j * 2, none⟩ = some (.int .i64 (q : Int)) := (by rw [bel1.cell (show (⟨b2, o2 + j * 2, none⟩ : Addr).block < _ from hb2o), (BA _).cell (show (⟨b2, o2 + j * 2, none⟩ : Addr).block < _ from hb2w)]; exact f0); have z3 : w1.cell? ⟨g, q, none⟩ = some (.int .i64 x) := (by rw [bel1.cell (show (⟨g, q, none⟩ : Addr).block < _ from gB), (BA _).cell (show (⟨g, q, none⟩ : Addr).block < _ from gV)]; exact cx); have z4 : w1.cell? ⟨g, k, none⟩ = some (.int .i64 y) := (by rw [bel1.cell (show (⟨g, k, none⟩ : Addr).block < _ from gB), (BA _).cell (show (⟨g, k, none⟩ : Addr).block < _ from gV)]; exact cy); have z5 : w1.cell? ⟨b, o1 + k * 3 + 1, none⟩ = some (.int .i64 l) := (by rw [bel1.cell (show (⟨b, o1 + k * 3 + 1, none⟩ : Addr).block < _ from hbo), (BA _).cell (show (⟨b, o1 + k * 3 + 1, none⟩ : Addr).block < _ from bV)]; exact g1)))
          go_wp2
          go_roundw
          case rel => exact ⟨j + 1, by go_num, by omega, by rw [hP.out]; exact OI.push own1, (Bo.trans ((BA _).mono hszj)).trans bel1⟩
          case measure => simp [intOf]; omega
        · obtain rfl : j = n2 := by omega
          rw [List.take_of_length_le (by rw [HRL.out]; exact Nat.le_refl _)] at ownj
          obtain ⟨A4, c4, rfl, -⟩ := ownj.shape
          have ow := own.below Bo (Nat.le_refl _)
          have os2 := tS_O.2 (OI.os (OI.base ownj (show wo.heap.size ≤ _ by omega)))
          have s2 := Bo.size
          go_wp2_with (at_builtin; refine wpList_pushS ei_S #[.slice A4 (M.delayRow xs k).length c4] rfl _ _ rfl ow os2 (Iv.apart (Nat.le_refl _)) rfl rfl (by unfold maxLen; omega) (by omega) ?_; intro v3 w4 own4 ch4)
          go_roundw
          case rel =>
            refine ⟨k + 1, by go_num, by omega, ?_, (Bw.trans (Bo.mono hsb)).trans (ch4.toBelow (fun b hb => hb.1) (by omega))⟩
            rw [hpt.out]
            exact own4.wide (Iv.grow hsb s2 ch4.size)
          case measure => simp [intOf]; omega
    · obtain rfl : k = n := by omega
      go_wp2
      go_ret
      rw [List.take_of_length_le (by rw [HDL.out]; exact Nat.le_refl _)] at own
      exact ⟨_, rfl, own.wide (fun b hb => ⟨Nat.le_trans hw3 hb.1, hb.2⟩), BW⟩
end Go.Proofs.YtffhodocjjkkoaaGreat
namespace Go.Proofs.YtffhodocjjkkoaaGreat
open Go.RowKit Go.Sort
set_option maxHeartbeats 4000000
set_option maxRecDepth 100000
set_option linter.unusedVariables false
set_option linter.unusedSimpArgs false
/-- A part of a signal; a signal later. -/
def M.sl (a : List Int) (f : Int) (n : Nat) : List Int := (List.range n).map fun (i : Nat) => M.at_ a (f + i)
def M.late (a : List Int) (b : Int) (n : Nat) : List Int := (List.range n).map fun (i : Nat) => M.at_ a ((i : Int) - b)
theorem M.sl_len (a : List Int) (f : Int) (n : Nat) : (M.sl a f n).length = n := by simp [M.sl]
theorem M.late_len (a : List Int) (b : Int) (n : Nat) : (M.late a b n).length = n := by simp [M.late]
theorem M.sl_at {a : List Int} {f : Int} {n k : Nat} (h : k < n) : (M.sl a f n)[k]? = some (M.at_ a (f + k)) := by simp [M.sl, h]
theorem M.late_smp {a : List Int} (h : a.all M.smp = true) (b : Int) (n : Nat) : (M.late a b n).all M.smp = true := by
  rw [M.late, List.all_map, List.all_eq_true]
  intro i _
  exact M.at_smp h _
theorem M.addS_smp (a b : List Int) (g : Int) : (M.addS a b g).all M.smp = true := by
  rw [M.addS, List.all_map, List.all_eq_true]
  intro i _
  exact M.smp_wrap _
theorem M.at_pad (a : List Int) (b : Nat) {i : Int} (h : 0 ≤ i) : M.at_ (List.replicate b 0 ++ a) i = M.at_ a (i - b) := by
  obtain ⟨k, rfl⟩ := Int.eq_ofNat_of_zero_le h
  rw [M.at_, M.at_]
  simp only [List.length_append, List.length_replicate]
  by_cases h1 : k < b
  · rw [if_neg (by omega : ¬ (0 ≤ (k : Int) - b ∧ (k : Int) - b < a.length))]
    split
    · rw [Int.toNat_natCast, List.getElem?_append_left (by simpa using h1)]
      simp [h1]
    · rfl
  · by_cases h2 : k < b + a.length
    · rw [if_pos ⟨by omega, by omega⟩, if_pos ⟨by omega, by omega⟩, Int.toNat_natCast, List.getElem?_append_right (by simp; omega)]
      rw [List.length_replicate, show ((k : Int) - b).toNat = k - b by omega]
    · rw [if_neg (by omega), if_neg (by omega)]
theorem M.at_tail (a : List Int) (m : Nat) (i : Int) : M.at_ (a ++ List.replicate m 0) i = M.at_ a i := by
  rw [M.at_, M.at_]
  simp only [List.length_append, List.length_replicate]
  by_cases h1 : 0 ≤ i ∧ i < a.length
  · rw [if_pos ⟨h1.1, by omega⟩, if_pos h1, List.getElem?_append_left (by omega)]
  · rw [if_neg h1]
    split
    · rename_i h2
      rw [List.getElem?_append_right (by omega), List.getElem?_replicate]
      split <;> rfl
    · rfl
theorem M.late_pad (a : List Int) (b n : Nat) : M.sl (List.replicate b 0 ++ a) 0 n = M.late a b n := by
  rw [M.sl, M.late]
  refine List.map_congr_left fun i _ => ?_
  rw [M.at_pad a b (by omega)]
  congr 1
  omega
theorem M.late_take (a : List Int) (b : Nat) : (List.replicate b 0 ++ a).take a.length = M.late a b a.length := by
  rw [← M.late_pad]
  apply List.ext_getElem?
  intro k
  by_cases hk : k < a.length
  · rw [M.sl_at hk, List.getElem?_take, if_pos hk, M.at_, if_pos ⟨by omega, by simp; omega⟩, show ((0 : Int) + (k : Int)).toNat = k by omega, List.getElem?_eq_getElem (by simp; omega)]
    rfl
  · rw [List.getElem?_eq_none (by rw [List.length_take]; omega), List.getElem?_eq_none (by rw [M.sl_len]; omega)]
theorem M.late_tail (a : List Int) (m n : Nat) (b : Int) : M.late (a ++ List.replicate m 0) b n = M.late a b n := by
  rw [M.late, M.late]
  exact List.map_congr_left fun i _ => M.at_tail a m _
theorem OI.take {e : TypeId} {B : Nat} {w : World} {A : Option Addr} {m n c : Nat} {xs : List Int} (h : OI e B w (.slice A m c) xs) (hn : n ≤ m) : OI e B w (.slice A n c) (xs.take n) := by
  have hl : xs.length = m := by
    rcases h.2 with ⟨h0, h1⟩ | ⟨g, cap, cur, h0, _⟩
    · simp only [Value.slice.injEq] at h0
      rw [h0.2.1]; exact h1
    · simp only [Value.slice.injEq] at h0
      exact h0.2.1.symm
  have hl2 : (xs.take n).length = n := by rw [List.length_take]; omega
  refine ⟨by simp, ?_⟩
  rw [hl2]
  rcases h.2 with ⟨h0, h1⟩ | ⟨g, cap, cur, h0, hb, hg, hnc, hcm, hcs, ht⟩
  · simp only [Value.slice.injEq] at h0
    obtain ⟨rfl, rfl, rfl⟩ := h0
    obtain rfl : n = 0 := by omega
    exact .inl ⟨rfl, rfl⟩
  · simp only [Value.slice.injEq] at h0
    obtain ⟨rfl, -, rfl⟩ := h0
    refine .inr ⟨g, c, cur, rfl, hb, hg, by omega, hcm, hcs, ?_⟩
    rw [List.map_take, ← ht, List.take_take]
    congr 1
    omega
theorem impl_slice (A : Option Addr) (n c : Nat) (xs : List Int) (f : Nat) (m : Nat) (w : World) (hx : RI w w.heap.size A n xs) (hn : n ≤ 1000000) (hf : f ≤ 1000000) (hm : m ≤ 1000000) :
    Calls Tryz.prog 52 #[.slice A n c, .int .i64 f, .int .i64 m] w (Ret1 2 w (M.sl xs f m)) := by
  go_enter Tryz.func52, Tryz.ntmps52
  go_wp2_with fail
  refine (impl_zeros m _ (by omega) (by omega)).mono ?_
  rintro e w1 ⟨v1, rfl, own1, bel1⟩
  rw [Int.toNat_natCast] at own1
  obtain ⟨A1, c1, e1, -⟩ := own1.shape
  rw [List.length_replicate] at e1
  subst e1
  have s1 := bel1.size
  go_wp2_with fail
  go_loopw [13] (fun i wr => ∃ k : Nat, i = .int .i64 k ∧ k ≤ m ∧ OI 2 w.heap.size wr (.slice A1 m c1) ((M.sl xs f m).take k ++ List.replicate (m - k) 0) ∧ Below w.heap.size w wr ∧ w1.heap.size ≤ wr.heap.size) (fun i _ => m - (intOf i).toNat)
  case atStart => exact ⟨0, rfl, by omega, by simpa using own1, bel1, Nat.le_refl _⟩
  case round =>
    obtain ⟨k, rfl, hk, own, B, sz⟩ := hrel
    by_cases hlt : k < m
    · obtain ⟨g, rfl, hg1, hg2⟩ := own.form' (by omega)
      obtain ⟨y, hy1, hy2, hy3, -, -⟩ := own.at' (k := k) hlt
      have HT := Lib.hid (show ((M.sl xs f m).take k ++ List.replicate (m - k) 0).set k (M.at_ xs (f + k)) = (M.sl xs f m).take (k + 1) ++ List.replicate (m - (k + 1)) 0 by
        rw [M.take_at (M.sl_at hlt), List.set_append_right _ _ (by rw [List.length_take]; omega)]
        rw [show k - ((M.sl xs f m).take k).length = 0 by rw [List.length_take, M.sl_len]; omega, show m - k = (m - (k + 1)) + 1 by omega, List.replicate_succ, List.set_cons_zero]
        simp)
      have fk : (0 : Int) ≤ (f : Int) + (k : Int) := by omega
      have k0 : (0 : Int) ≤ (k : Int) := by omega
      have k1 : (k : Int) < (m : Int) := by omega
      have rx := (hx.below B).more B.size
      go_wp2_with fail
      refine (impl_at _ _ _ xs _ _ rx (by omega) (by omega)).mono ?_
      rintro e w' ⟨rfl, rfl⟩
      go_wp2_with fail
      go_roundw
      case rel => exact ⟨k + 1, by go_num, by omega, by rw [← HT.out]; exact own.stored' k _, B.setCell hg1 _, by simp; omega⟩
      case measure => simp [intOf]; omega
    · obtain rfl : k = m := by omega
      rw [List.take_of_length_le (by rw [M.sl_len]; omega), Nat.sub_self, List.replicate_zero, List.append_nil] at own
      go_wp2_with fail
      go_ret
      exact ⟨_, rfl, own, B⟩
theorem wrap32_r (p x : Int) : wrap32 (p + wrap64 x) = wrap32 (p + x) := by unfold wrap32 wrap64; omega
theorem impl_addTimes (A A' : Option Addr) (n c n' c' : Nat) (xs ys : List Int) (g : Int) (w : World) (hx : RI w w.heap.size A n xs) (hy : RI w w.heap.size A' n' ys) (hn : n ≤ 1000000) (hn' : n' ≤ 1000000) :
    Calls Tryz.prog 59 #[.slice A n c, .int .i64 g, .slice A' n' c'] w (Ret1 2 w (M.addS xs ys g)) := by
  have hl := Lib.hid hx.len
  have hl' := Lib.hid hy.len
  obtain ⟨m, hm⟩ : ∃ m : Nat, m = max n n' := ⟨_, rfl⟩
  have HM := Lib.hid (show max xs.length ys.length = m by rw [hl.out, hl'.out, hm])
  have hm2 : m ≤ 1000000 := by omega
  have hz := Lib.hid hm
  rcases (show (n' ≤ n ∧ m = n) ∨ (n < n' ∧ m = n') by omega) with ⟨hnn, rfl⟩ | ⟨hnn, rfl⟩
  all_goals
    clear hm hz
    go_enter Tryz.func59, Tryz.ntmps59
    go_wp2_with (first | (go_at_call 108; refine (impl_size_int64 _ _ _ _).mono ?_; rintro e w' ⟨rfl, rfl⟩))
    refine (impl_zeros m _ (by omega) (by omega)).mono ?_
    rintro e w1 ⟨v1, rfl, own1, bel1⟩
    rw [Int.toNat_natCast] at own1
    obtain ⟨A1, c1, e1, -⟩ := own1.shape
    rw [List.length_replicate] at e1
    subst e1
    have s1 := bel1.size
    go_wp2_with fail
    go_loopw [17] (fun i wr => ∃ k : Nat, i = .int .i64 k ∧ k ≤ m ∧ OI 2 w.heap.size wr (.slice A1 m c1) ((M.addS xs ys g).take k ++ List.replicate (m - k) 0) ∧ Below w.heap.size w wr ∧ w1.heap.size ≤ wr.heap.size) (fun i _ => m - (intOf i).toNat)
    case atStart => exact ⟨0, rfl, by omega, by simpa using own1, bel1, Nat.le_refl _⟩
    case round =>
      obtain ⟨k, rfl, hk, own, B, sz⟩ := hrel
      by_cases hlt : k < m
      · obtain ⟨q, rfl, hg1, hg2⟩ := own.form' (by omega)
        obtain ⟨y, hy1, hy2, hy3, -, -⟩ := own.at' (k := k) hlt
        have HT := Lib.hid (show ((M.addS xs ys g).take k ++ List.replicate (m - k) 0).set k (wrap32 (M.at_ xs (k : Int) + M.at_ ys (k : Int) * g)) = (M.addS xs ys g).take (k + 1) ++ List.replicate (m - (k + 1)) 0 by
          rw [M.take_at (M.addS_at (by rw [HM.out]; exact hlt)), List.set_append_right _ _ (by rw [List.length_take]; omega)]
          rw [show k - ((M.addS xs ys g).take k).length = 0 by rw [List.length_take, M.addS_len, HM.out]; omega, show m - k = (m - (k + 1)) + 1 by omega, List.replicate_succ, List.set_cons_zero]
          simp)
        have k0 : (0 : Int) ≤ (k : Int) := by omega
        have k1 : (k : Int) < (m : Int) := by omega
        have rx := (hx.below B).more B.size
        have ry := (hy.below B).more B.size
        obtain ⟨p, hp⟩ : ∃ p, p = M.at_ xs (k : Int) := ⟨_, rfl⟩
        obtain ⟨r, hr⟩ : ∃ r, r = M.at_ ys (k : Int) := ⟨_, rfl⟩
        have HP := Lib.hid hp
        have HR := Lib.hid hr
        clear hp hr
        go_wp2_with fail
        refine (impl_at _ _ _ xs _ _ rx (by omega) (by omega)).mono ?_
        rw [← HP.out]
        rintro e w' ⟨rfl, rfl⟩
        go_wp2_with fail
        refine (impl_at _ _ _ ys _ _ ry (by omega) (by omega)).mono ?_
        rw [← HR.out]
        rintro e w' ⟨rfl, rfl⟩
        go_wp2_with fail
        refine (impl_Wrap _ _).mono ?_
        rintro e w' ⟨rfl, rfl⟩
        go_wp2_with fail
        go_roundw
        case rel =>
          refine ⟨k + 1, by go_num, by omega, ?_, B.setCell hg1 _, by simp; omega⟩
          rw [← HT.out, ← HP.out, ← HR.out]
          have := own.stored' k (wrap32 (p + r * g))
          rw [show wrap32 (p + r * g) = wrap32 (wrap64 (p + wrap64 (g * r))) by rw [M.wrap32_64, wrap32_r, Int.mul_comm]] at this ⊢
          exact this
        case measure => simp [intOf]; omega
      · obtain rfl : k = m := by omega
        rw [List.take_of_length_le (by rw [M.addS_len, HM.out]; omega), Nat.sub_self, List.replicate_zero, List.append_nil] at own
        go_wp2_with fail
        go_ret
        exact ⟨_, rfl, own, B⟩
theorem impl_delayed (A : Option Addr) (n c : Nat) (xs : List Int) (b : Nat) (w : World) (hx : RI w w.heap.size A n xs) (hn : n ≤ 1000000) (hb : b ≤ 1000000) :
    Calls Tryz.prog 100 #[.slice A n c, .int .i64 b] w (Ret1 2 w (M.late xs b n)) := by
  have hl := Lib.hid hx.len
  go_enter Tryz.func100, Tryz.ntmps100
  go_wp2_with fail
  refine (impl_zeros b _ (by omega) (by omega)).mono ?_
  rintro e w1 ⟨v1, rfl, own1, bel1⟩
  rw [Int.toNat_natCast] at own1
  have hlr := List.length_replicate (n := b) (a := (0 : Int))
  have HLR := Lib.hid hlr
  have rx := hx.below bel1
  have s1 := bel1.size
  have hlb : (List.replicate b (0 : Int)).length ≤ 1000000 := by rw [List.length_replicate]; omega
  clear hlr
  go_wp2_with (at_builtin; refine wpList_cat ei_i64 rfl _ _ rfl own1 rfl rx rfl (ints_oneCell _ _) (by unfold maxLen; omega) (by omega) s1 ?_; intro v2 w2 own2 gr2 bel2; have op2 : OI 2 w.heap.size w2 v2 (List.replicate b 0 ++ xs) := (by unfold OI; rw [List.map_append, List.length_append, hl.out]; exact own2); obtain ⟨A2, c2, e2, -⟩ := op2.shape; obtain ⟨n2, hn2⟩ : ∃ n2, n2 = (List.replicate b 0 ++ xs).length := ⟨_, rfl⟩; rw [← hn2] at e2; subst e2; have hnn : n ≤ n2 := (by rw [hn2, List.length_append, hl.out]; omega); have hcc : n2 ≤ c2 := (by obtain ⟨A3, c3, e3, h3, -⟩ := own_shape op2; simp only [Value.slice.injEq] at e3; rw [e3.2.2, e3.2.1]; exact h3); have HN2 := Lib.hid hn2; clear hn2)
  go_ret
  have op3 := op2.take hnn
  have h := M.late_take xs b
  rw [hl.out] at h
  rw [h] at op3
  exact ⟨_, rfl, op3, bel1.trans bel2⟩
theorem spec_l03Slice (A : Option Addr) (n c : Nat) (xs : List Int) (f : Nat) (m : Nat) (w : World) (hx : RI w w.heap.size A n xs) (hn : n ≤ 1000000) (hf : f ≤ 1000000) (hm : m ≤ 1000000) :
    Calls Tryz.prog 50 #[.slice A n c, .int .i64 f, .int .i64 m] w (Ret1 2 w (M.sl xs f m)) := by
  go_enter Tryz.func50, Tryz.ntmps50
  go_wp2_with fail
  go_loopw [7, 8] (fun v i wr => ∃ k : Nat, i = .int .i64 k ∧ k ≤ m ∧ OI 2 w.heap.size wr v ((M.sl xs f m).take k) ∧ Below w.heap.size w wr) (fun _ i _ => m - (intOf i).toNat)
  case atStart => exact ⟨0, rfl, by omega, OI.made _ _, (Below.refl _ _).alloc (Nat.le_refl _) _⟩
  case round =>
    obtain ⟨k, rfl, hk, own, hb⟩ := hrel
    by_cases hlt : k < m
    · have hT := Lib.hid (M.take_at (M.sl_at (a := xs) (f := f) hlt))
      have hk1 : ((M.sl xs f m).take k).length ≤ 1000000000 := by rw [List.length_take]; omega
      have rx := (hx.below hb).more hb.size
      go_wp2_with fail
      refine (spec_l03At _ _ _ _ _ wr rx (by omega)).mono ?_
      rintro e w' ⟨rfl, rfl⟩
      go_wp2_with (at_builtin; refine wpList_push1 ei_i64 rfl _ _ rfl own rfl rfl rfl (by unfold maxLen; omega) (by omega) hb.size ?_; intro v1 w1 own1 gr1 bel1)
      go_roundw
      case rel => exact ⟨k + 1, by go_num, by omega, by rw [hT.out]; exact OI.push own1, hb.trans bel1⟩
      case measure => simp [intOf]; omega
    · go_wp2
      go_ret
      rw [List.take_of_length_le (by rw [M.sl_len]; omega)] at own
      exact ⟨_, rfl, own, hb⟩
theorem spec_l27Late (A : Option Addr) (n c : Nat) (xs : List Int) (b m : Nat) (w : World) (hx : RI w w.heap.size A n xs) (hn : n ≤ 100000) (hb : b ≤ 100000) (hm : m ≤ 100000) :
    Calls Tryz.prog 92 #[.slice A n c, .int .i64 b, .int .i64 m] w (Ret1 2 w (M.late xs b m)) := by
  have hl := Lib.hid hx.len
  go_enter Tryz.func92, Tryz.ntmps92
  go_wp2_with fail
  refine (spec_l03ZerosN b _ (by omega)).mono ?_
  rintro e w1 ⟨v1, rfl, own1, bel1⟩
  have rx := hx.below bel1
  have s1 := bel1.size
  have hlb : (List.replicate b (0 : Int)).length ≤ 1000000 := by rw [List.length_replicate]; omega
  go_wp2_with (at_builtin; refine wpList_cat ei_i64 rfl _ _ rfl own1 rfl rx rfl (ints_oneCell _ _) (by unfold maxLen; omega) (by omega) s1 ?_; intro v2 w2 own2 gr2 bel2; have op2 : OI 2 w.heap.size w2 v2 (List.replicate b 0 ++ xs) := (by unfold OI; rw [List.map_append, List.length_append, hl.out]; exact own2); obtain ⟨A2, c2, e2, r2⟩ := op2.shape; obtain ⟨n2, hn2⟩ : ∃ n2, n2 = (List.replicate b 0 ++ xs).length := ⟨_, rfl⟩; rw [← hn2] at e2 r2; subst e2; have hnn : n2 ≤ 1000000 := (by rw [hn2, List.length_append, hl.out, List.length_replicate]; omega); have HN2 := Lib.hid hn2; clear hn2)
  have hr := spec_l03Slice A2 n2 c2 _ 0 m w2 r2 hnn (by omega) (by omega)
  refine hr.mono ?_
  clear hr
  rintro e w3 ⟨v3, rfl, own3, bel3⟩
  go_wp2_with fail
  go_ret
  rw [show ((0 : Nat) : Int) = 0 from rfl, M.late_pad] at own3
  exact ⟨_, rfl, own3.base (by have := bel2.size; omega), (bel1.trans bel2).trans (bel3.mono (by have := bel2.size; omega))⟩
end Go.Proofs.YtffhodocjjkkoaaGreat
namespace Go.Proofs.YtffhodocjjkkoaaGreat
open Go.RowKit Go.Sort
set_option maxHeartbeats 4000000
set_option linter.unusedVariables false
set_option linter.unusedSimpArgs false
set_option synthInstance.maxSize 2000
set_option synthInstance.maxHeartbeats 400000
section
variable (L : Nat) (src : List (List Int)) (ts : List (List Clip_)) (fs : List Int) (ps : List Patch) (ms : List Strip)
def M.nT : Nat := L + (M.total ms).toNat
def M.tra (t : Nat) : List Clip_ := (ts[t]?).getD []
def M.pat (i : Nat) : Patch := (ps[i]?).getD M.p0
def M.stri (i : Nat) : Strip := (ms[i]?).getD M.sz
def M.ent (i : Nat) : Int := M.i_ (M.entries ms) i
def M.addAt (ins : List (List Int)) (k : Nat) (ys : List Int) (g : Int) : List (List Int) := ins.set k (M.addS (M.cel ins k) ys g)
/-- The inputs of all strips, after t tracks. -/
def M.trk : Nat → List (List Int)
  | 0 => List.replicate ms.length (List.replicate (M.nT L ms) 0)
  | t + 1 => M.addAt (M.trk t) (M.i_ fs t).toNat (M.late (M.renT src (M.tra ts t) L) (M.ent ms (M.i_ fs t).toNat) (M.nT L ms)) 1
/-- A strip's effect. -/
def M.fx (p : Patch) (xs : List Int) (n : Nat) : List Int := if p = M.p0 then xs else M.play p xs n
/-- A strip's output. -/
def M.outI (i : Nat) (ins : List (List Int)) : List Int := M.late (M.fx (M.pat ps i) (M.cel ins i) (M.nT L ms)) (M.stri ms i).2.1 (M.nT L ms)
/-- .. sent, j times. -/
def M.snd (i : Nat) (out : List Int) (ins : List (List Int)) : Nat → List (List Int)
  | 0 => ins
  | j + 1 => M.addAt (M.snd i out ins j) (((M.stri ms i).2.2[j]?).getD (0, 0)).1.toNat (M.late out (M.i_ (M.cel (M.delays ms) i) j) (M.nT L ms)) (((M.stri ms i).2.2[j]?).getD (0, 0)).2
/-- Inputs and outputs after i strips. -/
def M.stp : Nat → List (List Int) × List (List Int)
  | 0 => (M.trk L src ts fs ms ts.length, [])
  | i + 1 => (M.snd L ms i (M.outI L ps ms i (M.stp i).1) (M.stp i).1 (M.stri ms i).2.2.length, (M.stp i).2 ++ [M.outI L ps ms i (M.stp i).1])
def M.outs : List (List Int) := (M.stp L src ts fs ps ms ms.length).2
def M.rdyL : List Int := (List.range ms.length).map fun i => M.ent ms i + (M.stri ms i).2.1
def M.mixS : List Int := M.sl (M.cel (M.outs L src ts fs ps ms) (ms.length - 1)) (M.total ms) L
def M.strS : List (List Int) := (List.range ms.length).map fun i => M.sl (M.cel (M.outs L src ts fs ps ms) i) (M.ent ms i + (M.stri ms i).2.1) L
end
/-- A session is valid, part by part. -/
structure M.SO (L : Nat) (src : List (List Int)) (ts : List (List Clip_)) (fs : List Int) (ps : List Patch) (ms : List Strip) : Prop where
  l : L ≤ 1000
  so : M.srcOk src = true
  mix : M.mixOk ms = true
  fl : fs.length = ts.length
  tl : ts.length ≤ 6
  fr : ∀ f ∈ fs, 0 ≤ f ∧ f < ms.length
  pl : ps.length = ms.length
  tr : ∀ t ∈ ts, M.trackOk t = true ∧ M.hasS t src.length = true
  ef : ∀ p ∈ ps, M.effOk p = true
theorem M.SO_of {a0 : Int} {src : List (List Int)} {ts : List (List Clip_)} {fs : List Int} {ps : List Patch} {ms : List Strip} (h : M.sessOk (a0, src, ts, fs, ps, ms) = true) : ∃ L : Nat, a0 = L ∧ M.SO L src ts fs ps ms := by
  rw [M.sessOk] at h
  simp only [Bool.and_eq_true, decide_eq_true_eq] at h
  obtain ⟨⟨⟨⟨⟨⟨⟨⟨h1, h2⟩, h3⟩, h4⟩, h5⟩, h6⟩, h7⟩, h8⟩, h9⟩ := h
  have h1' := M.inn_iff.1 h1
  refine ⟨a0.toNat, by omega, by omega, h2, h4, h5, h3, fun f hf => ?_, h7, fun t ht => ?_, fun p hp => List.all_eq_true.1 h9 p hp⟩
  · have := M.inn_iff.1 (List.all_eq_true.1 h6 f hf)
    omega
  · have := List.all_eq_true.1 h8 t ht
    rwa [Bool.and_eq_true] at this
/-- m lists of n samples. -/
structure M.JO (m n : Nat) (ins : List (List Int)) : Prop where
  len : ins.length = m
  at_ : ∀ x ∈ ins, x.length = n ∧ x.all M.smp = true
theorem M.JO.cel {m n : Nat} {ins : List (List Int)} (h : M.JO m n ins) {k : Nat} (hk : k < m) : (M.cel ins k).length = n ∧ (M.cel ins k).all M.smp = true := by
  have hk2 : k < ins.length := by rw [h.len]; exact hk
  have e : M.cel ins k = ins[k] := by rw [M.cel, List.getElem?_eq_getElem hk2]; rfl
  rw [e]
  exact h.at_ _ (List.getElem_mem hk2)
theorem M.JO.add {m n : Nat} {ins : List (List Int)} (h : M.JO m n ins) {k : Nat} (hk : k < m) {ys : List Int} (hy : ys.length = n) (g : Int) : M.JO m n (M.addAt ins k ys g) := by
  refine ⟨by rw [M.addAt, List.length_set]; exact h.len, fun x hx => ?_⟩
  rcases List.mem_or_eq_of_mem_set hx with h1 | rfl
  · exact h.at_ x h1
  · exact ⟨by rw [M.addS_len, (h.cel hk).1, hy, Nat.max_self], M.addS_smp _ _ _⟩
section
variable {L : Nat} {src : List (List Int)} {ts : List (List Clip_)} {fs : List Int} {ps : List Patch} {ms : List Strip}
theorem M.total_bd (h : M.mixOk ms = true) : 0 ≤ M.total ms ∧ M.total ms ≤ 1100 := by
  obtain ⟨h1, h2⟩ := M.mix_n h
  have hx : ms[ms.length - 1]? = some (ms[ms.length - 1]'(by omega)) := List.getElem?_eq_getElem (by omega)
  rw [M.total, hx]
  generalize ms[ms.length - 1]'(by omega) = x at hx
  obtain ⟨s, l, us⟩ := x
  obtain ⟨h3, _, _⟩ := M.mix_strip h hx
  have h4 := M.upTo_get (by omega) (M.entN_upTo h ms.length (Nat.le_refl _)) (ms.length - 1)
  rw [M.entries]
  simp only [Option.getD_some]
  omega
theorem M.nT_le (h : M.SO L src ts fs ps ms) : M.nT L ms ≤ 2100 := by
  have h1 := M.total_bd h.mix
  have h2 := h.l
  rw [M.nT]; omega
theorem M.nT_int (h : M.SO L src ts fs ps ms) : ((M.nT L ms : Nat) : Int) = (L : Int) + M.total ms := by
  have h1 := M.total_bd h.mix
  rw [M.nT]; omega
theorem M.ent_bd (h : M.mixOk ms = true) (i : Nat) : 0 ≤ M.ent ms i ∧ M.ent ms i ≤ 1024 := by
  have h1 := M.mix_n h
  have h4 := M.upTo_get (by omega) (M.entN_upTo h ms.length (Nat.le_refl _)) i
  rw [M.ent, M.i_, M.entries]
  omega
theorem M.stri_at {i : Nat} {x : Strip} (h : ms[i]? = some x) : M.stri ms i = x := by rw [M.stri, h]; rfl
theorem M.pat_at {i : Nat} {x : Patch} (h : ps[i]? = some x) : M.pat ps i = x := by rw [M.pat, h]; rfl
theorem M.tra_at {i : Nat} {x : List Clip_} (h : ts[i]? = some x) : M.tra ts i = x := by rw [M.tra, h]; rfl
theorem M.stri_ok (h : M.mixOk ms = true) {i : Nat} (hi : i < ms.length) : (0 ≤ (M.stri ms i).2.1 ∧ (M.stri ms i).2.1 ≤ 32) ∧ (M.stri ms i).2.2.length ≤ 4 ∧ ∀ (j : Nat) (p0 p1 : Int), (M.stri ms i).2.2[j]? = some (p0, p1) → (i : Int) < p0 ∧ p0 < ms.length ∧ M.smp p1 = true := by
  have hx : ms[i]? = some ms[i] := List.getElem?_eq_getElem hi
  rw [M.stri_at hx]
  generalize ms[i] = x at hx
  obtain ⟨s, l, us⟩ := x
  obtain ⟨h1, h2, h3⟩ := M.mix_strip h hx
  refine ⟨h1, h2, fun j p0 p1 hj => ?_⟩
  have := M.sends_at h3 hj
  exact ⟨this.1, by omega, this.2.2⟩
theorem M.play_ok {p : Patch} (h : M.effOk p = true) (hp : p ≠ M.p0) : M.patchOk p = true ∧ p.1 = 1 ∧ p.2.2.2.length = 1 := by
  rw [M.effOk] at h
  simp only [Bool.or_eq_true, Bool.and_eq_true, decide_eq_true_eq] at h
  rcases h with h | h
  · exact absurd h hp
  · exact ⟨h.1.1, h.1.2, h.2⟩
theorem M.fx_ok {p : Patch} (h : M.effOk p = true) {xs : List Int} {n : Nat} (hl : xs.length = n) (hs : xs.all M.smp = true) : (M.fx p xs n).length = n ∧ (M.fx p xs n).all M.smp = true := by
  rw [M.fx]
  split
  · exact ⟨hl, hs⟩
  · rename_i hp
    obtain ⟨h1, h2, h3⟩ := M.play_ok h hp
    exact ⟨by rw [M.play, M.playO_len], M.playO_smp (M.PF_of h1 h2) hs _ _⟩
theorem M.trk_ok (h : M.SO L src ts fs ps ms) : ∀ t, t ≤ ts.length → M.JO ms.length (M.nT L ms) (M.trk L src ts fs ms t) := by
  intro t
  induction t with
  | zero =>
    refine fun _ => ⟨List.length_replicate .., fun x hx => ?_⟩
    rw [List.eq_of_mem_replicate hx]
    refine ⟨List.length_replicate .., ?_⟩
    rw [List.all_eq_true]
    intro z hz
    rw [List.eq_of_mem_replicate hz]
    rfl
  | succ t ih =>
    intro ht
    have hf : fs[t]? = some (M.i_ fs t) := by
      have : t < fs.length := by rw [h.fl]; omega
      rw [M.i_, List.getElem?_eq_getElem this]; rfl
    have hr := h.fr _ (List.mem_of_getElem? hf)
    exact (ih (by omega)).add (by omega) (M.late_len _ _ _) 1
theorem M.snd_ok (h : M.mixOk ms = true) {i : Nat} (hi : i < ms.length) {out : List Int} {ins : List (List Int)} (hins : M.JO ms.length (M.nT L ms) ins) : ∀ j, j ≤ (M.stri ms i).2.2.length → M.JO ms.length (M.nT L ms) (M.snd L ms i out ins j) := by
  intro j
  induction j with
  | zero => exact fun _ => hins
  | succ j ih =>
    intro hj
    obtain ⟨_, _, h3⟩ := M.stri_ok h hi
    have hx : (M.stri ms i).2.2[j]? = some ((M.stri ms i).2.2[j]'(by omega)) := List.getElem?_eq_getElem (by omega)
    generalize (M.stri ms i).2.2[j]'(by omega) = u at hx
    obtain ⟨p0, p1⟩ := u
    have h4 := h3 j p0 p1 hx
    rw [M.snd, hx]
    exact (ih (by omega)).add (by show p0.toNat < _; omega) (M.late_len _ _ _) _
theorem M.stp_ok (h : M.SO L src ts fs ps ms) : ∀ i, i ≤ ms.length → M.JO ms.length (M.nT L ms) (M.stp L src ts fs ps ms i).1 ∧ M.JO i (M.nT L ms) (M.stp L src ts fs ps ms i).2 := by
  intro i
  induction i with
  | zero => exact fun _ => ⟨M.trk_ok h _ (Nat.le_refl _), rfl, fun x hx => by cases hx⟩
  | succ i ih =>
    intro hi
    obtain ⟨h1, h2⟩ := ih (by omega)
    have hp : M.effOk (M.pat ps i) = true := by
      have hk : i < ps.length := by rw [h.pl]; omega
      rw [M.pat_at (List.getElem?_eq_getElem hk)]
      exact h.ef _ (List.getElem_mem hk)
    obtain ⟨c1, c2⟩ := h1.cel (k := i) (by omega)
    obtain ⟨f1, f2⟩ := M.fx_ok hp c1 c2
    refine ⟨M.snd_ok h.mix (by omega) h1 _ (Nat.le_refl _), by rw [M.stp, List.length_append, h2.len]; rfl, fun x hx => ?_⟩
    rw [M.stp, List.mem_append] at hx
    rcases hx with hx | hx
    · exact h2.at_ x hx
    · obtain rfl : x = _ := List.mem_singleton.1 hx
      exact ⟨M.late_len _ _ _, M.late_smp f2 _ _⟩
end
end Go.Proofs.YtffhodocjjkkoaaGreat
