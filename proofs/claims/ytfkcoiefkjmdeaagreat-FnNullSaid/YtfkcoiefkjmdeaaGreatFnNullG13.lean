import Derived.Test.YtfkcoiefkjmdeaaGreatFnNullG12
import Derived.Test.YtfkcoiefkjmdeaaGreatFnNullG7
import Derived.Deep.DeepCutAuto
import Derived.Deep.CutRange
set_option linter.unusedVariables false
set_option linter.unusedSimpArgs false
set_option maxRecDepth 100000
set_option maxHeartbeats 4000000
namespace Go.Proofs.YtfkcoiefkjmdeaaGreat
section
open Go.RowKit Go.Sort
set_option maxHeartbeats 40000000
theorem zte (b lo : Nat) (A : Option Addr) (n c : Nat) (code : List UInt8) (K : Nat) (w : World) (h : Src w b lo A n c code K) (hK : K ≤ 100) :
 Calls Tryz.prog 35 #[.pointer (some ⟨b, 0, none⟩)] w (zmf b w) := by
 have hbw := h.lt
 obtain ⟨W0, hW0, B0, sz0, q0, q1, q2, q3, q4, q5, qf⟩ := zb2 w (.int .i64 0) (.slice none 0 0) (.slice none 0 0) (.slice none 0 0) (.slice none 0 0) (.slice none 0 0) 32
 have z0 : w.heap.size < W0.heap.size := by omega
 have Q0 : Hid (∀ j, j < 6 → W0.cell? ⟨w.heap.size, j, none⟩ = some (if j = 0 then .int .i64 0 else .slice none 0 0) ∧ W0.frozen? ⟨w.heap.size, j, none⟩ = false) := Lib.hid fun j hj => by
  refine ⟨?_, qf j⟩
  rcases (show j = 0 ∨ j = 1 ∨ j = 2 ∨ j = 3 ∨ j = 4 ∨ j = 5 by omega) with rfl | rfl | rfl | rfl | rfl | rfl
  · exact q0
  · exact q1
  · exact q2
  · exact q3
  · exact q4
  · exact q5
 have s0 := h.below B0 hbw
 have HW0 := Lib.hid hW0
 have HB0 := Lib.hid B0
 clear hW0 B0 sz0 q0 q1 q2 q3 q4 q5 qf
 go_enter Tryz.func35, Tryz.ntmps35
 go_wp2_with fail
 rw [← HW0.out]
 refine (zd7 b lo A n c code K 2 W0 s0 (by omega) (by omega)).mono ?_
 rintro e x1 ⟨r, rfl, s1, m1⟩
 have t1 := m1.size
 go_wp2_with fail
 refine (zll b lo A n c code _ r x1 s1 (by omega)).mono ?_
 rintro e x2 ⟨i, A1, n1, c1, A2, n2, c2, A3, n3, c3, A4, n4, c4, A5, n5, c5, x, rfl, zo, hP, s2, m2⟩
 have t2 := m2.size
 obtain ⟨U, hU⟩ : ∃ U, U = x2.alloc (.cells #[.int .i64 i, .slice A1 n1 c1, .slice A2 n2 c2, .slice A3 n3 c3, .slice A4 n4 c4, .slice A5 n5 c5] 32) := ⟨_, rfl⟩
 obtain ⟨D0, hxi⟩ := DS.of (b := b) hbw (((Mid.of_below HB0.out _ _).trans m1).trans m2) s2 (show w.heap.size < x1.heap.size by omega) t2 (fun j hj => by
  obtain ⟨h1, h2⟩ := Q0.out j hj
  have mm := m1.trans m2
  exact ⟨mm.cellK (by omega) (.inr (by omega)) h1, mm.frozK (by omega) (.inr (by omega)) h2⟩) zo hU
 obtain ⟨i', src, ts, fs, ps, ms⟩ := x
 have FEW := Lib.hid hP.out.few
 have hsn : 1 ≤ src.length ∧ src.length ≤ 3 := hP.out.sn
 have hsl := Lib.hid (show ∀ s ∈ src, s.length ≤ 15 from fun s hs => (hP.out.sl s hs).1.2)
 have htn : ts.length ≤ 3 := hP.out.tn
 have hfn : fs.length ≤ 3 := by have h1 : fs.length = ts.length := hP.out.fn; omega
 have hmn : 1 ≤ ms.length ∧ ms.length ≤ 6 := hP.out.mn
 have hen : 1 ≤ ps.length ∧ ps.length ≤ 6 := by have h1 : ps.length = ms.length := hP.out.en; omega
 dsimp only at D0 hxi
 obtain ⟨A1', c1', e1⟩ := D0.shape1
 obtain ⟨A2', c2', e2⟩ := D0.shape2
 obtain ⟨A3', c3', e3⟩ := D0.shape3
 obtain ⟨A4', c4', e4⟩ := D0.shape4
 obtain ⟨A5', c5', e5⟩ := D0.shape5
 simp only [Value.slice.injEq] at e1 e2 e3 e4 e5
 obtain ⟨rfl, rfl, rfl⟩ := e1
 obtain ⟨rfl, rfl, rfl⟩ := e2
 obtain ⟨rfl, rfl, rfl⟩ := e3
 obtain ⟨rfl, rfl, rfl⟩ := e4
 obtain ⟨rfl, rfl, rfl⟩ := e5
 obtain ⟨g, hg⟩ : ∃ g, g = x2.heap.size := ⟨_, rfl⟩
 rw [← hg] at D0
 have HG := Lib.hid (show x2.heap.size = g from hg.symm)
 have HU := Lib.hid hU
 have HD0 := Lib.hid D0
 have sU := D0.src
 have zU := D0.sz
 clear hU hg D0 zo hP m1 m2 s0 s1 s2 HB0 HW0 hxi
 go_wp2_with fail
 rw [← HU.out, HG.out]
 refine (za4 b lo A n c code _ 24 U sU (by omega) (by omega)).mono ?_
 rintro e x6 ⟨q, rfl, hq, s6, m6⟩
 have D6 := (HD0.out.step hbw s6 m6).up
 have z6 := D6.sz
 have t6 := m6.size
 clear sU m6 HD0
 rcases (show q = 0 ∨ q = 1 ∨ q = 2 ∨ q = 3 ∨ q = 4 ∨ q = 5 ∨ q = 6 ∨ 7 ≤ q by omega) with rfl | rfl | rfl | rfl | rfl | rfl | rfl | hq7
 · have HD6 := Lib.hid D6
   have SA := Lib.hid (zdt [-1, 1001, 1000] #[.int .i64 (-1), .int .i64 1001, .int .i64 1000] 3 rfl rfl (by omega) b lo A n c code _ x6 s6 (by omega))
   clear D6
   go_wp2_with fail
   refine SA.out.mono ?_
   rintro e x7 ⟨y, rfl, hy7, s7, m7⟩
   have D7 := HD6.out.step hbw s7 m7
   have i0 := D7.p0
   have j0 := D7.q 0 (by omega)
   have D8 := D7.set0 hbw y
   obtain ⟨x8, hx8⟩ : ∃ u, u = x7.setCell ⟨g, 0, none⟩ (.int .i64 y) := ⟨_, rfl⟩
   rw [← hx8] at D8
   have HX8 := Lib.hid hx8
   clear hx8 D7
   have hmid := D8.mid
   have a0 := D8.p0
   have a1 := D8.p1
   have a2 := D8.p2
   have a3 := D8.p3
   have a4 := D8.p4
   have a5 := D8.p5
   have r0 := (D8.e 0 (by omega)).1
   have r1 := (D8.e 1 (by omega)).1
   have r2 := (D8.e 2 (by omega)).1
   have r3 := (D8.e 3 (by omega)).1
   have r4 := (D8.e 4 (by omega)).1
   have r5 := (D8.e 5 (by omega)).1
   have v0 := (D8.e 0 (by omega)).2
   have v1 := (D8.e 1 (by omega)).2
   have v2 := (D8.e 2 (by omega)).2
   have v3 := (D8.e 3 (by omega)).2
   have v4 := (D8.e 4 (by omega)).2
   have v5 := (D8.e 5 (by omega)).2
   rw [if_pos rfl] at r0
   rw [if_neg (by decide)] at r1 r2 r3 r4 r5
   have UX := D8.sz
   have hne : g ≠ w.heap.size := by omega
   have hne' : w.heap.size ≠ g := by omega
   have FIN := Lib.hid (D8.fin hbw (P := M.fewZ) ⟨FEW.out.sn, FEW.out.tn, FEW.out.fn, FEW.out.en, FEW.out.e1, FEW.out.e2, FEW.out.e3, FEW.out.mn, FEW.out.mt⟩).toR
   clear D8 hmid
   go_upto_region 17 with fail
   rw [← HX8.out]
   go_wp2
   refine bodyPost_ret (v := .agg #[.int .i64 y, .slice A1 src.length c1, .slice A2 ts.length c2, .slice A3 fs.length c3, .slice A4 ps.length c4, .slice A5 ms.length c5]) (by simp [results, Tryz.results35, go_sem, r0, r1, r2, r3, r4, r5, v0, v1, v2, v3, v4, v5, hne, hne']) rfl ?_
   exact FIN.out
 · obtain ⟨F4, r4, hF4, K4⟩ := D6.open3 hbw
   have K4' := Lib.hid K4
   have q3 := D6.p3
   have l3 := D6.q 3 (by omega)
   clear K4 D6
   go_upto_region 17 with (at_builtin; refine zaz zbl #[.int .i64 0] rfl _ _ rfl r4 (Fe := fun _ => False) (y := 0) rfl (fun _ _ h => h) rfl rfl (by unfold maxLen; omega) (by omega) ?_; intro v8 w8 own8 ch8; obtain ⟨A8, c8, e8⟩ := own8.shape; rw [List.length_append, List.length_singleton] at e8; subst e8; have P8 : w8.cell? ⟨g, 3, none⟩ = some (.slice A3 fs.length c3) := (by rw [ch8.cell1 (show g < x6.heap.size by omega) (fun h => (hF4 g h).2.1 rfl)]; exact q3); have Q8 : w8.frozen? ⟨g, 3, none⟩ = false := (by rw [ch8.frozen1 (show g < x6.heap.size by omega) (fun h => (hF4 g h).2.1 rfl)]; exact l3))
   have D8 := K4'.out w8 _ (.slice A8 (fs.length + 1) c8) (fs ++ [0]) ch8 own8 (fun z h => by
    rcases h with h | h | h
    · exact .inl h
    · exact h.elim
    · have h3 := h.1
      exact .inr (by omega))
   obtain ⟨x8, hx8⟩ : ∃ u, u = w8.setCell ⟨g, 3, none⟩ (.slice A8 (fs.length + 1) c8) := ⟨_, rfl⟩
   rw [← hx8] at D8
   have HX8 := Lib.hid hx8
   clear hx8
   have hmid := D8.mid
   have a0 := D8.p0
   have a1 := D8.p1
   have a2 := D8.p2
   have a3 := D8.p3
   have a4 := D8.p4
   have a5 := D8.p5
   have r0 := (D8.e 0 (by omega)).1
   have r1 := (D8.e 1 (by omega)).1
   have r2 := (D8.e 2 (by omega)).1
   have r3 := (D8.e 3 (by omega)).1
   have r4 := (D8.e 4 (by omega)).1
   have r5 := (D8.e 5 (by omega)).1
   have v0 := (D8.e 0 (by omega)).2
   have v1 := (D8.e 1 (by omega)).2
   have v2 := (D8.e 2 (by omega)).2
   have v3 := (D8.e 3 (by omega)).2
   have v4 := (D8.e 4 (by omega)).2
   have v5 := (D8.e 5 (by omega)).2
   rw [if_pos rfl] at r0
   rw [if_neg (by decide)] at r1 r2 r3 r4 r5
   have UX := D8.sz
   have hne : g ≠ w.heap.size := by omega
   have hne' : w.heap.size ≠ g := by omega
   have FIN := Lib.hid (D8.fin hbw (P := M.fewZ) ⟨FEW.out.sn, FEW.out.tn, by show (fs ++ [0]).length ≤ 30; rw [List.length_append, List.length_singleton]; omega, FEW.out.en, FEW.out.e1, FEW.out.e2, FEW.out.e3, FEW.out.mn, FEW.out.mt⟩).toR
   clear D8 hmid
   rw [← HX8.out]
   go_wp2
   refine bodyPost_ret (v := .agg #[.int .i64 i, .slice A1 src.length c1, .slice A2 ts.length c2, .slice A8 (fs.length + 1) c8, .slice A4 ps.length c4, .slice A5 ms.length c5]) (by simp [results, Tryz.results35, go_sem, r0, r1, r2, r3, r4, r5, v0, v1, v2, v3, v4, v5, hne, hne']) rfl ?_
   exact FIN.out
 · obtain ⟨F4, r4, hF4, -⟩ := D6.in4 hbw
   have hX := Lib.hid (List.getElem?_eq_getElem (show 0 < ps.length by omega))
   generalize ps[0]'(by omega) = y0 at hX
   obtain ⟨bb, o_, cc_, cs, hv, hbb, -, -, -⟩ := r4.read.atX hX.out
   simp only [Value.slice.injEq] at hv
   obtain ⟨rfl, -, rfl⟩ := hv
   have p_ := D6.p4
   have b_ := D6.q 4 (by omega)
   have hps1 : (1 : Int) ≤ (ps.length : Int) := by omega
   obtain ⟨x8, hx8⟩ : ∃ u, u = x6.setCell ⟨g, 4, none⟩ (.slice (if c4 = 1 then some ⟨bb, o_, none⟩ else some ⟨bb, o_ + 4, none⟩) (ps.length - 1) (c4 - 1)) := ⟨_, rfl⟩
   have HX8 := Lib.hid hx8
   obtain ⟨NA, hNA⟩ : ∃ NA : Option Addr, (if c4 = 1 then some ⟨bb, o_, none⟩ else some ⟨bb, o_ + 4, none⟩) = NA := ⟨_, rfl⟩
   obtain ⟨nn, hnn⟩ : ∃ nn : Nat, ps.length - 1 = nn := ⟨_, rfl⟩
   obtain ⟨cc, hcc⟩ : ∃ cc : Nat, c4 - 1 = cc := ⟨_, rfl⟩
   rw [hNA, hnn, hcc] at hx8
   have HNA := Lib.hid hNA
   have HNN := Lib.hid hnn
   have HCC := Lib.hid hcc
   clear hNA hnn hcc
   have C8 : Chg (fun z => z ≤ w.heap.size ∨ z = g) x6 x8 := by rw [hx8]; exact Chg.set x6 g 4 _ (.inr rfl)
   have a0 : x8.cell? ⟨g, 0, none⟩ = some (.int .i64 i) := by rw [hx8]; exact (zae x6 g _ (by decide)).trans D6.p0
   have a1 : x8.cell? ⟨g, 1, none⟩ = some (.slice A1 src.length c1) := by rw [hx8]; exact (zae x6 g _ (by decide)).trans D6.p1
   have a2 : x8.cell? ⟨g, 2, none⟩ = some (.slice A2 ts.length c2) := by rw [hx8]; exact (zae x6 g _ (by decide)).trans D6.p2
   have a3 : x8.cell? ⟨g, 3, none⟩ = some (.slice A3 fs.length c3) := by rw [hx8]; exact (zae x6 g _ (by decide)).trans D6.p3
   have a4 : x8.cell? ⟨g, 4, none⟩ = some (.slice NA nn cc) := by rw [hx8]; exact World.cell?_setCell_same _ _ _ D6.p4
   have a5 : x8.cell? ⟨g, 5, none⟩ = some (.slice A5 ms.length c5) := by rw [hx8]; exact (zae x6 g _ (by decide)).trans D6.p5
   have ee : ∀ j, j < 6 → x8.cell? ⟨w.heap.size, j, none⟩ = some (if j = 0 then .int .i64 0 else .slice none 0 0) ∧ x8.frozen? ⟨w.heap.size, j, none⟩ = false := fun j hj => by
    refine ⟨?_, by rw [hx8, World.frozen?_setCell]; exact (D6.e j hj).2⟩
    rw [hx8, World.cell?_of_block (heap_setCell_other x6 ⟨g, 4, none⟩ w.heap.size _ (by show w.heap.size ≠ g; omega))]; exact (D6.e j hj).1
   have r0 := (ee 0 (by omega)).1
   have r1 := (ee 1 (by omega)).1
   have r2 := (ee 2 (by omega)).1
   have r3 := (ee 3 (by omega)).1
   have r4_ := (ee 4 (by omega)).1
   have r5 := (ee 5 (by omega)).1
   have v0 := (ee 0 (by omega)).2
   have v1 := (ee 1 (by omega)).2
   have v2 := (ee 2 (by omega)).2
   have v3 := (ee 3 (by omega)).2
   have v4 := (ee 4 (by omega)).2
   have v5 := (ee 5 (by omega)).2
   rw [if_pos rfl] at r0
   rw [if_neg (by decide)] at r1 r2 r3 r4_ r5
   have hne : g ≠ w.heap.size := by omega
   have hne' : w.heap.size ≠ g := by omega
   have HD6 := Lib.hid D6
   have HC8 := Lib.hid C8
   have HX8' := Lib.hid hx8
   clear hx8 D6 ee C8 r4 hF4
   go_upto_region 17 with fail
   rw [← HX8.out]
   try rw [HNA.out]
   go_wp2
   refine bodyPost_ret (v := .agg #[.int .i64 i, .slice A1 src.length c1, .slice A2 ts.length c2, .slice A3 fs.length c3, .slice NA nn cc, .slice A5 ms.length c5]) (by simp [results, Tryz.results35, go_sem, r0, r1, r2, r3, r4_, r5, v0, v1, v2, v3, v4, v5, hne, hne']) rfl ?_
   have st : ∀ (u : World) (o : Nat) (x : Value), Chg (fun z => z ≤ w.heap.size ∨ z = g) u (u.setCell ⟨w.heap.size, o, none⟩ x) := fun u o x => Chg.set u w.heap.size o _ (.inl (Nat.le_refl _))
   have CC := HC8.out.trans ((((((st x8 0 (.int .i64 i)).trans (st _ 1 (.slice A1 src.length c1))).trans (st _ 2 (.slice A2 ts.length c2))).trans (st _ 3 (.slice A3 fs.length c3))).trans (st _ 4 (.slice NA nn cc))).trans (st _ 5 (.slice A5 ms.length c5)))
   have hx8' := HX8'.out
   have CM := (Chg.set (F := fun z => z = w.heap.size ∨ z = g) x6 g 4 (.slice NA nn cc) (.inr rfl))
   rw [← hx8'] at CM
   have st2 : ∀ (u : World) (o : Nat) (x : Value), Chg (fun z => z = w.heap.size ∨ z = g) u (u.setCell ⟨w.heap.size, o, none⟩ x) := fun u o x => Chg.set u w.heap.size o _ (.inl rfl)
   have MB := (CM.trans ((((((st2 x8 0 (.int .i64 i)).trans (st2 _ 1 (.slice A1 src.length c1))).trans (st2 _ 2 (.slice A2 ts.length c2))).trans (st2 _ 3 (.slice A3 fs.length c3))).trans (st2 _ 4 (.slice NA nn cc))).trans (st2 _ 5 (.slice A5 ms.length c5)))).toBelow (B := w.heap.size) (fun z h => by rcases h with h | h <;> omega) (by omega)
   refine ⟨_, _, _, _, _, _, _, _, _, _, _, _, _, _, _, _, ((i, src, ts, fs, ps.drop 1, ms) : Sess), rfl, fun w2 hw2 => ?_, Lib.hid ⟨FEW.out.sn, FEW.out.tn, FEW.out.fn, by show (ps.drop 1).length ≤ 30; rw [List.length_drop]; omega, fun p hp => FEW.out.e1 p (List.mem_of_mem_drop hp), fun p hp => FEW.out.e2 p (List.mem_of_mem_drop hp), fun p hp => FEW.out.e3 p (List.mem_of_mem_drop hp), FEW.out.mn, FEW.out.mt⟩, HD6.out.mid.thenB' MB (Nat.le_refl _)⟩
   obtain ⟨R1, R2, R3, R4, R5⟩ := HD6.out.reads (CC.trans (hw2.wide (fun z h => .inl (Nat.le_of_lt h))))
   have RT := R4.tail (by omega)
   rw [show (some (⟨bb, o_, none⟩ : Addr)).map (·.add (1 * tP.s)) = some ⟨bb, o_ + 4, none⟩ from rfl, HNA.out, HNN.out, HCC.out] at RT
   exact tZ_R.2 ⟨_, _, _, _, _, _, _, _, _, _, _, _, _, _, _, rfl, sl_R.2 R1, sl_R.2 R2, sl_R.2 R3, sl_R.2 RT, sl_R.2 R5⟩
 · obtain ⟨U2, hU2⟩ : ∃ U, U = x6 := ⟨_, rfl⟩
   rw [← hU2] at D6 s6 z6 t6 ⊢
   have HD := Lib.hid D6
   have UP1 := D6.p1
   obtain ⟨F1, r1_, hF1, K1⟩ := D6.in1 hbw
   have K1' := Lib.hid K1
   clear hU2 K1 D6
   have hX := Lib.hid (List.getElem?_eq_getElem (show 0 < src.length by omega))
   generalize src[0]'(by omega) = x0 at hX
   have hx15 : x0.length ≤ 15 := hsl.out x0 (List.mem_of_getElem? hX.out)
   obtain ⟨css, Fs, hole, cs, hcs, hE⟩ := r1_.openAt hX.out
   obtain ⟨A0, n0, c0, rfl⟩ := zbw (tS.read hE)
   have oE := sl_O.1 hE
   obtain rfl : x0.length = n0 := oE.read.cap.1
   obtain ⟨gr, rfl, hgF, hgn, hgl, -⟩ := hole.form (show 0 < src.length by omega)
   have c0_ : U2.cell? ⟨gr, 0 * 1 + 0, none⟩ = _ := (hole.cell hcs (j := 0) rfl).1
   have f0_ : U2.frozen? ⟨gr, 0 * 1 + 0, none⟩ = _ := (hole.cell hcs (j := 0) rfl).2
   simp only [Nat.zero_mul, Nat.zero_add] at c0_ f0_
   obtain ⟨G, hG⟩ : ∃ G : Nat → Prop, G = Fs 0 := ⟨_, rfl⟩
   have HG2 := Lib.hid hG
   have GX := Lib.hid (show ¬ G g from fun h => by rw [hG] at h; exact (hF1 g (hole.fits g h)).2.1 rfl)
   have GN := Lib.hid (show ¬ G gr from fun h => by rw [hG] at h; exact hgn h)
   have g1 := ChgTo.cell (F := G) UP1 (fun h => GX.out h)
   have g0 := ChgTo.cell (F := G) c0_ (fun h => GN.out h)
   have hs1 : (0 : Int) < (src.length : Int) := by omega
   have oD := oE.chg (Chg.of_below (zac (Below.refl U2.heap.size U2) 1) (fun _ => False)) (fun _ _ h => h)
   have dz : U2.drew.heap.size = U2.heap.size := rfl
   have BD : Below U2.heap.size U2 U2.drew := zac (Below.refl U2.heap.size U2) 1
   have cd_ : U2.drew.cell? ⟨gr, 0, none⟩ = _ := (BD.cell (by show gr < _; exact hgl)).trans c0_
   have fd_ : U2.drew.frozen? ⟨gr, 0, none⟩ = _ := (BD.frozen (by show gr < _; exact hgl)).trans f0_
   have HBD := Lib.hid BD
   clear hG oE hE BD
   go_wp2_with fail
   (refine zcl G [0, 2] [1, 3, 4, 5] 3 (.one 6 (.one 7 (.first 8 .rest))) [9] [9] (by kernel_rfl) (by kernel_rfl) ?_; simp only [zaj]; simp only [List.filterMap, List.getElem?_cons_succ, List.getElem?_cons_zero]; (repeat (go_big_quiet_step (fail))); refine wpQuiet_nil ?_; (repeat (go_big_quiet_step (fail))); refine wpQuiet_nil ?_)
   refine zai rfl ?_
   go_wp2_with fail
   refine ⟨⟨⟨_, Chg.of_below ((zac (Below.refl U2.heap.size _) 1).alloc (Nat.le_refl _) _) _⟩, rfl⟩, zai rfl ?_⟩
   go_wp2_with (at_builtin; go_loud (rw [show (U2.alloc (.cells #[.int .i64 2147483648] 2)).drew = U2.drew.alloc (.cells #[.int .i64 2147483648] 2) from rfl]; refine zaz zbl #[.int .i64 2147483648] rfl _ _ rfl oD (Fe := fun _ => False) (y := 2147483648) rfl (fun _ _ h => h) rfl rfl (by unfold maxLen; omega) (by omega) ?_; intro v8 w8 own8 ch8; obtain ⟨A8, c8, e8⟩ := own8.shape; rw [List.length_append, List.length_singleton] at e8; subst e8; have P8 : w8.cell? ⟨gr, 0, none⟩ = some (.slice A0 x0.length c0) := (by rw [ch8.cell1 (show gr < U2.drew.heap.size by omega) (fun h => hgn h)]; exact cd_); have Q8 : w8.frozen? ⟨gr, 0, none⟩ = false := (by rw [ch8.frozen1 (show gr < U2.drew.heap.size by omega) (fun h => hgn h)]; exact fd_)))
   have CU : Chg (Fs 0) U2 w8 := (Chg.of_below HBD.out _).trans ch8
   have C8 : Chg G U2 w8 := by rw [HG2.out]; exact CU
   refine ⟨⟨⟨w8, C8⟩, rfl⟩, ?_⟩
   (refine zbf rfl ?_; (repeat (go_big_quiet_step (fail))); refine wpQuiet_nil ?_)
   refine zbg ?_
   have s0_ := (hole.chg CU).set hcs 0 (by decide) (.slice A8 (x0.length + 1) c8)
   obtain ⟨X9, hX9⟩ : ∃ u, u = w8.setCell ⟨gr, 0, none⟩ (.slice A8 (x0.length + 1) c8) := ⟨_, rfl⟩
   have s0' := s0_.1
   rw [Nat.zero_mul, Nat.zero_add, ← hX9] at s0'
   have CS : Chg (fun z => z = gr) w8 X9 := by rw [hX9]; exact Chg.set w8 gr 0 _ rfl
   have own9 := own8.chg CS (fun z h1 h2 => by
    have h2 : z = gr := h2
    subst h2
    rcases h1 with h1 | h1 | h1
    · exact hgn h1
    · exact h1
    · have := h1.1; omega)
   have fin9 := s0'.fill2 (s0_.2) (y := x0 ++ [2147483648]) (sl_O.2 own9) (fun z h => by
    rcases h with h | h | h
    · exact .inl h
    · exact h.elim
    · exact .inr (fun h2 => by have a1 := (hF1 z h2).2.2; have a2 := h.1; omega))
   have CF : Chg F1 U2 X9 := (CU.wide (fun z h => hole.fits z h)).trans (CS.wide (fun z h => by have h2 : z = gr := h; rw [h2]; exact hgF))
   have D9 := K1'.out X9 _ _ CF fin9 (fun z h => by
    rcases h with h | h | h | h
    · exact .inl h
    · exact .inl (hole.fits z h)
    · exact h.elim
    · exact .inr (by have := h.1; omega))
   have HX9 := Lib.hid hX9
   clear hX9 s0' own9 fin9 CF CS s0_ hole hcs r1_ g1 g0 oD
   have hmid := D9.mid
   have a0 := D9.p0
   have a1 := D9.p1
   have a2 := D9.p2
   have a3 := D9.p3
   have a4 := D9.p4
   have a5 := D9.p5
   have r0 := (D9.e 0 (by omega)).1
   have r1 := (D9.e 1 (by omega)).1
   have r2 := (D9.e 2 (by omega)).1
   have r3 := (D9.e 3 (by omega)).1
   have r4 := (D9.e 4 (by omega)).1
   have r5 := (D9.e 5 (by omega)).1
   have v0 := (D9.e 0 (by omega)).2
   have v1 := (D9.e 1 (by omega)).2
   have v2 := (D9.e 2 (by omega)).2
   have v3 := (D9.e 3 (by omega)).2
   have v4 := (D9.e 4 (by omega)).2
   have v5 := (D9.e 5 (by omega)).2
   rw [if_pos rfl] at r0
   rw [if_neg (by decide)] at r1 r2 r3 r4 r5
   have UX := D9.sz
   have hne : g ≠ w.heap.size := by omega
   have hne' : w.heap.size ≠ g := by omega
   have FIN := Lib.hid (D9.fin hbw (P := M.fewZ) ⟨⟨by show (src.set 0 (x0 ++ [2147483648])).length ≤ 30; rw [List.length_set]; omega, fun s hs => by
    rcases List.mem_or_eq_of_mem_set hs with h1 | h1
    · exact FEW.out.sn.2 s h1
    · rw [h1, List.length_append, List.length_singleton]; omega⟩, FEW.out.tn, FEW.out.fn, FEW.out.en, FEW.out.e1, FEW.out.e2, FEW.out.e3, FEW.out.mn, FEW.out.mt⟩).toR
   clear D9 hmid
   go_upto_region 17 with fail
   rw [← HX9.out]
   go_wp2
   refine bodyPost_ret (v := .agg #[.int .i64 i, .slice (some ⟨gr, 0, none⟩) src.length c1, .slice A2 ts.length c2, .slice A3 fs.length c3, .slice A4 ps.length c4, .slice A5 ms.length c5]) (by simp [results, Tryz.results35, go_sem, r0, r1, r2, r3, r4, r5, v0, v1, v2, v3, v4, v5, hne, hne']) rfl ?_
   exact FIN.out
 · have HD6 := Lib.hid D6
   have MB := Lib.hid (ztd b lo A n c code _ x6 s6 (by omega))
   clear D6
   go_wp2_with fail
   refine MB.out.mono ?_
   rintro e x7 ⟨A7, c7, ns, rfl, o7, hl7, ht7, m7⟩
   have t7 := m7.size
   obtain ⟨x8, hx8⟩ : ∃ u, u = x7.setCell ⟨g, 5, none⟩ (.slice A7 ns.length c7) := ⟨_, rfl⟩
   have HX8 := Lib.hid hx8
   have cK : ∀ (o : Nat) (u : Option Value), x6.cell? ⟨g, o, none⟩ = u → x7.cell? ⟨g, o, none⟩ = u := fun o u h3 => m7.cellK (by omega) (.inr (by omega)) h3
   have p_ := cK _ _ HD6.out.p5
   have b_ : x7.frozen? ⟨g, 5, none⟩ = false := m7.frozK (by omega) (.inr (by omega)) (HD6.out.q 5 (by omega))
   have CK := Lib.hid cK
   clear cK
   go_upto_region 17 with fail
   rw [← HX8.out]
   have cK := CK.out
   have a0 : x8.cell? ⟨g, 0, none⟩ = some (.int .i64 i) := by rw [hx8]; exact (zae x7 g _ (by decide)).trans (cK _ _ HD6.out.p0)
   have a1 : x8.cell? ⟨g, 1, none⟩ = some (.slice A1 src.length c1) := by rw [hx8]; exact (zae x7 g _ (by decide)).trans (cK _ _ HD6.out.p1)
   have a2 : x8.cell? ⟨g, 2, none⟩ = some (.slice A2 ts.length c2) := by rw [hx8]; exact (zae x7 g _ (by decide)).trans (cK _ _ HD6.out.p2)
   have a3 : x8.cell? ⟨g, 3, none⟩ = some (.slice A3 fs.length c3) := by rw [hx8]; exact (zae x7 g _ (by decide)).trans (cK _ _ HD6.out.p3)
   have a4 : x8.cell? ⟨g, 4, none⟩ = some (.slice A4 ps.length c4) := by rw [hx8]; exact (zae x7 g _ (by decide)).trans (cK _ _ HD6.out.p4)
   have a5 : x8.cell? ⟨g, 5, none⟩ = some (.slice A7 ns.length c7) := by rw [hx8]; exact World.cell?_setCell_same _ _ _ p_
   have ee : ∀ j, j < 6 → x8.cell? ⟨w.heap.size, j, none⟩ = some (if j = 0 then .int .i64 0 else .slice none 0 0) ∧ x8.frozen? ⟨w.heap.size, j, none⟩ = false := fun j hj => by
    have h1 := m7.cellK (o := j) (by omega) (.inr (by omega)) (HD6.out.e j hj).1
    have h2 := m7.frozK (o := j) (by omega) (.inr (by omega)) (HD6.out.e j hj).2
    refine ⟨?_, by rw [hx8, World.frozen?_setCell]; exact h2⟩
    rw [hx8, World.cell?_of_block (heap_setCell_other x7 ⟨g, 5, none⟩ w.heap.size _ (by show w.heap.size ≠ g; omega))]; exact h1
   have r0 := (ee 0 (by omega)).1
   have r1 := (ee 1 (by omega)).1
   have r2 := (ee 2 (by omega)).1
   have r3 := (ee 3 (by omega)).1
   have r4_ := (ee 4 (by omega)).1
   have r5 := (ee 5 (by omega)).1
   have v0 := (ee 0 (by omega)).2
   have v1 := (ee 1 (by omega)).2
   have v2 := (ee 2 (by omega)).2
   have v3 := (ee 3 (by omega)).2
   have v4 := (ee 4 (by omega)).2
   have v5 := (ee 5 (by omega)).2
   rw [if_pos rfl] at r0
   rw [if_neg (by decide)] at r1 r2 r3 r4_ r5
   have hne : g ≠ w.heap.size := by omega
   have hne' : w.heap.size ≠ g := by omega
   have O7 := Lib.hid o7
   have M7 := Lib.hid m7
   have HX8' := Lib.hid hx8
   clear hx8 ee o7 m7 cK
   go_wp2
   refine bodyPost_ret (v := .agg #[.int .i64 i, .slice A1 src.length c1, .slice A2 ts.length c2, .slice A3 fs.length c3, .slice A4 ps.length c4, .slice A7 ns.length c7]) (by simp [results, Tryz.results35, go_sem, r0, r1, r2, r3, r4_, r5, v0, v1, v2, v3, v4, v5, hne, hne']) rfl ?_
   have hx8' := HX8'.out
   have CM := (Chg.set (F := fun z => z = w.heap.size ∨ z = g) x7 g 5 (.slice A7 ns.length c7) (.inr rfl))
   rw [← hx8'] at CM
   have st2 : ∀ (u : World) (o : Nat) (x : Value), Chg (fun z => z = w.heap.size ∨ z = g) u (u.setCell ⟨w.heap.size, o, none⟩ x) := fun u o x => Chg.set u w.heap.size o _ (.inl rfl)
   have C78 := CM.trans ((((((st2 x8 0 (.int .i64 i)).trans (st2 _ 1 (.slice A1 src.length c1))).trans (st2 _ 2 (.slice A2 ts.length c2))).trans (st2 _ 3 (.slice A3 fs.length c3))).trans (st2 _ 4 (.slice A4 ps.length c4))).trans (st2 _ 5 (.slice A7 ns.length c7)))
   have MB := C78.toBelow (B := w.heap.size) (fun z h => by rcases h with h | h <;> omega) (by omega)
   have C67 : Chg (fun z => z ≤ w.heap.size ∨ z = g) x6 x7 := ⟨M7.out.os, M7.out.tape, M7.out.output, M7.out.size, fun i hi hn => M7.out.block i hi (by
    rcases Nat.lt_or_ge i b with h | h
    · exact .inl h
    · exact .inr (by rcases Nat.lt_or_ge b i with h2 | h2; exact h2; exact absurd (.inl (by omega)) hn))⟩
   refine ⟨_, _, _, _, _, _, _, _, _, _, _, _, _, _, _, _, ((i, src, ts, fs, ps, ns) : Sess), rfl, fun w2 hw2 => ?_, Lib.hid ⟨FEW.out.sn, FEW.out.tn, FEW.out.fn, FEW.out.en, FEW.out.e1, FEW.out.e2, FEW.out.e3, by show ns.length ≤ 8; omega, ht7.out.up (by omega)⟩, (HD6.out.mid.trans M7.out).thenB' MB (Nat.le_refl _)⟩
   obtain ⟨R1, R2, R3, R4, -⟩ := HD6.out.reads ((C67.trans (C78.wide (fun z h => by rcases h with h | h; exact .inl (Nat.le_of_eq h); exact .inr h))).trans (hw2.wide (fun z h => .inl (Nat.le_of_lt h))))
   have R5 := ((O7.out.chg C78 (fun z h1 h2 => by have h3 : x6.heap.size < z := h1; rcases h2 with h2 | h2 <;> omega)).chg hw2 (fun z h1 h2 => by have h3 : x6.heap.size < z := h1; omega)).read
   exact tZ_R.2 ⟨_, _, _, _, _, _, _, _, _, _, _, _, _, _, _, rfl, sl_R.2 R1, sl_R.2 R2, sl_R.2 R3, sl_R.2 R4, sl_R.2 R5⟩
 · obtain ⟨U2, hU2⟩ : ∃ U, U = x6 := ⟨_, rfl⟩
   rw [← hU2] at D6 s6 z6 t6 ⊢
   have HD := Lib.hid D6
   have UP1 := D6.p1
   have UP4 := D6.p4
   obtain ⟨G, hG⟩ : ∃ G : Nat → Prop, G = fun z => z = b ∨ (w.heap.size < z ∧ z ≠ g) := ⟨_, rfl⟩
   have HG2 := Lib.hid hG
   have GX := Lib.hid (show ¬ G g from fun h => by
    rw [hG] at h
    rcases h with h | h
    · omega
    · exact h.2 rfl)
   have g1 := ChgTo.cell (F := G) UP1 (fun h => GX.out h)
   have g4 := ChgTo.cell (F := G) UP4 (fun h => GX.out h)
   have bsU := D6.src.lt
   clear hU2 hG
   have SD := Lib.hid (zqq b lo A n c code _ U2.drew (D6.src.below (zac (Below.refl U2.heap.size _) 1) bsU) (by omega))
   clear D6
   go_wp2_with fail
   (refine zcl G [0, 2] [1] 2 (.one 3 (.first 4 .rest)) [5] [5] (by kernel_rfl) (by kernel_rfl) ?_; simp only [zaj]; simp only [List.filterMap, List.getElem?_cons_succ, List.getElem?_cons_zero]; (repeat (go_big_quiet_step (fail))); refine wpQuiet_nil ?_; (repeat (go_big_quiet_step (fail))); refine wpQuiet_nil ?_)
   refine zai rfl ?_
   go_wp2_with fail
   refine SD.out.mono ?_
   rintro e x7 ⟨nk, B1, m1_, d1, B2, m2_, d2, B3, m3_, d3, px, rfl, no, nP, s7, m7⟩
   have m7' : Mid b (b + 1) U2 x7 := (Mid.of_below (zac (Below.refl U2.heap.size _) 1) b (b + 1)).trans m7
   have E7 := HD.out.step hbw s7 m7'
   have lt7 := m7'.size
   have C7 : Chg G U2 x7 := ⟨m7'.os, m7'.tape, m7'.output, m7'.size, fun i hi hn => m7'.block i hi (by
    rw [HG2.out] at hn
    rcases Nat.lt_or_ge i b with h | h
    · exact .inl h
    · exact .inr (by rcases Nat.lt_or_ge b i with h2 | h2; exact h2; exact absurd (.inl (by omega)) hn))⟩
   obtain ⟨F4, r4, hF4, K4⟩ := E7.in4 hbw
   have K4' := Lib.hid K4
   have z7 := E7.sz
   clear E7 K4
   have hX := Lib.hid (List.getElem?_eq_getElem (show 0 < ps.length by omega))
   generalize ps[0]'(by omega) = x0 at hX
   obtain ⟨css, Fs, hole, cs, hcs, hE⟩ := r4.openAt hX.out
   obtain ⟨k0, y1, y2, y3⟩ := x0
   obtain ⟨E1, q1, e1, E2, q2, e2, E3, q3, e3, _, _, _, rfl, -, -, -, -, -, -, -, -, -⟩ := tP_O.1 hE
   obtain ⟨gr, rfl, hgF, hgn, hgl, -⟩ := hole.form (show 0 < ps.length by omega)
   have c0_ : x7.cell? ⟨gr, 0 * 4 + 0, none⟩ = _ := (hole.cell hcs (j := 0) rfl).1
   have c1_ : x7.cell? ⟨gr, 0 * 4 + 1, none⟩ = _ := (hole.cell hcs (j := 1) rfl).1
   have c2_ : x7.cell? ⟨gr, 0 * 4 + 2, none⟩ = _ := (hole.cell hcs (j := 2) rfl).1
   have c3_ : x7.cell? ⟨gr, 0 * 4 + 3, none⟩ = _ := (hole.cell hcs (j := 3) rfl).1
   have f0_ : x7.frozen? ⟨gr, 0 * 4 + 0, none⟩ = _ := (hole.cell hcs (j := 0) rfl).2
   have f1_ : x7.frozen? ⟨gr, 0 * 4 + 1, none⟩ = _ := (hole.cell hcs (j := 1) rfl).2
   have f2_ : x7.frozen? ⟨gr, 0 * 4 + 2, none⟩ = _ := (hole.cell hcs (j := 2) rfl).2
   have f3_ : x7.frozen? ⟨gr, 0 * 4 + 3, none⟩ = _ := (hole.cell hcs (j := 3) rfl).2
   simp only [Nat.zero_mul, Nat.zero_add] at c0_ c1_ c2_ c3_ f0_ f1_ f2_ f3_
   have hs1 : (0 : Int) < (ps.length : Int) := by omega
   have s0_ := hole.set hcs 0 (by decide) (.int .i64 nk)
   have s1_ := s0_.1.set s0_.2 1 (by decide) (.slice B1 m1_ d1)
   have s2_ := s1_.1.set s1_.2 2 (by decide) (.slice B2 m2_ d2)
   have s3_ := s2_.1.set s2_.2 3 (by decide) (.slice B3 m3_ d3)
   obtain ⟨X8, hX8⟩ : ∃ u, u = (((x7.setCell ⟨gr, 0, none⟩ (.int .i64 nk)).setCell ⟨gr, 1, none⟩ (.slice B1 m1_ d1)).setCell ⟨gr, 2, none⟩ (.slice B2 m2_ d2)).setCell ⟨gr, 3, none⟩ (.slice B3 m3_ d3) := ⟨_, rfl⟩
   have CH : Chg F4 x7 X8 := by rw [hX8]; exact (((Chg.set _ gr _ _ hgF).trans (Chg.set _ gr _ _ hgF)).trans (Chg.set _ gr _ _ hgF)).trans (Chg.set _ gr _ _ hgF)
   have yO : tP.O X8 (fun z => Iv U2.drew.heap.size x7.heap.size z ∧ z < x7.heap.size) [.int .i64 nk, .slice B1 m1_ d1, .slice B2 m2_ d2, .slice B3 m3_ d3] px := tP.owide (fun z h => ⟨h, h.2⟩) (tP.ochg no CH (fun z h1 h2 => by have a1 := (hF4 z h2).2.2; have a2 : U2.heap.size ≤ z := h1.1; omega))
   have s3' := s3_.1
   rw [Nat.zero_mul, Nat.zero_add, Nat.zero_add, Nat.zero_add, Nat.zero_add, ← hX8] at s3'
   have own8 := s3'.fill' s3_.2 yO (fun z h1 h2 => by have a1 := (hF4 z h2).2.2; have a2 : U2.heap.size ≤ z := h1.1.1; omega)
   have D8 := K4'.out X8 _ _ CH own8 (fun z h => by
    rcases h with h | h
    · exact .inl h
    · exact .inr h.1.1)
   have HX8 := Lib.hid hX8
   have NP := nP.out
   clear hX8 CH yO own8 s3' s0_ s1_ s2_ s3_ hole hE hcs r4
   go_wp2_with fail
   refine ⟨⟨⟨x7, C7⟩, rfl⟩, ?_⟩
   (refine zbf rfl ?_; (repeat (go_big_quiet_step (fail))); refine wpQuiet_nil ?_)
   refine zbg ?_
   clear g1 g4 UP1 UP4
   have hmid := D8.mid
   have a0 := D8.p0
   have a1 := D8.p1
   have a2 := D8.p2
   have a3 := D8.p3
   have a4 := D8.p4
   have a5 := D8.p5
   have r0 := (D8.e 0 (by omega)).1
   have r1 := (D8.e 1 (by omega)).1
   have r2 := (D8.e 2 (by omega)).1
   have r3 := (D8.e 3 (by omega)).1
   have r4 := (D8.e 4 (by omega)).1
   have r5 := (D8.e 5 (by omega)).1
   have v0 := (D8.e 0 (by omega)).2
   have v1 := (D8.e 1 (by omega)).2
   have v2 := (D8.e 2 (by omega)).2
   have v3 := (D8.e 3 (by omega)).2
   have v4 := (D8.e 4 (by omega)).2
   have v5 := (D8.e 5 (by omega)).2
   rw [if_pos rfl] at r0
   rw [if_neg (by decide)] at r1 r2 r3 r4 r5
   have UX := D8.sz
   have hne : g ≠ w.heap.size := by omega
   have hne' : w.heap.size ≠ g := by omega
   have FIN := Lib.hid (D8.fin hbw (P := M.fewZ) ⟨FEW.out.sn, FEW.out.tn, FEW.out.fn, by show (ps.set 0 px).length ≤ 30; rw [List.length_set]; omega, fun p hp => by
    rcases List.mem_or_eq_of_mem_set hp with h1 | h1
    · exact FEW.out.e1 p h1
    · rw [h1]; exact NP.t, fun p hp => by
    rcases List.mem_or_eq_of_mem_set hp with h1 | h1
    · exact FEW.out.e2 p h1
    · rw [h1]; exact NP.n, fun p hp => by
    rcases List.mem_or_eq_of_mem_set hp with h1 | h1
    · exact FEW.out.e3 p h1
    · rw [h1]; exact NP.o, FEW.out.mn, FEW.out.mt⟩).toR
   clear D8 hmid
   go_upto_region 17 with fail
   rw [← HX8.out]
   go_wp2
   refine bodyPost_ret (v := .agg #[.int .i64 i, .slice A1 src.length c1, .slice A2 ts.length c2, .slice A3 fs.length c3, .slice (some ⟨gr, 0, none⟩) ps.length c4, .slice A5 ms.length c5]) (by simp [results, Tryz.results35, go_sem, r0, r1, r2, r3, r4, r5, v0, v1, v2, v3, v4, v5, hne, hne']) rfl ?_
   exact FIN.out
 · obtain ⟨F4, r4, hF4, -⟩ := D6.in1 hbw
   have hX := Lib.hid (List.getElem?_eq_getElem (show 0 < src.length by omega))
   generalize src[0]'(by omega) = y0 at hX
   obtain ⟨bb, o_, cc_, cs, hv, hbb, -, -, -⟩ := r4.read.atX hX.out
   simp only [Value.slice.injEq] at hv
   obtain ⟨rfl, -, rfl⟩ := hv
   have p_ := D6.p1
   have b_ := D6.q 1 (by omega)
   have hps1 : (1 : Int) ≤ (src.length : Int) := by omega
   obtain ⟨x8, hx8⟩ : ∃ u, u = x6.setCell ⟨g, 1, none⟩ (.slice (if c1 = 1 then some ⟨bb, o_, none⟩ else some ⟨bb, o_ + 1, none⟩) (src.length - 1) (c1 - 1)) := ⟨_, rfl⟩
   have HX8 := Lib.hid hx8
   obtain ⟨NA, hNA⟩ : ∃ NA : Option Addr, (if c1 = 1 then some ⟨bb, o_, none⟩ else some ⟨bb, o_ + 1, none⟩) = NA := ⟨_, rfl⟩
   obtain ⟨nn, hnn⟩ : ∃ nn : Nat, src.length - 1 = nn := ⟨_, rfl⟩
   obtain ⟨cc, hcc⟩ : ∃ cc : Nat, c1 - 1 = cc := ⟨_, rfl⟩
   rw [hNA, hnn, hcc] at hx8
   have HNA := Lib.hid hNA
   have HNN := Lib.hid hnn
   have HCC := Lib.hid hcc
   clear hNA hnn hcc
   have C8 : Chg (fun z => z ≤ w.heap.size ∨ z = g) x6 x8 := by rw [hx8]; exact Chg.set x6 g 1 _ (.inr rfl)
   have a0 : x8.cell? ⟨g, 0, none⟩ = some (.int .i64 i) := by rw [hx8]; exact (zae x6 g _ (by decide)).trans D6.p0
   have a1 : x8.cell? ⟨g, 1, none⟩ = some (.slice NA nn cc) := by rw [hx8]; exact World.cell?_setCell_same _ _ _ D6.p1
   have a2 : x8.cell? ⟨g, 2, none⟩ = some (.slice A2 ts.length c2) := by rw [hx8]; exact (zae x6 g _ (by decide)).trans D6.p2
   have a3 : x8.cell? ⟨g, 3, none⟩ = some (.slice A3 fs.length c3) := by rw [hx8]; exact (zae x6 g _ (by decide)).trans D6.p3
   have a4 : x8.cell? ⟨g, 4, none⟩ = some (.slice A4 ps.length c4) := by rw [hx8]; exact (zae x6 g _ (by decide)).trans D6.p4
   have a5 : x8.cell? ⟨g, 5, none⟩ = some (.slice A5 ms.length c5) := by rw [hx8]; exact (zae x6 g _ (by decide)).trans D6.p5
   have ee : ∀ j, j < 6 → x8.cell? ⟨w.heap.size, j, none⟩ = some (if j = 0 then .int .i64 0 else .slice none 0 0) ∧ x8.frozen? ⟨w.heap.size, j, none⟩ = false := fun j hj => by
    refine ⟨?_, by rw [hx8, World.frozen?_setCell]; exact (D6.e j hj).2⟩
    rw [hx8, World.cell?_of_block (heap_setCell_other x6 ⟨g, 1, none⟩ w.heap.size _ (by show w.heap.size ≠ g; omega))]; exact (D6.e j hj).1
   have r0 := (ee 0 (by omega)).1
   have r1 := (ee 1 (by omega)).1
   have r2 := (ee 2 (by omega)).1
   have r3 := (ee 3 (by omega)).1
   have r4_ := (ee 4 (by omega)).1
   have r5 := (ee 5 (by omega)).1
   have v0 := (ee 0 (by omega)).2
   have v1 := (ee 1 (by omega)).2
   have v2 := (ee 2 (by omega)).2
   have v3 := (ee 3 (by omega)).2
   have v4 := (ee 4 (by omega)).2
   have v5 := (ee 5 (by omega)).2
   rw [if_pos rfl] at r0
   rw [if_neg (by decide)] at r1 r2 r3 r4_ r5
   have hne : g ≠ w.heap.size := by omega
   have hne' : w.heap.size ≠ g := by omega
   have HD6 := Lib.hid D6
   have HC8 := Lib.hid C8
   have HX8' := Lib.hid hx8
   clear hx8 D6 ee C8 r4 hF4
   go_upto_region 17 with fail
   rw [← HX8.out]
   try rw [HNA.out]
   go_wp2
   refine bodyPost_ret (v := .agg #[.int .i64 i, .slice NA nn cc, .slice A2 ts.length c2, .slice A3 fs.length c3, .slice A4 ps.length c4, .slice A5 ms.length c5]) (by simp [results, Tryz.results35, go_sem, r0, r1, r2, r3, r4_, r5, v0, v1, v2, v3, v4, v5, hne, hne']) rfl ?_
   have st : ∀ (u : World) (o : Nat) (x : Value), Chg (fun z => z ≤ w.heap.size ∨ z = g) u (u.setCell ⟨w.heap.size, o, none⟩ x) := fun u o x => Chg.set u w.heap.size o _ (.inl (Nat.le_refl _))
   have CC := HC8.out.trans ((((((st x8 0 (.int .i64 i)).trans (st _ 1 (.slice NA nn cc))).trans (st _ 2 (.slice A2 ts.length c2))).trans (st _ 3 (.slice A3 fs.length c3))).trans (st _ 4 (.slice A4 ps.length c4))).trans (st _ 5 (.slice A5 ms.length c5)))
   have hx8' := HX8'.out
   have CM := (Chg.set (F := fun z => z = w.heap.size ∨ z = g) x6 g 1 (.slice NA nn cc) (.inr rfl))
   rw [← hx8'] at CM
   have st2 : ∀ (u : World) (o : Nat) (x : Value), Chg (fun z => z = w.heap.size ∨ z = g) u (u.setCell ⟨w.heap.size, o, none⟩ x) := fun u o x => Chg.set u w.heap.size o _ (.inl rfl)
   have MB := (CM.trans ((((((st2 x8 0 (.int .i64 i)).trans (st2 _ 1 (.slice NA nn cc))).trans (st2 _ 2 (.slice A2 ts.length c2))).trans (st2 _ 3 (.slice A3 fs.length c3))).trans (st2 _ 4 (.slice A4 ps.length c4))).trans (st2 _ 5 (.slice A5 ms.length c5)))).toBelow (B := w.heap.size) (fun z h => by rcases h with h | h <;> omega) (by omega)
   refine ⟨_, _, _, _, _, _, _, _, _, _, _, _, _, _, _, _, ((i, src.drop 1, ts, fs, ps, ms) : Sess), rfl, fun w2 hw2 => ?_, Lib.hid ⟨⟨by show (src.drop 1).length ≤ 30; rw [List.length_drop]; omega, fun s hs => FEW.out.sn.2 s (List.mem_of_mem_drop hs)⟩, FEW.out.tn, FEW.out.fn, FEW.out.en, FEW.out.e1, FEW.out.e2, FEW.out.e3, FEW.out.mn, FEW.out.mt⟩, HD6.out.mid.thenB' MB (Nat.le_refl _)⟩
   obtain ⟨R1, R2, R3, R4, R5⟩ := HD6.out.reads (CC.trans (hw2.wide (fun z h => .inl (Nat.le_of_lt h))))
   have RT := R1.tail (by omega)
   rw [show (some (⟨bb, o_, none⟩ : Addr)).map (·.add (1 * tS.s)) = some ⟨bb, o_ + 1, none⟩ from rfl, HNA.out, HNN.out, HCC.out] at RT
   exact tZ_R.2 ⟨_, _, _, _, _, _, _, _, _, _, _, _, _, _, _, rfl, sl_R.2 RT, sl_R.2 R2, sl_R.2 R3, sl_R.2 R4, sl_R.2 R5⟩
 · have e0 : (q == 0) = false := by simp; omega
   have e1 : (q == 1) = false := by simp; omega
   have e2 : (q == 2) = false := by simp; omega
   have e3 : (q == 3) = false := by simp; omega
   have e4 : (q == 4) = false := by simp; omega
   have e5 : (q == 5) = false := by simp; omega
   have e6 : (q == 6) = false := by simp; omega
   have hmid := D6.mid
   have a0 := D6.p0
   have a1 := D6.p1
   have a2 := D6.p2
   have a3 := D6.p3
   have a4 := D6.p4
   have a5 := D6.p5
   have r0 := (D6.e 0 (by omega)).1
   have r1 := (D6.e 1 (by omega)).1
   have r2 := (D6.e 2 (by omega)).1
   have r3 := (D6.e 3 (by omega)).1
   have r4 := (D6.e 4 (by omega)).1
   have r5 := (D6.e 5 (by omega)).1
   have v0 := (D6.e 0 (by omega)).2
   have v1 := (D6.e 1 (by omega)).2
   have v2 := (D6.e 2 (by omega)).2
   have v3 := (D6.e 3 (by omega)).2
   have v4 := (D6.e 4 (by omega)).2
   have v5 := (D6.e 5 (by omega)).2
   rw [if_pos rfl] at r0
   rw [if_neg (by decide)] at r1 r2 r3 r4 r5
   have UX := D6.sz
   have hne : g ≠ w.heap.size := by omega
   have hne' : w.heap.size ≠ g := by omega
   have FIN := Lib.hid (D6.fin hbw (P := M.fewZ) ⟨FEW.out.sn, FEW.out.tn, FEW.out.fn, FEW.out.en, FEW.out.e1, FEW.out.e2, FEW.out.e3, FEW.out.mn, FEW.out.mt⟩).toR
   clear D6 hmid
   go_wp2
   refine bodyPost_ret (v := .agg #[.int .i64 i, .slice A1 src.length c1, .slice A2 ts.length c2, .slice A3 fs.length c3, .slice A4 ps.length c4, .slice A5 ms.length c5]) (by simp [results, Tryz.results35, go_sem, r0, r1, r2, r3, r4, r5, v0, v1, v2, v3, v4, v5, hne, hne']) rfl ?_
   exact FIN.out
end
section
open Go.RowKit Go.Sort
def ztf (w : World) (e : Ending) (w' : World) : Prop :=
 ∃ i A1 n1 c1 A2 n2 c2 A3 n3 c3 A4 n4 c4 A5 n5 c5 x, e = .returned (.agg #[.int .i64 i, .slice A1 n1 c1, .slice A2 n2 c2, .slice A3 n3 c3, .slice A4 n4 c4, .slice A5 n5 c5]) ∧ tZ.R w' w'.heap.size [.int .i64 i, .slice A1 n1 c1, .slice A2 n2 c2, .slice A3 n3 c3, .slice A4 n4 c4, .slice A5 n5 c5] x ∧ Hid (M.fewZ x) ∧ Below w.heap.size w w'
theorem ztg (A : Option Addr) (n c : Nat) (code : List UInt8) (w : World) (hr : RS tU8 w w.heap.size (.slice A n c) code) :
 Calls Tryz.prog 14 #[.slice A n c] w (ztf w) := by
 obtain ⟨W, hW, B0, z0, q0, q1, q2, q3, q4, q5, qf⟩ := zb2 w (.int .i64 0) (.slice none 0 0) (.slice none 0 0) (.slice none 0 0) (.slice none 0 0) (.slice none 0 0) 32
 have HW := Lib.hid hW
 clear hW
 have hr0 := hr.later B0
 go_enter Tryz.func14, Tryz.ntmps14
 go_wp2_with fail
 rw [← HW.out]
 refine (zkb A n c code W hr0).mono ?_
 rintro e w1 ⟨b, rfl, hb, s1, b1, z1⟩
 have hbl : w.heap.size + 1 ≤ b := by omega
 have lt1 : b + 1 ≤ w1.heap.size := by omega
 have hb' := Lib.hid hb
 clear z1 hb
 go_wp2_with fail
 refine (zte _ _ A n c code 0 w1 s1 (by omega)).mono ?_
 rintro e w2 ⟨i, A1, n1, c1, A2, n2, c2, A3, n3, c3, A4, n4, c4, A5, n5, c5, x, rfl, r2_, hP, m2⟩
 have lt2 := m2.size
 have ck : ∀ j u, W.cell? ⟨w.heap.size, j, none⟩ = some u → w2.cell? ⟨w.heap.size, j, none⟩ = some u := fun j u hu => m2.cellK (by omega) (.inl (by omega)) (by rw [b1.cell (by show w.heap.size < _; omega)]; exact hu)
 have fk : ∀ j, w2.frozen? ⟨w.heap.size, j, none⟩ = false := fun j => m2.frozK (by omega) (.inl (by omega)) (by rw [b1.frozen (by show w.heap.size < _; omega)]; exact qf j)
 have r0 := ck 0 _ q0
 have r1 := ck 1 _ q1
 have r2 := ck 2 _ q2
 have r3 := ck 3 _ q3
 have r4 := ck 4 _ q4
 have r5 := ck 5 _ q5
 have v0 := fk 0
 have v1 := fk 1
 have v2 := fk 2
 have v3 := fk 3
 have v4 := fk 4
 have v5 := fk 5
 obtain ⟨U_, hU_, y0, y1, y2, y3, y4, y5, yf, ych, ysz⟩ := box6 r0 r1 r2 r3 r4 r5 fk (.int .i64 i) (.slice A1 n1 c1) (.slice A2 n2 c2) (.slice A3 n3 c3) (.slice A4 n4 c4) (.slice A5 n5 c5)
 have HU_ := Lib.hid hU_
 clear hU_ ck fk q0 q1 q2 q3 q4 q5 qf
 go_wp2
 rw [← HU_.out]
 have yf0 := yf 0
 have yf1 := yf 1
 have yf2 := yf 2
 have yf3 := yf 3
 have yf4 := yf 4
 have yf5 := yf 5
 refine bodyPost_ret (v := .agg #[.int .i64 i, .slice A1 n1 c1, .slice A2 n2 c2, .slice A3 n3 c3, .slice A4 n4 c4, .slice A5 n5 c5]) (by simp [results, Tryz.results14, go_sem, y0, y1, y2, y3, y4, y5, yf0, yf1, yf2, yf3, yf4, yf5]) rfl ?_
 have hb1 := hb'.out
 have B2 : Below w.heap.size w w2 := (B0.trans (b1.mono (by omega))).trans ((m2.toBelow (by omega)).mono (by omega))
 exact ⟨i, A1, n1, c1, A2, n2, c2, A3, n3, c3, A4, n4, c4, A5, n5, c5, x, rfl, r2_ _ (ych.wide (fun z (h : z = w.heap.size) => by omega)), hP, B2.trans (ych.toBelow (fun z (h : z = w.heap.size) => by omega) (by omega))⟩
end
section
open Go.RowKit Go.Sort
theorem zth (k : Nat) (l : Int) (acc : List Int) (p : Int × Int) (q : Nat) : M.i_ acc q ≤ M.i_ (zb3 k l acc p) q := by
 rw [zb3]
 by_cases h : p.1.toNat = q
 · subst h
   by_cases hl : p.1.toNat < acc.length
   · rw [zeq hl]
     exact Int.le_max_left _ _
   · rw [M.i_, M.i_, List.getElem?_eq_none (by omega), List.getElem?_eq_none (by rw [List.length_set]; omega)]
     exact Int.le_refl _
 · rw [zei h]
   exact Int.le_refl _
theorem zmh (k : Nat) (l : Int) (q : Nat) : ∀ (us : List (Int × Int)) (acc : List Int), M.i_ acc q ≤ M.i_ (us.foldl (zb3 k l) acc) q := by
 intro us
 induction us with
 | nil => intro acc; exact Int.le_refl _
 | cons u us ih => intro acc; exact Int.le_trans (zth k l acc u q) (ih _)
theorem zti (k : Nat) (l : Int) (q : Nat) : ∀ (us : List (Int × Int)) (acc : List Int), (∀ u ∈ us, u.1.toNat ≠ q) → M.i_ (us.foldl (zb3 k l) acc) q = M.i_ acc q := by
 intro us
 induction us with
 | nil => intro acc _; rfl
 | cons u us ih =>
  intro acc h
  rw [List.foldl_cons, ih _ (fun v hv => h v (by simp [hv])), zb3, zei (h u (by simp))]
theorem ztj (k : Nat) (l : Int) : ∀ (us : List (Int × Int)) (acc : List Int) (u : Int × Int), u ∈ us → u.1.toNat < acc.length → (∀ v ∈ us, v.1.toNat ≠ k) → M.i_ acc k + l ≤ M.i_ (us.foldl (zb3 k l) acc) u.1.toNat := by
 intro us
 induction us with
 | nil => intro acc u h; cases h
 | cons v us ih =>
  intro acc u hu hlt hne
  rw [List.foldl_cons]
  have hk : M.i_ (zb3 k l acc v) k = M.i_ acc k := by rw [zb3, zei (hne v (by simp))]
  rcases List.mem_cons.1 hu with rfl | hu
  · refine Int.le_trans ?_ (zmh k l _ us _)
    rw [zb3, zeq hlt]
    exact Int.le_max_right _ _
  · have := ih (zb3 k l acc v) u hu (by rw [zl2]; exact hlt) (fun x hx => hne x (by simp [hx]))
    rw [hk] at this
    exact this
section
variable {ms : List zad}
theorem zi9 (h : zas ms = true) {k : Nat} (hk : k < ms.length) : ∀ u ∈ (zbh ms k).2.2, k < u.1.toNat ∧ u.1.toNat < ms.length := by
 intro u hu
 obtain ⟨j, hj⟩ := List.getElem?_of_mem hu
 obtain ⟨p0, p1⟩ := u
 have := (zhv h hk).2.2 j p0 p1 hj
 show k < p0.toNat ∧ p0.toNat < _
 omega
theorem ztk (q : Nat) {k k' : Nat} (h : k ≤ k') : M.i_ (zca ms k) q ≤ M.i_ (zca ms k') q := by
 induction k' with
 | zero =>
  obtain rfl : k = 0 := by omega
  exact Int.le_refl _
 | succ k' ih =>
  rcases Nat.lt_or_ge k' k with h1 | h1
  · obtain rfl : k = k' + 1 := by omega
    exact Int.le_refl _
  · exact Int.le_trans (ih h1) (zmh _ _ _ _ _)
theorem ztl (h : zas ms = true) {i k : Nat} (hi : i ≤ k) (hk : k ≤ ms.length) : M.i_ (zca ms k) i = M.i_ (zca ms i) i := by
 induction k with
 | zero =>
  obtain rfl : i = 0 := by omega
  rfl
 | succ k ih =>
  rcases Nat.lt_or_ge k i with h1 | h1
  · obtain rfl : i = k + 1 := by omega
    rfl
  · rw [← ih h1 (by omega), zca]
    refine zti _ _ _ _ _ fun u hu => ?_
    have := zi9 h (k := k) (by omega) u hu
    omega
theorem ztm (h : zas ms = true) {i j : Nat} (hi : i < ms.length) {p0 p1 : Int} (hj : (zbh ms i).2.2[j]? = some (p0, p1)) : zbm ms i + (zbh ms i).2.1 ≤ zbm ms p0.toNat := by
 have h1 : M.i_ (zca ms i) i + (zbh ms i).2.1 ≤ M.i_ (zca ms (i + 1)) p0.toNat := by
  refine ztj i _ _ _ (p0, p1) (List.mem_of_getElem? hj) ?_ (fun v hv => ?_)
  · rw [zi2]
    exact (zi9 h hi _ (List.mem_of_getElem? hj)).2
  · have := zi9 h hi v hv
    omega
 have h2 := ztk (ms := ms) p0.toNat (show i + 1 ≤ ms.length by omega)
 have h3 := ztl h (show i ≤ ms.length by omega) (Nat.le_refl _)
 rw [zbm, zbm, zb4, h3]
 omega
theorem ztn (h : zas ms = true) {i j : Nat} (hi : i < ms.length) {p0 p1 : Int} (hj : (zbh ms i).2.2[j]? = some (p0, p1)) :
 (zag (zcy ms) i)[j]? = some (zbm ms p0.toNat - zbm ms i - (zbh ms i).2.1) ∧ 0 ≤ zbm ms p0.toNat - zbm ms i - (zbh ms i).2.1 ∧ zbm ms p0.toNat - zbm ms i - (zbh ms i).2.1 ≤ 1024 := by
 have h1 := ztm h hi hj
 have h2 := zgr h p0.toNat
 have h3 := zgr h i
 have h4 := (zhv h hi).1
 refine ⟨?_, by omega, by omega⟩
 have e : zag (zcy ms) i = zcn ms i := by rw [zag, zl8 hi]; rfl
 have e2 : ((ms[i]?).getD M.sz) = zbh ms i := rfl
 rw [e, zcn, e2, List.getElem?_map, hj]
 rfl
theorem zto : zdd ms = zbm ms (ms.length - 1) + (zbh ms (ms.length - 1)).2.1 := rfl
end
end
section
open Go.RowKit Go.Sort
set_option synthInstance.maxSize 2000
set_option synthInstance.maxHeartbeats 400000
theorem CR.made {F : Nat → Prop} {w w1 : World} {n : Nat} (own1 : w1.ownsRow w.heap.size 26 1 (.slice (some ⟨w.heap.size, 0, none⟩) n n) n (madeCells (Value.slice none 0 0).cells (n * 1)).toList) : CR F 26 w.heap.size w1 (.slice (some ⟨w.heap.size, 0, none⟩) n n) (List.replicate n []) := by
 have e := toList_madeCells_one (.slice none 0 0) n
 simp only [Nat.mul_one, Value.cells] at own1
 rw [e] at own1
 refine ⟨List.replicate n (.slice none 0 0), by rw [List.length_replicate]; exact own1, fun k x hx => ?_⟩
 have hk : k < n := by have := (List.getElem?_eq_some_iff.1 hx).1; simpa using this
 obtain rfl : x = [] := by rw [List.getElem?_replicate, if_pos hk] at hx; exact (Option.some.inj hx).symm
 exact ⟨none, 0, by simp [hk], Nat.le_refl _, RI.nil _ _ _, fun ad hn => absurd hn (by simp)⟩
theorem ztp {α : Type} (z y : α) (k n : Nat) (h : k < n) : (List.replicate k z ++ List.replicate (n - k) y).set k z = List.replicate (k + 1) z ++ List.replicate (n - (k + 1)) y := by
 rw [List.set_append_right _ _ (by simp), List.length_replicate, Nat.sub_self, show n - k = (n - (k + 1)) + 1 by omega, List.replicate_succ, List.set_cons_zero, List.replicate_succ']
 simp
theorem zgs {cs : List (List Int)} {i : Nat} {s : List Int} (h : cs[i]? = some s) : zag cs i = s := zi1 h
theorem ztq (w : World) (z0 z1 : Value) (t : TypeId) : ∃ U, U = w.alloc (.cells #[z0, z1] t) ∧ Below w.heap.size w U ∧ U.heap.size = w.heap.size + 1 ∧ U.cell? ⟨w.heap.size, 0, none⟩ = some z0 ∧ U.cell? ⟨w.heap.size, 1, none⟩ = some z1 ∧ (∀ j, U.frozen? ⟨w.heap.size, j, none⟩ = false) :=
 ⟨_, rfl, (Below.refl _ _).alloc (Nat.le_refl _) _, by simp, by simp [go_sem], by simp [go_sem], fun j => by simp [go_sem]⟩
theorem ztr (L : Nat) (A1 : Option Addr) (n1 c1 : Nat) (A2 : Option Addr) (n2 c2 : Nat) (A3 : Option Addr) (n3 c3 : Nat) (A4 : Option Addr) (n4 c4 : Nat) (A5 : Option Addr) (n5 c5 : Nat) (src : List (List Int)) (ts : List (List zah)) (fs : List Int) (ps : List zaf) (ms : List zad) (w : World)
 (h1 : tSS.R w w.heap.size [.slice A1 n1 c1] src) (h2 : tTS.R w w.heap.size [.slice A2 n2 c2] ts) (h3 : tS.R w w.heap.size [.slice A3 n3 c3] fs) (h4 : tPS.R w w.heap.size [.slice A4 n4 c4] ps) (h5 : tM.R w w.heap.size [.slice A5 n5 c5] ms) (hn : hZ.sz (((L : Int), src, ts, fs, ps, ms) : Sess) ≤ 100000000) (hO : M.SO L src ts fs ps ms) :
 Calls Tryz.prog 60 #[.agg #[.int .i64 L, .slice A1 n1 c1, .slice A2 n2 c2, .slice A3 n3 c3, .slice A4 n4 c4, .slice A5 n5 c5]] w fun e w' => ∃ (vO vR : Value) (G : Nat → Prop), e = .returned (.tuple #[vO, vR]) ∧ OS tS 26 w' G vO (zex L src ts fs ps ms) ∧ OI 2 w.heap.size w' vR (zdj ms) ∧ (∀ k, G k → w.heap.size ≤ k ∧ k < w'.heap.size ∧ vR.ownBlock ≠ some k) ∧ Below w.heap.size w w' := by
 obtain ⟨W, hW, B0, sW, p0, p1, p2, p3, p4, p5, pf⟩ := zb2 w (.int .i64 L) (.slice A1 n1 c1) (.slice A2 n2 c2) (.slice A3 n3 c3) (.slice A4 n4 c4) (.slice A5 n5 c5) 32
 have HW := Lib.hid hW
 have lW : w.heap.size < W.heap.size := by omega
 have k1 := sl_R.1 h1
 have k2 := sl_R.1 h2
 have k3 := (tS_R.1 h3).ri
 have k4 := sl_R.1 h4
 have k5 := sl_R.1 h5
 have Q1 := Lib.hid k1.cap.1
 have Q2 := Lib.hid k2.cap.1
 have Q3 := Lib.hid k3.len
 have Q4 := Lib.hid k4.cap.1
 have Q5 := Lib.hid k5.cap.1
 rw [zeg] at hn
 have z1 : hSS.sz src ≤ 100000000 := by omega
 have z2 : hTS.sz ts ≤ 100000000 := by omega
 have z4 : hPS.sz ps ≤ 100000000 := by omega
 have z5 : hM.sz ms ≤ 100000000 := by omega
 have hmn := zd0 hO.mix
 have hm5 : 1 ≤ n5 ∧ n5 ≤ 8 := by rw [← Q5.out]; exact hmn
 have ht2 : n2 ≤ 6 := by rw [← Q2.out]; exact hO.tl
 have ht3 : n3 = n2 := by rw [← Q3.out, ← Q2.out]; exact hO.fl
 have ht4 : n4 = n5 := by rw [← Q4.out, ← Q5.out]; exact hO.pl
 subst ht3 ht4
 have hL := hO.l
 have hT := zhu hO.mix
 have hnT := zma hO
 have HNI := Lib.hid (zs3 hO)
 obtain ⟨n, hnn⟩ : ∃ n, n = M.nT L ms := ⟨_, rfl⟩
 have HN := Lib.hid hnn
 rw [← hnn] at hnT
 obtain ⟨T, hTT⟩ : ∃ T, T = zdd ms := ⟨_, rfl⟩
 rw [← hTT] at hT
 have HT := Lib.hid hTT
 have hLn : ((L : Int) + T) = (n : Int) := by rw [hTT, ← HNI.out, hnn]
 have HLN := Lib.hid hLn
 have hLn' : L ≤ n := by omega
 have HWR := Lib.hid (IntWalk.i64_in ((L : Int) + T) (by omega))
 have m0 := cell_regrown p0
 have m5 := cell_regrown p5
 have D1 : Below W.heap.size W W.drew := zac (Below.refl _ _) 1
 have BD : Below w.heap.size w W.drew := zac B0 1
 clear hn hW sW hnn hTT hLn hmn
 go_enter Tryz.func60, Tryz.ntmps60
 go_wp2_with fail
 rw [← HW.out]
 (refine zdc [0, 2] [1, 3] 1 (.one 4 .rest) [5] [5, 6] (by kernel_rfl) (by kernel_rfl) ?_; simp only [zaj]; simp only [List.filterMap, List.getElem?_cons_succ, List.getElem?_cons_zero]; (repeat (go_big_quiet_step (fail))); refine wpQuiet_nil ?_; (repeat (go_big_quiet_step (fail))); refine wpQuiet_nil ?_)
 refine zai rfl ?_
 go_wp2_with fail
 refine (zsq _ _ _ ms _ (tM.later h5 BD) hO.mix).mono ?_
 rw [← HT.out]
 rintro e w1 ⟨rfl, bel1⟩
 have B1 := zaa D1 bel1
 have s1 := bel1.size
 go_wp2_with fail
 refine ⟨regrown_of_below B1, ?_⟩
 refine zbg ?_
 have q5 : w1.cell? ⟨w.heap.size, 5, none⟩ = some (.slice A5 n4 c5) := by rw [B1.cell (by show w.heap.size < _; omega)]; exact p5
 have m5 := cell_regrown q5
 have D2 : Below w1.heap.size w1 w1.drew := zac (Below.refl _ _) 1
 have hd1 : w1.drew.heap.size = w1.heap.size := rfl
 have BB1 := zaa B0 B1
 have BD2 : Below w.heap.size w w1.drew := zac BB1 1
 go_wp2_with fail
 rw [HLN.out]
 (refine zdc [0, 3] [1, 4] 2 (.one 2 (.one 5 .rest)) [6] [6, 7] (by kernel_rfl) (by kernel_rfl) ?_; simp only [zaj]; simp only [List.filterMap, List.getElem?_cons_succ, List.getElem?_cons_zero]; (repeat (go_big_quiet_step (fail))); refine wpQuiet_nil ?_; (repeat (go_big_quiet_step (fail))); refine wpQuiet_nil ?_)
 refine zai rfl ?_
 go_wp2_with fail
 refine (zi4 _ _ _ ms _ (tM.later h5 BD2) hO.mix).mono ?_
 rintro e w2 ⟨vE, rfl, ownE, bel2⟩
 have B2 := zaa D2 bel2
 have s2 := bel2.size
 go_wp2_with fail
 refine ⟨regrown_of_below B2, ?_⟩
 refine zai rfl ?_
 go_wp2_with fail
 refine (zst _ _ _ ms _ (tM.later h5 (zaa BB1 B2)) hO.mix).mono ?_
 rintro e K ⟨vD, rfl, ownD, bel3⟩
 have B3 := zaa B2 bel3
 have s3 := bel3.size
 go_wp2_with fail
 refine ⟨regrown_of_below B3, ?_⟩
 refine zbg ?_
 have hle : (zb4 ms).length = n4 := by rw [zb4, zi2]; exact Q5.out
 have hld : (zcy ms).length = n4 := by rw [zl6]; exact Q5.out
 obtain ⟨AE, cE, eE, -⟩ := ownE.shape
 rw [hle] at eE
 subst eE
 have HLE := Lib.hid hle
 have RE : RI K K.heap.size AE n4 (zb4 ms) := ownE.ri'.later bel3
 have RD : RSN (fun _ => False) K vD (zcy ms) := RSN.of_os ownD (fun _ h => h.elim)
 obtain ⟨AD, cD, eD⟩ := RD.shape
 rw [hld] at eD
 subst eD
 have HLD := Lib.hid hld
 have BK := zaa BB1 B3
 have sK := BK.size
 have BWK : Below W.heap.size W K := zaa B1 B3
 have lK : w.heap.size < K.heap.size := by have := BWK.size; omega
 have q0 : K.cell? ⟨w.heap.size, 0, none⟩ = some (.int .i64 L) := by rw [BWK.cell (by show w.heap.size < _; omega)]; exact p0
 have q1 : K.cell? ⟨w.heap.size, 1, none⟩ = some (.slice A1 n1 c1) := by rw [BWK.cell (by show w.heap.size < _; omega)]; exact p1
 have q2 : K.cell? ⟨w.heap.size, 2, none⟩ = some (.slice A2 n3 c2) := by rw [BWK.cell (by show w.heap.size < _; omega)]; exact p2
 have q3 : K.cell? ⟨w.heap.size, 3, none⟩ = some (.slice A3 n3 c3) := by rw [BWK.cell (by show w.heap.size < _; omega)]; exact p3
 have q4 : K.cell? ⟨w.heap.size, 4, none⟩ = some (.slice A4 n4 c4) := by rw [BWK.cell (by show w.heap.size < _; omega)]; exact p4
 have q5 : K.cell? ⟨w.heap.size, 5, none⟩ = some (.slice A5 n4 c5) := by rw [BWK.cell (by show w.heap.size < _; omega)]; exact p5
 replace k1 := k1.later BK
 replace k2 := k2.later BK
 replace k3 := k3.later BK
 replace k4 := k4.later BK
 replace k5 := k5.later BK
 obtain ⟨bE, oE, rfl, hbE, hcE⟩ := zbb RE (by omega)
 have HCE := Lib.hid hcE
 clear p0 p1 p2 p3 p4 p5 pf m0 m5 D1 BD hcE B1 s1 B2 s2 bel2 bel3 B3 s3 hle hld ownE ownD BB1 BD2 BWK hd1 D2 h1 h2 h3 h4 h5 HWR bel1 B0 lW
 go_wp2_with (at_make; refine zgw ei_S rfl _ _ rfl n4 _ _ rfl rfl rfl rfl (by omega) (by unfold maxLen; omega) ?_; intro w1 own1 bel1)
 have C1 := CR.made (F := fun x => x = K.heap.size) own1
 have s1 := bel1.size
 have s1' := (World.ownsRow.lt own1 _ rfl).2
 clear own1
 go_wp2_with fail
 go_loopw [39] (fun i wr => ∃ k : Nat, i = .int .i64 k ∧ k ≤ n4 ∧ CR (fun x => x = K.heap.size) 26 K.heap.size wr (.slice (some ⟨K.heap.size, 0, none⟩) n4 n4) (List.replicate k (List.replicate n 0) ++ List.replicate (n4 - k) []) ∧ Below K.heap.size K wr ∧ w1.heap.size ≤ wr.heap.size) (fun i _ => n4 - (intOf i).toNat)
 case atStart => exact ⟨0, rfl, by omega, by simpa using C1, bel1, Nat.le_refl _⟩
 case round =>
  obtain ⟨k, rfl, hk, oc, B, sz⟩ := hrel
  by_cases hlt : k < n4
  · have hk0 : (0 : Int) ≤ (k : Int) := by omega
    have hk1 : (k : Int) < (n4 : Int) := by omega
    go_wp2_with fail
    refine (zcv n _ (by omega) (by omega)).mono ?_
    rintro e w2 ⟨v2, rfl, own2, bel2⟩
    rw [Int.toNat_natCast] at own2
    obtain ⟨A6, c6, e6, h6, -⟩ := zbr own2
    rw [List.length_replicate] at e6 h6
    subst e6
    have s2 := bel2.size
    obtain ⟨A', c', x, hx1, hx2, hx3, hx4, hx5⟩ := (oc.below bel2).at hlt
    have C2 := (oc.below bel2).set rfl k (A' := A6) (c' := c6) (y := List.replicate n 0) (by rw [List.length_replicate]; exact h6) (by
     rw [List.length_replicate]
     exact RN.of_oi own2 (fun j hj => by omega))
    rw [List.length_replicate, ztp _ _ _ _ hlt] at C2
    have HC2 := Lib.hid C2
    clear C2 hx1
    go_wp2_with fail
    go_roundw
    case rel => exact ⟨k + 1, by go_num, by omega, HC2.out, (B.trans (bel2.mono (by omega))).setCell (Nat.le_refl _) _, by simp; omega⟩
    case measure => simp [intOf]; omega
  · obtain rfl : n4 = k := by omega
    rw [Nat.sub_self, List.replicate_zero, List.append_nil] at oc
    obtain ⟨wp, rfl⟩ : ∃ wp : World, wp = wr := ⟨_, rfl⟩
    clear C1
    replace oc : CR (fun x => x = K.heap.size) 26 K.heap.size wp (.slice (some ⟨K.heap.size, 0, none⟩) n4 n4) (zb5 L src ts fs ms 0) := by
     rw [zb5, ← HN.out, Q5.out]; exact oc
    have q2p : wp.cell? ⟨w.heap.size, 2, none⟩ = some (.slice A2 n3 c2) := by rw [B.cell (by show w.heap.size < _; omega)]; exact q2
    have sp := B.size
    go_wp2_with fail
    go_loopw [51] (fun i wr => ∃ t : Nat, i = .int .i64 t ∧ t ≤ n3 ∧ CR (fun x => x = K.heap.size) 26 K.heap.size wr (.slice (some ⟨K.heap.size, 0, none⟩) n4 n4) (zb5 L src ts fs ms t) ∧ Below K.heap.size K wr ∧ wp.heap.size ≤ wr.heap.size) (fun i _ => n3 - (intOf i).toNat)
    case atStart => exact ⟨0, rfl, by omega, oc, B, Nat.le_refl _⟩
    case round =>
     clear oc B q2p
     obtain ⟨t, rfl, ht, oc, B, sz2⟩ := hrel
     have sB := B.size
     by_cases hlt : t < n3
     · obtain ⟨b3, o3, rfl, hb3, hc3⟩ := zbb k3 (by omega)
       have hft : fs[t]? = some (M.i_ fs t) := by
        have : t < fs.length := by rw [Q3.out]; exact hlt
        rw [M.i_, List.getElem?_eq_getElem this]; rfl
       have hfr := hO.fr _ (List.mem_of_getElem? hft)
       rw [Q5.out] at hfr
       obtain ⟨q, hq⟩ : ∃ q : Nat, M.i_ fs t = (q : Int) := ⟨(M.i_ fs t).toNat, by omega⟩
       have hqn : q < n4 := by omega
       rw [hq] at hft
       have cf3 : wr.cell? ⟨b3, o3 + t, none⟩ = some (.int .i64 (q : Int)) := by rw [B.cell (by show b3 < _; omega)]; exact hc3 t _ hft
       obtain ⟨ee, hee⟩ : ∃ ee : Nat, zbm ms q = (ee : Int) := ⟨(zbm ms q).toNat, by have := (zgr hO.mix q).1; omega⟩
       have hee2 : ee ≤ 1024 := by have := (zgr hO.mix q).2; omega
       have hqe : (zb4 ms)[q]? = some (ee : Int) := by
        have : q < (zb4 ms).length := by rw [HLE.out]; exact hqn
        rw [← hee, zbm, M.i_, List.getElem?_eq_getElem this]; rfl
       have HCQ := HCE.out q _ hqe
       obtain ⟨bb, o, A7, n7, c7, x, rfl, hbb, X, ct, -, hra, hn7⟩ := zhi (k2.below B) z2 hlt
       have htr := hO.tr x (List.mem_of_getElem? X.out)
       have hxl : n7 ≤ 100000000 := hn7
       obtain ⟨U, hU, GU, sU, u0, uf⟩ := zfb wr (.slice A7 n7 c7) 42
       have HU := Lib.hid hU
       have BU := B.trans (GU.mono sB)
       have g0 : U.cell? ⟨w.heap.size, 0, none⟩ = some (.int .i64 L) := by rw [BU.cell (by show w.heap.size < _; omega)]; exact q0
       have g1 : U.cell? ⟨w.heap.size, 1, none⟩ = some (.slice A1 n1 c1) := by rw [BU.cell (by show w.heap.size < _; omega)]; exact q1
       have g3 : U.cell? ⟨w.heap.size, 3, none⟩ = some (.slice (some ⟨b3, o3, none⟩) n3 c3) := by rw [BU.cell (by show w.heap.size < _; omega)]; exact q3
       have cf3U : U.cell? ⟨b3, o3 + t, none⟩ = some (.int .i64 (q : Int)) := by rw [GU.cell (by show b3 < _; omega)]; exact cf3
       have lU : wr.heap.size < U.heap.size := by omega
       have y0 := cell_regrown g0
       have y1 := cell_regrown g1
       have yu := cell_regrown u0
       have D1 : Below U.heap.size U U.drew := zac (Below.refl _ _) 1
       have BUD : Below K.heap.size K U.drew := zac BU 1
       have hdU : U.drew.heap.size = U.heap.size := rfl
       have t0 : (0 : Int) ≤ (t : Int) := by omega
       have t1 : (t : Int) < (n3 : Int) := by omega
       have hq0 : (0 : Int) ≤ (q : Int) := by omega
       have hq1 : (q : Int) < (n4 : Int) := by omega
       have HX := X
       have HTRA := Lib.hid (zs4 X.out)
       have HQ := Lib.hid hq
       have HEE := Lib.hid hee
       have HTR := Lib.hid htr
       have q3r : wr.cell? ⟨w.heap.size, 3, none⟩ = some (.slice (some ⟨b3, o3, none⟩) n3 c3) := by rw [B.cell (by show w.heap.size < _; omega)]; exact q3
       have lw1 : w.heap.size < wr.heap.size := by omega
       have lw2 : b3 < wr.heap.size := by omega
       have lw3 : bb < wr.heap.size := by omega
       clear hU hft hq hqe hee htr sU uf hc3
       go_wp2_with fail
       rw [← HU.out]
       (refine zdc [0, 3, 6, 7] [1, 2, 4, 8, 9] 2 (.one 5 (.one 10 .rest)) [11] [11, 12] (by kernel_rfl) (by kernel_rfl) ?_; simp only [zaj]; simp only [List.filterMap, List.getElem?_cons_succ, List.getElem?_cons_zero]; (repeat (go_big_quiet_step (fail))); refine wpQuiet_nil ?_; (repeat (go_big_quiet_step (fail))); refine wpQuiet_nil ?_)
       refine zai rfl ?_
       go_wp2_with fail
       refine (zqi _ _ _ c1 _ c7 L src x _ ((k1.below BUD).more (by omega)) ((hra.below (zac (GU.mono sB) 1)).more (by omega)) hO.so HTR.out.1 HTR.out.2 (by omega)).mono ?_
       rintro e w2 ⟨v2, rfl, own2, bel2⟩
       rw [← HTRA.out] at own2
       generalize hR : zb0 src (zcd ts t) L = ren at *
       have B2 := zaa D1 bel2
       have s2 := bel2.size
       have hrl : ren.length = L := by rw [← hR]; exact zf5 _ _ _
       have HRL := Lib.hid hrl
       have HRR := Lib.hid hR
       have nl : (0 : Int) ≤ (n : Int) - (L : Int) := by omega
       have nl2 : (n : Int) - (L : Int) ≤ 1000000000 := by omega
       clear hrl hR
       go_wp2_with fail
       refine ⟨regrown_of_below B2, ?_⟩
       refine zai rfl ?_
       go_wp2_with fail
       refine (zcv ((n : Int) - (L : Int)) _ nl nl2).mono ?_
       rintro e w3 ⟨v3, rfl, own3, bel3⟩
       rw [show ((n : Int) - (L : Int)).toNat = n - L by omega] at own3
       obtain ⟨A3', c3', e3, r3⟩ := own3.shape
       rw [List.length_replicate] at e3 r3
       subst e3
       have B3 := zaa B2 bel3
       have s3 := bel3.size
       have own2' := own2.below bel3
       have HL8 := Lib.hid (show (ren ++ List.replicate (n - L) (0 : Int)).length = n by rw [List.length_append, List.length_replicate, HRL.out]; omega)
       have hrl2 : ren.length + (n - L) ≤ 1000000 := by rw [HRL.out]; omega
       go_wp2_with fail
       refine ⟨regrown_of_below B3, ?_⟩
       refine zbg ?_
       go_wp2_with (at_builtin; refine zcj zbl rfl _ _ rfl own2' rfl r3 rfl (ints_oneCell _ _) (by unfold maxLen; omega) (by omega) (by omega) ?_; intro v4 w4 own4 gr4 bel4; have op4 : OI 2 U.drew.heap.size w4 v4 (ren ++ List.replicate (n - L) 0) := (by unfold OI; rw [List.map_append, List.length_append, List.length_replicate]; exact own4); obtain ⟨A8, c8, e8, r8⟩ := op4.shape; rw [HL8.out] at e8 r8; subst e8)
       have s4 := bel4.size
       have BW4 : Below wr.heap.size wr w4 := GU.trans ((B3.trans bel4).mono (by omega))
       have BK4 : Below K.heap.size K w4 := B.trans (BW4.mono sB)
       have sW4 := BW4.size
       have hio := zmc hO t (by rw [Q2.out]; omega)
       have oc4 := oc.below BW4
       obtain ⟨A', c', xq, hx1, hx2, hx3, hx4, hx5⟩ := oc4.at (k := q) hqn
       have hxq : zag (zb5 L src ts fs ms t) q = xq := zgs hx1
       have hxl2 : xq.length = n := by rw [← hxq, (hio.cel (by rw [Q5.out]; exact hqn)).1, HN.out]
       rw [hxl2] at hx2 hx3 hx4
       have HXQ := Lib.hid hxq
       have cE4 : w4.cell? ⟨bE, oE + q, none⟩ = some (.int .i64 (ee : Int)) := by rw [BK4.cell (by show bE < _; omega)]; exact HCQ
       have yI := cell_regrown hx4
       have yE := cell_regrown cE4
       have D4 : Below w4.heap.size w4 w4.drew := zac (Below.refl _ _) 1
       have hd4 : w4.drew.heap.size = w4.heap.size := rfl
       have r8' := r8.later D4
       clear hx1 hxq hxl2 HCQ r8 y0 y1 yu D1 BUD hdU
       (refine zdc [0, 1, 2, 3, 4, 6, 7, 8, 9] [5, 10] 3 (.one 11 (.one 12 (.first 13 .rest))) [14] [14] (by kernel_rfl) (by kernel_rfl) ?_; simp only [zaj]; simp only [List.filterMap, List.getElem?_cons_succ, List.getElem?_cons_zero]; (repeat (go_big_quiet_step (fail))); refine wpQuiet_nil ?_; (repeat (go_big_quiet_step (fail))); refine wpQuiet_nil ?_)
       refine zai rfl ?_
       go_wp2_with fail
       refine (zi6 A8 n c8 _ ee _ r8' (by omega) (by omega)).mono ?_
       rintro e w5 ⟨v5, rfl, own5, bel5⟩
       rw [zs0] at own5
       obtain ⟨A9, c9, e9, r9⟩ := own5.shape
       rw [zd1] at e9 r9
       subst e9
       have B5 := zaa D4 bel5
       have s5 := bel5.size
       go_wp2_with fail
       refine ⟨regrown_of_below B5, ?_⟩
       refine zai rfl ?_
       go_wp2_with fail
       refine (zhs A' A9 n c' n c9 xq _ 1 _ (hx3.below B5).1 r9 (by omega) (by omega)).mono ?_
       rintro e w6 ⟨v6, rfl, own6, bel6⟩
       have hal : (zbt xq (zbu ren (ee : Int) n) 1).length = n := by rw [zdu, hx3.1.len, zd1, Nat.max_self]
       obtain ⟨A6, c6, e6, h6, -⟩ := zbr own6
       rw [hal] at e6 h6
       subst e6
       have HAL := Lib.hid hal
       have B6 := zaa B5 bel6
       have s6 := bel6.size
       clear hal
       go_wp2_with fail
       refine ⟨regrown_of_below B6, ?_⟩
       (refine zbf rfl ?_; (repeat (go_big_quiet_step (fail))); refine wpQuiet_nil ?_)
       refine zbg ?_
       obtain ⟨A'', c'', xq2, hv1, hv2, hv3, hv4, hv5⟩ := (oc4.below B6).at (k := q) hqn
       have C6 := (oc4.below B6).set rfl q (A' := A6) (c' := c6) (y := zbt xq (zbu ren (ee : Int) n) 1) (by rw [HAL.out]; exact h6) (by
        rw [HAL.out]
        exact RN.of_oi own6 (fun j hj => by omega))
       rw [HAL.out] at C6
       have HC6 := Lib.hid C6
       clear C6 hv1
       go_wp2_with fail
       refine ⟨⟨t + 1, by go_num, by omega, ?_, (BK4.trans (B6.mono (by omega))).setCell (Nat.le_refl _) _, by simp; omega⟩, by simp [intOf]; omega⟩
       rw [zb5, zeb, HQ.out, Int.toNat_natCast, HXQ.out, HEE.out, HRR.out, ← HN.out]
       exact HC6.out
     · obtain rfl : n3 = t := by omega
       have oc0 : CR (fun x => x = K.heap.size) 26 K.heap.size wr (.slice (some ⟨K.heap.size, 0, none⟩) n4 n4) (za6 L src ts fs ps ms 0).1 := by
        rw [za6, Q2.out]; exact oc
       obtain ⟨V, rfl⟩ : ∃ V : World, V = wr := ⟨_, rfl⟩
       have q5V : V.cell? ⟨w.heap.size, 5, none⟩ = some (.slice A5 n4 c5) := by rw [B.cell (by show w.heap.size < _; omega)]; exact q5
       obtain ⟨X, hX⟩ : ∃ X, X = V.alloc (.cells #[] 26) := ⟨_, rfl⟩
       have BX : Below V.heap.size V X := by rw [hX]; exact (Below.refl _ _).alloc (Nat.le_refl _) _
       have sX : X.heap.size = V.heap.size + 1 := by rw [hX]; simp
       have O0 : OS tS 26 X (fun b => b = V.heap.size) (.slice (some ⟨V.heap.size, 0, none⟩) 0 0) [] := by
        rw [hX]
        exact ⟨[], fun _ _ => False, zf1 (World.ownsRow_made _ _ _ (Nat.le_refl _) (by simp [maxLen]) rfl) (Nat.zero_le _), rfl, fun g hg => by simp only [Value.ownBlock, Option.some.injEq] at hg; exact hg.symm, fun _ _ h => h.elim, fun _ _ _ _ h => h.elim, fun k h => by simp at h⟩
       obtain ⟨Y, hY⟩ : ∃ Y, Y = X.alloc (.cells #[] 2) := ⟨_, rfl⟩
       have BY : Below X.heap.size X Y := by rw [hY]; exact (Below.refl _ _).alloc (Nat.le_refl _) _
       have sY : Y.heap.size = V.heap.size + 2 := by rw [hY]; simp; omega
       have R0 : OI 2 X.heap.size Y (.slice (some ⟨X.heap.size, 0, none⟩) 0 0) [] := by rw [hY]; exact OI.made _ _
       rw [sX] at R0
       have O1 := O0.keep (w' := Y) (fun b hb => BY.block b (by omega))
       have oc1 := (oc0.more (F' := fun k => k = K.heap.size ∨ V.heap.size ≤ k) (fun k hk => hk)).below (BX.trans (BY.mono (by omega)))
       have BYK : Below K.heap.size K Y := (B.trans (BX.mono sB)).trans (BY.mono (by omega))
       have q5Y : Y.cell? ⟨w.heap.size, 5, none⟩ = some (.slice A5 n4 c5) := by rw [BYK.cell (by show w.heap.size < _; omega)]; exact q5
       rw [hX] at hY
       have HY := Lib.hid hY
       have lwV : w.heap.size < V.heap.size := by omega
       clear hY hX oc oc0 O0 BX BY
       go_wp2_with fail
       rw [← HY.out]
       go_loopw [13, 14, 94] (fun vO vR i wr => ∃ k : Nat, i = .int .i64 k ∧ k ≤ n4 ∧ ∃ G : Nat → Prop, OS tS 26 wr G vO (za6 L src ts fs ps ms k).2 ∧ OI 2 V.heap.size wr vR ((zdj ms).take k) ∧ (∀ x, G x → V.heap.size ≤ x ∧ x < wr.heap.size ∧ vR.ownBlock ≠ some x) ∧
        CR (fun x => x = K.heap.size ∨ G x ∨ vR.ownBlock = some x) 26 K.heap.size wr (.slice (some ⟨K.heap.size, 0, none⟩) n4 n4) (za6 L src ts fs ps ms k).1 ∧ Below K.heap.size K wr ∧ V.heap.size + 2 ≤ wr.heap.size) (fun _ _ i _ => n4 - (intOf i).toNat)
       case atStart =>
        refine ⟨0, rfl, by omega, fun b => b = V.heap.size, O1, R0.base (by omega), fun x hx => ⟨by omega, by omega, by simp only [Value.ownBlock, ne_eq, Option.some.injEq]; omega⟩, ?_, BYK, by omega⟩
        refine oc1.sub (fun x hx => ?_)
        rcases hx with h | h | h
        · exact .inl h
        · exact .inr (by omega)
        · simp only [Value.ownBlock, Option.some.injEq] at h
          exact .inr (by omega)
       case round =>
        clear O1 R0 oc1 BYK q5Y
        obtain ⟨k, rfl, hk, G, oO, oR, hG, oc, B3K, sz3⟩ := hrel
        obtain ⟨vR, rfl⟩ : ∃ v_ : Value, v_ = u14 := ⟨_, rfl⟩
        obtain ⟨vO, rfl⟩ : ∃ v_ : Value, v_ = u13 := ⟨_, rfl⟩
        by_cases hlt : k < n4
        · obtain ⟨b5, o5, s_, l, A9, n9, c9, us, rfl, hb5, XS, e0, e1, e2, hsz_, hra, hn9⟩ := zk8 (k5.below B3K) z5 hlt
          obtain ⟨b4, o4, a0, Ap1, np1, cp1, Ap2, np2, cp2, Ap3, np3, cp3, x1, x2, x3, rfl, hb4, XP, f0, f1, f2, f3, hp1, hp2, hp3, hpz⟩ := zhj (k4.below B3K) z4 hlt
          have hst := Lib.hid (zmb XS.out)
          have hpa := Lib.hid (zi7 XP.out)
          obtain ⟨io1, io2⟩ := zhw hO k (by rw [Q5.out]; omega)
          obtain ⟨ic1, ic2⟩ := io1.cel (k := k) (by rw [Q5.out]; exact hlt)
          rw [← HN.out] at ic1
          obtain ⟨Ai, ci, xi, hx1, hx2, hx3, hx4, hx5⟩ := oc.at hlt
          have hxi : zag (za6 L src ts fs ps ms k).1 k = xi := zgs hx1
          rw [hxi] at ic1 ic2
          rw [ic1] at hx2 hx3 hx4
          have HXI := Lib.hid hxi
          have HI2 := Lib.hid ic2
          have heff : zaw (a0, x1, x2, x3) = true := hO.ef _ (List.mem_of_getElem? XP.out)
          have HEF := Lib.hid heff
          have sB3 := B3K.size
          obtain ⟨U, hU, GU, sU, u0, u1, u2, uf⟩ := zk7 wr (.string s_) (.int .i64 l) (.slice A9 n9 c9) 100
          have HU := Lib.hid hU
          have q4r : wr.cell? ⟨w.heap.size, 4, none⟩ = some (.slice (some ⟨b4, o4, none⟩) n4 c4) := by rw [B3K.cell (by show w.heap.size < _; omega)]; exact q4
          have lw1 : w.heap.size < wr.heap.size := by omega
          have lw2 : b5 < wr.heap.size := by omega
          have lw3 : b4 < wr.heap.size := by omega
          have lw4 : K.heap.size < wr.heap.size := by omega
          have kk0 : (0 : Int) ≤ (k : Int) := by omega
          have kk1 : (k : Int) < (n4 : Int) := by omega
          have GUK : Below K.heap.size wr U := GU.mono sB3
          have hp1U := tSS.more (show K.heap.size ≤ U.heap.size by omega) (tSS.below hp1 GUK)
          have hp2U := tNS.more (show K.heap.size ≤ U.heap.size by omega) (tNS.below hp2 GUK)
          have hp3U := tS.more (show K.heap.size ≤ U.heap.size by omega) (tS.below hp3 GUK)
          clear hU hxi hx1 ic1 ic2 heff
          go_wp2_with fail
          rw [← HU.out]
          obtain ⟨bz, hbz⟩ : ∃ bz : Bool, bz = decide (((a0, x1, x2, x3) : zaf) = M.p0) := ⟨_, rfl⟩
          refine (zfa a0 _ _ cp1 _ _ cp2 _ _ cp3 x1 x2 x3 _ hp1U hp2U hp3U hpz).mono ?_
          rw [← hbz]
          rintro e w1' ⟨rfl, bel1⟩
          have HBZ := Lib.hid hbz
          clear hbz
          have BUw := GU.trans (bel1.mono (by omega))
          have s1' := bel1.size
          go_upto_if 109 with fail
          go_cut [17] from 110 to 122 (fun q17 wx => ∃ (A10 : Option Addr) (c10 : Nat), q17 = .slice A10 n c10 ∧ RI wx wx.heap.size A10 n (M.fx (a0, x1, x2, x3) xi n) ∧ Below w1'.heap.size w1' wx)
          case first =>
           cases bz
           case true =>
            have E := Lib.hid (show M.fx (a0, x1, x2, x3) xi n = xi by rw [M.fx, if_pos (of_decide_eq_true HBZ.out.symm)])
            go_wp2_with fail
            go_meet
            rw [E.out]
            exact ⟨Ai, ci, rfl, (hx3.below BUw).1, Below.refl _ _⟩
           case false =>
            have hp : ((a0, x1, x2, x3) : zaf) ≠ M.p0 := of_decide_eq_false HBZ.out.symm
            obtain ⟨h1, h2, h3⟩ := zi8 HEF.out hp
            simp only at h2
            subst h2
            obtain ⟨o_, rfl⟩ := len1 (show x3.length = 1 from h3)
            have hPF := zi0 h1 rfl
            have ho := zr7 h1 o_ (by simp)
            have E := Lib.hid (show M.fx (1, x1, x2, [o_]) xi n = zbz x2 x1 (za8 x2) xi o_ n by rw [M.fx, if_neg hp]; rfl)
            have hnp2 := (sl_R.1 hp2U).cap.1
            have hnp3 := zdf hp3U
            simp only [List.length_singleton] at hnp3
            subst hnp3
            simp only at ho
            rw [hnp2] at ho
            have hnz2 : hNS.sz x2 ≤ 100000000 := by rw [zef] at hpz; omega
            clear hp h1 h3 hnp2
            have q4w : w1'.cell? ⟨w.heap.size, 4, none⟩ = some (.slice (some ⟨b4, o4, none⟩) n4 c4) := by rw [BUw.cell (by show w.heap.size < _; omega)]; exact q4r
            have f0w : w1'.cell? ⟨b4, o4 + k * 4, none⟩ = some (.int .i64 1) := by rw [BUw.cell (by show b4 < _; omega)]; exact f0
            have f1w : w1'.cell? ⟨b4, o4 + k * 4 + 1, none⟩ = some (.slice Ap1 np1 cp1) := by rw [BUw.cell (by show b4 < _; omega)]; exact f1
            have f2w : w1'.cell? ⟨b4, o4 + k * 4 + 2, none⟩ = some (.slice Ap2 np2 cp2) := by rw [BUw.cell (by show b4 < _; omega)]; exact f2
            have f3w : w1'.cell? ⟨b4, o4 + k * 4 + 3, none⟩ = some (.slice Ap3 1 cp3) := by rw [BUw.cell (by show b4 < _; omega)]; exact f3
            have y4 := cell_regrown q4w
            have yf0 := cell_regrown f0w
            have yf1 := cell_regrown f1w
            have yf2 := cell_regrown f2w
            have yf3 := cell_regrown f3w
            have D1 : Below w1'.heap.size w1' w1'.drew := zac (Below.refl _ _) 1
            have hd1 : w1'.drew.heap.size = w1'.heap.size := rfl
            have hxw := hx3.below BUw
            go_wp2_with fail
            (refine zdc [1, 3, 6, 8] [2, 4, 5] 3 (.two 0 (.one 7 (.one 9 .rest)) 7 (.one 0 (.one 9 .rest))) [10] [10, 11, 12, 13] (by kernel_rfl) (by kernel_rfl) ?_; simp only [zaj]; simp only [List.filterMap, List.getElem?_cons_succ, List.getElem?_cons_zero]; (repeat (go_big_quiet_step (fail))); refine wpQuiet_nil ?_; (repeat (go_big_quiet_step (fail))); refine wpQuiet_nil ?_)
            refine zot rfl rfl ?_ ?_
            · go_wp2_with fail
              refine (zcv 0 _ (by omega) (by omega)).mono ?_
              rintro e w2 ⟨v2, rfl, own2, bel2⟩
              replace own2 : OI 2 w1'.drew.heap.size w2 v2 [] := own2
              have B2 := zaa D1 bel2
              have s2 := bel2.size
              go_wp2_with fail
              refine ⟨regrown_of_below B2, ?_⟩
              refine zai rfl ?_
              obtain ⟨X, hX, BX, sX, x0, xf⟩ := zfb w2 (.slice Ai n ci) 26
              have HX := Lib.hid hX
              have B3 := zaa B2 BX
              have BUX := BUw.trans (B3.mono (by omega))
              clear hX
              go_wp2_with fail
              rw [← HX.out]
              refine ⟨regrown_of_below B3, ?_⟩
              refine zai rfl ?_
              go_wp2_with fail
              refine (zl1 _ _ cp1 _ _ cp2 _ cp3 x2 x1 o_ w2.heap.size 0 1 Ai n ci xi n X ((sl_R.1 (tSS.later hp1U (zaa bel1 B3)))) ((sl_R.1 (tNS.later hp2U (zaa bel1 B3)))) ((tS_R.1 (tS.later hp3U (zaa bel1 B3))).ri) hPF ho hnz2 x0 (hxw.below B3).1 HI2.out (by omega) (by omega)).mono ?_
              rintro e w4 ⟨g4, c4', A4', c4'', rfl, cg4, rg4, bel4⟩
              have B4 := zaa B3 bel4
              have s4 := bel4.size
              have own4 := own2.below (zaa BX bel4)
              go_wp2_with fail
              refine ⟨regrown_of_below B4, ?_⟩
              refine zbg ?_
              go_wp2_with (at_builtin; refine zcj zbl rfl _ _ rfl own4 rfl rg4 rfl (ints_oneCell _ _) (by unfold maxLen; simp; omega) (by simp; omega) (by omega) ?_; intro v5 w5 own5 gr5 bel5)
              go_meet
              have op5 : OI 2 w1'.drew.heap.size w5 v5 (zbz x2 x1 (za8 x2) xi o_ n) := by
               unfold OI
               rw [zdx]
               simpa using own5
              obtain ⟨A10, c10, e10, r10⟩ := op5.shape
              rw [zdx] at e10 r10
              exact ⟨A10, c10, e10, by rw [E.out]; exact r10, B4.trans bel5⟩
            · obtain ⟨X, hX, BX, sX, x0, xf⟩ := zfb w1' (.slice Ai n ci) 26
              have BXd : Below w1'.heap.size w1' X.drew := zac BX 1
              replace x0 : X.drew.cell? ⟨w1'.heap.size, 0, none⟩ = some (.slice Ai n ci) := x0
              have sXd : X.drew.heap.size = w1'.heap.size + 1 := sX
              obtain ⟨X2, hX2⟩ : ∃ X2, X2 = X.drew := ⟨_, rfl⟩
              rw [← hX2] at x0 BXd sXd
              rw [hX] at hX2
              have HX := Lib.hid hX2
              clear hX2 hX BX sX xf
              go_wp2_with fail
              rw [← HX.out]
              refine ⟨regrown_of_below BXd, ?_⟩
              refine zai rfl ?_
              go_wp2_with fail
              refine (zcv 0 _ (by omega) (by omega)).mono ?_
              rintro e w2 ⟨v2, rfl, own2, bel2⟩
              replace own2 : OI 2 X2.heap.size w2 v2 [] := own2
              have B3 := zaa BXd bel2
              have s2 := bel2.size
              have x02 : w2.cell? ⟨w1'.heap.size, 0, none⟩ = some (.slice Ai n ci) := by rw [bel2.cell (by show w1'.heap.size < _; omega)]; exact x0
              go_wp2_with fail
              refine ⟨regrown_of_below B3, ?_⟩
              refine zai rfl ?_
              go_wp2_with fail
              refine (zl1 _ _ cp1 _ _ cp2 _ cp3 x2 x1 o_ w1'.heap.size 0 1 Ai n ci xi n w2 ((sl_R.1 (tSS.later hp1U (zaa bel1 B3)))) ((sl_R.1 (tNS.later hp2U (zaa bel1 B3)))) ((tS_R.1 (tS.later hp3U (zaa bel1 B3))).ri) hPF ho hnz2 x02 (hxw.below B3).1 HI2.out (by omega) (by omega)).mono ?_
              rintro e w4 ⟨g4, c4', A4', c4'', rfl, cg4, rg4, bel4⟩
              have B4 := zaa B3 bel4
              have s4 := bel4.size
              have own4 := own2.below bel4
              go_wp2_with fail
              refine ⟨regrown_of_below B4, ?_⟩
              refine zbg ?_
              go_wp2_with (at_builtin; refine zcj zbl rfl _ _ rfl own4 rfl rg4 rfl (ints_oneCell _ _) (by unfold maxLen; simp; omega) (by simp; omega) (by omega) ?_; intro v5 w5 own5 gr5 bel5)
              go_meet
              have op5 : OI 2 X2.heap.size w5 v5 (zbz x2 x1 (za8 x2) xi o_ n) := by
               unfold OI
               rw [zdx]
               simpa using own5
              obtain ⟨A10, c10, e10, r10⟩ := op5.shape
              rw [zdx] at e10 r10
              exact ⟨A10, c10, e10, by rw [E.out]; exact r10, B4.trans (bel5.mono (by omega))⟩
          case rest =>
           obtain ⟨wx, rfl⟩ : ∃ u_ : World, u_ = wc := ⟨_, rfl⟩
           obtain ⟨A10, c10, rfl, r10, Bx⟩ := hcut
           obtain ⟨Wq, rfl⟩ : ∃ Wq : World, Wq = wr := ⟨_, rfl⟩
           have sBx := Bx.size
           have BUx : Below Wq.heap.size Wq wx := BUw.trans (Bx.mono (by omega))
           have u1x : wx.cell? ⟨Wq.heap.size, 1, none⟩ = some (.int .i64 l) := by rw [Bx.cell (by show Wq.heap.size < _; omega), bel1.cell (by show Wq.heap.size < _; omega)]; exact u1
           have u2x : wx.cell? ⟨Wq.heap.size, 2, none⟩ = some (.slice A9 n9 c9) := by rw [Bx.cell (by show Wq.heap.size < _; omega), bel1.cell (by show Wq.heap.size < _; omega)]; exact u2
           obtain ⟨so1, so2, so3⟩ := zhv hO.mix (i := k) (by rw [Q5.out]; exact hlt)
           rw [hst.out] at so1 so2 so3
           simp only at so1 so2 so3
           obtain ⟨ln, rfl⟩ : ∃ ln : Nat, l = (ln : Int) := ⟨l.toNat, by omega⟩
           have husl : us.length = n9 := hra.len
           have HUSL := Lib.hid husl
           have HSO := Lib.hid so3
           have hn9b : n9 ≤ 4 := by omega
           have HOUT := Lib.hid (show zen L ps ms k (za6 L src ts fs ps ms k).1 = zbu (M.fx (a0, x1, x2, x3) xi n) (ln : Int) n by rw [zen, hpa.out, hst.out, HXI.out, ← HN.out])
           clear so3 husl u0 u1 u2 uf hp1U hp2U hp3U hp1 hp2 hp3 f0 f1 f2 f3 e0 e1 e2
           go_wp2_with fail
           refine (zi6 A10 n c10 _ ln wx r10 (by omega) (by omega)).mono ?_
           rintro e Z ⟨v2, rfl, own2, bel2⟩
           rw [← HOUT.out] at own2
           generalize hOU : zen L ps ms k (za6 L src ts fs ps ms k).1 = OUT at *
           have hol : OUT.length = n := by rw [HOUT.out, zd1]
           have HOL := Lib.hid hol
           have HOU := Lib.hid hOU
           obtain ⟨A11, c11, e11, hle11, -⟩ := zbr own2
           rw [hol] at e11 hle11
           subst e11
           have os2 := tS_O.2 (OI.os own2)
           have sZ := bel2.size
           have BZq : Below Wq.heap.size Wq Z := BUx.trans (bel2.mono BUx.size)
           have BZK : Below K.heap.size K Z := B3K.trans (BZq.mono sB3)
           have sqx := BUx.size
           have ocZ : CR (fun x => x = K.heap.size ∨ G x ∨ vR.ownBlock = some x ∨ Iv wx.heap.size Z.heap.size x) 26 K.heap.size Z (.slice (some ⟨K.heap.size, 0, none⟩) n4 n4) (zcu L ms k OUT (za6 L src ts fs ps ms k).1 0) := ((oc.below BUx).more (F' := fun x => x = K.heap.size ∨ G x ∨ vR.ownBlock = some x ∨ Iv wx.heap.size Z.heap.size x) (fun x hx => by
            rcases hx with h | h | h | h
            · exact .inl (.inl h)
            · exact .inl (.inr (.inl h))
            · exact .inl (.inr (.inr h))
            · exact .inr h.1)).below bel2
           have u2Z : Z.cell? ⟨Wq.heap.size, 2, none⟩ = some (.slice A9 n9 c9) := by rw [bel2.cell (by show Wq.heap.size < _; omega)]; exact u2x
           have u1Z : Z.cell? ⟨Wq.heap.size, 1, none⟩ = some (.int .i64 (ln : Int)) := by rw [bel2.cell (by show Wq.heap.size < _; omega)]; exact u1x
           have hvR : ∀ x, vR.ownBlock = some x → V.heap.size ≤ x ∧ x < Wq.heap.size := fun x hx => World.ownsRow.lt oR x hx
           clear hol hOU oc
           go_wp2_with fail
           go_loopw [130] (fun i wr => ∃ j : Nat, i = .int .i64 j ∧ j ≤ n9 ∧ CR (fun x => x = K.heap.size ∨ G x ∨ vR.ownBlock = some x ∨ Iv wx.heap.size Z.heap.size x) 26 K.heap.size wr (.slice (some ⟨K.heap.size, 0, none⟩) n4 n4) (zcu L ms k OUT (za6 L src ts fs ps ms k).1 j) ∧ Chg (fun x => x = K.heap.size) Z wr) (fun i _ => n9 - (intOf i).toNat)
           case atStart => exact ⟨0, rfl, by omega, ocZ, Chg.refl _ _⟩
           case round =>
            clear ocZ
            obtain ⟨j, rfl, hj, oc, ch⟩ := hrel
            have sch := ch.size
            have BKr : Below K.heap.size K wr := BZK.trans (ch.toBelow (fun x hx => by omega) (by omega))
            by_cases hlt2 : j < n9
            · obtain ⟨b2, o2, ⟨p0_, p1_⟩, rfl, hab2, X2, hdd⟩ := (hra.below ((BZq.mono sB3).trans (ch.toBelow (fun x hx => by omega) (by omega)))).at zfj (by decide) hlt2
              have d0 : wr.cell? ⟨b2, o2 + j * 2, none⟩ = some (.int .i64 p0_) := hdd 0 _ rfl
              have d1 : wr.cell? ⟨b2, o2 + j * 2 + 1, none⟩ = some (.int .i64 p1_) := hdd 1 _ rfl
              have hso := HSO.out j p0_ p1_ X2.out
              rw [Q5.out] at hso
              have hdl := ztn hO.mix (i := k) (j := j) (by rw [Q5.out]; exact hlt) (p0 := p0_) (p1 := p1_) (by rw [hst.out]; exact X2.out)
              have HSD := Lib.hid (show ((zbh ms k).2.2[j]?).getD (0, 0) = (p0_, p1_) by rw [hst.out, X2.out]; rfl)
              obtain ⟨q, rfl⟩ : ∃ q : Nat, p0_ = (q : Int) := ⟨p0_.toNat, by omega⟩
              have hqn : q < n4 := by omega
              obtain ⟨dd, hdd2⟩ : ∃ dd : Nat, zbm ms (q : Int).toNat - zbm ms k - (zbh ms k).2.1 = (dd : Int) := ⟨(zbm ms (q : Int).toNat - zbm ms k - (zbh ms k).2.1).toNat, by omega⟩
              rw [hdd2] at hdl
              have hddb : dd ≤ 1024 := by omega
              obtain ⟨bD, oD, cD', AD', cDD, xD, eD', hbD, -, hD1, hD2, hD3, hD4⟩ := RD.at (k := k) (by rw [HLD.out]; exact hlt)
              simp only [Value.slice.injEq] at eD'
              obtain ⟨rfl, -, -⟩ := eD'
              have hxD : zag (zcy ms) k = xD := zgs hD1
              rw [hxD] at hdl
              have hjD : j < xD.length := (List.getElem?_eq_some_iff.1 hdl.1).1
              obtain ⟨bd, od, yD, rfl, hbd, -, hyD, hcD⟩ := hD3.at hjD
              obtain rfl : yD = (dd : Int) := Option.some.inj (hyD.symm.trans hdl.1)
              obtain ⟨lD, hlD⟩ : ∃ lD, lD = xD.length := ⟨_, rfl⟩
              rw [← hlD] at hD4 hjD
              have HDL := Lib.hid (show M.i_ (zag (zcy ms) k) j = (dd : Int) by rw [hxD, M.i_, hdl.1]; rfl)
              obtain ⟨U2, hU2, GU2, sU2, t0, t1, tf⟩ := ztq wr (.int .i64 (q : Int)) (.int .i64 p1_) 68
              have HU2 := Lib.hid hU2
              have BKU : Below K.heap.size K U2 := BKr.trans (GU2.mono BKr.size)
              have hio := zmd hO.mix (i := k) (by rw [Q5.out]; exact hlt) (out := OUT) io1 j (by rw [hst.out]; show j ≤ us.length; rw [HUSL.out]; omega)
              have ocU := oc.below GU2
              obtain ⟨A', c', xq, hx1, hx2, hx3, hx4, hx5⟩ := ocU.at (k := q) hqn
              have hxq : zag (zcu L ms k OUT (za6 L src ts fs ps ms k).1 j) q = xq := zgs hx1
              have hxl2 : xq.length = n := by rw [← hxq, (hio.cel (by rw [Q5.out]; exact hqn)).1, HN.out]
              rw [hxl2] at hx2 hx3 hx4
              have HXQ := Lib.hid hxq
              have cD1 : U2.cell? ⟨bD, oD + k, none⟩ = some (.slice (some ⟨bd, od, none⟩) lD cDD) := by rw [BKU.cell (by show bD < _; omega)]; exact hD4
              have cD2 : U2.cell? ⟨bd, od + j, none⟩ = some (.int .i64 (dd : Int)) := by rw [BKU.cell (by show bd < _; omega)]; exact hcD
              have y1 := cell_regrown t0
              have y2 := cell_regrown t1
              have yI := cell_regrown hx4
              have yD1 := cell_regrown cD1
              have yD2 := cell_regrown cD2
              have D4 : Below U2.heap.size U2 U2.drew := zac (Below.refl _ _) 1
              have hd4 : U2.drew.heap.size = U2.heap.size := rfl
              have ownd : OI 2 wx.heap.size U2 (.slice A11 n c11) OUT := (own2.chg ch (fun x hx => by have := (World.ownsRow.lt own2 x hx).1; omega)).below GU2
              have r11 := (ownd.below D4).ri'
              have k0 : (0 : Int) ≤ (j : Int) := by omega
              have k1_ : (j : Int) < (n9 : Int) := by omega
              have k2_ : (j : Int) < (lD : Int) := by omega
              have k3_ : (0 : Int) ≤ (q : Int) := by omega
              have k4_ : (q : Int) < (n4 : Int) := by omega
              have lwb : b2 < wr.heap.size := by have := BKr.size; omega
              have lwu : wr.heap.size < U2.heap.size := by omega
              clear hU2 hx1 hxq hxl2 hD1 hxD hyD hdl hdd2 hlD sU2 tf hdd ownd
              go_wp2_with fail
              rw [← HU2.out]
              (refine zdc [0, 1, 3, 4, 8, 10, 11, 12, 13, 15] [2, 5, 6, 7, 9, 14, 16, 17] 3 (.one 18 (.one 19 (.first 20 .rest))) [21] [21] (by kernel_rfl) (by kernel_rfl) ?_; simp only [zaj]; simp only [List.filterMap, List.getElem?_cons_succ, List.getElem?_cons_zero]; (repeat (go_big_quiet_step (fail))); refine wpQuiet_nil ?_; (repeat (go_big_quiet_step (fail))); refine wpQuiet_nil ?_)
              refine zai rfl ?_
              go_wp2_with fail
              refine (zi6 A11 n c11 OUT dd _ r11 (by omega) (by omega)).mono ?_
              rintro e w5 ⟨v5, rfl, own5, bel5⟩
              obtain ⟨A12, c12, e12, r12⟩ := own5.shape
              rw [zd1] at e12 r12
              subst e12
              have B5 := zaa D4 bel5
              have s5 := bel5.size
              go_wp2_with fail
              refine ⟨regrown_of_below B5, ?_⟩
              refine zai rfl ?_
              go_wp2_with fail
              refine (zhs A' A12 n c' n c12 xq _ p1_ _ (hx3.below B5).1 r12 (by omega) (by omega)).mono ?_
              rintro e w6 ⟨v6, rfl, own6, bel6⟩
              have hal : (zbt xq (zbu OUT (dd : Int) n) p1_).length = n := by rw [zdu, hx3.1.len, zd1, Nat.max_self]
              obtain ⟨A6, c6, e6, h6, -⟩ := zbr own6
              rw [hal] at e6 h6
              subst e6
              have HAL := Lib.hid hal
              have B6 := zaa B5 bel6
              have s6 := bel6.size
              clear hal
              go_wp2_with fail
              refine ⟨regrown_of_below B6, ?_⟩
              (refine zbf rfl ?_; (repeat (go_big_quiet_step (fail))); refine wpQuiet_nil ?_)
              refine zbg ?_
              obtain ⟨A'', c'', xq2, hv1, hv2, hv3, hv4, hv5⟩ := (ocU.below B6).at (k := q) hqn
              have C6 := (ocU.below B6).set (.inl rfl) q (A' := A6) (c' := c6) (y := zbt xq (zbu OUT (dd : Int) n) p1_) (by rw [HAL.out]; exact h6) (by
               rw [HAL.out]
               refine RN.of_oi own6 (fun x hx => ?_)
               rcases hx with h | h | h | h
               · omega
               · have := (hG x h).2.1; omega
               · have := (hvR x h).2; omega
               · have := h.2; omega)
              rw [HAL.out] at C6
              have HC6 := Lib.hid C6
              clear C6 hv1
              go_wp2_with fail
              refine ⟨⟨j + 1, by go_num, by omega, ?_, ((ch.trans (zdy GU2)).trans (zdy B6)).trans (Chg.set w6 _ q _ rfl)⟩, by simp [intOf]; omega⟩
              rw [zcu, zeb, HSD.out, HDL.out]
              simp only [Int.toNat_natCast]
              rw [HXQ.out, ← HN.out]
              exact HC6.out
            · obtain rfl : n9 = j := by omega
              have hstp : za6 L src ts fs ps ms (k + 1) = (zcu L ms k OUT (za6 L src ts fs ps ms k).1 n9, (za6 L src ts fs ps ms k).2 ++ [OUT]) := by
               rw [za6, HOU.out, hst.out]
               show (zcu L ms k OUT _ us.length, _) = _
               rw [HUSL.out]
              have HSTP := Lib.hid hstp
              have chq : Chg (fun x => x = K.heap.size) Wq wr := (zdy BZq).trans ch
              have swr := chq.size
              have oO' := oO.chg chq (fun b hb (e : b = _) => by have := (hG b hb).1; omega)
              have os2' := Ty.ochg tS os2 ch (fun b hb (e : b = _) => by have := hb.1; omega)
              have oR' := oR.chg chq (fun x hx (e : x = _) => by have := (hvR x hx).1; omega)
              have hll : ((za6 L src ts fs ps ms k).2).length = k := io2.len
              have hll' : ((za6 L src ts fs ps ms k).2).length ≤ 1000000 := by omega
              have hee0 := zgr hO.mix k
              obtain ⟨ee, hee⟩ : ∃ ee : Nat, zbm ms k = (ee : Int) := ⟨(zbm ms k).toNat, by omega⟩
              have hee2 : ee ≤ 1024 := by omega
              have hqe : (zb4 ms)[k]? = some (ee : Int) := by
               have : k < (zb4 ms).length := by rw [HLE.out]; exact hlt
               rw [← hee, zbm, M.i_, List.getElem?_eq_getElem this]; rfl
              have HCQ := HCE.out k _ hqe
              have u1r : wr.cell? ⟨Wq.heap.size, 1, none⟩ = some (.int .i64 (ln : Int)) := by rw [ch.cell (by omega) (by omega)]; exact u1Z
              have hrk : (zdj ms)[k]? = some ((ee : Int) + (ln : Int)) := by
               have : k < ms.length := by rw [Q5.out]; exact hlt
               rw [zdj, List.getElem?_map, List.getElem?_range this]
               simp only [Option.map_some]
               rw [hee, hst.out]
              have HRK := Lib.hid (M.take_at hrk)
              have hrl : ((zdj ms).take k).length ≤ 1000000 := by rw [List.length_take]; omega
              clear hstp hll hee0 hee hqe hrk
              go_wp2_with (at_builtin; refine zaz ei_S #[.slice A11 n c11] rfl _ _ rfl oO' os2' (fun b hb hb2 => by have := (hG b hb).2.1; have := hb2.1; omega) rfl rfl (by unfold maxLen; omega) (by omega) ?_; intro v3 w4 own4 ch4)
              have s4 := ch4.size
              have BK4 : Below K.heap.size K w4 := BKr.trans (ch4.toBelow (fun b hb => by have := (hG b hb).1; omega) (by omega))
              have cE4 : w4.cell? ⟨bE, oE + k, none⟩ = some (.int .i64 (ee : Int)) := by rw [BK4.cell (by show bE < _; omega)]; exact HCQ
              have u14 : w4.cell? ⟨Wq.heap.size, 1, none⟩ = some (.int .i64 (ln : Int)) := by rw [ch4.cell (by omega) (fun h => by have := (hG _ h).2.1; omega)]; exact u1r
              have oR4 := oR'.chg ch4 (fun x hx h => (hG x h).2.2 hx)
              have yE := cell_regrown cE4
              have yl := cell_regrown u14
              have D4 : Below w4.heap.size w4 w4.drew := zac (Below.refl _ _) 1
              have hd4 : w4.drew.heap.size = w4.heap.size := rfl
              have oRd := oR4.below D4
              have hwr_ := IntWalk.i64_in ((ee : Int) + (ln : Int)) (by omega)
              (refine zdc [0, 1, 2, 3, 5] [4, 6, 7] 1 (.one 8 .rest) [9] [9, 10] (by kernel_rfl) (by kernel_rfl) ?_; simp only [zaj]; simp only [List.filterMap, List.getElem?_cons_succ, List.getElem?_cons_zero]; (repeat (go_big_quiet_step (fail))); refine wpQuiet_nil ?_; (repeat (go_big_quiet_step (fail))); refine wpQuiet_nil ?_)
              refine zai rfl ?_
              go_wp2_with fail
              refine ⟨regrown_of_below (zaa D4 ((Below.refl _ _).alloc (Nat.le_refl _) _)), ?_⟩
              refine zbg ?_
              go_wp2_with (at_builtin; refine zl0 zbl rfl _ _ rfl oRd rfl rfl rfl (by unfold maxLen; omega) (by omega) (by omega) ?_; intro v5 w5 own5 gr5 bel5 hb5)
              have op5 := OI.push own5
              have s5 := gr5.size
              have ch5 : Chg (fun x => vR.ownBlock = some x) w4 w5 := (zdy D4).trans (Chg.of_grown gr5 (fun x hx => hx))
              have own5' := own4.chg ch5 (fun b hb e => by
               rcases hb with h | h | h
               · exact (hG b h).2.2 e
               · have := (hvR b e).2; have := h.1; omega
               · have := (hvR b e).2; omega)
              have nG : ∀ x, (G x ∨ Iv wx.heap.size Z.heap.size x ∨ wr.heap.size < x ∧ x < w4.heap.size) → V.heap.size ≤ x ∧ x < w4.heap.size := fun x hx => by
               rcases hx with h | h | h
               · have := hG x h; omega
               · have := h.1; have := h.2; omega
               · omega
              have oc5 := (((oc.more (F' := fun x => x = K.heap.size ∨ (G x ∨ Iv wx.heap.size Z.heap.size x ∨ wr.heap.size < x ∧ x < w4.heap.size) ∨ v5.ownBlock = some x ∨ vR.ownBlock = some x) (fun x hx => by
               rcases hx with h | (h | h | h) | h | h
               · exact .inl (.inl h)
               · exact .inl (.inr (.inl h))
               · exact .inl (.inr (.inr (.inr h)))
               · exact .inr (by omega)
               · rcases hb5 with h5 | h5
                 · exact .inl (.inr (.inr (.inl (h5 ▸ h))))
                 · have := h5 x h; exact .inr (by omega)
               · exact .inl (.inr (.inr (.inl h))))).chg ch4 (fun x hx => .inr (.inl (.inl hx))) (fun x hx h => by simp only [Value.ownBlock, Option.some.injEq] at hx; have := (hG x h).1; omega)).chg ch5 (fun x hx => .inr (.inr (.inr hx))) (fun x hx h => by simp only [Value.ownBlock, Option.some.injEq] at hx; have := (hvR x h).1; omega)).sub (F' := fun x => x = K.heap.size ∨ (G x ∨ Iv wx.heap.size Z.heap.size x ∨ wr.heap.size < x ∧ x < w4.heap.size) ∨ v5.ownBlock = some x) (fun x hx => by
               rcases hx with h | h | h
               · exact .inl h
               · exact .inr (.inl h)
               · exact .inr (.inr (.inl h)))
              refine ⟨⟨k + 1, by go_num, by omega, _, ?_, ?_, fun x hx => ⟨(nG x hx).1, by have := (nG x hx).2; omega, fun e => ?_⟩, ?_, BK4.trans (ch5.toBelow (fun b hb => by have := (hvR b hb).1; omega) (by omega)), by omega⟩, by simp [intOf]; omega⟩
              · rw [HSTP.out]
                exact own5'
              · rw [HRK.out]
                exact op5
              · rcases hb5 with h5 | h5
                · rw [h5] at e
                  rcases hx with h | h | h
                  · exact (hG x h).2.2 e
                  · have := (hvR x e).2; have := h.1; omega
                  · have := (hvR x e).2; omega
                · have := h5 x e; have := (nG x hx).2; omega
              · rw [HSTP.out]
                exact oc5
        · obtain rfl : n4 = k := by omega
          have hlen : (zdj ms).length = n4 := by rw [zdj, List.length_map, List.length_range]; exact Q5.out
          rw [List.take_of_length_le (by rw [hlen]; exact Nat.le_refl _)] at oR
          clear hlen
          go_wp2_with fail
          go_ret2
          refine ⟨_, _, G, rfl, ?_, oR.base (by omega), fun x hx => ⟨by have := (hG x hx).1; omega, (hG x hx).2.1, (hG x hx).2.2⟩, BK.trans (B3K.mono sK)⟩
          rw [zex, Q5.out]
          exact oO
end
section
open Go.RowKit Go.Sort
set_option synthInstance.maxSize 2000
set_option synthInstance.maxHeartbeats 400000
end
end Go.Proofs.YtfkcoiefkjmdeaaGreat
