import Derived.Test.YtfkcoiefkjmdeaaGreatFnNullG5
import Derived.Test.YtfkcoiefkjmdeaaGreatFnNullG7
import Derived.Deep.DeepCutAuto
import Derived.Test.YtfkcoiefkjmdeaaGreatFnNullG2
import Derived.Deep.RegionWith
import Derived.Test.YtfkcoiefkjmdeaaGreatFnNullG4
import Derived.Test.YtfkcoiefkjmdeaaGreatFnNullG3
set_option linter.unusedVariables false
set_option linter.unusedSimpArgs false
set_option maxRecDepth 100000
set_option maxHeartbeats 4000000
namespace Go.Proofs.YtfkcoiefkjmdeaaGreat
section
open Go.RowKit Go.Sort
set_option maxHeartbeats 40000000
theorem DQ.of {w x4 U : World} {b lo : Nat} {A : Option Addr} {n c : Nat} {code : List UInt8} {K B : Nat} {i : Int} {A1 A2 A3 : Option Addr} {n1 c1 n2 c2 n3 c3 : Nat} {p : zaf} (hb : b < w.heap.size) (m : Mid b (b + 1) w x4) (s : Src x4 b lo A n c code K) (hB : w.heap.size < B) (hB4 : B ≤ x4.heap.size)
 (e : ∀ j, j < 4 → x4.cell? ⟨w.heap.size, j, none⟩ = some (if j = 0 then .int .i64 0 else .slice none 0 0) ∧ x4.frozen? ⟨w.heap.size, j, none⟩ = false)
 (po : tP.O x4 (Iv B x4.heap.size) [.int .i64 i, .slice A1 n1 c1, .slice A2 n2 c2, .slice A3 n3 c3] p) (hU : U = x4.alloc (.cells #[.int .i64 i, .slice A1 n1 c1, .slice A2 n2 c2, .slice A3 n3 c3] 36)) :
 DQ w b lo A n c code x4.heap.size K U.heap.size i (.slice A1 n1 c1) (.slice A2 n2 c2) (.slice A3 n3 c3) p.2.1 p.2.2.1 p.2.2.2 U := by
 obtain ⟨a0, T, ns, os⟩ := p
 obtain ⟨_, _, _, _, _, _, _, _, _, F1, F2, F3, hcs, g1, g2, g3, q1, q2, q3, r12, r13, r23⟩ := tP_O.1 po
 simp only [List.cons.injEq, Value.int.injEq, Value.slice.injEq, and_true, true_and] at hcs
 obtain ⟨rfl, ⟨rfl, rfl, rfl⟩, ⟨rfl, rfl, rfl⟩, ⟨rfl, rfl, rfl⟩⟩ := hcs
 have BU : Below x4.heap.size x4 U := by rw [hU]; exact (Below.refl _ _).alloc (Nat.le_refl _) _
 have zU : x4.heap.size < U.heap.size := by rw [hU]; simp
 have eP : ∀ j u, (#[Value.int .i64 i, .slice A1 n1 c1, .slice A2 n2 c2, .slice A3 n3 c3] : Array Value)[j]? = some u → U.cell? ⟨x4.heap.size, j, none⟩ = some u := fun j u hj => by
  rw [hU, cell_of_row _ x4.heap.size j _ 36 (0, 0) (heap_alloc_new x4 _)]
  exact hj
 have hq : ∀ j, j < 4 → U.frozen? ⟨x4.heap.size, j, none⟩ = false := fun j _ => by rw [hU]; simp [go_sem]
 have f : ∀ {F : Nat → Prop}, (∀ z, F z → Iv B x4.heap.size z) → ∀ z, F z → w.heap.size < z ∧ z ≠ x4.heap.size := fun hF z hz => by
  have h1 := hF z hz
  have a1 : B ≤ z := h1.1
  have a2 : z < x4.heap.size := h1.2
  omega
 have CU : Chg (fun _ => False) x4 U := Chg.of_below BU _
 refine ⟨F1, F2, F3, ⟨fun j hj => ?_, eP 0 _ rfl, eP 1 _ rfl, eP 2 _ rfl, eP 3 _ rfl, hq, ?_, ?_, ?_, ⟨f q1, f q2, f q3, r12, r13, r23⟩, s.below BU s.lt, m.thenB' BU m.size, zU, by omega⟩, fun z hz => ?_, Nat.le_refl _, zU⟩
 · obtain ⟨h1, h2⟩ := e j hj
   exact ⟨by rw [BU.cell (by show w.heap.size < _; omega)]; exact h1, by rw [BU.frozen (by show w.heap.size < _; omega)]; exact h2⟩
 · exact (sl_O.1 g1).chg CU (fun _ _ h => h)
 · exact (sl_O.1 g2).chg CU (fun _ _ h => h)
 · exact (sl_O.1 g3).chg CU (fun _ _ h => h)
 · rcases hz with hz | hz | hz
   · have a2 : z < x4.heap.size := (q1 z hz).2; omega
   · have a2 : z < x4.heap.size := (q2 z hz).2; omega
   · have a2 : z < x4.heap.size := (q3 z hz).2; omega
end
section
open Go.RowKit Go.Sort
set_option maxHeartbeats 40000000
def ziu (w : World) (g o : Nat) : Nat := match w.cell? ⟨g, o, none⟩ with
 | some (.slice _ n _) => n
 | _ => 0
theorem zk9 {w : World} {g o : Nat} {A : Option Addr} {n c : Nat} (h : w.cell? ⟨g, o, none⟩ = some (.slice A n c)) : ziu w g o = n := by rw [ziu, h]
theorem zqo (w : World) (x : Int) : OI 2 w.heap.size (w.alloc (.cells #[.int .i64 x] 2)) (.slice (some ⟨w.heap.size, 0, none⟩) 1 1) [x] :=
 ⟨rfl, .inr ⟨w.heap.size, 1, #[.int .i64 x], rfl, Nat.le_refl _, heap_alloc_new w _, Nat.le_refl _, by simp [maxLen], rfl, rfl⟩⟩
theorem zqp (w : World) (x y z : Int) : OI 2 w.heap.size (w.alloc (.cells #[.int .i64 x, .int .i64 y, .int .i64 z] 2)) (.slice (some ⟨w.heap.size, 0, none⟩) 3 3) [x, y, z] :=
 ⟨rfl, .inr ⟨w.heap.size, 3, #[.int .i64 x, .int .i64 y, .int .i64 z], rfl, Nat.le_refl _, heap_alloc_new w _, Nat.le_refl _, by simp [maxLen], rfl, rfl⟩⟩
theorem zqq (b lo : Nat) (A : Option Addr) (n c : Nat) (code : List UInt8) (K : Nat) (w : World) (h : Src w b lo A n c code K) (hK : K ≤ 50000) :
 Calls Tryz.prog 65 #[.pointer (some ⟨b, 0, none⟩)] w (zhd b lo A n c code (K + 4000) M.fewP w) := by
 have hbw := h.lt
 obtain ⟨W0, hW0⟩ : ∃ W, W = w.alloc (.cells #[.int .i64 0, .slice none 0 0, .slice none 0 0, .slice none 0 0] 36) := ⟨_, rfl⟩
 have B0 : Below w.heap.size w W0 := by rw [hW0]; exact (Below.refl _ _).alloc (Nat.le_refl _) _
 have z0 : w.heap.size < W0.heap.size := by rw [hW0]; simp
 have Q0 : Hid (∀ j, j < 4 → W0.cell? ⟨w.heap.size, j, none⟩ = some (if j = 0 then .int .i64 0 else .slice none 0 0) ∧ W0.frozen? ⟨w.heap.size, j, none⟩ = false) := Lib.hid fun j hj => by
  rw [hW0]
  rcases (show j = 0 ∨ j = 1 ∨ j = 2 ∨ j = 3 by omega) with rfl | rfl | rfl | rfl <;> exact ⟨by simp [go_sem], by simp [go_sem]⟩
 have s0 := h.below B0 hbw
 have SA := Lib.hid (zdt [1, 1, 2, 0] #[.int .i64 1, .int .i64 1, .int .i64 2, .int .i64 0] 4 rfl rfl (by omega) b lo A n c code K W0 s0 (by omega))
 rw [show W0.heap.size = w.heap.size + 1 from by rw [hW0]; simp] at SA
 have HW0 := Lib.hid hW0
 have HB0 := Lib.hid B0
 clear hW0 B0
 go_enter Tryz.func65, Tryz.ntmps65
 go_wp2_with fail
 rw [← HW0.out]
 refine SA.out.mono ?_
 rintro e x1 ⟨y, rfl, hy, s1, m1⟩
 have hy3 : y = 1 ∨ y = 2 ∨ y = 0 := by simp at hy; omega
 obtain ⟨inp, rfl⟩ : ∃ q : Nat, y = q := ⟨y.toNat, by omega⟩
 have hinp : inp ≤ 2 := by omega
 have t1 := m1.size
 clear hy hy3 s0 HW0
 go_upto_region 2 with fail
 go_cut [4] (fun q4 wx => ∃ (g : Nat) (i : Int) (vT vN vO : Value) (T : List (List Int)) (ns : List Node) (os : List Int), q4 = .pointer (some ⟨g, 0, none⟩) ∧ Hid ((1 ≤ ns.length ∧ ns.length ≤ 10 ∧ T.length ≤ 2 ∧ os.length ≤ 2) ∧ (∀ y ∈ ns, y.2.2.2.length ≤ 3) ∧ ∀ t ∈ T, t.length ≤ 8) ∧ DQ w b lo A n c code g (K + 2000) wx.heap.size i vT vN vO T ns os wx)
 case first =>
  go_wp2_with fail
  refine (za4 b lo A n c code _ 2 x1 s1 (by omega) (by omega)).mono ?_
  rintro e x2 ⟨p, rfl, hp, s2, m2⟩
  obtain ⟨outp, hop⟩ : ∃ q : Nat, 1 + p = (q : Int) := ⟨(1 + p).toNat, by omega⟩
  have ho2 : 1 ≤ outp ∧ outp ≤ 2 := by omega
  have HOP := Lib.hid hop
  clear hop
  have t2 := m2.size
  go_wp2_with fail
  try rw [HOP.out]
  refine (zd7 b lo A n c code _ 3 x2 s2 (by omega) (by omega)).mono ?_
  rintro e x3 ⟨r, rfl, s3, m3⟩
  have t3 := m3.size
  have m13 : Mid b (b + 1) w x3 := (((Mid.of_below HB0.out _ _).trans m1).trans m2).trans m3
  have Q3 : Hid (∀ j, j < 4 → x3.cell? ⟨w.heap.size, j, none⟩ = some (if j = 0 then .int .i64 0 else .slice none 0 0) ∧ x3.frozen? ⟨w.heap.size, j, none⟩ = false) := Lib.hid fun j hj => by
   obtain ⟨h1, h2⟩ := Q0.out j hj
   have mm := (m1.trans m2).trans m3
   exact ⟨mm.cellK (by omega) (.inr (by omega)) h1, mm.frozK (by omega) (.inr (by omega)) h2⟩
  have M13 := Lib.hid m13
  clear m1 m2 m3 m13 Q0 HB0 s1 s2 hp
  cases r
  · go_wp2_with fail
    try rw [HOP.out]
    refine (zhf b lo A n c code _ inp outp 9 false x3 s3 (by omega) (by omega) (by omega) (by omega) (fun e => by cases e)).mono ?_
    rintro e x4 ⟨i, A1, n1, c1, A2, n2, c2, A3, n3, c3, px, rfl, po, pd, s4, m4⟩
    have t4 := m4.size
    obtain ⟨U, hU⟩ : ∃ U, U = x4.alloc (.cells #[.int .i64 i, .slice A1 n1 c1, .slice A2 n2 c2, .slice A3 n3 c3] 36) := ⟨_, rfl⟩
    have DD := (DQ.of (b := b) hbw (M13.out.trans m4) s4 (show w.heap.size < x3.heap.size by omega) t4 (fun j hj => ⟨m4.cellK (by omega) (.inr (by omega)) (Q3.out j hj).1, m4.frozK (by omega) (.inr (by omega)) (Q3.out j hj).2⟩) po hU).more (K' := K + 2000) (by omega)
    have HU := Lib.hid hU
    have HDD := Lib.hid DD
    clear hU DD
    go_wp2_with fail
    rw [← HU.out]
    go_meet
    exact ⟨_, _, _, _, _, px.2.1, px.2.2.1, px.2.2.2, rfl, Lib.hid ⟨⟨pd.out.n.1, pd.out.n.2, pd.out.t.1, by rw [pd.out.o]; omega⟩, pd.out.f, pd.out.t.2⟩, HDD.out⟩
  · by_cases hin : 0 < inp
    · have hini : (0 : Int) < (inp : Int) := by omega
      have hinb : decide ((0 : Int) < (inp : Int)) = true := by simp; omega
      go_wp2_with fail
      try rw [HOP.out]
      refine (zhf b lo A n c code _ inp outp 9 true x3 s3 (by omega) (by omega) (by omega) (by omega) (fun _ => hin)).mono ?_
      rintro e x4 ⟨i, A1, n1, c1, A2, n2, c2, A3, n3, c3, px, rfl, po, pd, s4, m4⟩
      have t4 := m4.size
      obtain ⟨U, hU⟩ : ∃ U, U = x4.alloc (.cells #[.int .i64 i, .slice A1 n1 c1, .slice A2 n2 c2, .slice A3 n3 c3] 36) := ⟨_, rfl⟩
      have DD := (DQ.of (b := b) hbw (M13.out.trans m4) s4 (show w.heap.size < x3.heap.size by omega) t4 (fun j hj => ⟨m4.cellK (by omega) (.inr (by omega)) (Q3.out j hj).1, m4.frozK (by omega) (.inr (by omega)) (Q3.out j hj).2⟩) po hU).more (K' := K + 2000) (by omega)
      have HU := Lib.hid hU
      have HDD := Lib.hid DD
      clear hU DD
      go_wp2_with fail
      rw [← HU.out]
      go_meet
      exact ⟨_, _, _, _, _, px.2.1, px.2.2.1, px.2.2.2, rfl, Lib.hid ⟨⟨pd.out.n.1, pd.out.n.2, pd.out.t.1, by rw [pd.out.o]; omega⟩, pd.out.f, pd.out.t.2⟩, HDD.out⟩
    · have hini : ¬ (0 : Int) < (inp : Int) := by omega
      have hinb : decide ((0 : Int) < (inp : Int)) = false := by simp; omega
      go_wp2_with fail
      try rw [HOP.out]
      refine (zhf b lo A n c code _ inp outp 9 false x3 s3 (by omega) (by omega) (by omega) (by omega) (fun e => by cases e)).mono ?_
      rintro e x4 ⟨i, A1, n1, c1, A2, n2, c2, A3, n3, c3, px, rfl, po, pd, s4, m4⟩
      have t4 := m4.size
      obtain ⟨U, hU⟩ : ∃ U, U = x4.alloc (.cells #[.int .i64 i, .slice A1 n1 c1, .slice A2 n2 c2, .slice A3 n3 c3] 36) := ⟨_, rfl⟩
      have DD := (DQ.of (b := b) hbw (M13.out.trans m4) s4 (show w.heap.size < x3.heap.size by omega) t4 (fun j hj => ⟨m4.cellK (by omega) (.inr (by omega)) (Q3.out j hj).1, m4.frozK (by omega) (.inr (by omega)) (Q3.out j hj).2⟩) po hU).more (K' := K + 2000) (by omega)
      have HU := Lib.hid hU
      have HDD := Lib.hid DD
      clear hU DD
      go_wp2_with fail
      rw [← HU.out]
      go_meet
      exact ⟨_, _, _, _, _, px.2.1, px.2.2.1, px.2.2.2, rfl, Lib.hid ⟨⟨pd.out.n.1, pd.out.n.2, pd.out.t.1, by rw [pd.out.o]; omega⟩, pd.out.f, pd.out.t.2⟩, HDD.out⟩
 case rest =>
  have hcut_ := hcut
  clear hcut s1 m1 HB0 Q0 t1 SA
  obtain ⟨x, rfl⟩ : ∃ u_ : World, u_ = wc := ⟨_, rfl⟩
  obtain ⟨g, i, vT, vN, vO, T, ns, os, rfl, hH, D⟩ := hcut_
  obtain ⟨AT, cT, rfl⟩ := D.shapeT
  obtain ⟨AN, cN, rfl⟩ := D.shapeN
  obtain ⟨AO, cO, rfl⟩ := D.shapeO
  have hn1 := hH.out.1
  have HD := Lib.hid D
  have d2 := D.p2
  have sx := D.src
  have zx := D.sz
  clear D
  go_wp2_with fail
  refine (za4 b lo A n c code _ (ns.length : Int) x sx (by omega) (by omega)).mono ?_
  rintro e x5 ⟨k, rfl, hk, s5, m5⟩
  obtain ⟨k, rfl⟩ : ∃ q : Nat, k = q := ⟨k.toNat, by omega⟩
  have hk2 : k < ns.length := by omega
  have D5 := Lib.hid (HD.out.step hbw s5 m5)
  have t5 := m5.size
  clear hk m5 HD d2 sx
  go_wp2_with fail
  refine (za4 b lo A n c code _ 24 x5 s5 (by omega) (by omega)).mono ?_
  rintro e x6 ⟨q, rfl, hq, s6, m6⟩
  have D6 := (D5.out.step hbw s6 m6).up
  have z6 := D6.sz
  clear s5 m6 D5
  rcases (show q = 0 ∨ q = 1 ∨ q = 2 ∨ q = 3 ∨ q = 4 ∨ q = 5 ∨ 6 ≤ q by omega) with rfl | rfl | rfl | rfl | rfl | rfl | hq6
  · have HD6 := Lib.hid D6
    have SA := Lib.hid (zdt [-1, 0, 5, 4] #[.int .i64 (-1), .int .i64 0, .int .i64 5, .int .i64 4] 4 rfl rfl (by omega) b lo A n c code _ x6 s6 (by omega))
    clear D6
    go_wp2_with fail
    refine SA.out.mono ?_
    rintro e x7 ⟨y, rfl, hy7, s7, m7⟩
    have D7 := HD6.out.step hbw s7 m7
    have i0 := D7.p0
    have j0 := D7.q 0 (by omega)
    have D8 := D7.set0 hbw y
    obtain ⟨x8, hx8⟩ : ∃ u, u = x7.setCell ⟨g, 0, none⟩ (.int .i64 y) := ⟨_, rfl⟩
    rw [← hx8] at D8
    have HX8 := Lib.hid hx8
    clear hx8 D7
    have a0 := D8.p0
    have a1 := D8.p1
    have a2 := D8.p2
    have a3 := D8.p3
    have r0 := (D8.e 0 (by omega)).1
    have r1 := (D8.e 1 (by omega)).1
    have r2 := (D8.e 2 (by omega)).1
    have r3 := (D8.e 3 (by omega)).1
    have v0 := (D8.e 0 (by omega)).2
    have v1 := (D8.e 1 (by omega)).2
    have v2 := (D8.e 2 (by omega)).2
    have v3 := (D8.e 3 (by omega)).2
    rw [if_pos rfl] at r0
    rw [if_neg (by decide)] at r1 r2 r3
    have UX := D8.sz
    have hne : g ≠ w.heap.size := by omega
    have hne' : w.heap.size ≠ g := by omega
    have FIN := Lib.hid ((D8.more (K' := K + 4000) (by omega)).fin hbw (P := M.fewP) ⟨⟨by show T.length ≤ 30; omega, fun t ht => by have := hH.out.2.2 t ht; omega⟩, ⟨by show ns.length ≤ 30; omega, fun y hy => by have := hH.out.2.1 y hy; omega⟩, by show os.length ≤ 30; omega⟩)
    clear D8
    go_upto_region 20 with fail
    rw [← HX8.out]
    go_wp2
    refine bodyPost_ret (v := .agg #[.int .i64 y, .slice AT T.length cT, .slice AN ns.length cN, .slice AO os.length cO]) (by simp [results, Tryz.results65, go_sem, r0, r1, r2, r3, v0, v1, v2, v3, hne, hne']) rfl ?_
    exact FIN.out
  · obtain ⟨U, hU⟩ : ∃ U, U = x6 := ⟨_, rfl⟩
    rw [← hU] at D6 s6 z6 ⊢
    have HD := Lib.hid D6
    have UP2 := D6.p2
    have UP3 := D6.p3
    obtain ⟨G, hG⟩ : ∃ G : Nat → Prop, G = fun z => z = b ∨ (w.heap.size < z ∧ z ≠ g) := ⟨_, rfl⟩
    have HG2 := Lib.hid hG
    have GX := Lib.hid (show ¬ G g from fun h => by
     rw [hG] at h
     rcases h with h | h
     · omega
     · exact h.2 rfl)
    have g2 := ChgTo.cell (F := G) UP2 (fun h => GX.out h)
    have g3 := ChgTo.cell (F := G) UP3 (fun h => GX.out h)
    have bsU := D6.src.lt
    clear hU hG
    have SD := Lib.hid (zdt [(ns.length : Int), -1, 0] #[.int .i64 (ns.length : Int), .int .i64 (-1), .int .i64 0] 3 rfl rfl (by omega) b lo A n c code _ U.drew (D6.src.below (zac (Below.refl U.heap.size _) 1) bsU) (by omega))
    clear D6
    go_wp2_with fail
    (refine zcl G [0, 2, 3] [1, 4] 6 (.one 5 (.one 6 (.one 7 (.one 8 (.one 9 (.first 10 .rest)))))) [11] [11] (by kernel_rfl) (by kernel_rfl) ?_; simp only [zaj]; simp only [List.filterMap, List.getElem?_cons_succ, List.getElem?_cons_zero]; (repeat (go_big_quiet_step (fail))); refine wpQuiet_nil ?_; (repeat (go_big_quiet_step (fail))); refine wpQuiet_nil ?_)
    refine zai rfl ?_
    go_wp2_with fail
    refine ⟨⟨⟨_, Chg.of_below (zac (Below.refl U.heap.size _) 1) _⟩, rfl⟩, zai rfl ?_⟩
    go_wp2_with fail
    refine ⟨⟨⟨_, Chg.of_below ((zac (Below.refl U.heap.size _) 1).alloc (Nat.le_refl _) _) _⟩, rfl⟩, zai rfl ?_⟩
    go_wp2_with fail
    refine SD.out.mono ?_
    rintro e x7 ⟨f, rfl, hf, s7, m7⟩
    clear hf
    have m7' : Mid b (b + 1) U x7 := (Mid.of_below (zac (Below.refl U.heap.size _) 1) b (b + 1)).trans m7
    have E7 := HD.out.step hbw s7 m7'
    have lt7 := m7'.size
    have C7 : Chg G U x7 := ⟨m7'.os, m7'.tape, m7'.output, m7'.size, fun i hi hn => m7'.block i hi (by
     rw [HG2.out] at hn
     rcases Nat.lt_or_ge i b with h | h
     · exact .inl h
     · exact .inr (by rcases Nat.lt_or_ge b i with h2 | h2; exact h2; exact absurd (.inl (by omega)) hn))⟩
    obtain ⟨F4, r4, hF4, K4⟩ := E7.openO hbw
    have K4' := Lib.hid K4
    have q3 := E7.p3
    have l3 := E7.q 3 (by omega)
    have z7 := E7.sz
    clear E7 K4
    go_wp2_with fail
    refine ⟨⟨⟨x7, C7⟩, rfl⟩, zai rfl ?_⟩
    go_wp2_with fail
    refine ⟨⟨⟨_, C7.trans (Chg.of_below ((Below.refl _ _).alloc (Nat.le_refl _) _) _)⟩, rfl⟩, zai rfl ?_⟩
    go_wp2_with (at_builtin; refine zaz zbl #[.int .i64 f] rfl _ _ rfl r4 (Fe := fun _ => False) (y := f) rfl (fun _ _ h => h) rfl rfl (by unfold maxLen; omega) (by omega) ?_; intro v8 w8 own8 ch8; obtain ⟨A8, c8, e8⟩ := own8.shape; rw [List.length_append, List.length_singleton] at e8; subst e8; have P8 : w8.cell? ⟨g, 3, none⟩ = some (.slice AO os.length cO) := (by rw [ch8.cell1 (show g < x7.heap.size by omega) (fun h => (hF4 g h).2.1 rfl)]; exact q3); have Q8 : w8.frozen? ⟨g, 3, none⟩ = false := (by rw [ch8.frozen1 (show g < x7.heap.size by omega) (fun h => (hF4 g h).2.1 rfl)]; exact l3))
    have C8 : Chg G U w8 := C7.trans (ch8.wide (fun z h => by rw [HG2.out]; exact .inr ⟨(hF4 z h).1, (hF4 z h).2.1⟩))
    refine ⟨⟨⟨w8, C8⟩, rfl⟩, ?_⟩
    (refine zbf rfl ?_; (repeat (go_big_quiet_step (fail))); refine wpQuiet_nil ?_)
    refine zbg ?_
    have D8 := K4'.out w8 _ (.slice A8 (os.length + 1) c8) (os ++ [f]) ch8 own8 (fun z h => by
     rcases h with h | h | h
     · exact .inl h
     · exact h.elim
     · have h3 := h.1
       exact .inr (by omega))
    obtain ⟨x8, hx8⟩ : ∃ u, u = w8.setCell ⟨g, 3, none⟩ (.slice A8 (os.length + 1) c8) := ⟨_, rfl⟩
    rw [← hx8] at D8
    have HX8 := Lib.hid hx8
    clear hx8 g2 g3 UP2 UP3
    have a0 := D8.p0
    have a1 := D8.p1
    have a2 := D8.p2
    have a3 := D8.p3
    have r0 := (D8.e 0 (by omega)).1
    have r1 := (D8.e 1 (by omega)).1
    have r2 := (D8.e 2 (by omega)).1
    have r3 := (D8.e 3 (by omega)).1
    have v0 := (D8.e 0 (by omega)).2
    have v1 := (D8.e 1 (by omega)).2
    have v2 := (D8.e 2 (by omega)).2
    have v3 := (D8.e 3 (by omega)).2
    rw [if_pos rfl] at r0
    rw [if_neg (by decide)] at r1 r2 r3
    have UX := D8.sz
    have hne : g ≠ w.heap.size := by omega
    have hne' : w.heap.size ≠ g := by omega
    have FIN := Lib.hid ((D8.more (K' := K + 4000) (by omega)).fin hbw (P := M.fewP) ⟨⟨by show T.length ≤ 30; omega, fun t ht => by have := hH.out.2.2 t ht; omega⟩, ⟨by show ns.length ≤ 30; omega, fun y hy => by have := hH.out.2.1 y hy; omega⟩, by show (os ++ [f]).length ≤ 30; simp; omega⟩)
    clear D8
    go_upto_region 20 with fail
    rw [← HX8.out]
    go_wp2
    refine bodyPost_ret (v := .agg #[.int .i64 i, .slice AT T.length cT, .slice AN ns.length cN, .slice A8 (os.length + 1) c8]) (by simp [results, Tryz.results65, go_sem, r0, r1, r2, r3, v0, v1, v2, v3, hne, hne']) rfl ?_
    exact FIN.out
  · obtain ⟨U, hU⟩ : ∃ U, U = x6 := ⟨_, rfl⟩
    rw [← hU] at D6 s6 z6 ⊢
    have HD := Lib.hid D6
    have UP2 := D6.p2
    have UP3 := D6.p3
    obtain ⟨G, hG⟩ : ∃ G : Nat → Prop, G = fun z => z = b ∨ (w.heap.size < z ∧ z ≠ g) := ⟨_, rfl⟩
    have HG2 := Lib.hid hG
    have GX := Lib.hid (show ¬ G g from fun h => by
     rw [hG] at h
     rcases h with h | h
     · omega
     · exact h.2 rfl)
    have g2 := ChgTo.cell (F := G) UP2 (fun h => GX.out h)
    have g3 := ChgTo.cell (F := G) UP3 (fun h => GX.out h)
    have bsU := D6.src.lt
    clear hU hG
    have SD := Lib.hid (zpg b lo A n c code _ 1 U.drew (D6.src.below (zac (Below.refl U.heap.size _) 1) bsU) (by omega) (by omega))
    clear D6
    go_wp2_with fail
    (refine zcl G [0, 2, 3] [1] 2 (.one 4 (.first 5 .rest)) [6] [6] (by kernel_rfl) (by kernel_rfl) ?_; simp only [zaj]; simp only [List.filterMap, List.getElem?_cons_succ, List.getElem?_cons_zero]; (repeat (go_big_quiet_step (fail))); refine wpQuiet_nil ?_; (repeat (go_big_quiet_step (fail))); refine wpQuiet_nil ?_)
    refine zai rfl ?_
    go_wp2_with fail
    refine SD.out.mono ?_
    rintro e x7 ⟨nk, na, nb, B1, m1_, d1, nx, rfl, no, nP, s7, m7⟩
    have m7' : Mid b (b + 1) U x7 := (Mid.of_below (zac (Below.refl U.heap.size _) 1) b (b + 1)).trans m7
    have E7 := HD.out.step hbw s7 m7'
    have lt7 := m7'.size
    have C7 : Chg G U x7 := ⟨m7'.os, m7'.tape, m7'.output, m7'.size, fun i hi hn => m7'.block i hi (by
     rw [HG2.out] at hn
     rcases Nat.lt_or_ge i b with h | h
     · exact .inl h
     · exact .inr (by rcases Nat.lt_or_ge b i with h2 | h2; exact h2; exact absurd (.inl (by omega)) hn))⟩
    obtain ⟨F4, r4, hF4, -, K4⟩ := E7.openN hbw
    have K4' := Lib.hid K4
    have z7 := E7.sz
    clear E7 K4
    have hX := Lib.hid (List.getElem?_eq_getElem hk2)
    generalize ns[k]'hk2 = x0 at hX
    obtain ⟨css, Fs, hole, cs, hcs, hE⟩ := r4.openAt hX.out
    obtain ⟨k0, a0, b0, l0⟩ := x0
    obtain ⟨E1, q1, e1, _, rfl, -, -⟩ := tN_O.1 hE
    obtain ⟨gr, rfl, hgF, hgn, hgl, -⟩ := hole.form hk2
    have c0_ : x7.cell? ⟨gr, k * 4 + 0, none⟩ = _ := (hole.cell hcs (j := 0) rfl).1
    have c1_ : x7.cell? ⟨gr, k * 4 + 1, none⟩ = _ := (hole.cell hcs (j := 1) rfl).1
    have c2_ : x7.cell? ⟨gr, k * 4 + 2, none⟩ = _ := (hole.cell hcs (j := 2) rfl).1
    have c3_ : x7.cell? ⟨gr, k * 4 + 3, none⟩ = _ := (hole.cell hcs (j := 3) rfl).1
    have f0_ : x7.frozen? ⟨gr, k * 4 + 0, none⟩ = _ := (hole.cell hcs (j := 0) rfl).2
    have f1_ : x7.frozen? ⟨gr, k * 4 + 1, none⟩ = _ := (hole.cell hcs (j := 1) rfl).2
    have f2_ : x7.frozen? ⟨gr, k * 4 + 2, none⟩ = _ := (hole.cell hcs (j := 2) rfl).2
    have f3_ : x7.frozen? ⟨gr, k * 4 + 3, none⟩ = _ := (hole.cell hcs (j := 3) rfl).2
    rw [Nat.add_zero] at c0_ f0_
    have hki : (k : Int) < (ns.length : Int) := by omega
    have hki0 : (0 : Int) ≤ (k : Int) := by omega
    have s0_ := hole.set hcs 0 (by decide) (.int .i64 nk)
    have s1_ := s0_.1.set s0_.2 1 (by decide) (.int .i64 na)
    have s2_ := s1_.1.set s1_.2 2 (by decide) (.int .i64 nb)
    have s3_ := s2_.1.set s2_.2 3 (by decide) (.slice B1 m1_ d1)
    obtain ⟨X8, hX8⟩ : ∃ u, u = (((x7.setCell ⟨gr, k * 4, none⟩ (.int .i64 nk)).setCell ⟨gr, k * 4 + 1, none⟩ (.int .i64 na)).setCell ⟨gr, k * 4 + 2, none⟩ (.int .i64 nb)).setCell ⟨gr, k * 4 + 3, none⟩ (.slice B1 m1_ d1) := ⟨_, rfl⟩
    have CH : Chg F4 x7 X8 := by rw [hX8]; exact (((Chg.set _ gr _ _ hgF).trans (Chg.set _ gr _ _ hgF)).trans (Chg.set _ gr _ _ hgF)).trans (Chg.set _ gr _ _ hgF)
    have yO : tN.O X8 (Iv U.drew.heap.size x7.heap.size) [.int .i64 nk, .int .i64 na, .int .i64 nb, .slice B1 m1_ d1] (nk, na, nb, nx) := tN_O.2 ⟨B1, m1_, d1, _, rfl, sl_O.2 ((no.chg CH (fun z h1 h2 => by have a1 := (hF4 z h2).2.2; have a2 : U.heap.size ≤ z := h1.1; omega)).wide (fun z h => h)), fun z h => h⟩
    have s3' := s3_.1
    rw [Nat.add_zero, show tN.s = 4 from rfl, ← hX8] at s3'
    have own8 := s3'.fill' s3_.2 yO (fun z h1 h2 => by have a1 := (hF4 z h2).2.2; have a2 : U.heap.size ≤ z := h1.1; omega)
    have D8 := K4'.out X8 _ _ CH own8 (fun z h => by
     rcases h with h | h
     · exact .inl h
     · exact .inr h.1)
    have HX8 := Lib.hid hX8
    have hnl : nx.length ≤ 4 := nP.out
    clear hX8 CH yO own8 s3' s0_ s1_ s2_ s3_ hole hE hcs r4
    go_wp2_with fail
    refine ⟨⟨⟨x7, C7⟩, rfl⟩, ?_⟩
    (refine zbf rfl ?_; (repeat (go_big_quiet_step (fail))); refine wpQuiet_nil ?_)
    refine zbg ?_
    clear g2 g3 UP2 UP3
    have a0 := D8.p0
    have a1 := D8.p1
    have a2 := D8.p2
    have a3 := D8.p3
    have r0 := (D8.e 0 (by omega)).1
    have r1 := (D8.e 1 (by omega)).1
    have r2 := (D8.e 2 (by omega)).1
    have r3 := (D8.e 3 (by omega)).1
    have v0 := (D8.e 0 (by omega)).2
    have v1 := (D8.e 1 (by omega)).2
    have v2 := (D8.e 2 (by omega)).2
    have v3 := (D8.e 3 (by omega)).2
    rw [if_pos rfl] at r0
    rw [if_neg (by decide)] at r1 r2 r3
    have UX := D8.sz
    have hne : g ≠ w.heap.size := by omega
    have hne' : w.heap.size ≠ g := by omega
    have FIN := Lib.hid ((D8.more (K' := K + 4000) (by omega)).fin hbw (P := M.fewP) ⟨⟨by show T.length ≤ 30; omega, fun t ht => by have := hH.out.2.2 t ht; omega⟩, ⟨by show (ns.set k (nk, na, nb, nx)).length ≤ 30; rw [List.length_set]; omega, fun y hy => by
     rcases List.mem_or_eq_of_mem_set hy with h1 | h1
     · have := hH.out.2.1 y h1; omega
     · rw [h1]; show nx.length ≤ 30; omega⟩, by show os.length ≤ 30; omega⟩)
    clear D8
    go_upto_region 20 with fail
    rw [← HX8.out]
    go_wp2
    refine bodyPost_ret (v := .agg #[.int .i64 i, .slice AT T.length cT, .slice (some ⟨gr, 0, none⟩) ns.length cN, .slice AO os.length cO]) (by simp [results, Tryz.results65, go_sem, r0, r1, r2, r3, v0, v1, v2, v3, hne, hne']) rfl ?_
    exact FIN.out
  · obtain ⟨X7, hX7⟩ : ∃ u, u = x6.alloc (.cells #[.int .i64 ns.length] 2) := ⟨_, rfl⟩
    have B7 : Below x6.heap.size x6 X7 := by rw [hX7]; exact (Below.refl _ _).alloc (Nat.le_refl _) _
    have sz7 : X7.heap.size = x6.heap.size + 1 := by rw [hX7]; simp
    have E7 := D6.step hbw (D6.src.below B7 D6.src.lt) (Mid.of_below B7 b (b + 1))
    have yO : tN.O X7 (fun z => x6.heap.size ≤ z) [.int .i64 5, .int .i64 2, .int .i64 0, .slice (some ⟨x6.heap.size, 0, none⟩) 1 1] (5, 2, 0, [(ns.length : Int)]) := by
     rw [hX7]
     exact tN_O.2 ⟨_, _, _, _, rfl, sl_O.2 (zqo x6 _).os, fun z h => h.1⟩
    obtain ⟨F4, r4, hF4, K4, -⟩ := E7.openN hbw
    have K4' := Lib.hid K4
    have q2 := E7.p2
    have l2 := E7.q 2 (by omega)
    have z7 := E7.sz
    have zl7 : g < x6.heap.size := by have := D6.sz; omega
    have q2_ := D6.p2
    have HX7 := Lib.hid hX7
    have HS7 := Lib.hid sz7
    clear hX7 E7 K4 B7 sz7 D6
    go_upto_region 20 with (at_builtin; rw [← HX7.out]; refine zaz zgb #[.int .i64 5, .int .i64 2, .int .i64 0, .slice (some ⟨x6.heap.size, 0, none⟩) 1 1] rfl _ _ rfl r4 yO (fun z h1 h2 => by have a1 := (hF4 z h1).2.2; have a2 : x6.heap.size ≤ z := h2; omega) rfl (by rw [HS7.out]; rfl) (by unfold maxLen; omega) (by omega) ?_; intro v8 w8 own8 ch8; obtain ⟨A8, c8, e8⟩ := own8.shape; rw [List.length_append, List.length_singleton] at e8; subst e8; have P8 : w8.cell? ⟨g, 2, none⟩ = some (.slice AN ns.length cN) := (by rw [ch8.cell1 (show g < X7.heap.size by omega) (fun h => (hF4 g h).2.1 rfl)]; exact q2); have Q8 : w8.frozen? ⟨g, 2, none⟩ = false := (by rw [ch8.frozen1 (show g < X7.heap.size by omega) (fun h => (hF4 g h).2.1 rfl)]; exact l2))
    have D8 := K4'.out w8 _ (.slice A8 (ns.length + 1) c8) (ns ++ [(5, 2, 0, [(ns.length : Int)])]) ch8 own8 (fun z h => by
     rcases h with h | h | h
     · exact .inl h
     · exact .inr h
     · have h3 := h.1
       have h4 := HS7.out
       exact .inr (by omega))
    obtain ⟨x8, hx8⟩ : ∃ u, u = w8.setCell ⟨g, 2, none⟩ (.slice A8 (ns.length + 1) c8) := ⟨_, rfl⟩
    rw [← hx8] at D8
    have HX8 := Lib.hid hx8
    clear hx8
    have a0 := D8.p0
    have a1 := D8.p1
    have a2 := D8.p2
    have a3 := D8.p3
    have r0 := (D8.e 0 (by omega)).1
    have r1 := (D8.e 1 (by omega)).1
    have r2 := (D8.e 2 (by omega)).1
    have r3 := (D8.e 3 (by omega)).1
    have v0 := (D8.e 0 (by omega)).2
    have v1 := (D8.e 1 (by omega)).2
    have v2 := (D8.e 2 (by omega)).2
    have v3 := (D8.e 3 (by omega)).2
    rw [if_pos rfl] at r0
    rw [if_neg (by decide)] at r1 r2 r3
    have UX := D8.sz
    have hne : g ≠ w.heap.size := by omega
    have hne' : w.heap.size ≠ g := by omega
    have FIN := Lib.hid ((D8.more (K' := K + 4000) (by omega)).fin hbw (P := M.fewP) ⟨⟨by show T.length ≤ 30; omega, fun t ht => by have := hH.out.2.2 t ht; omega⟩, ⟨by show (ns ++ [(5, 2, 0, [(ns.length : Int)])]).length ≤ 30; rw [List.length_append, List.length_singleton]; omega, fun y hy => by
     rcases List.mem_append.1 hy with h1 | h1
     · have := hH.out.2.1 y h1; omega
     · rw [List.mem_singleton.1 h1]; show List.length ([(ns.length : Int)] : List Int) ≤ 30; simp⟩, by show os.length ≤ 30; omega⟩)
    clear D8
    rw [← HX8.out]
    go_wp2
    refine bodyPost_ret (v := .agg #[.int .i64 i, .slice AT T.length cT, .slice A8 (ns.length + 1) c8, .slice AO os.length cO]) (by simp [results, Tryz.results65, go_sem, r0, r1, r2, r3, v0, v1, v2, v3, hne, hne']) rfl ?_
    exact FIN.out
  · obtain ⟨X7, hX7⟩ : ∃ u, u = x6.alloc (.cells #[.int .i64 1, .int .i64 2, .int .i64 3] 2) := ⟨_, rfl⟩
    have B7 : Below x6.heap.size x6 X7 := by rw [hX7]; exact (Below.refl _ _).alloc (Nat.le_refl _) _
    have sz7 : X7.heap.size = x6.heap.size + 1 := by rw [hX7]; simp
    have E7 := D6.step hbw (D6.src.below B7 D6.src.lt) (Mid.of_below B7 b (b + 1))
    have yO : tS.O X7 (Iv x6.heap.size X7.heap.size) [.slice (some ⟨x6.heap.size, 0, none⟩) 3 3] [1, 2, 3] := by
     rw [hX7]
     exact sl_O.2 (zqp x6 1 2 3).os
    obtain ⟨F4, r4, hF4, K4⟩ := E7.openT hbw
    have K4' := Lib.hid K4
    have q1 := E7.p1
    have l1 := E7.q 1 (by omega)
    have z7 := E7.sz
    have q1_ := D6.p1
    have HX7 := Lib.hid hX7
    have HS7 := Lib.hid sz7
    have hT2 := hH.out.1
    clear hX7 E7 K4 B7 sz7 D6
    go_upto_region 20 with (at_builtin; rw [← HX7.out]; refine zaz (t := tS) zid #[.slice (some ⟨x6.heap.size, 0, none⟩) 3 3] rfl _ _ rfl r4 yO (fun z h1 h2 => by have a1 := (hF4 z h1).2.2; have a2 : x6.heap.size ≤ z := h2.1; omega) rfl (by rw [HS7.out]; rfl) (by unfold maxLen; omega) (by omega) ?_; intro v8 w8 own8 ch8; obtain ⟨A8, c8, e8⟩ := own8.shape; rw [List.length_append, List.length_singleton] at e8; subst e8; have P8 : w8.cell? ⟨g, 1, none⟩ = some (.slice AT T.length cT) := (by rw [ch8.cell1 (show g < X7.heap.size by omega) (fun h => (hF4 g h).2.1 rfl)]; exact q1); have Q8 : w8.frozen? ⟨g, 1, none⟩ = false := (by rw [ch8.frozen1 (show g < X7.heap.size by omega) (fun h => (hF4 g h).2.1 rfl)]; exact l1))
    have D8 := K4'.out w8 _ (.slice A8 (T.length + 1) c8) (T ++ [[1, 2, 3]]) ch8 own8 (fun z h => by
     rcases h with h | h | h
     · exact .inl h
     · exact .inr h.1
     · have h3 := h.1
       have h4 := HS7.out
       exact .inr (by omega))
    obtain ⟨x8, hx8⟩ : ∃ u, u = w8.setCell ⟨g, 1, none⟩ (.slice A8 (T.length + 1) c8) := ⟨_, rfl⟩
    rw [← hx8] at D8
    have HX8 := Lib.hid hx8
    clear hx8
    have a0 := D8.p0
    have a1 := D8.p1
    have a2 := D8.p2
    have a3 := D8.p3
    have r0 := (D8.e 0 (by omega)).1
    have r1 := (D8.e 1 (by omega)).1
    have r2 := (D8.e 2 (by omega)).1
    have r3 := (D8.e 3 (by omega)).1
    have v0 := (D8.e 0 (by omega)).2
    have v1 := (D8.e 1 (by omega)).2
    have v2 := (D8.e 2 (by omega)).2
    have v3 := (D8.e 3 (by omega)).2
    rw [if_pos rfl] at r0
    rw [if_neg (by decide)] at r1 r2 r3
    have UX := D8.sz
    have hne : g ≠ w.heap.size := by omega
    have hne' : w.heap.size ≠ g := by omega
    have FIN := Lib.hid ((D8.more (K' := K + 4000) (by omega)).fin hbw (P := M.fewP) ⟨⟨by show (T ++ [[1, 2, 3]]).length ≤ 30; rw [List.length_append, List.length_singleton]; omega, fun t ht => by
     rcases List.mem_append.1 ht with h1 | h1
     · have := hH.out.2.2 t h1; omega
     · rw [List.mem_singleton.1 h1]; simp⟩, ⟨by show ns.length ≤ 30; omega, fun y hy => by have := hH.out.2.1 y hy; omega⟩, by show os.length ≤ 30; omega⟩)
    clear D8
    rw [← HX8.out]
    go_wp2
    refine bodyPost_ret (v := .agg #[.int .i64 i, .slice A8 (T.length + 1) c8, .slice AN ns.length cN, .slice AO os.length cO]) (by simp [results, Tryz.results65, go_sem, r0, r1, r2, r3, v0, v1, v2, v3, hne, hne']) rfl ?_
    exact FIN.out
  · have D6' := Lib.hid D6
    clear D6
    go_wp2_with fail
    go_loopw [] (fun wr => ∃ (ms : List Node) (AM : Option Addr) (cM : Nat), ms.length ≤ 24 ∧ Hid (∀ y ∈ ms, y.2.2.2.length ≤ 3) ∧ DQ w b lo A n c code g (K + 2004) wr.heap.size i (.slice AT T.length cT) (.slice AM ms.length cM) (.slice AO os.length cO) T ms os wr) (fun wr => 24 - ziu wr g 2)
    case atStart => exact ⟨ns, AN, cN, by omega, Lib.hid hH.out.2.1, D6'.out.more (by omega)⟩
    case round =>
     clear D6'
     obtain ⟨ms, AM, cM, hm24, hms, D⟩ := hrel
     obtain ⟨wo, rfl⟩ : ∃ wo : World, wo = wr := ⟨_, rfl⟩
     have LEN := zk9 D.p2
     by_cases hlt : ms.length < 24
     · have hlti : (ms.length : Int) < 24 := by omega
       obtain ⟨X7, hX7⟩ : ∃ u, u = wo.alloc (.cells #[] 2) := ⟨_, rfl⟩
       have B7 : Below wo.heap.size wo X7 := by rw [hX7]; exact (Below.refl _ _).alloc (Nat.le_refl _) _
       have sz7 : X7.heap.size = wo.heap.size + 1 := by rw [hX7]; simp
       have E7 := D.step hbw (D.src.below B7 D.src.lt) (Mid.of_below B7 b (b + 1))
       have yO : tN.O X7 (fun z => wo.heap.size ≤ z) [.int .i64 2, .int .i64 1, .int .i64 0, .slice (some ⟨wo.heap.size, 0, none⟩) 0 0] (2, 1, 0, []) := by
        rw [hX7]
        exact tN_O.2 ⟨_, _, _, _, rfl, sl_O.2 (OI.made 2 wo).os, fun z h => h.1⟩
       obtain ⟨F4, r4, hF4, K4, -⟩ := E7.openN hbw
       have K4' := Lib.hid K4
       have q2 := E7.p2
       have l2 := E7.q 2 (by omega)
       have z7 := E7.sz
       have zl7 : g < wo.heap.size := by have := D.sz; omega
       have q2_ := D.p2
       have HX7 := Lib.hid hX7
       have HS7 := Lib.hid sz7
       clear hX7 E7 K4 B7 sz7 D
       go_wp2_with (at_builtin; rw [← HX7.out]; refine zaz zgb #[.int .i64 2, .int .i64 1, .int .i64 0, .slice (some ⟨wo.heap.size, 0, none⟩) 0 0] rfl _ _ rfl r4 yO (fun z h1 h2 => by have a1 := (hF4 z h1).2.2; have a2 : wo.heap.size ≤ z := h2; omega) rfl (by rw [HS7.out]; rfl) (by unfold maxLen; omega) (by omega) ?_; intro v8 w8 own8 ch8; obtain ⟨A8, c8, e8⟩ := own8.shape; rw [List.length_append, List.length_singleton] at e8; subst e8; have P8 : w8.cell? ⟨g, 2, none⟩ = some (.slice AM ms.length cM) := (by rw [ch8.cell1 (show g < X7.heap.size by omega) (fun h => (hF4 g h).2.1 rfl)]; exact q2); have Q8 : w8.frozen? ⟨g, 2, none⟩ = false := (by rw [ch8.frozen1 (show g < X7.heap.size by omega) (fun h => (hF4 g h).2.1 rfl)]; exact l2))
       have D8 := K4'.out w8 _ (.slice A8 (ms.length + 1) c8) (ms ++ [(2, 1, 0, [])]) ch8 own8 (fun z h => by
        rcases h with h | h | h
        · exact .inl h
        · exact .inr h
        · have h3 := h.1
          have h4 := HS7.out
          exact .inr (by omega))
       obtain ⟨x8, hx8⟩ : ∃ u, u = w8.setCell ⟨g, 2, none⟩ (.slice A8 (ms.length + 1) c8) := ⟨_, rfl⟩
       rw [← hx8] at D8
       have HX8 := Lib.hid hx8
       clear hx8
       have LEN8 := zk9 D8.p2
       have D8' := Lib.hid D8.up
       clear D8
       try rw [← HX8.out]
       go_roundw
       case rel =>
        exact ⟨ms ++ [(2, 1, 0, [])], A8, c8, by rw [List.length_append, List.length_singleton]; omega, Lib.hid (fun y hy => by
         rcases List.mem_append.1 hy with h1 | h1
         · exact hms.out y h1
         · rw [List.mem_singleton.1 h1]; simp), by rw [List.length_append, List.length_singleton]; exact D8'.out⟩
       case measure => rw [LEN, LEN8]; omega
     · have hlti : ¬ (ms.length : Int) < 24 := by omega
       have hml : ms.length = 24 := by omega
       have D_ := Lib.hid D
       have s_ := D.src
       have d2_ := D.p2
       have z_ := D.sz
       have HML := Lib.hid hml
       clear D hml LEN
       go_wp2_with fail
       refine (zd7 b lo A n c code _ 2 wo s_ (by omega) (by omega)).mono ?_
       rintro e x9 ⟨r, rfl, s9, m9⟩
       have D9 := (D_.out.step hbw s9 m9).up
       have z9 := m9.size
       clear D_ s_ m9 d2_
       cases r
       · have a0 := D9.p0
         have a1 := D9.p1
         have a2 := D9.p2
         have a3 := D9.p3
         have r0 := (D9.e 0 (by omega)).1
         have r1 := (D9.e 1 (by omega)).1
         have r2 := (D9.e 2 (by omega)).1
         have r3 := (D9.e 3 (by omega)).1
         have v0 := (D9.e 0 (by omega)).2
         have v1 := (D9.e 1 (by omega)).2
         have v2 := (D9.e 2 (by omega)).2
         have v3 := (D9.e 3 (by omega)).2
         rw [if_pos rfl] at r0
         rw [if_neg (by decide)] at r1 r2 r3
         have UX := D9.sz
         have hne : g ≠ w.heap.size := by omega
         have hne' : w.heap.size ≠ g := by omega
         have FIN := Lib.hid ((D9.more (K' := K + 4000) (by omega)).fin hbw (P := M.fewP) ⟨⟨by show T.length ≤ 30; omega, fun t ht => by have := hH.out.2.2 t ht; omega⟩, ⟨by show ms.length ≤ 30; omega, fun y hy => by have := hms.out y hy; omega⟩, by show os.length ≤ 30; omega⟩)
         clear D9
         go_wp2
         refine bodyPost_ret (v := .agg #[.int .i64 i, .slice AT T.length cT, .slice AM ms.length cM, .slice AO os.length cO]) (by simp [results, Tryz.results65, go_sem, r0, r1, r2, r3, v0, v1, v2, v3, hne, hne']) rfl ?_
         exact FIN.out
       · obtain ⟨X7, hX7⟩ : ∃ u, u = x9.alloc (.cells #[] 2) := ⟨_, rfl⟩
         have B7 : Below x9.heap.size x9 X7 := by rw [hX7]; exact (Below.refl _ _).alloc (Nat.le_refl _) _
         have sz7 : X7.heap.size = x9.heap.size + 1 := by rw [hX7]; simp
         have E7 := D9.step hbw (D9.src.below B7 D9.src.lt) (Mid.of_below B7 b (b + 1))
         have yO : tN.O X7 (fun z => x9.heap.size ≤ z) [.int .i64 14, .int .i64 5, .int .i64 0, .slice (some ⟨x9.heap.size, 0, none⟩) 0 0] (14, 5, 0, []) := by
          rw [hX7]
          exact tN_O.2 ⟨_, _, _, _, rfl, sl_O.2 (OI.made 2 x9).os, fun z h => h.1⟩
         obtain ⟨F4, r4, hF4, K4, -⟩ := E7.openN hbw
         have K4' := Lib.hid K4
         have q2 := E7.p2
         have l2 := E7.q 2 (by omega)
         have z7 := E7.sz
         have zl7 : g < x9.heap.size := by have := D9.sz; omega
         have q2_ := D9.p2
         have HX7 := Lib.hid hX7
         have HS7 := Lib.hid sz7
         clear hX7 E7 K4 B7 sz7 D9
         go_upto_region 20 with (at_builtin; rw [← HX7.out]; refine zaz zgb #[.int .i64 14, .int .i64 5, .int .i64 0, .slice (some ⟨x9.heap.size, 0, none⟩) 0 0] rfl _ _ rfl r4 yO (fun z h1 h2 => by have a1 := (hF4 z h1).2.2; have a2 : x9.heap.size ≤ z := h2; omega) rfl (by rw [HS7.out]; rfl) (by unfold maxLen; omega) (by omega) ?_; intro v8 w8 own8 ch8; obtain ⟨A8, c8, e8⟩ := own8.shape; rw [List.length_append, List.length_singleton] at e8; subst e8; have P8 : w8.cell? ⟨g, 2, none⟩ = some (.slice AM ms.length cM) := (by rw [ch8.cell1 (show g < X7.heap.size by omega) (fun h => (hF4 g h).2.1 rfl)]; exact q2); have Q8 : w8.frozen? ⟨g, 2, none⟩ = false := (by rw [ch8.frozen1 (show g < X7.heap.size by omega) (fun h => (hF4 g h).2.1 rfl)]; exact l2))
         have D8 := K4'.out w8 _ (.slice A8 (ms.length + 1) c8) (ms ++ [(14, 5, 0, [])]) ch8 own8 (fun z h => by
          rcases h with h | h | h
          · exact .inl h
          · exact .inr h
          · have h3 := h.1
            have h4 := HS7.out
            exact .inr (by omega))
         obtain ⟨x8, hx8⟩ : ∃ u, u = w8.setCell ⟨g, 2, none⟩ (.slice A8 (ms.length + 1) c8) := ⟨_, rfl⟩
         rw [← hx8] at D8
         have HX8 := Lib.hid hx8
         clear hx8
         have a0 := D8.p0
         have a1 := D8.p1
         have a2 := D8.p2
         have a3 := D8.p3
         have r0 := (D8.e 0 (by omega)).1
         have r1 := (D8.e 1 (by omega)).1
         have r2 := (D8.e 2 (by omega)).1
         have r3 := (D8.e 3 (by omega)).1
         have v0 := (D8.e 0 (by omega)).2
         have v1 := (D8.e 1 (by omega)).2
         have v2 := (D8.e 2 (by omega)).2
         have v3 := (D8.e 3 (by omega)).2
         rw [if_pos rfl] at r0
         rw [if_neg (by decide)] at r1 r2 r3
         have UX := D8.sz
         have hne : g ≠ w.heap.size := by omega
         have hne' : w.heap.size ≠ g := by omega
         have FIN := Lib.hid ((D8.more (K' := K + 4000) (by omega)).fin hbw (P := M.fewP) ⟨⟨by show T.length ≤ 30; omega, fun t ht => by have := hH.out.2.2 t ht; omega⟩, ⟨by show (ms ++ [(14, 5, 0, [])]).length ≤ 30; rw [List.length_append, List.length_singleton]; omega, fun y hy => by
          rcases List.mem_append.1 hy with h1 | h1
          · have := hms.out y h1; omega
          · rw [List.mem_singleton.1 h1]; show List.length ([] : List Int) ≤ 30; simp⟩, by show os.length ≤ 30; omega⟩)
         clear D8
         rw [← HX8.out]
         go_wp2
         refine bodyPost_ret (v := .agg #[.int .i64 i, .slice AT T.length cT, .slice A8 (ms.length + 1) c8, .slice AO os.length cO]) (by simp [results, Tryz.results65, go_sem, r0, r1, r2, r3, v0, v1, v2, v3, hne, hne']) rfl ?_
         exact FIN.out
  · have e0 : (q == 0) = false := by simp; omega
    have e1 : (q == 1) = false := by simp; omega
    have e2 : (q == 2) = false := by simp; omega
    have e3 : (q == 3) = false := by simp; omega
    have e4 : (q == 4) = false := by simp; omega
    have e5 : (q == 5) = false := by simp; omega
    have a0 := D6.p0
    have a1 := D6.p1
    have a2 := D6.p2
    have a3 := D6.p3
    have r0 := (D6.e 0 (by omega)).1
    have r1 := (D6.e 1 (by omega)).1
    have r2 := (D6.e 2 (by omega)).1
    have r3 := (D6.e 3 (by omega)).1
    have v0 := (D6.e 0 (by omega)).2
    have v1 := (D6.e 1 (by omega)).2
    have v2 := (D6.e 2 (by omega)).2
    have v3 := (D6.e 3 (by omega)).2
    rw [if_pos rfl] at r0
    rw [if_neg (by decide)] at r1 r2 r3
    have UX := D6.sz
    have hne : g ≠ w.heap.size := by omega
    have hne' : w.heap.size ≠ g := by omega
    have FIN := Lib.hid ((D6.more (K' := K + 4000) (by omega)).fin hbw (P := M.fewP) ⟨⟨by show T.length ≤ 30; omega, fun t ht => by have := hH.out.2.2 t ht; omega⟩, ⟨by show ns.length ≤ 30; omega, fun y hy => by have := hH.out.2.1 y hy; omega⟩, by show os.length ≤ 30; omega⟩)
    clear D6
    go_wp2
    refine bodyPost_ret (v := .agg #[.int .i64 i, .slice AT T.length cT, .slice AN ns.length cN, .slice AO os.length cO]) (by simp [results, Tryz.results65, go_sem, r0, r1, r2, r3, v0, v1, v2, v3, hne, hne']) rfl ?_
    exact FIN.out
end
section
open Go.RowKit
end
section
open Go.RowKit
end
section
open Go.RowKit Go.Lib
def zla {α : Type} (xs : List α) (i : Nat) (ys : List α) : List α := xs.take i ++ ys ++ xs.drop i
end
section
open Go.RowKit
def zd9 (a : Int) (p : Clip) : Bool := decide (a < p.2.2.2.1)
def zct (xs : List Clip) (a : Int) : Nat := (xs.findIdx? (zd9 a)).getD xs.length
def zby (xs : List Clip) (x : Clip) : List Clip := zla xs (zct xs x.2.2.2.1) [x]
theorem zqr {xs : List Clip} {a : Int} {k : Nat} {y : Clip} (hk : xs[k]? = some y) (hy : a < y.2.2.2.1) (h : ∀ j, j < k → ∀ z, xs[j]? = some z → z.2.2.2.1 ≤ a) : zct xs a = k := by
 unfold zct
 rw [zjq hk (by rw [zd9, decide_eq_true_iff]; exact hy) (fun j hj z hz => by rw [zd9, decide_eq_false_iff_not]; have := h j hj z hz; omega)]
 rfl
theorem zqs {xs : List Clip} {a : Int} (h : ∀ j, j < xs.length → ∀ z, xs[j]? = some z → z.2.2.2.1 ≤ a) : zct xs a = xs.length := by
 unfold zct
 rw [zjr (fun j hj z hz => by rw [zd9, decide_eq_false_iff_not]; have := h j hj z hz; omega)]
 rfl
end
section
open Go.RowKit
def zhk (xs : List Clip) : Prop := ∀ (i j : Nat) (y z : Clip), i ≤ j → xs[i]? = some y → xs[j]? = some z → y.2.2.2.1 ≤ z.2.2.2.1
theorem zlb {xs : List Clip} {a : Int} {k : Nat} (hs : zhk xs) (hk : k ≤ xs.length) (h : ∀ j, k ≤ j → ∀ z, xs[j]? = some z → a < z.2.2.2.1) (h1 : 0 < k → ∀ z, xs[k - 1]? = some z → z.2.2.2.1 ≤ a) : zct xs a = k := by
 have hlow : ∀ j, j < k → ∀ z, xs[j]? = some z → z.2.2.2.1 ≤ a := by
  intro j hj z hz
  have hlt : k - 1 < xs.length := by omega
  have h2 := h1 (by omega) _ (List.getElem?_eq_getElem hlt)
  exact Int.le_trans (hs j (k - 1) z _ (by omega) hz (List.getElem?_eq_getElem hlt)) h2
 rcases Nat.lt_or_ge k xs.length with hlt | hge
 · exact zqr (List.getElem?_eq_getElem hlt) (h k (Nat.le_refl _) _ (List.getElem?_eq_getElem hlt)) hlow
 · obtain rfl : k = xs.length := by omega
   exact zqs hlow
theorem zqt (a : Addr) : a.add 0 = a := by
 unfold Addr.add
 rcases a with ⟨b, o, sp⟩
 cases sp <;> simp
theorem zqu (A : Option Addr) (n c : Nat) (xs : List Clip) (x0 x1 x2 x3 x4 : Int) (w : World) (hx : RA cl 5 w w.heap.size A n xs) (hn : n ≤ 100000000) (hc : n ≤ c) (hm : c ≤ maxLen) (hso : zhk xs) :
 Calls Tryz.prog 107 #[.slice A n c, .agg #[.int .i64 x0, .int .i64 x1, .int .i64 x2, .int .i64 x3, .int .i64 x4]] w fun e w' => ∃ v, e = .returned (.tuple #[v, .int .i64 (zct xs x3)]) ∧ OA cl 64 5 w.heap.size w'.heap.size w' v (zby xs (x0, x1, x2, x3, x4)) ∧ Below w.heap.size w w' := by
 have hl := Lib.hid hx.len
 unfold maxLen at hm
 obtain ⟨W0, hW0⟩ : ∃ W0, W0 = w.alloc (.cells #[.int .i64 x0, .int .i64 x1, .int .i64 x2, .int .i64 x3, .int .i64 x4] 64) := ⟨_, rfl⟩
 have hb0 : Below w.heap.size w W0 := by rw [hW0]; exact (Below.refl _ _).alloc (Nat.le_refl _) _
 have hs0 : W0.heap.size = w.heap.size + 1 := by rw [hW0]; simp
 have c10 : W0.cell? ⟨w.heap.size, 0, none⟩ = some (.int .i64 x0) := by rw [hW0, cell_of_row _ w.heap.size 0 _ 64 (0, 0) (heap_alloc_new w _)]; rfl
 have c11 : W0.cell? ⟨w.heap.size, 1, none⟩ = some (.int .i64 x1) := by rw [hW0, cell_of_row _ w.heap.size 1 _ 64 (0, 0) (heap_alloc_new w _)]; rfl
 have c12 : W0.cell? ⟨w.heap.size, 2, none⟩ = some (.int .i64 x2) := by rw [hW0, cell_of_row _ w.heap.size 2 _ 64 (0, 0) (heap_alloc_new w _)]; rfl
 have c13 : W0.cell? ⟨w.heap.size, 3, none⟩ = some (.int .i64 x3) := by rw [hW0, cell_of_row _ w.heap.size 3 _ 64 (0, 0) (heap_alloc_new w _)]; rfl
 have c14 : W0.cell? ⟨w.heap.size, 4, none⟩ = some (.int .i64 x4) := by rw [hW0, cell_of_row _ w.heap.size 4 _ 64 (0, 0) (heap_alloc_new w _)]; rfl
 have HW0 := Lib.hid hW0
 have HSO := Lib.hid hso
 clear hW0 hso
 go_enter Tryz.func107, Tryz.ntmps107
 go_wp2
 rw [← HW0.out]
 go_loopw [6] (fun i wr => ∃ k : Nat, i = .int .i64 k ∧ k ≤ n ∧ Hid (∀ j, k ≤ j → ∀ z, xs[j]? = some z → x3 < z.2.2.2.1) ∧ Below W0.heap.size W0 wr) (fun i _ => (intOf i).toNat)
 case atStart => exact ⟨n, rfl, Nat.le_refl _, Lib.hid (fun j hj z hz => by have := (List.getElem?_eq_some_iff.1 hz).1; have := hl.out; omega), Below.refl _ _⟩
 case round =>
  obtain ⟨k, rfl, hk, H, hb⟩ := hrel
  have hbb : Below w.heap.size w wr := hb0.trans (hb.mono (by omega))
  have hsz := hb.size
  rw [hs0] at hsz
  have d1 : wr.cell? ⟨w.heap.size, 3, none⟩ = some (.int .i64 x3) := by rw [hb.cell (by simp; omega)]; exact c13
  by_cases hlt : 0 < k
  · obtain ⟨b, o, ⟨p0, p1, p2, p3, p4⟩, rfl, hab, X, hcc⟩ := (hx.below hbb).at zc8 (by decide) (k := k - 1) (by omega)
    have hc3 : wr.cell? ⟨b, o + (k - 1) * 5 + 3, none⟩ = some (.int .i64 p3) := hcc 3 _ rfl
    clear hcc
    have hkk : IntKind.i64.wrap ((k : Int) - 1) = ((k - 1 : Nat) : Int) := by rw [IntWalk.i64_in _ (by omega)]; omega
    have hbr : b < wr.heap.size := Nat.lt_of_lt_of_le hab hbb.size
    have hd0 : decide (0 < k) = true := by simpa using hlt
    by_cases hle : x3 < p3
    · have H2 : Hid (∀ j, k - 1 ≤ j → ∀ z, xs[j]? = some z → x3 < z.2.2.2.1) := fun j hj z hz => by
       rcases Nat.lt_or_ge j k with h | h
       · obtain rfl : j = k - 1 := by omega
         rw [X.out] at hz
         injection hz with hz
         subst hz
         exact hle
       · exact H.out j h z hz
      have hd1 : decide (x3 < p3) = true := by simpa using hle
      go_wp2
      go_quiet (fail)
      go_wp2
      go_roundw
      case rel => exact ⟨k - 1, by first | rfl | go_num | (rw [hkk]), by omega, H2, zac hb _⟩
      case measure => first | go_num | omega | (simp only [intOf]; omega)
    · have hd1 : decide (x3 < p3) = false := by simpa using hle
      have hK := Lib.hid (zlb HSO.out (by have := hl.out; omega) H.out (fun _ z hz => by rw [X.out] at hz; injection hz with hz; subst hz; exact (by omega : p3 ≤ x3)))
      clear hkk
      go_wp2
      go_quiet (fail)
      obtain ⟨wq, hwq⟩ : ∃ wq : World, wq = wr.drewN nq := ⟨_, rfl⟩
      have bq : Below w.heap.size w wq := by rw [hwq]; exact zac hbb _
      have bq0 : Below W0.heap.size W0 wq := by rw [hwq]; exact zac hb _
      have sq : w.heap.size + 1 ≤ wq.heap.size := by have := bq0.size; omega
      have t10 : wq.cell? ⟨w.heap.size, 0, none⟩ = some (.int .i64 x0) := by rw [bq0.cell (by simp; omega)]; exact c10
      have t11 : wq.cell? ⟨w.heap.size, 1, none⟩ = some (.int .i64 x1) := by rw [bq0.cell (by simp; omega)]; exact c11
      have t12 : wq.cell? ⟨w.heap.size, 2, none⟩ = some (.int .i64 x2) := by rw [bq0.cell (by simp; omega)]; exact c12
      have t13 : wq.cell? ⟨w.heap.size, 3, none⟩ = some (.int .i64 x3) := by rw [bq0.cell (by simp; omega)]; exact c13
      have t14 : wq.cell? ⟨w.heap.size, 4, none⟩ = some (.int .i64 x4) := by rw [bq0.cell (by simp; omega)]; exact c14
      have hP := Lib.hid (show zby xs (x0, x1, x2, x3, x4) = xs.take k ++ [(x0, x1, x2, x3, x4)] ++ xs.drop k by rw [zby, hK.out]; rfl)
      have h0 : (wq.alloc (.cells #[] 64)).ownsRow wq.heap.size 64 5 (.slice (some ⟨wq.heap.size, 0, none⟩) 0 0) 0 [] := World.ownsRow_made _ _ _ (Nat.le_refl _) (by simp [maxLen]) rfl
      have hba : Below wq.heap.size wq (wq.alloc (.cells #[] 64)) := (Below.refl _ _).alloc (Nat.le_refl _) _
      have bw0 := zaa bq hba
      have r1 := (hx.head zc8 hk).reads.below bw0
      have r2 := (hx.cut zc8 (k := k) hk hc).reads
      have fin : ∀ v (w2 : World), w2.ownsRow wq.heap.size 64 5 v (k + 1 + (n - k)) (((xs.take k).flatMap cl ++ cl (x0, x1, x2, x3, x4)) ++ (xs.drop k).flatMap cl) → OA cl 64 5 w.heap.size w2.heap.size w2 v (zby xs (x0, x1, x2, x3, x4)) := by
       intro v w2 h
       have e1 : ((xs.take k).flatMap cl ++ cl (x0, x1, x2, x3, x4)) ++ (xs.drop k).flatMap cl = (zby xs (x0, x1, x2, x3, x4)).flatMap cl := by rw [hP.out, List.flatMap_append, List.flatMap_append, List.flatMap_cons, List.flatMap_nil, List.append_nil]
       have e2 : (zby xs (x0, x1, x2, x3, x4)).length = k + 1 + (n - k) := by rw [hP.out, List.length_append, List.length_append, List.length_take, List.length_drop, hl.out, Nat.min_eq_left hk]; rfl
       unfold OA
       rw [e2]
       rw [e1] at h
       exact (OX.of_own h).wide (by omega) (Nat.le_refl _)
      have FIN := Lib.hid fin
      rw [← hwq]
      clear fin hwq hP
      by_cases hck : c = k
      · rw [if_pos hck] at r2
        subst hck
        obtain rfl : n = c := by omega
        rw [Nat.sub_self] at r2 FIN
        have tok1 : True := trivial
        go_wp2_with (first | (at_builtin; have _t := tok1; refine zcj zcp rfl _ _ rfl h0 rfl r1 rfl (zd4 _) (by unfold maxLen; omega) (by omega) hba.size ?_; intro v1 w1 own1 gr1 bel1; rw [Nat.zero_add, List.nil_append] at own1; obtain ⟨A1, c1', rfl, -⟩ := zbr own1; have hb1 := hba.trans bel1; have s1 := hb1.size; have k10 : w1.cell? ⟨w.heap.size, 0, none⟩ = some (.int .i64 x0) := (by rw [hb1.cell (by simp; omega)]; exact t10); have k11 : w1.cell? ⟨w.heap.size, 1, none⟩ = some (.int .i64 x1) := (by rw [hb1.cell (by simp; omega)]; exact t11); have k12 : w1.cell? ⟨w.heap.size, 2, none⟩ = some (.int .i64 x2) := (by rw [hb1.cell (by simp; omega)]; exact t12); have k13 : w1.cell? ⟨w.heap.size, 3, none⟩ = some (.int .i64 x3) := (by rw [hb1.cell (by simp; omega)]; exact t13); have k14 : w1.cell? ⟨w.heap.size, 4, none⟩ = some (.int .i64 x4) := (by rw [hb1.cell (by simp; omega)]; exact t14); clear tok1 _t) | (at_builtin; have _t := own1; refine zfg zcp #[.int .i64 x0, .int .i64 x1, .int .i64 x2, .int .i64 x3, .int .i64 x4] rfl _ _ rfl own1 rfl rfl rfl (by simp [Value.oneCell']) (by unfold maxLen; omega) (by omega) hb1.size ?_; intro v2 w2 own2 gr2 bel2; obtain ⟨A2, c2', rfl, -⟩ := zbr own2; have hb2 := hb1.trans bel2; clear own1 _t) | (at_builtin; refine zcj zcp rfl _ _ rfl own2 rfl (r2.below (zaa bq hb2)) rfl (zd4 _) (by unfold maxLen; omega) (by omega) hb2.size ?_; intro v3 w3 own3 gr3 bel3))
        refine bodyPost_ret (v := .tuple #[v3, .int .i64 n]) (by simp [results, Tryz.results107, go_sem]) rfl ?_
        rw [hK.out]
        exact ⟨_, rfl, FIN.out _ _ own3, zaa bq (hb2.trans bel3)⟩
      · rw [if_neg hck, Option.map_some, Addr.add_lit] at r2
        have tok1 : True := trivial
        go_wp2_with (first | (at_builtin; have _t := tok1; refine zcj zcp rfl _ _ rfl h0 rfl r1 rfl (zd4 _) (by unfold maxLen; omega) (by omega) hba.size ?_; intro v1 w1 own1 gr1 bel1; rw [Nat.zero_add, List.nil_append] at own1; obtain ⟨A1, c1', rfl, -⟩ := zbr own1; have hb1 := hba.trans bel1; have s1 := hb1.size; have k10 : w1.cell? ⟨w.heap.size, 0, none⟩ = some (.int .i64 x0) := (by rw [hb1.cell (by simp; omega)]; exact t10); have k11 : w1.cell? ⟨w.heap.size, 1, none⟩ = some (.int .i64 x1) := (by rw [hb1.cell (by simp; omega)]; exact t11); have k12 : w1.cell? ⟨w.heap.size, 2, none⟩ = some (.int .i64 x2) := (by rw [hb1.cell (by simp; omega)]; exact t12); have k13 : w1.cell? ⟨w.heap.size, 3, none⟩ = some (.int .i64 x3) := (by rw [hb1.cell (by simp; omega)]; exact t13); have k14 : w1.cell? ⟨w.heap.size, 4, none⟩ = some (.int .i64 x4) := (by rw [hb1.cell (by simp; omega)]; exact t14); clear tok1 _t) | (at_builtin; have _t := own1; refine zfg zcp #[.int .i64 x0, .int .i64 x1, .int .i64 x2, .int .i64 x3, .int .i64 x4] rfl _ _ rfl own1 rfl rfl rfl (by simp [Value.oneCell']) (by unfold maxLen; omega) (by omega) hb1.size ?_; intro v2 w2 own2 gr2 bel2; obtain ⟨A2, c2', rfl, -⟩ := zbr own2; have hb2 := hb1.trans bel2; clear own1 _t) | (at_builtin; refine zcj zcp rfl _ _ rfl own2 rfl (r2.below (zaa bq hb2)) rfl (zd4 _) (by unfold maxLen; omega) (by omega) hb2.size ?_; intro v3 w3 own3 gr3 bel3))
        refine bodyPost_ret (v := .tuple #[v3, .int .i64 k]) (by simp [results, Tryz.results107, go_sem]) rfl ?_
        rw [hK.out]
        exact ⟨_, rfl, FIN.out _ _ own3, zaa bq (hb2.trans bel3)⟩
  · have hd0 : decide (0 < k) = false := by simpa using hlt
    have hK := Lib.hid (zlb HSO.out (by have := hl.out; omega) H.out (fun h => absurd h hlt))
    go_wp2
    go_quiet (fail)
    obtain ⟨wq, hwq⟩ : ∃ wq : World, wq = wr.drewN nq := ⟨_, rfl⟩
    have bq : Below w.heap.size w wq := by rw [hwq]; exact zac hbb _
    have bq0 : Below W0.heap.size W0 wq := by rw [hwq]; exact zac hb _
    have sq : w.heap.size + 1 ≤ wq.heap.size := by have := bq0.size; omega
    have t10 : wq.cell? ⟨w.heap.size, 0, none⟩ = some (.int .i64 x0) := by rw [bq0.cell (by simp; omega)]; exact c10
    have t11 : wq.cell? ⟨w.heap.size, 1, none⟩ = some (.int .i64 x1) := by rw [bq0.cell (by simp; omega)]; exact c11
    have t12 : wq.cell? ⟨w.heap.size, 2, none⟩ = some (.int .i64 x2) := by rw [bq0.cell (by simp; omega)]; exact c12
    have t13 : wq.cell? ⟨w.heap.size, 3, none⟩ = some (.int .i64 x3) := by rw [bq0.cell (by simp; omega)]; exact c13
    have t14 : wq.cell? ⟨w.heap.size, 4, none⟩ = some (.int .i64 x4) := by rw [bq0.cell (by simp; omega)]; exact c14
    have hP := Lib.hid (show zby xs (x0, x1, x2, x3, x4) = xs.take k ++ [(x0, x1, x2, x3, x4)] ++ xs.drop k by rw [zby, hK.out]; rfl)
    have h0 : (wq.alloc (.cells #[] 64)).ownsRow wq.heap.size 64 5 (.slice (some ⟨wq.heap.size, 0, none⟩) 0 0) 0 [] := World.ownsRow_made _ _ _ (Nat.le_refl _) (by simp [maxLen]) rfl
    have hba : Below wq.heap.size wq (wq.alloc (.cells #[] 64)) := (Below.refl _ _).alloc (Nat.le_refl _) _
    have bw0 := zaa bq hba
    have r1 := (hx.head zc8 hk).reads.below bw0
    have r2 := (hx.cut zc8 (k := k) hk hc).reads
    have fin : ∀ v (w2 : World), w2.ownsRow wq.heap.size 64 5 v (k + 1 + (n - k)) (((xs.take k).flatMap cl ++ cl (x0, x1, x2, x3, x4)) ++ (xs.drop k).flatMap cl) → OA cl 64 5 w.heap.size w2.heap.size w2 v (zby xs (x0, x1, x2, x3, x4)) := by
     intro v w2 h
     have e1 : ((xs.take k).flatMap cl ++ cl (x0, x1, x2, x3, x4)) ++ (xs.drop k).flatMap cl = (zby xs (x0, x1, x2, x3, x4)).flatMap cl := by rw [hP.out, List.flatMap_append, List.flatMap_append, List.flatMap_cons, List.flatMap_nil, List.append_nil]
     have e2 : (zby xs (x0, x1, x2, x3, x4)).length = k + 1 + (n - k) := by rw [hP.out, List.length_append, List.length_append, List.length_take, List.length_drop, hl.out, Nat.min_eq_left hk]; rfl
     unfold OA
     rw [e2]
     rw [e1] at h
     exact (OX.of_own h).wide (by omega) (Nat.le_refl _)
    have FIN := Lib.hid fin
    rw [← hwq]
    clear fin hwq hP
    obtain rfl : k = 0 := by omega
    rcases A with _ | ad
    · have r2 : Reads w w.heap.size 5 none (n - 0) ((xs.drop 0).flatMap cl) := by simpa using r2
      have tok1 : True := trivial
      go_wp2_with (first | (at_builtin; have _t := tok1; refine zcj zcp rfl _ _ rfl h0 rfl r1 rfl (zd4 _) (by unfold maxLen; omega) (by omega) hba.size ?_; intro v1 w1 own1 gr1 bel1; rw [Nat.zero_add, List.nil_append] at own1; obtain ⟨A1, c1', rfl, -⟩ := zbr own1; have hb1 := hba.trans bel1; have s1 := hb1.size; have k10 : w1.cell? ⟨w.heap.size, 0, none⟩ = some (.int .i64 x0) := (by rw [hb1.cell (by simp; omega)]; exact t10); have k11 : w1.cell? ⟨w.heap.size, 1, none⟩ = some (.int .i64 x1) := (by rw [hb1.cell (by simp; omega)]; exact t11); have k12 : w1.cell? ⟨w.heap.size, 2, none⟩ = some (.int .i64 x2) := (by rw [hb1.cell (by simp; omega)]; exact t12); have k13 : w1.cell? ⟨w.heap.size, 3, none⟩ = some (.int .i64 x3) := (by rw [hb1.cell (by simp; omega)]; exact t13); have k14 : w1.cell? ⟨w.heap.size, 4, none⟩ = some (.int .i64 x4) := (by rw [hb1.cell (by simp; omega)]; exact t14); clear tok1 _t) | (at_builtin; have _t := own1; refine zfg zcp #[.int .i64 x0, .int .i64 x1, .int .i64 x2, .int .i64 x3, .int .i64 x4] rfl _ _ rfl own1 rfl rfl rfl (by simp [Value.oneCell']) (by unfold maxLen; omega) (by omega) hb1.size ?_; intro v2 w2 own2 gr2 bel2; obtain ⟨A2, c2', rfl, -⟩ := zbr own2; have hb2 := hb1.trans bel2; clear own1 _t) | (at_builtin; refine zcj zcp rfl _ _ rfl own2 rfl (r2.below (zaa bq hb2)) rfl (zd4 _) (by unfold maxLen; omega) (by omega) hb2.size ?_; intro v3 w3 own3 gr3 bel3))
      refine bodyPost_ret (v := .tuple #[v3, .int .i64 0]) (by simp [results, Tryz.results107, go_sem]) rfl ?_
      rw [hK.out]
      exact ⟨_, rfl, FIN.out _ _ own3, zaa bq (hb2.trans bel3)⟩
    · by_cases hck : c = 0
      · rw [if_pos hck] at r2
        subst hck
        obtain rfl : n = 0 := by omega
        rw [Nat.sub_self] at r2 FIN
        have tok1 : True := trivial
        go_wp2_with (first | (at_builtin; have _t := tok1; refine zcj zcp rfl _ _ rfl h0 rfl r1 rfl (zd4 _) (by unfold maxLen; omega) (by omega) hba.size ?_; intro v1 w1 own1 gr1 bel1; rw [Nat.zero_add, List.nil_append] at own1; obtain ⟨A1, c1', rfl, -⟩ := zbr own1; have hb1 := hba.trans bel1; have s1 := hb1.size; have k10 : w1.cell? ⟨w.heap.size, 0, none⟩ = some (.int .i64 x0) := (by rw [hb1.cell (by simp; omega)]; exact t10); have k11 : w1.cell? ⟨w.heap.size, 1, none⟩ = some (.int .i64 x1) := (by rw [hb1.cell (by simp; omega)]; exact t11); have k12 : w1.cell? ⟨w.heap.size, 2, none⟩ = some (.int .i64 x2) := (by rw [hb1.cell (by simp; omega)]; exact t12); have k13 : w1.cell? ⟨w.heap.size, 3, none⟩ = some (.int .i64 x3) := (by rw [hb1.cell (by simp; omega)]; exact t13); have k14 : w1.cell? ⟨w.heap.size, 4, none⟩ = some (.int .i64 x4) := (by rw [hb1.cell (by simp; omega)]; exact t14); clear tok1 _t) | (at_builtin; have _t := own1; refine zfg zcp #[.int .i64 x0, .int .i64 x1, .int .i64 x2, .int .i64 x3, .int .i64 x4] rfl _ _ rfl own1 rfl rfl rfl (by simp [Value.oneCell']) (by unfold maxLen; omega) (by omega) hb1.size ?_; intro v2 w2 own2 gr2 bel2; obtain ⟨A2, c2', rfl, -⟩ := zbr own2; have hb2 := hb1.trans bel2; clear own1 _t) | (at_builtin; refine zcj zcp rfl _ _ rfl own2 rfl (r2.below (zaa bq hb2)) rfl (zd4 _) (by unfold maxLen; omega) (by omega) hb2.size ?_; intro v3 w3 own3 gr3 bel3))
        refine bodyPost_ret (v := .tuple #[v3, .int .i64 0]) (by simp [results, Tryz.results107, go_sem]) rfl ?_
        rw [hK.out]
        exact ⟨_, rfl, FIN.out _ _ own3, zaa bq (hb2.trans bel3)⟩
      · rw [if_neg hck, Option.map_some] at r2
        have r2 : Reads w w.heap.size 5 (some ad) (n - 0) ((xs.drop 0).flatMap cl) := by rw [Nat.zero_mul] at r2; rwa [show ad.add 0 = ad from zqt _] at r2
        have tok1 : True := trivial
        go_wp2_with (first | (at_builtin; have _t := tok1; refine zcj zcp rfl _ _ rfl h0 rfl r1 rfl (zd4 _) (by unfold maxLen; omega) (by omega) hba.size ?_; intro v1 w1 own1 gr1 bel1; rw [Nat.zero_add, List.nil_append] at own1; obtain ⟨A1, c1', rfl, -⟩ := zbr own1; have hb1 := hba.trans bel1; have s1 := hb1.size; have k10 : w1.cell? ⟨w.heap.size, 0, none⟩ = some (.int .i64 x0) := (by rw [hb1.cell (by simp; omega)]; exact t10); have k11 : w1.cell? ⟨w.heap.size, 1, none⟩ = some (.int .i64 x1) := (by rw [hb1.cell (by simp; omega)]; exact t11); have k12 : w1.cell? ⟨w.heap.size, 2, none⟩ = some (.int .i64 x2) := (by rw [hb1.cell (by simp; omega)]; exact t12); have k13 : w1.cell? ⟨w.heap.size, 3, none⟩ = some (.int .i64 x3) := (by rw [hb1.cell (by simp; omega)]; exact t13); have k14 : w1.cell? ⟨w.heap.size, 4, none⟩ = some (.int .i64 x4) := (by rw [hb1.cell (by simp; omega)]; exact t14); clear tok1 _t) | (at_builtin; have _t := own1; refine zfg zcp #[.int .i64 x0, .int .i64 x1, .int .i64 x2, .int .i64 x3, .int .i64 x4] rfl _ _ rfl own1 rfl rfl rfl (by simp [Value.oneCell']) (by unfold maxLen; omega) (by omega) hb1.size ?_; intro v2 w2 own2 gr2 bel2; obtain ⟨A2, c2', rfl, -⟩ := zbr own2; have hb2 := hb1.trans bel2; clear own1 _t) | (at_builtin; refine zcj zcp rfl _ _ rfl own2 rfl (r2.below (zaa bq hb2)) rfl (zd4 _) (by unfold maxLen; omega) (by omega) hb2.size ?_; intro v3 w3 own3 gr3 bel3))
        refine bodyPost_ret (v := .tuple #[v3, .int .i64 0]) (by simp [results, Tryz.results107, go_sem]) rfl ?_
        rw [hK.out]
        exact ⟨_, rfl, FIN.out _ _ own3, zaa bq (hb2.trans bel3)⟩
end
section
open Go.RowKit
theorem zqv {xs : List Clip} (h : zau xs = true) {k : Nat} {y z : Clip} (hy : xs[k]? = some y) (hz : xs[k + 1]? = some z) : y.2.2.2.1 ≤ z.2.2.2.1 := by
 rw [zau, Bool.and_eq_true, List.all_eq_true] at h
 have h1 := h.1 (k + 1) (List.mem_range.2 (List.getElem?_eq_some_iff.1 hz).1)
 rw [zb9, Bool.and_eq_true] at h1
 have h2 := h1.2
 rw [zee, hz, Nat.add_sub_cancel, hy] at h2
 simpa using h2
theorem zqw {xs : List Clip} (h : zau xs = true) : zhk xs := by
 intro i j
 induction j with
 | zero =>
  intro y z hij hy hz
  obtain rfl : i = 0 := by omega
  rw [hy] at hz
  injection hz with hz
  subst hz
  exact Int.le_refl _
 | succ j ih =>
  intro y z hij hy hz
  rcases Nat.lt_or_ge i (j + 1) with hlt | hge
  · have hj : j < xs.length := by have := (List.getElem?_eq_some_iff.1 hz).1; omega
    exact Int.le_trans (ih y _ (by omega) hy (List.getElem?_eq_getElem hj)) (zqv h (List.getElem?_eq_getElem hj) hz)
  · obtain rfl : i = j + 1 := by omega
    rw [hy] at hz
    injection hz with hz
    subst hz
    exact Int.le_refl _
end
section
open Go.RowKit
abbrev zev (y z : Clip) : Prop := y.2.2.2.1 ≤ z.2.2.2.1
theorem zlc (xs : List Clip) : zhk xs ↔ xs.Pairwise zev := by
 rw [List.pairwise_iff_getElem]
 constructor
 · intro h i j hi hj hij
   exact h i j _ _ (by omega) (List.getElem?_eq_getElem hi) (List.getElem?_eq_getElem hj)
 · intro h i j y z hij hy hz
   obtain ⟨hi, rfl⟩ := List.getElem?_eq_some_iff.1 hy
   obtain ⟨hj, rfl⟩ := List.getElem?_eq_some_iff.1 hz
   rcases Nat.lt_or_ge i j with hlt | hge
   · exact h i j hi hj hlt
   · obtain rfl : i = j := by omega
     exact Int.le_refl _
theorem zld (xs : List Clip) : zau xs = true ↔ (∀ c ∈ xs, zbs c = true) ∧ xs.Pairwise zev ∧ xs.length ≤ 12 := by
 constructor
 · intro h
   refine ⟨fun c hc => ?_, (zlc xs).1 (zqw h), zjs h⟩
   obtain ⟨i, hi, rfl⟩ := List.getElem_of_mem hc
   exact zh7 h (List.getElem?_eq_getElem hi)
 · rintro ⟨h1, h2, h3⟩
   rw [zau, Bool.and_eq_true, decide_eq_true_iff, List.all_eq_true]
   refine ⟨fun k hk => ?_, h3⟩
   have hk := List.mem_range.1 hk
   rw [zb9, Bool.and_eq_true, List.getElem?_eq_getElem hk]
   refine ⟨h1 _ (List.getElem_mem hk), ?_⟩
   rw [zee, Bool.or_eq_true]
   by_cases h0 : k = 0
   · left; simp [h0]
   · right
     rw [List.getElem?_eq_getElem hk, List.getElem?_eq_getElem (by omega)]
     have := List.pairwise_iff_getElem.1 h2 (k - 1) k (by omega) hk (by omega)
     simpa using this
theorem zle (xs : List Clip) (x : Clip) : zby xs x = xs.take (zct xs x.2.2.2.1) ++ x :: xs.drop (zct xs x.2.2.2.1) := by
 simp [zby, zla]
theorem zqx {xs : List Clip} {a : Int} {y : Clip} (h : y ∈ xs.take (zct xs a)) : y.2.2.2.1 ≤ a := by
 obtain ⟨i, hi, rfl⟩ := List.getElem_of_mem h
 rw [List.getElem_take]
 rw [List.length_take] at hi
 unfold zct at hi
 cases hf : xs.findIdx? (zd9 a) with
 | none =>
  rw [List.findIdx?_eq_none_iff] at hf
  have := hf (xs[i]'(by omega)) (List.getElem_mem _)
  rw [zd9, decide_eq_false_iff_not] at this
  omega
 | some k =>
  rw [hf] at hi
  simp only [Option.getD_some] at hi
  rw [List.findIdx?_eq_some_iff_getElem] at hf
  have := hf.2.2 i (by omega)
  rw [zd9, decide_eq_true_iff] at this
  omega
theorem zlf {xs : List Clip} {a : Int} {y : Clip} (hs : xs.Pairwise zev) (h : y ∈ xs.drop (zct xs a)) : a < y.2.2.2.1 := by
 obtain ⟨i, hi, rfl⟩ := List.getElem_of_mem h
 rw [List.getElem_drop]
 rw [List.length_drop] at hi
 obtain ⟨k, hk⟩ : ∃ k, zct xs a = k := ⟨_, rfl⟩
 simp only [hk] at hi ⊢
 have hf : xs.findIdx? (zd9 a) = some k := by
  unfold zct at hk
  cases hf : xs.findIdx? (zd9 a) with
  | none => rw [hf] at hk; simp at hk; omega
  | some q => rw [hf] at hk; simp at hk; rw [hk]
 rw [List.findIdx?_eq_some_iff_getElem] at hf
 obtain ⟨hk2, h1, _⟩ := hf
 rw [zd9, decide_eq_true_iff] at h1
 by_cases h0 : i = 0
 · subst h0; exact h1
 · have := List.pairwise_iff_getElem.1 hs k (k + i) hk2 (by omega) (by omega)
   unfold zev at this
   omega
theorem zqy {xs : List Clip} (x : Clip) (hs : xs.Pairwise zev) : (zby xs x).Pairwise zev := by
 rw [zle, List.pairwise_append]
 refine ⟨hs.sublist (List.take_sublist _ _), ?_, ?_⟩
 · rw [List.pairwise_cons]
   exact ⟨fun y hy => Int.le_of_lt (zlf hs hy), hs.sublist (List.drop_sublist _ _)⟩
 · intro y hy z hz
   have h1 := zqx hy
   rcases List.mem_cons.1 hz with rfl | hz
   · exact h1
   · have := zlf hs hz
     unfold zev
     omega
theorem zlg (xs : List Clip) (x : Clip) : (zby xs x).Perm (x :: xs) := by
 rw [zle]
 refine List.perm_middle.trans (List.Perm.cons _ ?_)
 rw [List.take_append_drop]
theorem zlh (xs : List Clip) (x : Clip) : (zby xs x).length = xs.length + 1 := by rw [(zlg xs x).length_eq, List.length_cons]
theorem zqz {xs : List Clip} {x y : Clip} : y ∈ zby xs x ↔ y = x ∨ y ∈ xs := by rw [(zlg xs x).mem_iff, List.mem_cons]
end
section
open Go.RowKit
end
section
open Go.RowKit
structure DT (w : World) (b lo : Nat) (A : Option Addr) (n c : Nat) (code : List UInt8) (K : Nat) (xs : List Clip) (A1 : Option Addr) (c1 : Nat) (wr : World) : Prop where
 c0 : wr.cell? ⟨w.heap.size, 0, none⟩ = some (.slice none 0 0)
 f0 : wr.frozen? ⟨w.heap.size, 0, none⟩ = false
 own : OA cl 64 5 (w.heap.size + 1) wr.heap.size wr (.slice A1 xs.length c1) xs
 src : Src wr b lo A n c code K
 mid : Mid b (b + 1) w wr
 sz : w.heap.size + 1 ≤ wr.heap.size
theorem DT.step {w wr w' : World} {b lo : Nat} {A A1 : Option Addr} {n c c1 : Nat} {code : List UInt8} {K K' : Nat} {xs : List Clip} (h : DT w b lo A n c code K xs A1 c1 wr) (hb : b < w.heap.size) (hs : Src w' b lo A n c code K') (hm : Mid b (b + 1) wr w') : DT w b lo A n c code K' xs A1 c1 w' :=
 have hz := h.sz
 ⟨hm.cellK (by omega) (.inr (by omega)) h.c0, hm.frozK (by omega) (.inr (by omega)) h.f0,
  (h.own.mid hm (.inr (by omega)) (Nat.le_refl _)).wide (Nat.le_refl _) hm.size, hs, h.mid.trans hm, Nat.le_trans hz hm.size⟩
theorem DT.more {w wr : World} {b lo : Nat} {A A1 : Option Addr} {n c c1 : Nat} {code : List UInt8} {K K' : Nat} {xs : List Clip} (h : DT w b lo A n c code K xs A1 c1 wr) (hK : K ≤ K') : DT w b lo A n c code K' xs A1 c1 wr :=
 ⟨h.c0, h.f0, h.own, h.src.more hK, h.mid, h.sz⟩
end
section
open Go.RowKit
def zej (m : Nat) (xs : List Clip) : Prop := (∀ c ∈ xs, zbs c = true ∧ 0 ≤ c.1 ∧ c.1 < m) ∧ xs.Pairwise zev
theorem zq0 (m : Nat) : zej m [] := ⟨by simp, by simp⟩
theorem zq1 {m : Nat} {xs : List Clip} {x : Clip} (h : zej m xs) (hx : zbs x = true ∧ 0 ≤ x.1 ∧ x.1 < m) : zej m (zby xs x) :=
 ⟨fun c hc => by
  rcases zqz.1 hc with rfl | hc
  · exact hx
  · exact h.1 c hc, zqy x h.2⟩
theorem zli {m : Nat} {xs : List Clip} (h : zej m xs) (hl : xs.length ≤ 12) : zau xs = true := (zld xs).2 ⟨fun c hc => (h.1 c hc).1, h.2, hl⟩
theorem zq2 {m : Nat} {xs : List Clip} (h : zej m xs) : zbe xs m = true := by
 rw [zbe, List.all_eq_true]
 intro c hc
 have := (h.1 c hc).2
 simp
 omega
theorem zq3 (A : Option Addr) (n c : Nat) (xs : List Clip) (p0 p1 p2 p3 p4 : Int) (w : World) (hx : RA cl 5 w w.heap.size A n xs) (hc : n ≤ c) (hm : c ≤ maxLen) (hok : zau xs = true) (hcl : zbs (p0, p1, p2, p3, p4) = true) (hn : n ≤ 11) :
 Calls Tryz.prog 79 #[.agg #[.slice A n c], .agg #[.int .i64 p0, .int .i64 p1, .int .i64 p2, .int .i64 p3, .int .i64 p4]] w fun e w' => ∃ A' c', e = .returned (.tuple #[.agg #[.slice A' (n + 1) c'], .int .i64 (zct xs p3), .int .i64 0]) ∧ OA cl 64 5 w.heap.size w'.heap.size w' (.slice A' (n + 1) c') (zby xs (p0, p1, p2, p3, p4)) ∧ Below w.heap.size w w' := by
 have hl := Lib.hid hx.len
 have hpl := Lib.hid (show (zby xs (p0, p1, p2, p3, p4)).length = n + 1 by rw [zlh, hl.out])
 obtain ⟨W, hW⟩ : ∃ W, W = ((w.alloc (.cells #[.slice A n c] 42)).alloc (.cells #[.int .i64 p0, .int .i64 p1, .int .i64 p2, .int .i64 p3, .int .i64 p4] 64)).alloc (.cells #[.slice none 0 0] 42) := ⟨_, rfl⟩
 have B0 : Below w.heap.size w W := by rw [hW]; exact (((Below.refl _ _).alloc (Nat.le_refl _) _).alloc (by simp) _).alloc (by simp; omega) _
 have z0 : w.heap.size + 1 + 1 < W.heap.size := by rw [hW]; simp
 have c0 : W.cell? ⟨w.heap.size, 0, none⟩ = some (.slice A n c) := by rw [hW]; simp [go_sem]
 have d0 : W.cell? ⟨w.heap.size + 1, 0, none⟩ = some (.int .i64 p0) := by rw [hW]; simp [go_sem]
 have d1 : W.cell? ⟨w.heap.size + 1, 1, none⟩ = some (.int .i64 p1) := by rw [hW]; simp [go_sem]
 have d2 : W.cell? ⟨w.heap.size + 1, 2, none⟩ = some (.int .i64 p2) := by rw [hW]; simp [go_sem]
 have d3 : W.cell? ⟨w.heap.size + 1, 3, none⟩ = some (.int .i64 p3) := by rw [hW]; simp [go_sem]
 have d4 : W.cell? ⟨w.heap.size + 1, 4, none⟩ = some (.int .i64 p4) := by rw [hW]; simp [go_sem]
 have q0 : W.cell? ⟨w.heap.size + 1 + 1, 0, none⟩ = some (.slice none 0 0) := by rw [hW]; simp [go_sem]
 have f0 : W.frozen? ⟨w.heap.size + 1 + 1, 0, none⟩ = false := by rw [hW]; simp [go_sem]
 have HW := Lib.hid hW
 have OK := Lib.hid hok
 have OC := Lib.hid hcl
 have HSO := Lib.hid ((zlc xs).2 ((zld xs).1 hok).2.1)
 clear hW hok hcl
 have hx1 := hx.later B0
 go_enter Tryz.func79, Tryz.ntmps79
 go_wp2_with fail
 rw [← HW.out]
 refine (zjp _ _ _ _ _ W c0 hx1 (by omega)).mono ?_
 rw [OK.out]
 rintro e w2 ⟨rfl, b2⟩
 have lk : ∀ b o u, b < W.heap.size → W.cell? ⟨b, o, none⟩ = some u → w2.cell? ⟨b, o, none⟩ = some u := fun b o u h1 h2 => by rw [b2.cell h1]; exact h2
 have LK := Lib.hid lk
 clear lk
 have g0 := LK.out _ _ _ (by omega) d0
 have g1 := LK.out _ _ _ (by omega) d1
 have g2 := LK.out _ _ _ (by omega) d2
 have g3 := LK.out _ _ _ (by omega) d3
 have g4 := LK.out _ _ _ (by omega) d4
 have gc := LK.out _ _ _ (by omega) c0
 have gq := LK.out _ _ _ (by omega) q0
 have gf : w2.frozen? ⟨w.heap.size + 1 + 1, 0, none⟩ = false := by rw [b2.frozen (by show w.heap.size + 1 + 1 < _; omega)]; exact f0
 have l2 := Nat.lt_of_lt_of_le z0 b2.size
 go_wp2_with fail
 refine (zf3 _ 0 (p0, p1, p2, p3, p4) w2 g0 g1 g2 g3 g4).mono ?_
 rw [OC.out]
 rintro e w3 ⟨rfl, m3, hw3⟩
 have b3 : Below w2.heap.size w2 w3 := by rw [hw3]; exact zac (Below.refl _ _) _
 clear hw3
 have lk : ∀ b o u, b < w2.heap.size → w2.cell? ⟨b, o, none⟩ = some u → w3.cell? ⟨b, o, none⟩ = some u := fun b o u h1 h2 => by rw [b3.cell h1]; exact h2
 have LK3 := Lib.hid lk
 clear lk
 have e0 := LK3.out _ _ _ (by omega) g0
 have e1 := LK3.out _ _ _ (by omega) g1
 have e2 := LK3.out _ _ _ (by omega) g2
 have e3 := LK3.out _ _ _ (by omega) g3
 have e4 := LK3.out _ _ _ (by omega) g4
 have ec := LK3.out _ _ _ (by omega) gc
 have eq := LK3.out _ _ _ (by omega) gq
 have ef : w3.frozen? ⟨w.heap.size + 1 + 1, 0, none⟩ = false := by rw [b3.frozen (by show w.heap.size + 1 + 1 < _; omega)]; exact gf
 have l3 := Nat.lt_of_lt_of_le l2 b3.size
 have B3 := zaa (zaa B0 b2) b3
 have hn12 : ¬ 12 ≤ (n : Int) := by omega
 clear c0 d0 d1 d2 d3 d4 q0 f0 g0 g1 g2 g3 g4 gc gq gf
 go_wp2_with fail
 refine (zqu _ _ _ _ p0 p1 p2 p3 p4 w3 (hx.later B3) (by omega) hc hm HSO.out).mono ?_
 rintro e w4 ⟨v4, rfl, own4, b4⟩
 obtain ⟨A4, c4, rfl, -⟩ := own4.shape
 rw [hpl.out] at own4 ⊢
 have tq : w4.cell? ⟨w.heap.size + 1 + 1, 0, none⟩ = some (.slice none 0 0) := by rw [b4.cell l3]; exact eq
 have tf : w4.frozen? ⟨w.heap.size + 1 + 1, 0, none⟩ = false := by rw [b4.frozen l3]; exact ef
 have l4 := Nat.lt_of_lt_of_le l3 b4.size
 have s4 := b4.size
 have B4 := zaa B3 b4
 clear e0 e1 e2 e3 e4 ec eq ef
 go_wp2
 refine bodyPost_ret (v := .tuple #[.agg #[.slice A4 (n + 1) c4], .int .i64 (zct xs p3), .int .i64 0]) (by simp [results, Tryz.results79, go_sem, tq, tf]) rfl ?_
 have hm : Mid (w.heap.size + 1 + 1) (w.heap.size + 1 + 1 + 1) w4 (w4.setCell ⟨w.heap.size + 1 + 1, 0, none⟩ (.slice A4 (n + 1) c4)) := Mid.cell w4 _ 0 _
 exact ⟨_, _, rfl, (own4.mid hm (.inr (by omega)) (Nat.le_refl _)).wide (by omega) hm.size, B4.setCell (by simp; omega) _⟩
end
section
open Go.RowKit
structure DK (w : World) (b lo : Nat) (A : Option Addr) (n c : Nat) (code : List UInt8) (K : Nat) (xs : List Clip) (A1 : Option Addr) (c1 : Nat) (wr : World) : Prop where
 e0 : wr.cell? ⟨w.heap.size, 0, none⟩ = some (.slice none 0 0)
 g0 : wr.frozen? ⟨w.heap.size, 0, none⟩ = false
 e1 : wr.cell? ⟨w.heap.size + 1, 0, none⟩ = some (.slice A1 xs.length c1)
 g1 : wr.frozen? ⟨w.heap.size + 1, 0, none⟩ = false
 own : OA cl 64 5 (w.heap.size + 2) wr.heap.size wr (.slice A1 xs.length c1) xs
 src : Src wr b lo A n c code K
 mid : Mid b (b + 1) w wr
 sz : w.heap.size + 2 ≤ wr.heap.size
section
variable {w wr w' : World} {b lo : Nat} {A A1 : Option Addr} {n c c1 : Nat} {code : List UInt8} {K K' : Nat} {xs : List Clip}
theorem DK.step (h : DK w b lo A n c code K xs A1 c1 wr) (hb : b < w.heap.size) (hs : Src w' b lo A n c code K') (hm : Mid b (b + 1) wr w') : DK w b lo A n c code K' xs A1 c1 w' :=
 have hz := h.sz
 ⟨hm.cellK (by omega) (.inr (by omega)) h.e0, hm.frozK (by omega) (.inr (by omega)) h.g0, hm.cellK (by omega) (.inr (by omega)) h.e1, hm.frozK (by omega) (.inr (by omega)) h.g1,
  (h.own.mid hm (.inr (by omega)) (Nat.le_refl _)).wide (Nat.le_refl _) hm.size, hs, h.mid.trans hm, Nat.le_trans hz hm.size⟩
theorem DK.more (h : DK w b lo A n c code K xs A1 c1 wr) (hK : K ≤ K') : DK w b lo A n c code K' xs A1 c1 wr :=
 ⟨h.e0, h.g0, h.e1, h.g1, h.own, h.src.more hK, h.mid, h.sz⟩
theorem DK.below {B : Nat} (h : DK w b lo A n c code K xs A1 c1 wr) (hb : b < w.heap.size) (hB : Below B wr w') (hw : wr.heap.size ≤ B) : DK w b lo A n c code K xs A1 c1 w' :=
 have hB' := hB.mono hw
 h.step hb (h.src.below hB' h.src.lt) (Mid.of_below hB' _ _)
end
def zlj (b lo : Nat) (A : Option Addr) (n c : Nat) (code : List UInt8) (K m : Nat) (w : World) (e : Ending) (w' : World) : Prop :=
 ∃ A1 c1 xs, e = .returned (.agg #[.slice A1 (List.length xs) c1]) ∧ OA cl 64 5 w.heap.size w'.heap.size w' (.slice A1 xs.length c1) xs ∧ xs.length ≤ 3 ∧ Hid (zej m xs) ∧ Src w' b lo A n c code K ∧ Mid b (b + 1) w w'
theorem zq4 (b lo : Nat) (A : Option Addr) (n c : Nat) (code : List UInt8) (K : Nat) (w : World) (h : Src w b lo A n c code K) (hK : K ≤ 1000000000) :
 Calls Tryz.prog 39 #[.pointer (some ⟨b, 0, none⟩), .slice (some ⟨w.heap.size, 0, none⟩) 6 6] (w.alloc (.cells #[.int .i64 1, .int .i64 1, .int .i64 2, .int .i64 (-1), .int .i64 3, .int .i64 65536] 2)) (Drew b lo A n c code (K + 2) (fun v => -2147483648 ≤ v ∧ v ≤ 2147483647) w) := by
 have hB : Below w.heap.size w (w.alloc (.cells #[.int .i64 1, .int .i64 1, .int .i64 2, .int .i64 (-1), .int .i64 3, .int .i64 65536] 2)) := (Below.refl _ _).alloc (Nat.le_refl _) _
 have hb := h.lt
 refine (ze8 b lo A n c code K w.heap.size 6 6 [1, 1, 2, -1, 3, 65536] _ (h.below hB hb) (by omega) rfl (by omega) (by omega) (by simp) ?_).mono ?_
 · intro j x hx
   rw [cell_of_row _ w.heap.size j _ 2 (0, 0) (heap_alloc_new w _)]
   match j, hx with
   | 0, hx => simp at hx; subst hx; rfl
   | 1, hx => simp at hx; subst hx; rfl
   | 2, hx => simp at hx; subst hx; rfl
   | 3, hx => simp at hx; subst hx; rfl
   | 4, hx => simp at hx; subst hx; rfl
   | 5, hx => simp at hx; subst hx; rfl
   | j + 6, hx => simp at hx
 · rintro e w2 ⟨x, rfl, hx, s3, m3⟩
   exact ⟨x, rfl, by simp only [List.mem_cons, List.not_mem_nil, or_false] at hx; omega, s3, (Mid.of_below hB _ _).trans m3⟩
structure CB (g : Nat) (p0 p1 p2 p3 p4 : Int) (w : World) : Prop where
 c0 : w.cell? ⟨g, 0, none⟩ = some (.int .i64 p0)
 c1 : w.cell? ⟨g, 1, none⟩ = some (.int .i64 p1)
 c2 : w.cell? ⟨g, 2, none⟩ = some (.int .i64 p2)
 c3 : w.cell? ⟨g, 3, none⟩ = some (.int .i64 p3)
 c4 : w.cell? ⟨g, 4, none⟩ = some (.int .i64 p4)
 f1 : w.frozen? ⟨g, 1, none⟩ = false
 f2 : w.frozen? ⟨g, 2, none⟩ = false
 f3 : w.frozen? ⟨g, 3, none⟩ = false
 f4 : w.frozen? ⟨g, 4, none⟩ = false
 lt : g < w.heap.size
theorem CB.new (w : World) (p0 : Int) : CB w.heap.size p0 0 0 0 0 (w.alloc (.cells #[.int .i64 p0, .int .i64 0, .int .i64 0, .int .i64 0, .int .i64 0] 64)) :=
 ⟨by simp [go_sem], by simp [go_sem], by simp [go_sem], by simp [go_sem], by simp [go_sem], by simp [go_sem], by simp [go_sem], by simp [go_sem], by simp [go_sem], by simp⟩
section
variable {g b : Nat} {p0 p1 p2 p3 p4 : Int} {w w' : World}
theorem CB.mid (h : CB g p0 p1 p2 p3 p4 w) (hm : Mid b (b + 1) w w') (hg : g ≠ b) : CB g p0 p1 p2 p3 p4 w' :=
 have hl := h.lt
 ⟨hm.cellK hl (by omega) h.c0, hm.cellK hl (by omega) h.c1, hm.cellK hl (by omega) h.c2, hm.cellK hl (by omega) h.c3, hm.cellK hl (by omega) h.c4, hm.frozK hl (by omega) h.f1, hm.frozK hl (by omega) h.f2, hm.frozK hl (by omega) h.f3, hm.frozK hl (by omega) h.f4, Nat.lt_of_lt_of_le hl hm.size⟩
theorem CB.s1 (h : CB g p0 p1 p2 p3 p4 w) (x : Int) : CB g p0 x p2 p3 p4 (w.setCell ⟨g, 1, none⟩ (.int .i64 x)) :=
 ⟨(zae w g _ (by decide)).trans h.c0, World.cell?_setCell_same _ _ _ h.c1, (zae w g _ (by decide)).trans h.c2, (zae w g _ (by decide)).trans h.c3, (zae w g _ (by decide)).trans h.c4, (World.frozen?_setCell _ _ _ _).trans h.f1, (World.frozen?_setCell _ _ _ _).trans h.f2, (World.frozen?_setCell _ _ _ _).trans h.f3, (World.frozen?_setCell _ _ _ _).trans h.f4, by simpa using h.lt⟩
theorem CB.s2 (h : CB g p0 p1 p2 p3 p4 w) (x : Int) : CB g p0 p1 x p3 p4 (w.setCell ⟨g, 2, none⟩ (.int .i64 x)) :=
 ⟨(zae w g _ (by decide)).trans h.c0, (zae w g _ (by decide)).trans h.c1, World.cell?_setCell_same _ _ _ h.c2, (zae w g _ (by decide)).trans h.c3, (zae w g _ (by decide)).trans h.c4, (World.frozen?_setCell _ _ _ _).trans h.f1, (World.frozen?_setCell _ _ _ _).trans h.f2, (World.frozen?_setCell _ _ _ _).trans h.f3, (World.frozen?_setCell _ _ _ _).trans h.f4, by simpa using h.lt⟩
theorem CB.s3 (h : CB g p0 p1 p2 p3 p4 w) (x : Int) : CB g p0 p1 p2 x p4 (w.setCell ⟨g, 3, none⟩ (.int .i64 x)) :=
 ⟨(zae w g _ (by decide)).trans h.c0, (zae w g _ (by decide)).trans h.c1, (zae w g _ (by decide)).trans h.c2, World.cell?_setCell_same _ _ _ h.c3, (zae w g _ (by decide)).trans h.c4, (World.frozen?_setCell _ _ _ _).trans h.f1, (World.frozen?_setCell _ _ _ _).trans h.f2, (World.frozen?_setCell _ _ _ _).trans h.f3, (World.frozen?_setCell _ _ _ _).trans h.f4, by simpa using h.lt⟩
theorem CB.s4 (h : CB g p0 p1 p2 p3 p4 w) (x : Int) : CB g p0 p1 p2 p3 x (w.setCell ⟨g, 4, none⟩ (.int .i64 x)) :=
 ⟨(zae w g _ (by decide)).trans h.c0, (zae w g _ (by decide)).trans h.c1, (zae w g _ (by decide)).trans h.c2, (zae w g _ (by decide)).trans h.c3, World.cell?_setCell_same _ _ _ h.c4, (World.frozen?_setCell _ _ _ _).trans h.f1, (World.frozen?_setCell _ _ _ _).trans h.f2, (World.frozen?_setCell _ _ _ _).trans h.f3, (World.frozen?_setCell _ _ _ _).trans h.f4, by simpa using h.lt⟩
end
theorem zq5 (b lo : Nat) (A : Option Addr) (n c : Nat) (code : List UInt8) (K : Nat) (A0 : Option Addr) (m c0 : Nat) (src : List (List Int)) (w : World) (h : Src w b lo A n c code K) (hK : K ≤ 100000) (hs : RS tS w w.heap.size (.slice A0 m c0) src) (hm : m ≤ 6) (hl : Hid (∀ x ∈ src, 1 ≤ x.length ∧ x.length ≤ 15)) (hnb : Hid (∀ w', Mid b (b + 1) w w' → RS tS w' w.heap.size (.slice A0 m c0) src)) :
 Calls Tryz.prog 44 #[.pointer (some ⟨b, 0, none⟩), .slice A0 m c0] w (zlj b lo A n c code (K + 40) m w) := by
 have hbw := h.lt
 have HLS := Lib.hid hs.cap.1
 obtain ⟨W0, hW0⟩ : ∃ W, W = (w.alloc (.cells #[.slice none 0 0] 42)).alloc (.cells #[.slice none 0 0] 42) := ⟨_, rfl⟩
 have B0 : Below w.heap.size w W0 := by rw [hW0]; exact ((Below.refl _ _).alloc (Nat.le_refl _) _).alloc (by simp) _
 have d0 : DK w b lo A n c code K [] none 0 W0 := by
  refine ⟨by rw [hW0]; simp [go_sem], by rw [hW0]; simp [go_sem], by rw [hW0]; simp [go_sem], by rw [hW0]; simp [go_sem], OA.nil _, h.below B0 hbw, Mid.of_below B0 _ _, by rw [hW0]; simp⟩
 have HW0 := Lib.hid hW0
 clear hW0 hs
 go_enter Tryz.func44, Tryz.ntmps44
 go_wp2_with fail
 rw [← HW0.out]
 refine (za4 b lo A n c code K 4 _ d0.src (by omega) (by omega)).mono ?_
 rintro e w1 ⟨k, rfl, ⟨k0, k1⟩, s1, m1⟩
 have d1 := d0.step hbw s1 m1
 clear d0 s1 m1
 obtain ⟨k, rfl⟩ : ∃ j : Nat, k = j := ⟨k.toNat, by omega⟩
 have hkm : k ≤ 3 := by omega
 clear k1 k0
 go_wp2_with fail
 go_loopw [6] (fun i wr => ∃ (j : Nat) (xs : List Clip) (A1 : Option Addr) (c1 : Nat), i = .int .i64 j ∧ xs.length + j ≤ 3 ∧ Hid (zej m xs) ∧ DK w b lo A n c code (K + 2 + 12 * (3 - j)) xs A1 c1 wr)
  (fun i _ => (intOf i).toNat)
 case atStart => exact ⟨k, [], _, _, rfl, by simpa using hkm, Lib.hid (zq0 m), d1.more (by omega)⟩
 case round =>
  obtain ⟨j, xs, A1, c1, rfl, hlj, hdr, D⟩ := hrel
  clear d1
  have hsz := D.sz
  have hc0 := D.e0
  have hf0 := D.g0
  have hc1 := D.e1
  have HD := Lib.hid D
  by_cases hlt : 0 < j ∧ 0 < m
  · obtain ⟨hj0, hm0⟩ := hlt
    have hj0' : (0 : Int) < (j : Int) := by omega
    have hm0' : (0 : Int) < (m : Int) := by omega
    go_wp2_with fail
    refine (za4 b lo A n c code _ (m : Int) wr D.src (by omega) (by omega)).mono ?_
    rintro e w2 ⟨v0, rfl, ⟨v00, v01⟩, s2, m2⟩
    have D2 := D.step hbw s2 m2
    clear D
    obtain ⟨v0, rfl⟩ : ∃ q : Nat, v0 = q := ⟨v0.toNat, by omega⟩
    have hv0 : v0 < m := by omega
    have hv0i : (v0 : Int) < (m : Int) := by omega
    have hv00 : (0 : Int) ≤ (v0 : Int) := by omega
    obtain ⟨U, hU⟩ : ∃ U, U = w2.alloc (.cells #[.int .i64 (v0 : Int), .int .i64 0, .int .i64 0, .int .i64 0, .int .i64 0] 64) := ⟨_, rfl⟩
    have C1 : CB w2.heap.size v0 0 0 0 0 U := by rw [hU]; exact CB.new w2 v0
    have bU : Below w2.heap.size w2 U := by rw [hU]; exact (Below.refl _ _).alloc (Nat.le_refl _) _
    have sU := D2.src.below bU (by have := D2.src.lt; exact this)
    have MU : Mid b (b + 1) w2 U := Mid.of_below bU _ _
    have HD2 := Lib.hid D2
    have HU := Lib.hid hU
    have hR := hnb.out w2 D2.mid
    have hX := Lib.hid (List.getElem?_eq_getElem (l := src) (i := v0) (by rw [HLS.out]; exact hv0))
    obtain ⟨bb, oo, cc, cs, hv, hbb, -, hE, hcc⟩ := hR.atX hX.out
    have hlx := hl.out _ (List.mem_of_getElem? hX.out)
    generalize src[v0]'(by rw [HLS.out]; exact hv0) = sx at hX hE hlx
    simp only [Value.slice.injEq] at hv
    obtain ⟨rfl, -, rfl⟩ := hv
    obtain ⟨vx, rfl, hrx⟩ := hE
    obtain ⟨Ax, cx, rfl⟩ := hrx.shape
    have hbb2 : bb < w2.heap.size := by have := D2.mid.size; omega
    have f0 : w2.cell? ⟨bb, oo + v0, none⟩ = some (.slice Ax sx.length cx) := by
     have h1 := hcc 0 _ rfl
     change w2.cell? ⟨bb, oo + v0 * 1 + 0, none⟩ = _ at h1
     rw [Nat.mul_one, Nat.add_zero] at h1
     exact h1
    have hcb : w2.heap.size ≠ b := by have := m2.size; omega
    obtain ⟨g, hg⟩ : ∃ g, g = w2.heap.size := ⟨_, rfl⟩
    have q0 := C1.c0
    have q1 := C1.c1
    have lg1 : w.heap.size + 2 ≤ g := by have := D2.sz; omega
    rw [← hg] at C1 bU hcb q0 q1
    have HG := Lib.hid hg
    clear hU hcc hrx hR s2 m2 v01 hg D2
    go_wp2_with fail
    rw [← HU.out, ← HG.out]
    clear f0 hbb2 q0 q1
    have lxi : (sx.length : Int) ≤ 15 ∧ 1 ≤ (sx.length : Int) := by omega
    have lgU := C1.lt
    refine (za4 b lo A n c code _ (sx.length : Int) U sU (by omega) (by omega)).mono ?_
    rintro e w3 ⟨v1, rfl, ⟨v10, v11⟩, s3, m3⟩
    have C2 := C1.mid m3 hcb
    have M3 := MU.trans m3
    have b1 : Below g w3 (w3.setCell ⟨g, 1, none⟩ (.int .i64 v1)) := (Below.refl g w3).setCell (p := ⟨g, 1, none⟩) (Nat.le_refl _) (.int .i64 v1)
    have hv1 : 0 ≤ v1 ∧ v1 + 1 ≤ (sx.length : Int) := by omega
    have lg3 := C2.lt
    have q1 := C2.c1
    have qf := C2.f1
    obtain ⟨w4, hw4⟩ : ∃ u, u = w3.setCell ⟨g, 1, none⟩ (.int .i64 v1) := ⟨_, rfl⟩
    have C3 := C2.s1 v1
    have s4 := s3.below b1 (by omega)
    have M4 := M3.thenB' b1 (by rw [HG.out]; exact Nat.le_refl _)
    rw [← hw4] at C3 s4 M4
    have HW4 := Lib.hid hw4
    clear hw4 b1 C1 C2 M3 MU m3 s3 sU v10 v11
    go_wp2_with fail
    rw [← HW4.out]
    refine (zin 1 _ w4).mono ?_
    rintro e w4' ⟨rfl, rfl⟩
    obtain ⟨mx, hmx⟩ : ∃ z, z = max 1 ((sx.length : Int) - v1) := ⟨_, rfl⟩
    rw [← hmx]
    have hmx2 : 1 ≤ mx ∧ mx ≤ 15 ∧ mx + v1 ≤ (sx.length : Int) := by omega
    clear hmx
    go_wp2_with fail
    refine (za4 b lo A n c code _ mx w4 s4 (by omega) (by omega)).mono ?_
    rintro e w5 ⟨v2, rfl, ⟨v20, v21⟩, s5, m5⟩
    have C4 := C3.mid m5 hcb
    have M5 := M4.trans m5
    have b5 : Below g w5 (w5.setCell ⟨g, 2, none⟩ (.int .i64 (1 + v2))) := (Below.refl g w5).setCell (p := ⟨g, 2, none⟩) (Nat.le_refl _) _
    have hv2 : 0 ≤ v2 ∧ v2 + 1 ≤ mx := by omega
    have lg5 := C4.lt
    have q2 := C4.c2
    have qf2 := C4.f2
    obtain ⟨w6, hw6⟩ : ∃ u, u = w5.setCell ⟨g, 2, none⟩ (.int .i64 (1 + v2)) := ⟨_, rfl⟩
    have C5 := C4.s2 (1 + v2)
    have s6 := s5.below b5 (by omega)
    have M6 := M5.thenB' b5 (by rw [HG.out]; exact Nat.le_refl _)
    rw [← hw6] at C5 s6 M6
    have HW6 := Lib.hid hw6
    clear hw6 b5 C3 C4 M4 M5 m5 s5 s4 v20 v21 q1 qf
    go_wp2_with fail
    rw [← HW6.out]
    refine (za4 b lo A n c code _ 24 w6 s6 (by omega) (by omega)).mono ?_
    rintro e w7 ⟨v3, rfl, ⟨v30, v31⟩, s7, m7⟩
    have C6 := C5.mid m7 hcb
    have M7 := M6.trans m7
    have b7 : Below g w7 (w7.setCell ⟨g, 3, none⟩ (.int .i64 v3)) := (Below.refl g w7).setCell (p := ⟨g, 3, none⟩) (Nat.le_refl _) _
    have hv3 : 0 ≤ v3 ∧ v3 ≤ 23 := by omega
    have lg7 := C6.lt
    have q3 := C6.c3
    have qf3 := C6.f3
    obtain ⟨w8, hw8⟩ : ∃ u, u = w7.setCell ⟨g, 3, none⟩ (.int .i64 v3) := ⟨_, rfl⟩
    have C7 := C6.s3 v3
    have s8 := s7.below b7 (by omega)
    have M8 := M7.thenB' b7 (by rw [HG.out]; exact Nat.le_refl _)
    rw [← hw8] at C7 s8 M8
    have z8 : w8.heap.size = w7.heap.size := by rw [hw8]; simp
    have HW8 := Lib.hid hw8
    clear hw8 b7 C5 C6 M6 M7 m7 s7 s6 v30 v31 q2 qf2
    have SA0 := zq4 b lo A n c code _ w8 s8 (by omega)
    rw [z8] at SA0
    have SA := Lib.hid SA0
    clear SA0 z8
    go_wp2_with fail
    rw [← HW8.out]
    refine SA.out.mono ?_
    rintro e w9 ⟨v4, rfl, hv4, s9, m9⟩
    have C8 := C7.mid m9 hcb
    have M9 := M8.trans m9
    have b9 : Below g w9 (w9.setCell ⟨g, 4, none⟩ (.int .i64 v4)) := (Below.refl g w9).setCell (p := ⟨g, 4, none⟩) (Nat.le_refl _) _
    have lg9 := C8.lt
    have q4 := C8.c4
    have qf4 := C8.f4
    obtain ⟨x1, hx1⟩ : ∃ u, u = w9.setCell ⟨g, 4, none⟩ (.int .i64 v4) := ⟨_, rfl⟩
    have C9 := C8.s4 v4
    have s10 := s9.below b9 (by omega)
    have M10 := M9.thenB' b9 (by rw [HG.out]; exact Nat.le_refl _)
    rw [← hx1] at C9 s10 M10
    have HX1 := Lib.hid hx1
    clear hx1 b9 C7 C8 M8 M9 m9 s9 s8 q3 qf3
    have D9 := HD2.out.step hbw s10 M10
    have t1 := D9.e1
    have r0 := C9.c0
    have r1 := C9.c1
    have r2 := C9.c2
    have r3 := C9.c3
    have r4 := C9.c4
    have hcap := D9.own.cap
    have hok := hdr.out
    have hcl : zbs ((v0 : Int), v1, 1 + v2, v3, v4) = true := by
     simp only [zbs, M.smp, M.inn, Bool.and_eq_true, decide_eq_true_eq]
     omega
    have HDP := Lib.hid (zq1 hdr.out (x := ((v0 : Int), v1, 1 + v2, v3, v4)) ⟨hcl, by simp only; omega, by simp only; omega⟩)
    have ADD := Lib.hid (zq3 A1 xs.length c1 xs (v0 : Int) v1 (1 + v2) v3 v4 x1 D9.own.ra hcap.1 hcap.2 (zli hdr.out (by omega)) hcl (by omega))
    have HPL := Lib.hid (show (zby xs ((v0 : Int), v1, 1 + v2, v3, v4)).length = xs.length + 1 from zlh _ _)
    have HD9 := Lib.hid D9
    clear D9 hcap hok hcl
    go_upto_region 11 with fail
    rw [← HX1.out]
    go_wp2_with fail
    refine ADD.out.mono ?_
    rintro e x2 ⟨A2, c2, rfl, own2, b2⟩
    have D10 := HD9.out.below hbw b2 (Nat.le_refl _)
    have t2 := D10.e1
    have tf2 := D10.g1
    have lx2 := D10.sz
    obtain ⟨x3, hx3⟩ : ∃ u, u = (x2.setCell ⟨w.heap.size + 1, 0, none⟩ (.slice A2 (xs.length + 1) c2)).alloc (.cells #[.slice A2 (xs.length + 1) c2] 42) := ⟨_, rfl⟩
    have E3 : DK w b lo A n c code (K + 2 + 12 * (3 - j) + 12) (zby xs ((v0 : Int), v1, 1 + v2, v3, v4)) A2 c2 x3 := by
     have hx1 : w.heap.size + 2 ≤ x1.heap.size := HD9.out.sz
     have hz := D10.sz
     have ms : Mid (w.heap.size + 1) (w.heap.size + 1 + 1) x2 (x2.setCell ⟨w.heap.size + 1, 0, none⟩ (.slice A2 (xs.length + 1) c2)) := Mid.cell _ _ 0 _
     have sz3 := ms.size
     have E2 : DK w b lo A n c code (K + 2 + 12 * (3 - j) + 12) (zby xs ((v0 : Int), v1, 1 + v2, v3, v4)) A2 c2 (x2.setCell ⟨w.heap.size + 1, 0, none⟩ (.slice A2 (xs.length + 1) c2)) := by
      refine ⟨ms.cellK (by omega) (.inl (by omega)) D10.e0, ms.frozK (by omega) (.inl (by omega)) D10.g0, ?_, ?_, ?_, (D10.src.mid ms (by omega)).more (by omega), D10.mid.thenB' (ms.toBelow (by omega)) (by omega), by omega⟩
      · rw [HPL.out]; exact World.cell?_setCell_same _ _ _ D10.e1
      · exact (World.frozen?_setCell _ _ _ _).trans D10.g1
      · rw [HPL.out]
        exact (own2.mid ms (.inr (by omega)) (Nat.le_refl _)).wide (by omega) (by omega)
     rw [hx3]
     exact E2.below hbw ((Below.refl _ _).alloc (Nat.le_refl _) _) (Nat.le_refl _)
    have HX3 := Lib.hid hx3
    have lt2 : w.heap.size + 1 < x2.heap.size := by omega
    have ne2 : ¬ w.heap.size + 1 = x2.heap.size := by omega
    have ne3 : ¬ x2.heap.size = w.heap.size + 1 := by omega
    clear D10 own2 b2 hx3
    go_wp2_with fail
    go_roundw
    case rel => exact ⟨j - 1, _, _, _, by go_num, by rw [HPL.out]; omega, HDP, by rw [← HX3.out]; exact E3.more (by omega)⟩
    case measure => simp [intOf]; omega
  · have hg1 := D.g1
    have fin : zlj b lo A n c code (K + 40) m w (.returned (.agg #[.slice A1 xs.length c1])) (wr.setCell ⟨w.heap.size, 0, none⟩ (.slice A1 xs.length c1)) := by
     have hm : Mid w.heap.size (w.heap.size + 1) wr (wr.setCell ⟨w.heap.size, 0, none⟩ (.slice A1 xs.length c1)) := Mid.cell wr w.heap.size 0 _
     have hz := D.sz
     exact ⟨_, _, xs, rfl, (D.own.mid hm (.inr (by omega)) (Nat.le_refl _)).wide (by omega) hm.size, by omega, hdr, (D.src.mid hm hbw).more (by omega), D.mid.thenB' ((Below.refl w.heap.size _).setCell (Nat.le_refl _) _) (Nat.le_refl _)⟩
    have FIN := Lib.hid fin
    clear fin D HD
    by_cases hj : 0 < j
    · have hm0 : m = 0 := by omega
      subst hm0
      have hj0' : (0 : Int) < (j : Int) := by omega
      go_wp2_with fail
      refine bodyPost_ret (v := .agg #[.slice A1 xs.length c1]) (by simp [results, Tryz.results44, go_sem, hc0, hf0]) rfl ?_
      exact FIN.out
    · obtain rfl : j = 0 := by omega
      go_wp2_with fail
      refine bodyPost_ret (v := .agg #[.slice A1 xs.length c1]) (by simp [results, Tryz.results44, go_sem, hc0, hf0]) rfl ?_
      exact FIN.out
end
end Go.Proofs.YtfkcoiefkjmdeaaGreat
