import Derived.Test.YtecdendjlgohjaaGreatDoorFnAlignedG2
import Derived.Lib.Strings
import Derived.Maps.OwnOps
import Derived.Maps.OwnSet
import Derived.StringKeys
import Derived.Deep.DeepCutAuto
set_option linter.unusedVariables false
set_option linter.unusedSimpArgs false
namespace Go.Proofs.YtecdendjlgohjaaGreatDoor
open Go.RowKit
set_option maxHeartbeats 4000000
set_option maxRecDepth 100000
theorem tSdS_ra {w : World} {B : Nat} {A : Option Addr} {n c : Nat} {xs : List (Int × Int)} (h : tSdS.R w B [.slice A n c] xs) : RA sd 2 w B A n xs ∧ n ≤ c ∧ c ≤ maxLen := (sl_R.1 h).flat
theorem str_ne {s t : ByteArray} (h : ¬ s = t) : ¬ s.toList = t.toList := fun e => h (by
  rw [Lib.toList_data, Lib.toList_data] at e
  exact ByteArray.ext (Array.toList_inj.1 e))
theorem same_no {s s' : ByteArray} {l l' : Int} {xs ys : List (Int × Int)} (h : ¬ (s = s' ∧ l = l' ∧ xs = ys)) : decide (((s, l, xs) : Strip) = (s', l', ys)) = false := by
  rw [decide_eq_false_iff_not]
  intro e
  simp only [Prod.mk.injEq] at e
  exact h e
theorem spec_l26Same (g o g' o' : Nat) (s s' : ByteArray) (l l' : Int) (A A' : Option Addr) (n c n' c' : Nat) (xs ys : List (Int × Int)) (w : World) (a0 : w.cell? ⟨g, o, none⟩ = some (.string s)) (b0 : w.cell? ⟨g', o', none⟩ = some (.string s')) (a1 : w.cell? ⟨g, o + 1, none⟩ = some (.int .i64 l)) (b1 : w.cell? ⟨g', o' + 1, none⟩ = some (.int .i64 l')) (a2 : w.cell? ⟨g, o + 2, none⟩ = some (.slice A n c)) (b2 : w.cell? ⟨g', o' + 2, none⟩ = some (.slice A' n' c')) (hx : tSdS.R w w.heap.size [.slice A n c] xs) (hy : tSdS.R w w.heap.size [.slice A' n' c'] ys) (hn : n ≤ 1000000000) (hn' : n' ≤ 1000000000) :
    Calls Tryz.prog 35 #[.pointer (some ⟨g, o, none⟩), .pointer (some ⟨g', o', none⟩)] w fun e w' => e = .returned (.bool (decide (((s, l, xs) : Strip) = (s', l', ys)))) ∧ Below w.heap.size w w' := by
  have B0 : Below w.heap.size w w := Below.refl _ _
  have lx : g < w.heap.size := World.block_lt_of_cell? w _ a0
  have ly : g' < w.heap.size := World.block_lt_of_cell? w _ b0
  by_cases hs : ¬ s = s'
  · have hs2 := str_ne hs
    have hs3 : (s.toList == s'.toList) = false := by simpa using hs2
    have R := Lib.hid (same_no (s := s) (s' := s') (l := l) (l' := l') (xs := xs) (ys := ys) (fun e => hs e.1))
    go_enter Tryz.func35, Tryz.ntmps35
    go_wp2_with fail
    go_quiet (fail)
    go_wp2_with fail
    go_ret
    exact ⟨ret_bool (by rw [R.out]), below_drewN (Below.refl _ _) _⟩
  replace hs : s = s' := Decidable.not_not.1 hs
  by_cases hl : ¬ l = l'
  · have hl2 : (l == l') = false := by simpa using hl
    have hl3 : (l != l') = true := by simpa using hl
    clear hl2
    have R := Lib.hid (same_no (s := s) (s' := s') (l := l) (l' := l') (xs := xs) (ys := ys) (fun e => hl e.2.1))
    subst hs
    go_enter Tryz.func35, Tryz.ntmps35
    go_wp2_with fail
    go_quiet (fail)
    go_wp2_with fail
    go_ret
    exact ⟨ret_bool (by rw [R.out]), below_drewN (Below.refl _ _) _⟩
  replace hl : l = l' := Decidable.not_not.1 hl
  have hlx := (tSdS_ra hx).1.1
  have hly := (tSdS_ra hy).1.1
  by_cases hnn : ¬ n = n'
  · have hne : ((n : Int) != (n' : Int)) = true := by simp; omega
    have R := Lib.hid (same_no (s := s) (s' := s') (l := l) (l' := l') (xs := xs) (ys := ys) (fun e => hnn (by rw [← hlx, ← hly, e.2.2])))
    subst hs hl
    clear hlx hly
    go_enter Tryz.func35, Tryz.ntmps35
    go_wp2_with fail
    go_quiet (fail)
    go_wp2_with fail
    go_ret
    exact ⟨ret_bool (by rw [R.out]), below_drewN (Below.refl _ _) _⟩
  replace hnn : n = n' := Decidable.not_not.1 hnn
  subst hs hl hnn
  have HLX := Lib.hid hlx
  have HLY := Lib.hid hly
  have rx := (tSdS_ra hx).1
  have ry := (tSdS_ra hy).1
  clear hlx hly hx hy
  go_enter Tryz.func35, Tryz.ntmps35
  go_wp2_with fail
  go_quiet (fail)
  go_wp2_with fail
  go_loopw [5] (fun i wr => ∃ k : Nat, i = .int .i64 k ∧ k ≤ n ∧ Hid (xs.take k = ys.take k) ∧ Below w.heap.size w wr) (fun i _ => n - (intOf i).toNat)
  case atStart => exact ⟨0, rfl, by omega, Lib.hid (by simp), below_drewN (Below.refl _ _) _⟩
  case round =>
    obtain ⟨k, rfl, hk, H, hb⟩ := hrel
    have Bw : Below w.heap.size w wr := B0.trans (hb.mono B0.size)
    have hsw := hb.size
    have c2 : wr.cell? ⟨g, o + 2, none⟩ = some (.slice A n c) := by rw [hb.cell lx]; exact a2
    have d2 : wr.cell? ⟨g', o' + 2, none⟩ = some (.slice A' n c') := by rw [hb.cell ly]; exact b2
    have lx1 : g < wr.heap.size := by omega
    have ly1 : g' < wr.heap.size := by omega
    by_cases hlt : k < n
    · obtain ⟨b, o1, ⟨p0, p1⟩, rfl, hab, X, hcc⟩ := (rx.below Bw).at sd_len (by decide) hlt
      obtain ⟨b', o2, ⟨r0, r1⟩, rfl, hab', Y, hdd⟩ := (ry.below Bw).at sd_len (by decide) hlt
      have e0 : wr.cell? ⟨b, o1 + k * 2, none⟩ = some (.int .i64 p0) := hcc 0 _ rfl
      have e1 : wr.cell? ⟨b, o1 + k * 2 + 1, none⟩ = some (.int .i64 p1) := hcc 1 _ rfl
      have f0 : wr.cell? ⟨b', o2 + k * 2, none⟩ = some (.int .i64 r0) := hdd 0 _ rfl
      have f1 : wr.cell? ⟨b', o2 + k * 2 + 1, none⟩ = some (.int .i64 r1) := hdd 1 _ rfl
      have hbr : b < wr.heap.size := Nat.lt_of_lt_of_le hab Bw.size
      have hbr' : b' < wr.heap.size := Nat.lt_of_lt_of_le hab' Bw.size
      clear hcc hdd
      by_cases hp : p0 = r0 ∧ p1 = r1
      · obtain ⟨rfl, rfl⟩ := hp
        go_wp2
        go_quiet (fail)
        go_wp2
        go_roundw
        case rel => exact ⟨k + 1, by go_num, by omega, Lib.hid (by rw [M.take_at X.out, M.take_at Y.out, H.out]), below_drewN hb _⟩
        case measure => simp [intOf]; omega
      · have R := Lib.hid (same_no (s := s) (s' := s) (l := l) (l' := l) (xs := xs) (ys := ys) (fun e => hp (by
          have h1 := X.out
          rw [e.2.2, Y.out] at h1
          injection h1 with h1
          injection h1 with h2 h3
          exact ⟨h2.symm, h3.symm⟩)))
        by_cases hp0 : p0 = r0
        · have hp1 : ¬ p1 = r1 := fun e => hp ⟨hp0, e⟩
          have hp2 : (p1 == r1) = false := by simpa using hp1
          subst hp0
          clear hp
          go_wp2
          go_quiet (fail)
          go_wp2
          go_ret
          exact ⟨ret_bool (by rw [R.out]), below_drewN Bw _⟩
        · have hp2 : (p0 == r0) = false := by simpa using hp0
          clear hp
          go_wp2
          go_quiet (fail)
          go_wp2
          go_ret
          exact ⟨ret_bool (by rw [R.out]), below_drewN Bw _⟩
    · go_wp2
      go_ret
      have h1 : xs = ys := by have := H.out; rwa [List.take_of_length_le (by rw [HLX.out]; omega), List.take_of_length_le (by rw [HLY.out]; omega)] at this
      exact ⟨ret_bool (by rw [h1]; simp), Bw⟩
end Go.Proofs.YtecdendjlgohjaaGreatDoor
namespace Go.Proofs.YtecdendjlgohjaaGreatDoor
open Go.RowKit
set_option maxHeartbeats 4000000
set_option maxRecDepth 100000
theorem spec_SameMixer (A A' : Option Addr) (n c n' c' : Nat) (xs ys : List Strip) (w : World) (hx : tM.R w w.heap.size [.slice A n c] xs) (hy : tM.R w w.heap.size [.slice A' n' c'] ys) (hn : hM.sz xs ≤ 100000000) (hn' : hM.sz ys ≤ 100000000) :
    Calls Tryz.prog 17 #[.agg #[.slice A n c], .agg #[.slice A' n' c']] w fun e w' => e = .returned (.bool (decide (xs = ys))) ∧ Below w.heap.size w w' := by
  obtain ⟨W, hW⟩ : ∃ W, W = (w.alloc (.cells #[.slice A n c] 24)).alloc (.cells #[.slice A' n' c'] 24) := ⟨_, rfl⟩
  have B0 : Below w.heap.size w W := by rw [hW]; exact ((Below.refl _ _).alloc (Nat.le_refl _) _).alloc (by simp) _
  have hs0 : W.heap.size = w.heap.size + 1 + 1 := by rw [hW]; simp
  have a0 : W.cell? ⟨w.heap.size, 0, none⟩ = some (.slice A n c) := by rw [hW]; simp [go_sem]
  have b0 : W.cell? ⟨w.heap.size + 1, 0, none⟩ = some (.slice A' n' c') := by rw [hW]; simp [go_sem]
  have HW := Lib.hid hW
  clear hW
  have lx : w.heap.size < W.heap.size := by omega
  have ly : w.heap.size + 1 < W.heap.size := by omega
  have rx := sl_R.1 hx
  have ry := sl_R.1 hy
  have hlx := rx.cap.1
  have hly := ry.cap.1
  have hm1 : xs.length + hSt.szL xs ≤ 100000000 := hn
  have hm2 : ys.length + hSt.szL ys ≤ 100000000 := hn'
  by_cases hnn : ¬ n = n'
  · have R := Lib.hid (show decide (xs = ys) = false by rw [decide_eq_false_iff_not]; intro e; exact hnn (by rw [← hlx, ← hly, e]))
    have hne : ((n : Int) != (n' : Int)) = true := by simp; omega
    clear hlx hly
    go_enter Tryz.func17, Tryz.ntmps17
    go_wp2_with fail
    rw [← HW.out]
    go_ret
    exact ⟨ret_bool (by rw [R.out]), B0⟩
  replace hnn : n = n' := Decidable.not_not.1 hnn
  subst hnn
  have HLX := Lib.hid hlx
  have HLY := Lib.hid hly
  have hnb : n ≤ 100000000 := by omega
  have hm1' := Lib.hid hm1
  have hm2' := Lib.hid hm2
  clear hlx hly hx hy hn hn' hm1 hm2
  go_enter Tryz.func17, Tryz.ntmps17
  go_wp2_with fail
  rw [← HW.out]
  go_loopw [5] (fun i wr => ∃ k : Nat, i = .int .i64 k ∧ k ≤ n ∧ Hid (xs.take k = ys.take k) ∧ Below W.heap.size W wr) (fun i _ => n - (intOf i).toNat)
  case atStart => exact ⟨0, rfl, by omega, Lib.hid (by simp), Below.refl _ _⟩
  case round =>
    obtain ⟨k, rfl, hk, H, hb⟩ := hrel
    have Bw : Below w.heap.size w wr := B0.trans (hb.mono B0.size)
    have hsw := hb.size
    have c0 : wr.cell? ⟨w.heap.size, 0, none⟩ = some (.slice A n c) := by rw [hb.cell lx]; exact a0
    have d0 : wr.cell? ⟨w.heap.size + 1, 0, none⟩ = some (.slice A' n c') := by rw [hb.cell ly]; exact b0
    have lx1 : w.heap.size < wr.heap.size := by omega
    have ly1 : w.heap.size + 1 < wr.heap.size := by omega
    by_cases hlt : k < n
    · have hX := Lib.hid (List.getElem?_eq_getElem (l := xs) (i := k) (by rw [HLX.out]; exact hlt))
      have hY := Lib.hid (List.getElem?_eq_getElem (l := ys) (i := k) (by rw [HLY.out]; exact hlt))
      obtain ⟨b, o1, cc, cs, hv, hab, -, hE, hcc⟩ := (rx.below Bw).atX hX.out
      obtain ⟨b', o2, cc', cs', hv', hab', -, hE', hdd⟩ := (ry.below Bw).atX hY.out
      simp only [Value.slice.injEq] at hv hv'
      obtain ⟨rfl, -, rfl⟩ := hv
      obtain ⟨rfl, -, rfl⟩ := hv'
      have hU := hSt.szL_at hX.out
      have hV := hSt.szL_at hY.out
      generalize xs[k]'(by rw [HLX.out]; exact hlt) = x at hX hE hU
      generalize ys[k]'(by rw [HLY.out]; exact hlt) = y at hY hE' hV
      obtain ⟨s, l, us⟩ := x
      obtain ⟨s', l', vs⟩ := y
      rw [hSt_sz] at hU hV
      obtain ⟨A1, n1, c1, rfl, -, hE⟩ := st_R.1 hE
      obtain ⟨A2, n2, c2, rfl, -, hE'⟩ := st_R.1 hE'
      have n1b : n1 ≤ 1000000000 := by have := (tSdS_ra hE).1.1; have := hm1'.out; omega
      have n2b : n2 ≤ 1000000000 := by have := (tSdS_ra hE').1.1; have := hm2'.out; omega
      have e0 : wr.cell? ⟨b, o1 + k * 3, none⟩ = some (.string s) := hcc 0 _ rfl
      have e1 : wr.cell? ⟨b, o1 + k * 3 + 1, none⟩ = some (.int .i64 l) := hcc 1 _ rfl
      have e2 : wr.cell? ⟨b, o1 + k * 3 + 2, none⟩ = some (.slice A1 n1 c1) := hcc 2 _ rfl
      have f0 : wr.cell? ⟨b', o2 + k * 3, none⟩ = some (.string s') := hdd 0 _ rfl
      have f1 : wr.cell? ⟨b', o2 + k * 3 + 1, none⟩ = some (.int .i64 l') := hdd 1 _ rfl
      have f2 : wr.cell? ⟨b', o2 + k * 3 + 2, none⟩ = some (.slice A2 n2 c2) := hdd 2 _ rfl
      have hbr : b < wr.heap.size := Nat.lt_of_lt_of_le hab Bw.size
      have hbr' : b' < wr.heap.size := Nat.lt_of_lt_of_le hab' Bw.size
      replace hE := tSdS.more Bw.size hE
      replace hE' := tSdS.more Bw.size hE'
      clear hcc hdd hU hV
      have D1 : Below wr.heap.size wr (wr.drewN 1) := below_drewN (Below.refl _ _) 1
      have hF := tSdS.later hE D1
      have hF' := tSdS.later hE' D1
      by_cases hp : ((s, l, us) : Strip) = (s', l', vs)
      · have HD := Lib.hid (decide_eq_true hp)
        have HP := Lib.hid hp
        clear hp
        go_wp2
        go_region_held3 (fun w' => Below wr.heap.size wr w' ∧ w'.cell? ⟨w.heap.size, 0, none⟩ = some (.slice (some ⟨b, o1, none⟩) n c) ∧ w'.cell? ⟨w.heap.size + 1, 0, none⟩ = some (.slice (some ⟨b', o2, none⟩) n c'))
          (first | exact ⟨below_drewN (Below.refl _ _) _, c0, d0⟩ | exact ⟨G2, (by rw [G2.cell lx1]; exact c0), (by rw [G2.cell ly1]; exact d0)⟩)
          (first | (go_at_call 35; refine (spec_l26Same b (o1 + k * 3) b' (o2 + k * 3) s s' l l' A1 A2 n1 c1 n2 c2 us vs (wr.drewN 1) (by rw [D1.cell hbr]; exact e0) (by rw [D1.cell hbr']; exact f0) (by rw [D1.cell hbr]; exact e1) (by rw [D1.cell hbr']; exact f1) (by rw [D1.cell hbr]; exact e2) (by rw [D1.cell hbr']; exact f2) hF hF' n1b n2b).mono ?_; rw [HD.out]; rintro e w2 ⟨rfl, bel2⟩; have G2 := bel_trans D1 bel2))
        go_wp2
        go_roundw
        case rel => exact ⟨k + 1, by go_num, by omega, Lib.hid (by rw [M.take_at hX.out, M.take_at hY.out, H.out, HP.out]), bel_trans' hb hsw G2⟩
        case measure => simp [intOf]; omega
      · have HD := Lib.hid (decide_eq_false hp)
        have R := Lib.hid (show decide (xs = ys) = false by
          rw [decide_eq_false_iff_not]
          intro e
          have h1 := hX.out
          rw [e, hY.out] at h1
          injection h1 with h1
          exact hp h1.symm)
        clear hp
        go_wp2
        go_region_held3 (fun w' => Below wr.heap.size wr w' ∧ w'.cell? ⟨w.heap.size, 0, none⟩ = some (.slice (some ⟨b, o1, none⟩) n c) ∧ w'.cell? ⟨w.heap.size + 1, 0, none⟩ = some (.slice (some ⟨b', o2, none⟩) n c'))
          (first | exact ⟨below_drewN (Below.refl _ _) _, c0, d0⟩ | exact ⟨G2, (by rw [G2.cell lx1]; exact c0), (by rw [G2.cell ly1]; exact d0)⟩)
          (first | (go_at_call 35; refine (spec_l26Same b (o1 + k * 3) b' (o2 + k * 3) s s' l l' A1 A2 n1 c1 n2 c2 us vs (wr.drewN 1) (by rw [D1.cell hbr]; exact e0) (by rw [D1.cell hbr']; exact f0) (by rw [D1.cell hbr]; exact e1) (by rw [D1.cell hbr']; exact f1) (by rw [D1.cell hbr]; exact e2) (by rw [D1.cell hbr']; exact f2) hF hF' n1b n2b).mono ?_; rw [HD.out]; rintro e w2 ⟨rfl, bel2⟩; have G2 := bel_trans D1 bel2))
        go_wp2
        go_ret
        exact ⟨ret_bool (by rw [R.out]), bel_trans Bw G2⟩
    · go_wp2
      go_ret
      have h1 : xs = ys := by have := H.out; rwa [List.take_of_length_le (by rw [HLX.out]; omega), List.take_of_length_le (by rw [HLY.out]; omega)] at this
      exact ⟨ret_bool (by rw [h1]; simp), Bw⟩
end Go.Proofs.YtecdendjlgohjaaGreatDoor
namespace Go.Proofs.YtecdendjlgohjaaGreatDoor
open Go.RowKit Go.Sort
set_option maxHeartbeats 1000000
set_option maxRecDepth 100000
/-! Memory words: only some blocks were written; drawn regions in such worlds. -/
theorem Chg.cell1 {F : Nat → Prop} {a b : World} (h : Chg F a b) {p : Addr} (hk : p.block < a.heap.size) (hn : ¬ F p.block) : b.cell? p = a.cell? p :=
  World.cell?_of_block (h.block p.block hk hn)
theorem Chg.frozen1 {F : Nat → Prop} {a b : World} (h : Chg F a b) {p : Addr} (hk : p.block < a.heap.size) (hn : ¬ F p.block) : b.frozen? p = a.frozen? p :=
  World.frozen?_of_block (h.block p.block hk hn)
/-- A world in which blocks of F alone were written. -/
structure ChgTo (F : Nat → Prop) (u : World) where
  w : World
  h : Chg F u w
instance (F : Nat → Prop) (u : World) : Nonempty (ChgTo F u) := ⟨⟨u, Chg.refl _ _⟩⟩
theorem ChgTo.cell {F : Nat → Prop} {u : World} {a : Addr} {v : Value} (h : u.cell? a = some v) (hn : ¬ F a.block) (p : ChgTo F u) : p.w.cell? a = some v := by
  rw [p.h.cell1 (World.block_lt_of_cell? _ _ h) hn]; exact h
/-- A drawn region (X57's law) at the class 'only blocks of F were written'. -/
theorem wp_region_chg {P : Program} {id : Nat} {Q : Exit → Act → World → Prop} {a : Act} {w : World} {l : List Oper} (G : Nat → Prop) (A F : List Nat) (m : Nat) (t : Tw) (T R : List Nat) (hm : P.follows .mixedOrders = true)
    (hB : (planW .any l.toArray A F m t T R && (A ++ F ++ R).all (fun i => decide (i < l.length)) && (pickOps l A).all plainB && (pickOps l F).all plainB) = true)
    (h : wpQuiet P l.toArray (fun _ => True) (fun a' => wpQuiet P l.toArray (fun w' => ∃ p : ChgTo G w, w' = p.w) (fun a' => seqW P l (fun w' => ∃ p : ChgTo G w, w' = p.w) (fun x a w => x = .normal ∧ Q .normal a w) (pickOps l R) t a' w.drew) (pickOps l F) a') (pickOps l A) a) :
    (Code.region id l.toArray true).wp P Q a w :=
  wp_region_planW (D := fun w' => ∃ p : ChgTo G w, w' = p.w) A F m t T R hm hB ⟨⟨w.drew, Chg.of_below (below_drewN (Below.refl _ _) 1) _⟩, rfl⟩ h
/-- The k-th element is there again, in its own blocks and in new ones. -/
theorem OH.fill2 {α : Type} {t : Ty α} {e : TypeId} {w : World} {F : Nat → Prop} {v : Value} {xs : List α} {css : List (List Value)} {Fs : Nat → Nat → Prop} {k : Nat} (h : OH t e w F v xs css Fs k) {cs : List Value} (hcs : css[k]? = some cs) {y : α} {Fe : Nat → Prop} (hy : t.O w Fe cs y) (hd : ∀ b, Fe b → Fs k b ∨ ¬ F b) :
    OS t e w (fun b => F b ∨ Fe b) v (xs.set k y) := by
  obtain ⟨h1, h2, h3, h4, h5, h6, h7⟩ := h
  refine ⟨css, fun i => if i = k then Fe else Fs i, by rw [List.length_set]; exact h1, by rw [List.length_set]; exact h2, fun g hg => .inl (h4 g hg), fun i b hb => ?_, fun i j b hne hi hj => ?_, fun i hi hi' => ?_⟩
  · change (if i = k then Fe else Fs i) b at hb
    by_cases hik : i = k
    · rw [if_pos hik] at hb
      refine ⟨.inr hb, fun hg => ?_⟩
      rcases hd b hb with h8 | h8
      · exact (h5 k b h8).2 hg
      · exact h8 (h4 b hg)
    · rw [if_neg hik] at hb
      exact ⟨.inl (h5 i b hb).1, (h5 i b hb).2⟩
  · change (if i = k then Fe else Fs i) b at hi
    change (if j = k then Fe else Fs j) b at hj
    by_cases hik : i = k
    · rw [if_pos hik] at hi
      rw [if_neg (fun e => hne (hik.trans e.symm))] at hj
      rcases hd b hi with h8 | h8
      · exact h6 k j b (fun e => hne (hik.trans e)) h8 hj
      · exact h8 (h5 j b hj).1
    · rw [if_neg hik] at hi
      by_cases hjk : j = k
      · rw [if_pos hjk] at hj
        rcases hd b hj with h8 | h8
        · exact h6 k i b (fun e => hik e.symm) h8 hi
        · exact h8 (h5 i b hi).1
      · rw [if_neg hjk] at hj
        exact h6 i j b hne hi hj
  · by_cases hik : i = k
    · subst hik
      rw [List.getElem_set_self]
      rw [List.getElem?_eq_getElem hi', Option.some.injEq] at hcs
      rw [hcs]
      simpa using hy
    · rw [List.getElem_set_ne (fun e => hik e.symm)]
      simpa [hik] using h7 i (by rw [List.length_set] at hi; exact hi) hi' hik
/-- Strips no greater than their lines. -/
def M.fits (Ls : List (List UInt8)) (X : List Strip) : Prop := X.length = Ls.length ∧ ∀ (i : Nat) (x : Strip) (L : List UInt8), X[i]? = some x → Ls[i]? = some L → x.1.size ≤ L.length ∧ x.2.2.length ≤ L.length
theorem M.fits_sz : ∀ {Ls : List (List UInt8)} {X : List Strip}, M.fits Ls X → hM.sz X ≤ Ls.length + 2 * (Ls.map List.length).sum := by
  have key : ∀ (Ls : List (List UInt8)) (X : List Strip), M.fits Ls X → hSt.szL X ≤ 2 * (Ls.map List.length).sum := by
    intro Ls
    induction Ls with
    | nil =>
      intro X h
      have : X = [] := List.eq_nil_of_length_eq_zero (by rw [h.1]; rfl)
      rw [this]; simp [Hs.szL]
    | cons L Ls ih =>
      intro X h
      cases X with
      | nil => have := h.1; simp at this
      | cons x X =>
        have h0 := h.2 0 x L rfl rfl
        have hr := ih X ⟨by have := h.1; simpa using this, fun i y M hy hM => h.2 (i + 1) y M (by simpa using hy) (by simpa using hM)⟩
        obtain ⟨s, l, us⟩ := x
        rw [Hs.szL, hSt_sz]
        simp only [List.map_cons, List.sum_cons]
        simp only at h0
        omega
  intro Ls X h
  show X.length + hSt.szL X ≤ _
  have := key Ls X h
  have := h.1
  omega
end Go.Proofs.YtecdendjlgohjaaGreatDoor
namespace Go.Proofs.YtecdendjlgohjaaGreatDoor
open Go.RowKit
set_option maxHeartbeats 2000000
set_option maxRecDepth 100000
def M.small (c : UInt8) : Bool := decide (97 ≤ c.toNat) && decide (c.toNat ≤ 122)
def M.digit (c : UInt8) : Bool := decide (48 ≤ c.toNat) && decide (c.toNat ≤ 57)
def M.nameAt (s : ByteArray) (i : Nat) : Bool := match s.data.toList[i]? with
  | some c => M.small c || (M.digit c && decide (i ≠ 0))
  | none => true
/-- A name. -/
def M.name (s : ByteArray) : Bool := decide (1 ≤ s.size) && decide (s.size ≤ 10) && (List.range s.size).all (M.nameAt s)
theorem M.nameAt_eq {s : ByteArray} {k : Nat} (hk : k < s.size) : M.nameAt s k = (M.small s[k] || (M.digit s[k] && decide (k ≠ 0))) := by
  have h1 : s.data.toList[k]? = some s[k] := by
    rw [List.getElem?_eq_getElem (by simpa using hk)]
    rfl
  rw [M.nameAt, h1]
theorem M.name_no {s : ByteArray} {k : Nat} (hk : k < s.size) (h : M.nameAt s k = false) : M.name s = false := by
  rw [M.name]
  cases hall : (List.range s.size).all (M.nameAt s)
  · simp
  · rw [List.all_eq_true] at hall
    have := hall k (List.mem_range.2 hk)
    rw [h] at this
    cases this
theorem M.name_yes {s : ByteArray} (h1 : 1 ≤ s.size) (h2 : s.size ≤ 10) (h : ∀ j, j < s.size → M.nameAt s j = true) : M.name s = true := by
  rw [M.name, decide_eq_true h1, decide_eq_true h2, Bool.true_and, Bool.true_and, List.all_eq_true]
  exact fun j hj => h j (List.mem_range.1 hj)
theorem M.name_len {s : ByteArray} (h : ¬ (1 ≤ s.size ∧ s.size ≤ 10)) : M.name s = false := by
  rw [M.name]
  by_cases h1 : 1 ≤ s.size
  · have h2 : ¬ s.size ≤ 10 := fun e => h ⟨h1, e⟩
    simp [h2]
  · simp [h1]
theorem impl_IsName (s : ByteArray) (w : World) (hs : s.size ≤ maxLen) :
    Calls Tryz.prog 47 #[.string s] w fun e w' => e = .returned (.bool (M.name s)) ∧ w = w' := by
  unfold maxLen at hs
  by_cases hlen : 1 ≤ s.size ∧ s.size ≤ 10
  · obtain ⟨hl1, hl2⟩ := hlen
    go_enter Tryz.func47, Tryz.ntmps47
    go_wp2
    go_loop [3, 4, 5] (fun i _ _ => ∃ k : Nat, i = .int .i64 k ∧ k ≤ s.size ∧ Hid (∀ j, j < k → M.nameAt s j = true)) (fun i _ _ => s.size - (intOf i).toNat)
    case atStart => exact ⟨0, rfl, by omega, Lib.hid (by omega)⟩
    case round =>
      obtain ⟨k, rfl, hk, H⟩ := hrel
      by_cases hlt : k < s.size
      · have hA := Lib.hid (M.nameAt_eq hlt)
        have hgo : M.nameAt s k = true → ∀ j, j < k + 1 → M.nameAt s j = true := fun h j hj => by
          rcases Nat.lt_or_ge j k with h1 | h1
          · exact H.out j h1
          · obtain rfl : j = k := by omega
            exact h
        have HG := Lib.hid hgo
        have HN := Lib.hid (fun h => M.name_no (s := s) (k := k) hlt h)
        clear hgo
        by_cases h97 : 97 ≤ s[k].toNat
        · by_cases h122 : s[k].toNat ≤ 122
          · have h2 := Lib.hid (show M.nameAt s k = true by rw [hA.out]; simp [M.small, M.digit]; omega)
            have g1 : (97 : Int) ≤ (s[k].toNat : Int) := by omega
            have g2 : (s[k].toNat : Int) ≤ 122 := by omega
            clear h97 h122
            go_wp2
            go_round
            case rel => exact ⟨k + 1, by go_num, by omega, Lib.hid (HG.out h2.out)⟩
            case measure => simp [intOf]; omega
          · have h2 := Lib.hid (HN.out (show M.nameAt s k = false by rw [hA.out]; simp [M.small, M.digit]; omega))
            have g1 : (97 : Int) ≤ (s[k].toNat : Int) := by omega
            have g2 : ¬ (s[k].toNat : Int) ≤ 122 := by omega
            have g3 : (48 : Int) ≤ (s[k].toNat : Int) := by omega
            have g4 : ¬ (s[k].toNat : Int) ≤ 57 := by omega
            clear h97 h122
            go_wp2
            go_ret
            exact ⟨ret_bool (by rw [h2.out]), rfl⟩
        · by_cases h48 : 48 ≤ s[k].toNat
          · by_cases h57 : s[k].toNat ≤ 57
            · by_cases hk0 : k = 0
              · have h2 := Lib.hid (HN.out (show M.nameAt s k = false by rw [hA.out]; simp [M.small, M.digit]; omega))
                have g1 : ¬ (97 : Int) ≤ (s[k].toNat : Int) := by omega
                have g3 : (48 : Int) ≤ (s[k].toNat : Int) := by omega
                have g4 : (s[k].toNat : Int) ≤ 57 := by omega
                clear h97 h48 h57
                subst hk0
                go_wp2
                go_ret
                exact ⟨ret_bool (by rw [h2.out]), rfl⟩
              · have h2 := Lib.hid (show M.nameAt s k = true by rw [hA.out]; simp [M.small, M.digit]; omega)
                have g1 : ¬ (97 : Int) ≤ (s[k].toNat : Int) := by omega
                have g3 : (48 : Int) ≤ (s[k].toNat : Int) := by omega
                have g4 : (s[k].toNat : Int) ≤ 57 := by omega
                clear h97 h48 h57
                go_wp2
                go_round
                case rel => exact ⟨k + 1, by go_num, by omega, Lib.hid (HG.out h2.out)⟩
                case measure => simp [intOf]; omega
            · have h2 := Lib.hid (HN.out (show M.nameAt s k = false by rw [hA.out]; simp [M.small, M.digit]; omega))
              have g1 : ¬ (97 : Int) ≤ (s[k].toNat : Int) := by omega
              have g3 : (48 : Int) ≤ (s[k].toNat : Int) := by omega
              have g4 : ¬ (s[k].toNat : Int) ≤ 57 := by omega
              clear h97 h48 h57
              go_wp2
              go_ret
              exact ⟨ret_bool (by rw [h2.out]), rfl⟩
          · have h2 := Lib.hid (HN.out (show M.nameAt s k = false by rw [hA.out]; simp [M.small, M.digit]; omega))
            have g1 : ¬ (97 : Int) ≤ (s[k].toNat : Int) := by omega
            have g3 : ¬ (48 : Int) ≤ (s[k].toNat : Int) := by omega
            clear h97 h48
            go_wp2
            go_ret
            exact ⟨ret_bool (by rw [h2.out]), rfl⟩
      · have hY := Lib.hid (M.name_yes hl1 hl2 (fun j hj => H.out j (by omega)))
        go_wp2
        go_ret
        exact ⟨ret_bool (by rw [hY.out]), rfl⟩
  · have hN := Lib.hid (M.name_len hlen)
    by_cases h1 : s.size < 1
    · go_enter Tryz.func47, Tryz.ntmps47
      go_wp2
      go_ret
      exact ⟨ret_bool (by rw [hN.out]), rfl⟩
    · have h2 : 10 < s.size := by omega
      go_enter Tryz.func47, Tryz.ntmps47
      go_wp2
      go_ret
      exact ⟨ret_bool (by rw [hN.out]), rfl⟩
theorem spec_l01Small (c : UInt8) (w : World) : Calls Tryz.prog 78 #[.int .u8 (c.toNat : Int)] w fun e w' => e = .returned (.bool (M.small c)) ∧ w = w' := by
  go_enter Tryz.func78, Tryz.ntmps78
  go_wp2
  all_goals
    go_ret
    exact ⟨ret_bool (by rw [M.small, Bool.eq_iff_iff]; simp; omega), rfl⟩
theorem spec_l01Digit (c : UInt8) (w : World) : Calls Tryz.prog 36 #[.int .u8 (c.toNat : Int)] w fun e w' => e = .returned (.bool (M.digit c)) ∧ w = w' := by
  go_enter Tryz.func36, Tryz.ntmps36
  go_wp2
  all_goals
    go_ret
    exact ⟨ret_bool (by rw [M.digit, Bool.eq_iff_iff]; simp; omega), rfl⟩
theorem spec_IsName (s : ByteArray) (w : World) (hs : s.size ≤ maxLen) :
    Calls Tryz.prog 63 #[.string s] w fun e w' => e = .returned (.bool (M.name s)) ∧ w = w' := by
  unfold maxLen at hs
  by_cases h0 : s.size = 0
  · have hN := Lib.hid (M.name_len (s := s) (by omega))
    have he : s.toList = [] := by rw [Lib.toList_data]; exact List.eq_nil_of_length_eq_zero (by simpa using h0)
    have he2 : s.toList.isEmpty = true := by rw [he]; rfl
    clear h0
    go_enter Tryz.func63, Tryz.ntmps63
    go_wp2
    go_ret
    exact ⟨ret_bool (by rw [hN.out]), rfl⟩
  · have he : ¬ s.toList = [] := by
      rw [Lib.toList_data]
      intro e
      exact h0 (by have := congrArg List.length e; simpa using this)
    have he2 : s.toList.isEmpty = false := by simpa using he
    have hp : 0 < s.size := by omega
    by_cases h10 : 10 < s.size
    · have hN := Lib.hid (M.name_len (s := s) (by omega))
      go_enter Tryz.func63, Tryz.ntmps63
      go_wp2
      go_ret
      exact ⟨ret_bool (by rw [hN.out]), rfl⟩
    · cases hsm : M.small s[0]
      · have hN := Lib.hid (M.name_no (s := s) (k := 0) hp (by rw [M.nameAt_eq hp, hsm]; simp))
        go_enter Tryz.func63, Tryz.ntmps63
        go_wp2_with (go_at_call 78; refine (spec_l01Small _ _).mono ?_; rw [hsm]; rintro e w' ⟨rfl, rfl⟩)
        go_ret
        exact ⟨ret_bool (by rw [hN.out]), rfl⟩
      · have hl2 : s.size ≤ 10 := by omega
        have HSM := Lib.hid hsm
        clear hsm
        go_enter Tryz.func63, Tryz.ntmps63
        go_wp2_with (go_at_call 78; refine (spec_l01Small _ _).mono ?_; rw [HSM.out]; rintro e w' ⟨rfl, rfl⟩)
        go_loop [3] (fun i => ∃ k : Nat, i = .int .i64 k ∧ k ≤ s.size ∧ Hid (∀ j, j < k → M.nameAt s j = true)) (fun i => s.size - (intOf i).toNat)
        case atStart => exact ⟨0, rfl, by omega, Lib.hid (by omega)⟩
        case round =>
          obtain ⟨k, rfl, hk, H⟩ := hrel
          by_cases hlt : k < s.size
          · have hA := Lib.hid (M.nameAt_eq hlt)
            have HG := Lib.hid (show M.nameAt s k = true → ∀ j, j < k + 1 → M.nameAt s j = true from fun h j hj => by
              rcases Nat.lt_or_ge j k with h1 | h1
              · exact H.out j h1
              · obtain rfl : j = k := by omega
                exact h)
            have HN := Lib.hid (fun h => M.name_no (s := s) (k := k) hlt h)
            have HK := Lib.hid (show k = 0 → M.small s[k] = true from fun e => by subst e; exact HSM.out)
            cases h1 : M.small s[k]
            · cases h2 : M.digit s[k]
              · have h3 := Lib.hid (HN.out (by rw [hA.out, h1, h2]; rfl))
                go_wp2_with (first | (go_at_call 78; refine (spec_l01Small _ _).mono ?_; rw [h1]; rintro e w' ⟨rfl, rfl⟩) | (go_at_call 36; refine (spec_l01Digit _ _).mono ?_; rw [h2]; rintro e w' ⟨rfl, rfl⟩))
                go_ret
                exact ⟨ret_bool (by rw [h3.out]), rfl⟩
              · have hk0 : ¬ k = 0 := fun e => by have := HK.out e; rw [h1] at this; cases this
                have h3 := Lib.hid (HG.out (by rw [hA.out, h1, h2]; simpa using hk0))
                clear hk0
                go_wp2_with (first | (go_at_call 78; refine (spec_l01Small _ _).mono ?_; rw [h1]; rintro e w' ⟨rfl, rfl⟩) | (go_at_call 36; refine (spec_l01Digit _ _).mono ?_; rw [h2]; rintro e w' ⟨rfl, rfl⟩))
                go_round
                case rel => exact ⟨k + 1, by go_num, by omega, h3⟩
                case measure => simp [intOf]; omega
            · have h3 := Lib.hid (HG.out (by rw [hA.out, h1]; rfl))
              go_wp2_with (go_at_call 78; refine (spec_l01Small _ _).mono ?_; rw [h1]; rintro e w' ⟨rfl, rfl⟩)
              go_round
              case rel => exact ⟨k + 1, by go_num, by omega, h3⟩
              case measure => simp [intOf]; omega
          · have hY := Lib.hid (M.name_yes (s := s) hp hl2 (fun j hj => H.out j (by omega)))
            go_wp2
            go_ret
            exact ⟨ret_bool (by rw [hY.out]), rfl⟩
end Go.Proofs.YtecdendjlgohjaaGreatDoor
namespace Go.Proofs.YtecdendjlgohjaaGreatDoor
open Go.RowKit
set_option maxHeartbeats 4000000
set_option maxRecDepth 100000
theorem M.inn_iffM {n lo hi : Int} : M.inn n lo hi = true ↔ lo ≤ n ∧ n ≤ hi := by simp [M.inn]
def M.sendsB (m : Int) : Int → List (Int × Int) → Bool
  | _, [] => true
  | last, x :: xs => M.inn x.1 (last + 1) (m - 1) && M.smp x.2 && M.sendsB m x.1 xs
def M.areSends (xs : List (Int × Int)) (k m : Int) : Bool := M.sendsB m k xs && (if k = m - 1 then decide (xs.length = 0) else M.inn xs.length 1 4)
def M.stripOk (x : Strip) (k m : Int) : Bool := M.name x.1 && M.inn x.2.1 0 32 && M.areSends x.2.2 k m
theorem M.sendsB_at {m last : Int} {xs : List (Int × Int)} {j : Nat} {p0 p1 : Int} (h : xs[j]? = some (p0, p1)) : M.sendsB m last (xs.drop j) = (M.inn p0 (last + 1) (m - 1) && M.smp p1 && M.sendsB m p0 (xs.drop (j + 1))) := by
  rw [M.drop_at h, M.sendsB]
theorem impl_size_impl_Send (A : Option Addr) (n c : Nat) (w : World) : Calls Tryz.prog 70 #[.slice A n c] w fun e w' => e = .returned (.int .i64 n) ∧ w = w' := by
  go_enter Tryz.func70, Tryz.ntmps70
  go_wp2
  go_ret
  exact ⟨rfl, rfl⟩
theorem impl_size_impl_Strip (A : Option Addr) (n c : Nat) (w : World) : Calls Tryz.prog 46 #[.slice A n c] w fun e w' => e = .returned (.int .i64 n) ∧ w = w' := by
  go_enter Tryz.func46, Tryz.ntmps46
  go_wp2
  go_ret
  exact ⟨rfl, rfl⟩
theorem impl_areSends (A : Option Addr) (n c : Nat) (xs : List (Int × Int)) (k m : Int) (w : World) (hx : RA sd 2 w w.heap.size A n xs) (hn : n ≤ 1000000000) (hk : 0 ≤ k ∧ k ≤ 1000000000) (hm : 0 ≤ m ∧ m ≤ 1000000000) :
    Calls Tryz.prog 49 #[.slice A n c, .int .i64 k, .int .i64 m] w fun e w' => e = .returned (.bool (M.areSends xs k m)) ∧ Below w.heap.size w w' := by
  have hl := Lib.hid hx.1
  go_enter Tryz.func49, Tryz.ntmps49
  go_wp2
  go_loopw [7, 9, 13] (fun v _ i wr => ∃ (j : Nat) (last : Int), i = .int .i64 j ∧ j ≤ n ∧ v = .int .i64 last ∧ 0 ≤ last ∧ last ≤ 1000000000 ∧ Hid (M.sendsB m k xs = M.sendsB m last (xs.drop j)) ∧ Below w.heap.size w wr) (fun _ _ i _ => n - (intOf i).toNat)
  case atStart => exact ⟨0, k, rfl, by omega, rfl, by omega, by omega, Lib.hid rfl, Below.refl _ _⟩
  case round =>
    obtain ⟨j, last, rfl, hj, rfl, hl0, hl1, H, hb⟩ := hrel
    by_cases hlt : j < n
    · obtain ⟨b, o, ⟨p0, p1⟩, rfl, hab, X, hcc⟩ := (hx.below hb).at sd_len (by decide) hlt
      have e0 : wr.cell? ⟨b, o + j * 2, none⟩ = some (.int .i64 p0) := hcc 0 _ rfl
      have e1 : wr.cell? ⟨b, o + j * 2 + 1, none⟩ = some (.int .i64 p1) := hcc 1 _ rfl
      have hS := Lib.hid (M.sendsB_at (m := m) (last := last) X.out)
      clear hcc
      cases h1 : M.inn p0 (last + 1) (m - 1)
      · have R := Lib.hid (show M.areSends xs k m = false by rw [M.areSends, H.out, hS.out, h1]; rfl)
        go_wp2_with (go_at_call 48; refine (impl_within _ _ _ _).mono ?_; rintro e w' ⟨rfl, rfl⟩)
        go_ret
        exact ⟨ret_bool (by rw [R.out]), hb.alloc hb.size _⟩
      · cases h2 : M.smp p1
        · have R := Lib.hid (show M.areSends xs k m = false by rw [M.areSends, H.out, hS.out, h1, h2]; rfl)
          go_wp2_with (first | (go_at_call 48; refine (impl_within _ _ _ _).mono ?_; rintro e w' ⟨rfl, rfl⟩) | (go_at_call 69; refine (impl_isSample _ _).mono ?_; rintro e w' ⟨rfl, rfl⟩))
          go_ret
          exact ⟨ret_bool (by rw [R.out]), hb.alloc hb.size _⟩
        · have hp := M.inn_iffM.1 h1
          have H2 := Lib.hid (show M.sendsB m k xs = M.sendsB m p0 (xs.drop (j + 1)) by rw [H.out, hS.out, h1, h2]; rfl)
          go_wp2_with (first | (go_at_call 48; refine (impl_within _ _ _ _).mono ?_; rintro e w' ⟨rfl, rfl⟩) | (go_at_call 69; refine (impl_isSample _ _).mono ?_; rintro e w' ⟨rfl, rfl⟩))
          go_roundw
          case rel => exact ⟨j + 1, p0, by go_num, by omega, rfl, by omega, by omega, H2, hb.alloc hb.size _⟩
          case measure => simp [intOf]; omega
    · have H2 := Lib.hid (show M.sendsB m k xs = true by rw [H.out, List.drop_eq_nil_of_le (by rw [hl.out]; omega)]; rfl)
      by_cases hkm : k = m - 1
      · have R := Lib.hid (show M.areSends xs k m = decide (n = 0) by rw [M.areSends, H2.out, if_pos hkm, hl.out]; rfl)
        have hkm2 : (k == m - 1) = true := by simpa using hkm
        clear hkm
        by_cases hz : n = 0
        · subst hz
          go_wp2
          go_ret
          exact ⟨ret_bool (by rw [R.out]; rfl), hb⟩
        · have hz2 : ((n : Int) == 0) = false := by simpa using hz
          have R2 := Lib.hid (show M.areSends xs k m = false by rw [R.out]; simpa using hz)
          clear hz
          go_wp2
          go_ret
          exact ⟨ret_bool (by first | (rw [R2.out]; done) | (rw [R2.out]; exact hz2)), hb⟩
      · have hkm2 : (k == m - 1) = false := by simpa using hkm
        have R := Lib.hid (show M.areSends xs k m = M.inn n 1 4 by rw [M.areSends, H2.out, if_neg hkm, hl.out]; rfl)
        go_wp2_with (first | (go_at_call 48; refine (impl_within _ _ _ _).mono ?_; rintro e w' ⟨rfl, rfl⟩) | (go_at_call 70; refine (impl_size_impl_Send _ _ _ _).mono ?_; rintro e w' ⟨rfl, rfl⟩))
        go_ret
        exact ⟨ret_bool (by rw [R.out]), hb⟩
theorem spec_l26Strip (g o : Nat) (s : ByteArray) (l : Int) (A : Option Addr) (n c : Nat) (xs : List (Int × Int)) (k m : Int) (w : World) (a0 : w.cell? ⟨g, o, none⟩ = some (.string s)) (a1 : w.cell? ⟨g, o + 1, none⟩ = some (.int .i64 l)) (a2 : w.cell? ⟨g, o + 2, none⟩ = some (.slice A n c))
    (hs : s.size ≤ maxLen) (hx : RA sd 2 w w.heap.size A n xs) (hn : n ≤ 1000000000) (hk : 0 ≤ k ∧ k ≤ 1000000000) (hm : 0 ≤ m ∧ m ≤ 1000000000) :
    Calls Tryz.prog 40 #[.pointer (some ⟨g, o, none⟩), .int .i64 k, .int .i64 m] w fun e w' => e = .returned (.bool (M.stripOk (s, l, xs) k m)) ∧ w = w' := by
  have hl := Lib.hid hx.1
  cases hN : M.name s
  · have R := Lib.hid (show M.stripOk (s, l, xs) k m = false by rw [M.stripOk, hN]; rfl)
    go_enter Tryz.func40, Tryz.ntmps40
    go_wp2_with (first | (go_at_call 63; refine (spec_IsName _ _ hs).mono ?_; rw [hN]; rintro e w' ⟨rfl, rfl⟩) | (go_at_call 39; refine (spec_l00In _ _ _ _).mono ?_; rintro e w' ⟨rfl, rfl⟩))
    go_ret
    exact ⟨ret_bool (by rw [R.out]), rfl⟩
  cases hL : M.inn l 0 32
  · have R := Lib.hid (show M.stripOk (s, l, xs) k m = false by rw [M.stripOk, hN, hL]; rfl)
    go_enter Tryz.func40, Tryz.ntmps40
    go_wp2_with (first | (go_at_call 63; refine (spec_IsName _ _ hs).mono ?_; rw [hN]; rintro e w' ⟨rfl, rfl⟩) | (go_at_call 39; refine (spec_l00In _ _ _ _).mono ?_; rintro e w' ⟨rfl, rfl⟩))
    go_ret
    exact ⟨ret_bool (by rw [R.out]), rfl⟩
  by_cases h4 : 4 < n
  · have h4' : (4 : Int) < (n : Int) := by omega
    have R := Lib.hid (show M.stripOk (s, l, xs) k m = false by
      rw [M.stripOk, hN, hL]
      show M.areSends xs k m = false
      rw [M.areSends, hl.out]
      split
      · rw [decide_eq_false (by omega), Bool.and_false]
      · rw [show M.inn (n : Int) 1 4 = false by simp [M.inn]; omega, Bool.and_false])
    go_enter Tryz.func40, Tryz.ntmps40
    go_wp2_with (first | (go_at_call 63; refine (spec_IsName _ _ hs).mono ?_; rw [hN]; rintro e w' ⟨rfl, rfl⟩) | (go_at_call 39; refine (spec_l00In _ _ _ _).mono ?_; rintro e w' ⟨rfl, rfl⟩))
    go_ret
    exact ⟨ret_bool (by rw [R.out]), rfl⟩
  by_cases hz : n = 0
  · by_cases hkm : k = m - 1
    · have R := Lib.hid (show M.stripOk (s, l, xs) k m = true by
        have hnil : xs = [] := List.eq_nil_of_length_eq_zero (by rw [hl.out, hz])
        rw [M.stripOk, hN, hL, M.areSends, if_pos hkm, hnil]; rfl)
      have hkm2 : (k == m - 1) = true := by simpa using hkm
      subst hz
      clear hkm
      go_enter Tryz.func40, Tryz.ntmps40
      go_wp2_with (first | (go_at_call 63; refine (spec_IsName _ _ hs).mono ?_; rw [hN]; rintro e w' ⟨rfl, rfl⟩) | (go_at_call 39; refine (spec_l00In _ _ _ _).mono ?_; rintro e w' ⟨rfl, rfl⟩))
      go_loop [7, 8] (fun _ i => i = .int .i64 0) (fun _ _ => 0)
      case atStart => exact rfl
      case round =>
        obtain rfl := hrel
        go_wp2
        go_ret
        exact ⟨ret_bool (by rw [R.out]), rfl⟩
    · have R := Lib.hid (show M.stripOk (s, l, xs) k m = false by
        rw [M.stripOk, hN, hL]
        show M.areSends xs k m = false
        rw [M.areSends, hl.out, if_neg hkm, hz, show M.inn ((0 : Nat) : Int) 1 4 = false by decide, Bool.and_false])
      have hkm2 : (k == m - 1) = false := by simpa using hkm
      subst hz
      go_enter Tryz.func40, Tryz.ntmps40
      go_wp2_with (first | (go_at_call 63; refine (spec_IsName _ _ hs).mono ?_; rw [hN]; rintro e w' ⟨rfl, rfl⟩) | (go_at_call 39; refine (spec_l00In _ _ _ _).mono ?_; rintro e w' ⟨rfl, rfl⟩))
      go_ret
      exact ⟨ret_bool (by rw [R.out]), rfl⟩
  · have hz2 : ((n : Int) == 0) = false := by simpa using hz
    by_cases hkm : k = m - 1
    · have R := Lib.hid (show M.stripOk (s, l, xs) k m = false by
        rw [M.stripOk, hN, hL]
        show M.areSends xs k m = false
        rw [M.areSends, hl.out, if_pos hkm, decide_eq_false hz, Bool.and_false])
      have hkm2 : (k == m - 1) = true := by simpa using hkm
      clear hkm hz
      go_enter Tryz.func40, Tryz.ntmps40
      go_wp2_with (first | (go_at_call 63; refine (spec_IsName _ _ hs).mono ?_; rw [hN]; rintro e w' ⟨rfl, rfl⟩) | (go_at_call 39; refine (spec_l00In _ _ _ _).mono ?_; rintro e w' ⟨rfl, rfl⟩))
      go_ret
      exact ⟨ret_bool (by rw [R.out]), rfl⟩
    · have R := Lib.hid (show M.stripOk (s, l, xs) k m = M.sendsB m k xs by
        rw [M.stripOk, hN, hL]
        show M.areSends xs k m = _
        rw [M.areSends, hl.out, if_neg hkm, show M.inn (n : Int) 1 4 = true from M.inn_iffM.2 ⟨by omega, by omega⟩, Bool.and_true])
      have hkm2 : (k == m - 1) = false := by simpa using hkm
      have hN' := Lib.hid hN
      have hL' := Lib.hid hL
      clear hkm hz hN hL
      go_enter Tryz.func40, Tryz.ntmps40
      go_wp2_with (first | (go_at_call 63; refine (spec_IsName _ _ hs).mono ?_; rw [hN'.out]; rintro e w' ⟨rfl, rfl⟩) | (go_at_call 39; refine (spec_l00In _ _ _ _).mono ?_; rw [hL'.out]; rintro e w' ⟨rfl, rfl⟩))
      go_loop [7, 8] (fun v i => ∃ (j : Nat) (last : Int), i = .int .i64 j ∧ j ≤ n ∧ v = .int .i64 last ∧ 0 ≤ last ∧ last ≤ 1000000000 ∧ Hid (M.sendsB m k xs = M.sendsB m last (xs.drop j))) (fun _ i => n - (intOf i).toNat)
      case atStart => exact ⟨0, k, rfl, by omega, rfl, by omega, by omega, Lib.hid rfl⟩
      case round =>
        obtain ⟨j, last, rfl, hj, rfl, hl0, hl1, H⟩ := hrel
        by_cases hlt : j < n
        · obtain ⟨b, o1, ⟨p0, p1⟩, rfl, hab, X, hcc⟩ := hx.at sd_len (by decide) hlt
          have e0 : w.cell? ⟨b, o1 + j * 2, none⟩ = some (.int .i64 p0) := hcc 0 _ rfl
          have e1 : w.cell? ⟨b, o1 + j * 2 + 1, none⟩ = some (.int .i64 p1) := hcc 1 _ rfl
          have hS := Lib.hid (M.sendsB_at (m := m) (last := last) X.out)
          clear hcc
          cases h1 : M.inn p0 (last + 1) (m - 1)
          · have R2 := Lib.hid (show M.stripOk (s, l, xs) k m = false by rw [R.out, H.out, hS.out, h1]; rfl)
            go_wp2_with (go_at_call 39; refine (spec_l00In _ _ _ _).mono ?_; rintro e w' ⟨rfl, rfl⟩)
            go_ret
            exact ⟨ret_bool (by rw [R2.out]), rfl⟩
          · cases h2 : M.smp p1
            · have R2 := Lib.hid (show M.stripOk (s, l, xs) k m = false by rw [R.out, H.out, hS.out, h1, h2]; rfl)
              go_wp2_with (first | (go_at_call 39; refine (spec_l00In _ _ _ _).mono ?_; rintro e w' ⟨rfl, rfl⟩) | (go_at_call 64; refine (spec_l01Sample _ _).mono ?_; rintro e w' ⟨rfl, rfl⟩))
              go_ret
              exact ⟨ret_bool (by rw [R2.out]), rfl⟩
            · have hp := M.inn_iffM.1 h1
              have H2 := Lib.hid (show M.sendsB m k xs = M.sendsB m p0 (xs.drop (j + 1)) by rw [H.out, hS.out, h1, h2]; rfl)
              go_wp2_with (first | (go_at_call 39; refine (spec_l00In _ _ _ _).mono ?_; rintro e w' ⟨rfl, rfl⟩) | (go_at_call 64; refine (spec_l01Sample _ _).mono ?_; rintro e w' ⟨rfl, rfl⟩))
              go_round
              case rel => exact ⟨j + 1, p0, by go_num, by omega, rfl, by omega, by omega, H2⟩
              case measure => simp [intOf]; omega
        · have R2 := Lib.hid (show M.stripOk (s, l, xs) k m = true by rw [R.out, H.out, List.drop_eq_nil_of_le (by rw [hl.out]; omega)]; rfl)
          go_wp2
          go_ret
          exact ⟨ret_bool (by rw [R2.out]), rfl⟩
end Go.Proofs.YtecdendjlgohjaaGreatDoor
namespace Go.Proofs.YtecdendjlgohjaaGreatDoor
open Go.RowKit
open Go.Maps (Keyed)
set_option maxHeartbeats 4000000
set_option maxRecDepth 100000
theorem lookup_bool {P : Program} {k t e : TypeId} {w : World} {b n : Nat} {D : DataW Unit} (h : w.ownsMap P k (plainElem P e) b n D) (K : Keyed P k) (ht : P.underlying t = some (.map k e)) (he : P.underlying e = some .bool) (hz : (zeroValue e).run P w = .ok (.bool false) w)
    {key : Value} {kl : Lit} (hkey : keyOf P k key = some kl) : ∃ c, (Instr.lookup t (.map (some b)) key false).run P w = .ok (.bool c) w ∧ D.atKey kl (.lit (.bool false)) = .lit (.bool c) := by
  obtain ⟨v, ps, hrun, hv⟩ := h.lookup K ht hz (plainElem_bool he false) hkey
  unfold plainElem at hv
  rw [he] at hv
  cases v <;> simp at hv
  rename_i c
  exact ⟨c, hrun, hv.1.symm⟩
def M.has (s : ByteArray) (l : List ByteArray) : Bool := l.any fun t => decide (t = s)
/-- The map of the names so far. -/
def NamesOf (D : DataW Unit) (l : List ByteArray) : Prop := Go.Maps.IsMap D ∧ ∀ s : ByteArray, D.atKey (.string s.data.toList) (.lit (.bool false)) = .lit (.bool (M.has s l))
theorem bytes_eq {s t : ByteArray} (h : s.data.toList = t.data.toList) : s = t := ByteArray.ext (Array.toList_inj.1 h)
theorem names_nil : NamesOf (.map []) [] := ⟨⟨[], rfl⟩, fun s => rfl⟩
theorem names_put {D : DataW Unit} {l : List ByteArray} (h : NamesOf D l) (s : ByteArray) : NamesOf (D.put (.string s.data.toList) (.lit (.bool true))) (l ++ [s]) := by
  refine ⟨?_, fun t => ?_⟩
  · obtain ⟨es, rfl⟩ := h.1
    exact ⟨_, rfl⟩
  · by_cases e : t = s
    · subst e
      rw [Go.Maps.atKey_put_same (k := .string t.data.toList) h.1 (by simp [WideAt.IsKeyLit])]
      simp [M.has]
    · rw [Go.Maps.atKey_put_other (fun e2 => e (by injection e2 with e2; exact bytes_eq e2)), h.2 t]
      have e2 : ¬ s = t := fun h => e h.symm
      simp [M.has, e2]
theorem keyed_str : Keyed Tryz.prog 9 := Keyed.of_law (Go.WideMaps.string_law Tryz.underlying9)
theorem zero_bool (w : World) : (zeroValue 4).run Tryz.prog w = .ok (.bool false) w := by kernel_rfl
def M.sz : Strip := (⟨#[]⟩, 0, [])
def M.stepM (xs : List Strip) (k : Nat) : Bool := M.stripOk ((xs[k]?).getD M.sz) k xs.length && !M.has ((xs[k]?).getD M.sz).1 ((xs.take k).map (·.1))
/-- A mixer is valid. -/
def M.mixOk (xs : List Strip) : Bool := M.inn xs.length 1 8 && (List.range xs.length).all (M.stepM xs)
theorem M.mix_no {xs : List Strip} {k : Nat} (hk : k < xs.length) (h : M.stepM xs k = false) : M.mixOk xs = false := by
  rw [M.mixOk]
  cases hall : (List.range xs.length).all (M.stepM xs)
  · simp
  · rw [List.all_eq_true] at hall
    have := hall k (List.mem_range.2 hk)
    rw [h] at this
    cases this
theorem M.mix_end {xs : List Strip} (h : ∀ j, j < xs.length → M.stepM xs j = true) : M.mixOk xs = M.inn xs.length 1 8 := by
  rw [M.mixOk, show (List.range xs.length).all (M.stepM xs) = true from List.all_eq_true.2 fun j hj => h j (List.mem_range.1 hj), Bool.and_true]
theorem M.stepM_eq {xs : List Strip} {k : Nat} {x : Strip} (h : xs[k]? = some x) : M.stepM xs k = (M.stripOk x k xs.length && !M.has x.1 ((xs.take k).map (·.1))) := by
  rw [M.stepM, h]; rfl
theorem grown_of_bel {w w' : World} (h : Below w.heap.size w w') (row : Option Nat) : w.grownBy w' row := ⟨h.os, h.tape, h.output, h.size, fun k hk _ => h.block k hk⟩
theorem impl_isMixer (A : Option Addr) (n c : Nat) (xs : List Strip) (w : World) (hx : tM.R w w.heap.size [.slice A n c] xs) (hn : hM.sz xs ≤ 100000000) :
    Calls Tryz.prog 24 #[.agg #[.slice A n c]] w fun e w' => e = .returned (.bool (M.mixOk xs)) ∧ Below w.heap.size w w' := by
  have rx := sl_R.1 hx
  have hlx := rx.cap.1
  have hm1 : xs.length + hSt.szL xs ≤ 100000000 := hn
  have hnb : n ≤ 100000000 := by omega
  have HLX := Lib.hid hlx
  have HM1 := Lib.hid hm1
  clear hlx hx hn hm1
  have hmm := @run_makeMap Tryz.prog
  go_enter Tryz.func24, Tryz.ntmps24
  go_wp2_with (go_at_call 46; refine (impl_size_impl_Strip _ _ _ _).mono ?_; rintro e w' ⟨rfl, rfl⟩)
  go_loopw [5, 6, 14] (fun _ _ i wr => ∃ (k : Nat) (D : DataW Unit), i = .int .i64 k ∧ k ≤ n ∧ Hid (∀ j, j < k → M.stepM xs j = true) ∧ Hid (NamesOf D ((xs.take k).map (·.1))) ∧ wr.ownsMap Tryz.prog 9 (plainElem Tryz.prog 4) (w.heap.size + 1) k D ∧ w.heap.size + 1 + 1 ≤ wr.heap.size ∧ Below w.heap.size w wr) (fun _ _ i _ => n - (intOf i).toNat)
  case atStart => exact ⟨0, .map [], rfl, by omega, Lib.hid (by omega), Lib.hid (by simpa using names_nil), by have := World.ownsMap_made (w.alloc (.cells #[.slice A n c] 24)) Tryz.prog 9 (plainElem (H := Unit) Tryz.prog 4); simpa using this, by simp, ((Below.refl _ _).alloc (Nat.le_refl _) _).alloc (by simp) _⟩
  case round =>
    obtain ⟨k, D, rfl, hk, H, HD, hown, hsz, Bw⟩ := hrel
    clear hmm
    by_cases hlt : k < n
    · have hX := Lib.hid (List.getElem?_eq_getElem (l := xs) (i := k) (by rw [HLX.out]; exact hlt))
      obtain ⟨b, o1, cc, cs, hv, hab, -, hE, hcc⟩ := (rx.below Bw).atX hX.out
      simp only [Value.slice.injEq] at hv
      obtain ⟨rfl, -, rfl⟩ := hv
      have hU := hSt.szL_at hX.out
      generalize xs[k]'(by rw [HLX.out]; exact hlt) = x at hX hE hU
      obtain ⟨s, l, us⟩ := x
      rw [hSt_sz] at hU
      obtain ⟨A1, n1, c1, rfl, hs, hE⟩ := st_R.1 hE
      have n1b : n1 ≤ 1000000000 := by have := (tSdS_ra hE).1.1; have := HM1.out; omega
      have e0 : wr.cell? ⟨b, o1 + k * 3, none⟩ = some (.string s) := hcc 0 _ rfl
      have e1 : wr.cell? ⟨b, o1 + k * 3 + 1, none⟩ = some (.int .i64 l) := hcc 1 _ rfl
      have e2 : wr.cell? ⟨b, o1 + k * 3 + 2, none⟩ = some (.slice A1 n1 c1) := hcc 2 _ rfl
      have hbr : b < wr.heap.size := Nat.lt_of_lt_of_le hab Bw.size
      have hE2 := tSdS.later (tSdS.more Bw.size hE) ((Below.refl wr.heap.size wr).alloc (Nat.le_refl _) (.cells #[.string s, .int .i64 l, .slice A1 n1 c1] 44))
      have hra := (tSdS_ra hE2).1
      have hS := Lib.hid (M.stepM_eq hX.out)
      have HNO := Lib.hid (fun h => M.mix_no (xs := xs) (k := k) (by rw [HLX.out]; exact hlt) h)
      have hownU := hown.alloc (.cells #[.string s, .int .i64 l, .slice A1 n1 c1] 44)
      have hkey : keyOf Tryz.prog 9 (.string s) = some (.string s.data.toList) := Go.WideMaps.keyOf_string_mk Tryz.underlying9 hs
      obtain ⟨q, hrun, hat⟩ := lookup_bool hownU keyed_str Tryz.underlying80 Tryz.underlying4 (zero_bool _) hkey
      have hq : q = M.has s ((xs.take k).map (·.1)) := by
        rw [HD.out.2 s] at hat
        injection hat with hat
        injection hat with hat
        exact hat.symm
      have HQ := Lib.hid hq
      have Bu := Bw.alloc Bw.size (.cells #[.string s, .int .i64 l, .slice A1 n1 c1] 44)
      clear hcc hU hE hE2 hat hq
      cases hN : M.name s
      · have R := Lib.hid (show M.mixOk xs = false from HNO.out (by rw [hS.out, M.stripOk, hN]; rfl))
        go_wp2_with (first | (go_at_call 47; refine (impl_IsName _ _ hs).mono ?_; rw [hN]; rintro e w' ⟨rfl, rfl⟩))
        go_ret
        exact ⟨ret_bool (by rw [R.out]), Bu⟩
      by_cases hq1 : q = true
      · subst hq1
        have R := Lib.hid (show M.mixOk xs = false from HNO.out (by rw [hS.out, ← HQ.out, Bool.not_true, Bool.and_false]))
        go_wp2_with (first | (go_at_call 47; refine (impl_IsName _ _ hs).mono ?_; rw [hN]; rintro e w' ⟨rfl, rfl⟩))
        go_ret
        exact ⟨ret_bool (by rw [R.out]), Bu⟩
      have hq0 : q = false := by simpa using hq1
      subst hq0
      clear hq1
      cases hL : M.inn l 0 32
      · have R := Lib.hid (show M.mixOk xs = false from HNO.out (by rw [hS.out, M.stripOk, hN, hL]; rfl))
        go_wp2_with (first | (go_at_call 47; refine (impl_IsName _ _ hs).mono ?_; rw [hN]; rintro e w' ⟨rfl, rfl⟩) | (go_at_call 48; refine (impl_within _ _ _ _).mono ?_; rintro e w' ⟨rfl, rfl⟩))
        go_ret
        exact ⟨ret_bool (by rw [R.out]), Bu⟩
      have hAS := impl_areSends A1 n1 c1 us k n _ hra n1b ⟨by omega, by omega⟩ ⟨by omega, by omega⟩
      cases hA : M.areSends us k n
      · have R := Lib.hid (show M.mixOk xs = false from HNO.out (by rw [hS.out, M.stripOk, hN, hL, HLX.out, hA]; rfl))
        go_wp2_with (first | (go_at_call 47; refine (impl_IsName _ _ hs).mono ?_; rw [hN]; rintro e w' ⟨rfl, rfl⟩) | (go_at_call 48; refine (impl_within _ _ _ _).mono ?_; rintro e w' ⟨rfl, rfl⟩) | (go_at_call 49; refine hAS.mono ?_; rw [hA]; clear hAS; rintro e w2 ⟨rfl, bel2⟩))
        go_ret
        exact ⟨ret_bool (by rw [R.out]), bel_trans' Bu (by simp; omega) bel2⟩
      · have HST := Lib.hid (show M.stepM xs k = true by rw [hS.out, M.stripOk, hN, hL, HLX.out, hA, ← HQ.out]; rfl)
        have HT := Lib.hid (show (xs.take (k + 1)).map (·.1) = (xs.take k).map (·.1) ++ [s] by rw [M.take_at hX.out, List.map_append]; rfl)
        go_wp2_with (first | (go_at_call 47; refine (impl_IsName _ _ hs).mono ?_; rw [hN]; rintro e w' ⟨rfl, rfl⟩) | (go_at_call 48; refine (impl_within _ _ _ _).mono ?_; rintro e w' ⟨rfl, rfl⟩) | (go_at_call 49; refine hAS.mono ?_; rw [hA]; clear hAS; rintro e w2 ⟨rfl, bel2⟩; have hown2 := hownU.kept (grown_of_bel bel2 none) (by simp); have z2 : wr.heap.size + 1 ≤ w2.heap.size := (by have := bel2.size; simpa using this); have g0 : w2.cell? ⟨wr.heap.size, 0, none⟩ = some (.string s) := (by rw [bel2.cell (by simp), cell_of_row _ wr.heap.size 0 _ 44 (0, 0) (heap_alloc_new wr _)]; rfl)) | (at_mapUpdate; refine wpList_mapUpdate_own _ rfl _ _ _ 80 rfl 9 4 keyed_str Tryz.underlying80 _ (w.heap.size + 1) k _ rfl hown2 (by unfold maxLen; omega) _ _ _ rfl rfl hkey _ [] (plainElem_bool Tryz.underlying4 true) ?_; intro w3 hown3 hgrow3))
        go_roundw
        case rel => exact ⟨k + 1, _, by go_num, by omega, Lib.hid (fun j hj => by
            rcases Nat.lt_or_ge j k with h1 | h1
            · exact H.out j h1
            · obtain rfl : j = k := by omega
              exact HST.out), Lib.hid (by rw [HT.out]; exact names_put HD.out s), hown3, by have := hgrow3.size; omega, (bel_trans' Bu (by simp; omega) bel2).grown hgrow3 (by omega) (fun j hj => by injection hj with hj; omega)⟩
        case measure => simp [intOf]; omega
    · have R := Lib.hid (show M.mixOk xs = M.inn n 1 8 by rw [M.mix_end (fun j hj => H.out j (by rw [HLX.out] at hj; omega)), HLX.out])
      go_wp2_with (go_at_call 48; refine (impl_within _ _ _ _).mono ?_; rintro e w' ⟨rfl, rfl⟩)
      go_ret
      exact ⟨ret_bool (by rw [R.out]), Bw⟩
end Go.Proofs.YtecdendjlgohjaaGreatDoor
namespace Go.Proofs.YtecdendjlgohjaaGreatDoor
open Go.RowKit
set_option maxHeartbeats 1000000
set_option maxRecDepth 100000
theorem src_one (b lo : Nat) (A : Option Addr) (n c : Nat) (code : List UInt8) (K : Nat) (m : Int) (w : World) (h : Src w b lo A n c code K) (hK : K ≤ 100000000000) (hm : m ≤ 65536) :
    Calls Tryz.prog 72 #[.pointer (some ⟨b, 0, none⟩), .int .i64 m] w fun e w' => ∃ r, e = .returned (.bool r) ∧ Src w' b lo A n c code (K + 2) ∧ Mid b (b + 1) w w' := by
  go_enter Tryz.func72, Tryz.ntmps72
  go_wp2_with fail
  refine (src_pick b lo A n c code K m w h hK hm).mono ?_
  rintro e w1 ⟨v, rfl, -, s1, m1⟩
  go_wp2
  go_ret
  exact ⟨_, rfl, s1, m1⟩
theorem src_text (b lo : Nat) (A : Option Addr) (n c : Nat) (code : List UInt8) (K : Nat) (g m d : Nat) (w : World) (h : Src w b lo A n c code K) (hK : K ≤ 100000000000) (hm : 0 < m ∧ m ≤ 60000) (hg : g ≠ b) (hgw : g < w.heap.size)
    (hc : ∀ j, j < m → ∃ s : ByteArray, s.size ≤ 6 ∧ w.cell? ⟨g, j, none⟩ = some (.string s)) :
    Calls Tryz.prog 56 #[.pointer (some ⟨b, 0, none⟩), .slice (some ⟨g, 0, none⟩) m d] w fun e w' => ∃ s : ByteArray, e = .returned (.string s) ∧ s.size ≤ 6 ∧ Src w' b lo A n c code (K + 2) ∧ Mid b (b + 1) w w' := by
  have HC := Lib.hid hc
  clear hc
  go_enter Tryz.func56, Tryz.ntmps56
  go_wp2_with fail
  refine (src_pick b lo A n c code K m w h hK (by omega)).mono ?_
  rintro e w1 ⟨v, rfl, ⟨v0, v1⟩, s1, m1⟩
  obtain ⟨k, rfl⟩ : ∃ k : Nat, v = k := ⟨v.toNat, by omega⟩
  have hk : k < m := by omega
  have hk2 : (k : Int) < (m : Int) := by omega
  obtain ⟨s, hs, hx0⟩ := HC.out k hk
  have hx : w1.cell? ⟨g, k, none⟩ = some (.string s) := by
    rw [World.cell?_of_block (m1.block g hgw (by omega))]
    exact hx0
  clear hx0
  go_wp2
  go_ret
  exact ⟨s, rfl, hs, s1, m1⟩
/-- Small strips. -/
def M.tiny (m : Nat) (xs : List Strip) : Prop := ∀ x ∈ xs, x.1.size ≤ 6 ∧ x.2.2.length ≤ m
theorem M.tiny_sz {m : Nat} {xs : List Strip} (h : M.tiny m xs) (hl : xs.length ≤ 8) (hm : m ≤ 10) : hM.sz xs ≤ 100000000 := by
  have hf : M.fits (List.replicate xs.length (List.replicate 10 0)) xs := ⟨by simp, fun i x L hx hL => by
    have h1 := h x (List.mem_of_getElem? hx)
    have h2 : L = List.replicate 10 0 := by
      have := List.mem_of_getElem? hL
      exact (List.mem_replicate.1 this).2
    rw [h2, List.length_replicate]; omega⟩
  have := M.fits_sz hf
  have e : ((List.replicate xs.length (List.replicate 10 (0 : UInt8))).map List.length).sum = xs.length * 10 := by simp
  rw [e, List.length_replicate] at this
  omega
theorem M.tiny_app {m : Nat} {xs : List Strip} {y : Strip} (h : M.tiny m xs) (hy : y.1.size ≤ 6 ∧ y.2.2.length ≤ m) : M.tiny m (xs ++ [y]) := fun x hx => by
  rcases List.mem_append.1 hx with hx | hx
  · exact h x hx
  · rw [List.mem_singleton.1 hx]; exact hy
theorem M.tiny_set {m : Nat} {xs : List Strip} {k : Nat} {y : Strip} (h : M.tiny m xs) (hy : y.1.size ≤ 6 ∧ y.2.2.length ≤ m) : M.tiny m (xs.set k y) := fun x hx => by
  rcases List.mem_or_eq_of_mem_set hx with hx | hx
  · exact h x hx
  · rw [hx]; exact hy
end Go.Proofs.YtecdendjlgohjaaGreatDoor
namespace Go.Proofs.YtecdendjlgohjaaGreatDoor
open Go.RowKit Go.Sort
set_option maxHeartbeats 4000000
set_option maxRecDepth 100000
set_option linter.unusedVariables false
/-- The names that are drawn, and what is known of the strips so far. -/
def M.nms : List ByteArray := [⟨#[100, 114, 117, 109, 115]⟩, ⟨#[98, 97, 115, 115]⟩, ⟨#[98, 117, 115]⟩, ⟨#[101, 99, 104, 111]⟩, ⟨#[107, 101, 121, 115]⟩, ⟨#[99, 104, 111, 105, 114]⟩]
def M.nm6 (j : Nat) : ByteArray := (M.nms[j]?).getD ⟨#[]⟩
def M.mstr : ByteArray := ⟨#[109, 97, 115, 116, 101, 114]⟩
theorem M.nm6_cases {P : Nat → Prop} (h0 : P 0) (h1 : P 1) (h2 : P 2) (h3 : P 3) (h4 : P 4) (h5 : P 5) : ∀ j, j < 6 → P j := by
  intro j hj
  match j, hj with
  | 0, _ => exact h0
  | 1, _ => exact h1
  | 2, _ => exact h2
  | 3, _ => exact h3
  | 4, _ => exact h4
  | 5, _ => exact h5
  | j + 6, hj => omega
theorem M.nm6_size (j : Nat) (hj : j < 6) : (M.nm6 j).size ≤ 6 := by
  refine M.nm6_cases (P := fun j => (M.nm6 j).size ≤ 6) ?_ ?_ ?_ ?_ ?_ ?_ j hj <;> decide
theorem M.nm6_name (j : Nat) (hj : j < 6) : M.name (M.nm6 j) = true := by
  refine M.nm6_cases (P := fun j => M.name (M.nm6 j) = true) ?_ ?_ ?_ ?_ ?_ ?_ j hj <;> rfl
theorem M.nm6_inj (i j : Nat) (hi : i < 6) (hj : j < 6) (h : M.nm6 i = M.nm6 j) : i = j := by
  have key : ∀ i, i < 6 → ∀ j, j < 6 → (M.nm6 i).data.toList = (M.nm6 j).data.toList → i = j := by
    refine M.nm6_cases ?_ ?_ ?_ ?_ ?_ ?_ <;> (refine M.nm6_cases ?_ ?_ ?_ ?_ ?_ ?_ <;> decide)
  exact key i hi j hj (by rw [h])
theorem M.nm6_mstr (i : Nat) (hi : i < 6) : M.nm6 i ≠ M.mstr := by
  have key : ∀ i, i < 6 → (M.nm6 i).data.toList ≠ M.mstr.data.toList := by
    refine M.nm6_cases ?_ ?_ ?_ ?_ ?_ ?_ <;> decide
  exact fun e => key i hi (by rw [e])
/-- The sends of strip j drawn so far, among N strips, as far as strip j + t. -/
def M.usOk (N j t : Nat) (us : List (Int × Int)) : Prop := M.sendsB N j us = true ∧ (∀ u ∈ us, u.1 < ((j + 1 + t : Nat) : Int)) ∧ (j + 1 + t = N → us.length ≠ 0)
theorem M.sendsB_snoc {m : Int} : ∀ {us : List (Int × Int)} {last : Int} {p g : Int}, M.sendsB m last us = true → (∀ u ∈ us, u.1 < p) → last < p → p ≤ m - 1 → M.smp g = true → M.sendsB m last (us ++ [(p, g)]) = true := by
  intro us
  induction us with
  | nil =>
    intro last p g _ _ h1 h2 h3
    rw [List.nil_append, M.sendsB, M.sendsB, Bool.and_true, Bool.and_eq_true]
    exact ⟨M.inn_iffM.2 ⟨by show last + 1 ≤ p; omega, h2⟩, h3⟩
  | cons u us ih =>
    intro last p g h0 hu h1 h2 h3
    rw [M.sendsB, Bool.and_eq_true] at h0
    rw [List.cons_append, M.sendsB, Bool.and_eq_true]
    exact ⟨h0.1, ih h0.2 (fun v hv => hu v (by simp [hv])) (hu u (by simp)) h2 h3⟩
theorem M.usOk.zero {N j : Nat} (h : j + 1 < N) : M.usOk N j 0 [] := ⟨rfl, fun u hu => by simp at hu, fun e => absurd e (by omega)⟩
theorem M.usOk.skip {N j t : Nat} {us : List (Int × Int)} (h : M.usOk N j t us) (h2 : j + 1 + t + 1 < N ∨ us.length ≠ 0) : M.usOk N j (t + 1) us :=
  ⟨h.1, fun u hu => by have := h.2.1 u hu; omega, fun e => by omega⟩
theorem M.usOk.push {N j t : Nat} {us : List (Int × Int)} (h : M.usOk N j t us) {TT : Nat} (h1 : TT = j + 1 + t) (h2 : TT < N) {g : Int} (h3 : -2147483648 ≤ g ∧ g ≤ 2147483647) : M.usOk N j (t + 1) (us ++ [((TT : Int), g)]) := by
  refine ⟨M.sendsB_snoc h.1 (fun u hu => by have := h.2.1 u hu; omega) (by omega) (by omega) (M.inn_iffM.2 h3), fun u hu => ?_, fun _ => by simp⟩
  rcases List.mem_append.1 hu with hu | hu
  · have := h.2.1 u hu; omega
  · rw [List.mem_singleton.1 hu]; show (TT : Int) < _; omega
def M.drawOk (N : Nat) (ms : List Strip) : Prop := ∀ k x, ms[k]? = some x → k + 1 < N ∧ x.1 = M.nm6 k ∧ M.inn x.2.1 0 32 = true ∧ M.areSends x.2.2 k N = true
theorem M.drawOk.nil (N : Nat) : M.drawOk N [] := fun k x hx => by simp at hx
theorem M.drawOk.push {N j t : Nat} {ms : List Strip} (h : M.drawOk N ms) (hl : ms.length = j) (hj : j + 1 < N) {s : ByteArray} (hs : s = M.nm6 j) {l : Int} (hlt : 0 ≤ l ∧ l ≤ 32) {us : List (Int × Int)} (hus : M.usOk N j t us) (hu4 : us.length ≤ 4) (he : N = j + 1 + t ∨ 4 ≤ us.length) : M.drawOk N (ms ++ [(s, l, us)]) := by
  intro k x hx
  rcases Nat.lt_or_ge k ms.length with h1 | h1
  · rw [List.getElem?_append_left h1] at hx
    exact h k x hx
  · rw [List.getElem?_append_right h1] at hx
    have h2 := (List.getElem?_eq_some_iff.1 hx).1
    simp only [List.length_singleton] at h2
    obtain rfl : k = j := by omega
    rw [show k - ms.length = 0 by omega] at hx
    simp only [List.getElem?_cons_zero, Option.some.injEq] at hx
    subst hx
    refine ⟨hj, hs, M.inn_iffM.2 hlt, ?_⟩
    have h0 : 1 ≤ us.length := by
      rcases he with he | he
      · have := hus.2.2 he.symm; omega
      · omega
    show M.areSends us k N = true
    rw [M.areSends, hus.1, if_neg (by omega), Bool.true_and]
    exact M.inn_iffM.2 (by omega)
theorem M.drawOk.mix {N : Nat} {ms : List Strip} (h : M.drawOk N ms) (hl : ms.length + 1 = N) (hN : N ≤ 7) {l : Int} (hlt : 0 ≤ l ∧ l ≤ 32) : M.mixOk (ms ++ [(M.mstr, l, [])]) = true := by
  have hlen : (ms ++ [(M.mstr, l, ([] : List (Int × Int)))]).length = N := by simp; omega
  rw [M.mixOk, hlen, Bool.and_eq_true, List.all_eq_true]
  refine ⟨M.inn_iffM.2 (by omega), fun k hk => ?_⟩
  have hk := List.mem_range.1 hk
  have htk : (ms ++ [(M.mstr, l, ([] : List (Int × Int)))]).take k = ms.take k := by rw [List.take_append_of_le_length (by omega)]
  have hno : ∀ s : ByteArray, (∀ i, i < k → s ≠ M.nm6 i) → M.has s ((ms.take k).map (·.1)) = false := by
    intro s hs
    rw [M.has, List.any_eq_false]
    intro t ht
    obtain ⟨y, hy, rfl⟩ := List.mem_map.1 ht
    obtain ⟨i, hi⟩ := List.getElem?_of_mem hy
    have hi2 : i < k := by
      have := (List.getElem?_eq_some_iff.1 hi).1
      rw [List.length_take] at this
      omega
    rw [List.getElem?_take, if_pos hi2] at hi
    have := (h i y hi).2.1
    simp only [decide_eq_true_eq]
    intro e
    exact hs i hi2 (e.symm.trans this)
  rcases Nat.lt_or_ge k ms.length with h1 | h1
  · have hx : ms[k]? = some ms[k] := List.getElem?_eq_getElem h1
    generalize ms[k] = x at hx
    obtain ⟨s, l', us⟩ := x
    have h2 := h k _ hx
    simp only at h2
    rw [M.stepM_eq (x := (s, l', us)) (by rw [List.getElem?_append_left h1]; exact hx), hlen, htk, Bool.and_eq_true, M.stripOk]
    simp only
    rw [h2.2.1, M.nm6_name k (by omega), h2.2.2.1, h2.2.2.2, hno (M.nm6 k) (fun i hi e => by have := M.nm6_inj k i (by omega) (by omega) e; omega)]
    exact ⟨rfl, rfl⟩
  · have e : k = ms.length := by omega
    rw [M.stepM_eq (x := (M.mstr, l, [])) (by rw [List.getElem?_append_right h1, e, Nat.sub_self]; rfl), hlen, htk, Bool.and_eq_true, M.stripOk]
    simp only
    rw [show M.name M.mstr = true from rfl, M.inn_iffM.2 hlt, hno M.mstr (fun i hi e => M.nm6_mstr i (by omega) e.symm), M.areSends, M.sendsB, if_pos (by omega)]
    exact ⟨rfl, rfl⟩
theorem names_of (w : World) (us : Array Value) (e : TypeId) (m : Nat) (hm : ∀ j, j < m → ∃ s : ByteArray, s.size ≤ 6 ∧ us[j]? = some (.string s)) : ∀ j, j < m → ∃ s : ByteArray, s.size ≤ 6 ∧ (w.alloc (.cells us e)).cell? ⟨w.heap.size, j, none⟩ = some (.string s) := fun j hj => by
  obtain ⟨s, h1, h2⟩ := hm j hj
  refine ⟨s, h1, ?_⟩
  rw [cell_of_row _ w.heap.size j _ e (0, 0) (heap_alloc_new w _)]
  simpa using h2
theorem names6_of (w : World) (us : Array Value) (e : TypeId) (hm : ∀ j, j < 6 → us[j]? = some (.string (M.nm6 j))) : ∀ j, j < 6 → (w.alloc (.cells us e)).cell? ⟨w.heap.size, j, none⟩ = some (.string (M.nm6 j)) := fun j hj => by
  rw [cell_of_row _ w.heap.size j _ e (0, 0) (heap_alloc_new w _)]
  exact hm j hj
theorem cell_off (w : World) (g : Nat) (v : Value) {i j : Nat} (h : i ≠ j) : (w.setCell ⟨g, i, none⟩ v).cell? ⟨g, j, none⟩ = w.cell? ⟨g, j, none⟩ := World.cell?_setCell_other w ⟨g, i, none⟩ ⟨g, j, none⟩ v (fun e => h (Addr.mk.inj e).2.1)
/-- How the drawing of a mixer stands. -/
structure DM (w : World) (b lo : Nat) (A : Option Addr) (n c : Nat) (code : List UInt8) (NB K : Nat) (ms : List Strip) (v : Value) (wr : World) : Prop where
  c0 : wr.cell? ⟨w.heap.size, 0, none⟩ = some (.slice none 0 0)
  f0 : wr.frozen? ⟨w.heap.size, 0, none⟩ = false
  c1 : wr.cell? ⟨w.heap.size + 1, 0, none⟩ = some v
  f1 : wr.frozen? ⟨w.heap.size + 1, 0, none⟩ = false
  nm : Hid (∀ j, j < 6 → wr.cell? ⟨NB, j, none⟩ = some (.string (M.nm6 j)))
  own : OS tSt 44 wr (Iv (NB + 1) wr.heap.size) v ms
  tiny : Hid (M.tiny 4 ms)
  src : Src wr b lo A n c code K
  mid : Mid b (b + 1) w wr
  sz : NB + 1 ≤ wr.heap.size
  lo : w.heap.size + 2 ≤ NB
theorem DM.step {w wr w' : World} {b lo : Nat} {A : Option Addr} {n c : Nat} {code : List UInt8} {NB K K' : Nat} {ms : List Strip} {v : Value} (h : DM w b lo A n c code NB K ms v wr) (hb : b < w.heap.size) (hs : Src w' b lo A n c code K') (hm : Mid b (b + 1) wr w') : DM w b lo A n c code NB K' ms v w' := by
  have hz := h.sz
  have hl := h.lo
  exact ⟨hm.cellK (by omega) (.inr (by omega)) h.c0, hm.frozK (by omega) (.inr (by omega)) h.f0, hm.cellK (by omega) (.inr (by omega)) h.c1, hm.frozK (by omega) (.inr (by omega)) h.f1,
    Lib.hid (fun j hj => hm.cellK (by omega) (.inr (by omega)) (h.nm.out j hj)),
    (h.own.mid hm (.inr (by omega)) (Nat.le_refl _)).iv (Nat.le_refl _) hm.size, h.tiny, hs, h.mid.trans hm, Nat.le_trans hz hm.size, hl⟩
theorem DM.more {w wr : World} {b lo : Nat} {A : Option Addr} {n c : Nat} {code : List UInt8} {NB K K' : Nat} {ms : List Strip} {v : Value} (h : DM w b lo A n c code NB K ms v wr) (hK : K ≤ K') : DM w b lo A n c code NB K' ms v wr :=
  ⟨h.c0, h.f0, h.c1, h.f1, h.nm, h.own, h.tiny, h.src.more hK, h.mid, h.sz, h.lo⟩
/-- A strip is pushed. -/
theorem DM.push {w wr w4 : World} {b lo : Nat} {A : Option Addr} {n c : Nat} {code : List UInt8} {NB K : Nat} {ms : List Strip} {v v4 : Value} {y : Strip} {X : Nat} (h : DM w b lo A n c code NB K ms v wr) (hb : b < w.heap.size)
    (own : OS tSt 44 w4 (fun z => Iv (NB + 1) wr.heap.size z ∨ Iv X wr.heap.size z ∨ wr.heap.size < z ∧ z < w4.heap.size) v4 (ms ++ [y])) (hX : NB + 1 ≤ X) (hc : Chg (Iv (NB + 1) wr.heap.size) wr w4) (hy : y.1.size ≤ 6 ∧ y.2.2.length ≤ 4) :
    DM w b lo A n c code NB K (ms ++ [y]) v4 (w4.setCell ⟨w.heap.size + 1, 0, none⟩ v4) := by
  have hz := h.sz
  have hl := h.lo
  have hbw := h.src.lt
  have hs4 : wr.heap.size ≤ w4.heap.size := hc.size
  have hn : ∀ k, k < NB + 1 → ¬ Iv (NB + 1) wr.heap.size k := fun k hk hi => by have h1 : NB + 1 ≤ k := hi.1; omega
  have C1 : ∀ (k o : Nat) (u : Option Value), k < NB + 1 → k ≠ w.heap.size + 1 → wr.cell? ⟨k, o, none⟩ = u → (w4.setCell ⟨w.heap.size + 1, 0, none⟩ v4).cell? ⟨k, o, none⟩ = u := fun k o u hk hk2 hu => by
    rw [World.cell?_of_block (heap_setCell_other w4 ⟨w.heap.size + 1, 0, none⟩ k v4 hk2), hc.cell1 (show k < _ by omega) (hn k hk)]; exact hu
  have v0 : w4.cell? ⟨w.heap.size + 1, 0, none⟩ = some v := by rw [hc.cell1 (show w.heap.size + 1 < _ by omega) (hn _ (by show w.heap.size + 1 < _; omega))]; exact h.c1
  have CB : Chg (fun b => b = w.heap.size + 1) w4 (w4.setCell ⟨w.heap.size + 1, 0, none⟩ v4) := Chg.set w4 (w.heap.size + 1) 0 _ rfl
  have e95 : (w4.setCell ⟨w.heap.size + 1, 0, none⟩ v4).heap.size = w4.heap.size := by simp
  have CG : Chg (fun z => Iv (NB + 1) wr.heap.size z ∨ z = w.heap.size + 1) wr (w4.setCell ⟨w.heap.size + 1, 0, none⟩ v4) := (hc.wide (fun _ h => .inl h)).trans (CB.wide (fun _ h => .inr h))
  have MB : Below w.heap.size wr (w4.setCell ⟨w.heap.size + 1, 0, none⟩ v4) := CG.toBelow (fun z h => by
    rcases h with h | h
    · have h1 : NB + 1 ≤ z := h.1; omega
    · omega) (by omega)
  refine ⟨C1 _ _ _ (by omega) (by omega) h.c0, ?_, World.cell?_setCell_same _ _ _ v0, ?_, Lib.hid (fun j hj => ?_), ?_, Lib.hid (M.tiny_app h.tiny.out hy), h.src.below MB hb, ?_, by rw [e95]; omega, hl⟩
  · rw [World.frozen?_setCell, hc.frozen1 (by show w.heap.size < _; omega) (hn _ (by show w.heap.size < _; omega))]; exact h.f0
  · rw [World.frozen?_setCell, hc.frozen1 (by show w.heap.size + 1 < _; omega) (hn _ (by show w.heap.size + 1 < _; omega))]; exact h.f1
  · exact C1 _ _ _ (by omega) (by omega) (h.nm.out j hj)
  · rw [e95]
    refine (own.chg CB (fun z hz' (h' : z = w.heap.size + 1) => ?_)).wide (fun z hz' => ?_)
    · rcases hz' with h1 | h1 | h1
      · have h2 : NB + 1 ≤ z := h1.1; omega
      · have h2 : X ≤ z := h1.1; omega
      · omega
    · rcases hz' with h1 | h1 | h1
      · exact ⟨h1.1, by have h2 : z < wr.heap.size := h1.2; omega⟩
      · exact ⟨by have h2 : X ≤ z := h1.1; omega, by have h2 : z < wr.heap.size := h1.2; omega⟩
      · exact ⟨by omega, by omega⟩
  · exact ⟨MB.os.trans h.mid.os, MB.tape.trans h.mid.tape, MB.output.trans h.mid.output, Nat.le_trans h.mid.size MB.size, fun i hi' hm => (MB.block i (by omega)).trans (h.mid.block i hi' hm)⟩
/-- How the drawing of a strip stands. -/
structure DX (w1 : World) (b lo : Nat) (A : Option Addr) (n c : Nat) (code : List UInt8) (K : Nat) (s : ByteArray) (l : Int) (us : List (Int × Int)) (v : Value) (wr : World) : Prop where
  p0 : wr.cell? ⟨w1.heap.size, 0, none⟩ = some (.string s)
  p1 : wr.cell? ⟨w1.heap.size, 1, none⟩ = some (.int .i64 l)
  p2 : wr.cell? ⟨w1.heap.size, 2, none⟩ = some v
  f1 : wr.frozen? ⟨w1.heap.size, 1, none⟩ = false
  f2 : wr.frozen? ⟨w1.heap.size, 2, none⟩ = false
  own : OS tSd 47 wr (Iv (w1.heap.size + 1) wr.heap.size) v us
  src : Src wr b lo A n c code K
  mid : Mid b (b + 1) w1 wr
  sz : w1.heap.size + 1 ≤ wr.heap.size
theorem DX.step {w1 wr w' : World} {b lo : Nat} {A : Option Addr} {n c : Nat} {code : List UInt8} {K K' : Nat} {s : ByteArray} {l : Int} {us : List (Int × Int)} {v : Value} (h : DX w1 b lo A n c code K s l us v wr) (hb : b < w1.heap.size) (hs : Src w' b lo A n c code K') (hm : Mid b (b + 1) wr w') : DX w1 b lo A n c code K' s l us v w' := by
  have hz := h.sz
  exact ⟨hm.cellK (by omega) (.inr (by omega)) h.p0, hm.cellK (by omega) (.inr (by omega)) h.p1, hm.cellK (by omega) (.inr (by omega)) h.p2, hm.frozK (by omega) (.inr (by omega)) h.f1, hm.frozK (by omega) (.inr (by omega)) h.f2,
    (h.own.mid hm (.inr (by omega)) (Nat.le_refl _)).iv (Nat.le_refl _) hm.size, hs, h.mid.trans hm, Nat.le_trans hz hm.size⟩
theorem DX.more {w1 wr : World} {b lo : Nat} {A : Option Addr} {n c : Nat} {code : List UInt8} {K K' : Nat} {s : ByteArray} {l : Int} {us : List (Int × Int)} {v : Value} (h : DX w1 b lo A n c code K s l us v wr) (hK : K ≤ K') : DX w1 b lo A n c code K' s l us v wr :=
  ⟨h.p0, h.p1, h.p2, h.f1, h.f2, h.own, h.src.more hK, h.mid, h.sz⟩
theorem DX.start {w1 : World} {b lo : Nat} {A : Option Addr} {n c : Nat} {code : List UInt8} {K : Nat} (s : ByteArray) (h : Src w1 b lo A n c code K) :
    DX w1 b lo A n c code K s 0 [] (.slice none 0 0) (w1.alloc (.cells #[.string s, .int .i64 0, .slice none 0 0] 44)) := by
  have hB : Below w1.heap.size w1 (w1.alloc (.cells #[.string s, .int .i64 0, .slice none 0 0] 44)) := (Below.refl _ _).alloc (Nat.le_refl _) _
  exact ⟨by simp [go_sem], by simp [go_sem], by simp [go_sem], by simp [go_sem], by simp [go_sem], OS.nil _ _ _ _, h.below hB h.lt, Mid.of_below hB _ _, by simp⟩
theorem DX.lat {w1 wr : World} {b lo : Nat} {A : Option Addr} {n c : Nat} {code : List UInt8} {K : Nat} {s : ByteArray} {l : Int} {us : List (Int × Int)} {v : Value} (h : DX w1 b lo A n c code K s l us v wr) (hb : b < w1.heap.size) (l' : Int) : DX w1 b lo A n c code K s l' us v (wr.setCell ⟨w1.heap.size, 1, none⟩ (.int .i64 l')) := by
  have hz := h.sz
  have MB : Below w1.heap.size wr (wr.setCell ⟨w1.heap.size, 1, none⟩ (.int .i64 l')) := (Below.refl w1.heap.size wr).setCell (p := ⟨w1.heap.size, 1, none⟩) (Nat.le_refl _) _
  refine ⟨?_, World.cell?_setCell_same _ _ _ h.p1, ?_, (World.frozen?_setCell _ _ _ _).trans h.f1, ?_, ?_, h.src.below MB hb, h.mid.thenB' MB (Nat.le_refl _), by simpa using hz⟩
  · exact (cell_off wr _ _ (by decide)).trans h.p0
  · exact (cell_off wr _ _ (by decide)).trans h.p2
  · rw [World.frozen?_setCell]; exact h.f2
  · have hm : Mid w1.heap.size (w1.heap.size + 1) wr (wr.setCell ⟨w1.heap.size, 1, none⟩ (.int .i64 l')) := Mid.cell wr w1.heap.size 1 _
    exact (h.own.mid hm (.inr (Nat.le_refl _)) (Nat.le_refl _)).iv (Nat.le_refl _) hm.size
/-- A send is pushed. -/
theorem DX.push {w1 wr w4 : World} {b lo : Nat} {A : Option Addr} {n c : Nat} {code : List UInt8} {K : Nat} {s : ByteArray} {l : Int} {us : List (Int × Int)} {v v4 : Value} {y : Int × Int} (h : DX w1 b lo A n c code K s l us v wr) (hb : b < w1.heap.size)
    (own : OS tSd 47 w4 (fun z => Iv (w1.heap.size + 1) wr.heap.size z ∨ False ∨ wr.heap.size < z ∧ z < w4.heap.size) v4 (us ++ [y])) (hc : Chg (Iv (w1.heap.size + 1) wr.heap.size) wr w4) :
    DX w1 b lo A n c code K s l (us ++ [y]) v4 (w4.setCell ⟨w1.heap.size, 2, none⟩ v4) := by
  have hz := h.sz
  have hs4 : wr.heap.size ≤ w4.heap.size := hc.size
  have hn : ¬ Iv (w1.heap.size + 1) wr.heap.size w1.heap.size := fun hi => by have h1 : w1.heap.size + 1 ≤ w1.heap.size := hi.1; omega
  have q0 : ∀ o u, wr.cell? ⟨w1.heap.size, o, none⟩ = u → w4.cell? ⟨w1.heap.size, o, none⟩ = u := fun o u hu => by rw [hc.cell1 (show w1.heap.size < _ by omega) hn]; exact hu
  have CB : Chg (fun b => b = w1.heap.size) w4 (w4.setCell ⟨w1.heap.size, 2, none⟩ v4) := Chg.set w4 w1.heap.size 2 _ rfl
  have e95 : (w4.setCell ⟨w1.heap.size, 2, none⟩ v4).heap.size = w4.heap.size := by simp
  have CG : Chg (fun z => Iv (w1.heap.size + 1) wr.heap.size z ∨ z = w1.heap.size) wr (w4.setCell ⟨w1.heap.size, 2, none⟩ v4) := (hc.wide (fun _ h => .inl h)).trans (CB.wide (fun _ h => .inr h))
  have MB : Below w1.heap.size wr (w4.setCell ⟨w1.heap.size, 2, none⟩ v4) := CG.toBelow (fun z h => by
    rcases h with h | h
    · have h1 : w1.heap.size + 1 ≤ z := h.1; omega
    · omega) (by omega)
  refine ⟨?_, ?_, World.cell?_setCell_same _ _ _ (q0 _ _ h.p2), (World.frozen?_setCell _ _ _ _).trans ((hc.frozen1 (by show w1.heap.size < _; omega) hn).trans h.f1), ?_, ?_, h.src.below MB hb, h.mid.thenB' MB (Nat.le_refl _), by rw [e95]; omega⟩
  · exact (cell_off w4 _ _ (by decide)).trans (q0 _ _ h.p0)
  · exact (cell_off w4 _ _ (by decide)).trans (q0 _ _ h.p1)
  · rw [World.frozen?_setCell, hc.frozen1 (by show w1.heap.size < _; omega) hn]; exact h.f2
  · rw [e95]
    refine (own.chg CB (fun z hz' (h' : z = w1.heap.size) => ?_)).wide (fun z hz' => ?_)
    · rcases hz' with h1 | h1 | h1
      · have h2 : w1.heap.size + 1 ≤ z := h1.1; omega
      · exact h1
      · omega
    · rcases hz' with h1 | h1 | h1
      · exact ⟨h1.1, by have h2 : z < wr.heap.size := h1.2; omega⟩
      · exact h1.elim
      · exact ⟨by omega, by omega⟩
/-- What the drawing of a mixer gives back. -/
def DrewM (b lo : Nat) (A : Option Addr) (n c : Nat) (code : List UInt8) (K : Nat) (w : World) (e : Ending) (w' : World) : Prop :=
  ∃ A1 c1 ms, e = .returned (.agg #[.slice A1 (List.length ms) c1]) ∧ OS tSt 44 w' (Iv w.heap.size w'.heap.size) (.slice A1 ms.length c1) ms ∧ ms.length ≤ 6 ∧ 1 ≤ ms.length ∧ Hid (M.tiny 4 ms) ∧ Hid (M.mixOk ms = true) ∧ Src w' b lo A n c code K ∧ Mid b (b + 1) w w'
end Go.Proofs.YtecdendjlgohjaaGreatDoor
