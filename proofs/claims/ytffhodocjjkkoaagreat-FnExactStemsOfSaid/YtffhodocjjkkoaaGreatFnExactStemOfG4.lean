import Derived.Test.YtffhodocjjkkoaaGreatFnExactStemOfG3
import Derived.Test.YtffhodocjjkkoaaGreatFnExactStemOfG2
set_option linter.unusedVariables false
set_option linter.unusedSimpArgs false
set_option maxRecDepth 100000
set_option maxHeartbeats 4000000
namespace Go.Proofs.YtffhodocjjkkoaaGreat
section
open Go.RowKit
abbrev tPS : Ty (List zad) := tP.sl 107
abbrev hPS : Hs (List zad) := hP.sl
theorem zix (A : Option Addr) (n c : Nat) (xs : List zad) (l : Int) (w : World) (hx : tPS.R w w.heap.size [.slice A n c] xs) (hl : 0 ≤ l ∧ l ≤ 1000000000) :
 Calls Tryz.prog 31 #[.slice A n c, .int .i64 l] w fun e w' => e = .returned (.int .i64 (if (hPS.sz xs : Int) ≤ l then l - hPS.sz xs else -1)) ∧ Below w.heap.size w w' := by
 have hr := sl_R.1 hx
 obtain ⟨h1, h2, h3⟩ := hr.cap
 have hn : n ≤ 9223372036854775807 := by unfold maxLen at h3; omega
 obtain rfl : xs.length = n := h1
 have hzz : hPS.sz xs = xs.length + hP.szL xs := rfl
 have HZ := Lib.hid hzz
 clear h2 h3 hx hzz
 generalize hR : (if (hPS.sz xs : Int) ≤ l then l - (hPS.sz xs : Int) else -1) = R
 have HR := Lib.hid hR
 clear hR
 by_cases h : (xs.length : Int) ≤ l
 · go_enter Tryz.func31, Tryz.ntmps31
   go_wp2
   go_loopw [1, 5] (fun q i wr => ∃ k : Nat, i = .int .i64 k ∧ k ≤ xs.length ∧ (hP.szL (xs.take k) : Int) ≤ l - xs.length ∧ q = .int .i64 (l - xs.length - hP.szL (xs.take k)) ∧ Below w.heap.size w wr) (fun _ i _ => xs.length - (intOf i).toNat)
   case atStart => exact ⟨0, rfl, by omega, by simp [Hs.szL]; omega, by simp [Hs.szL], Below.refl _ _⟩
   case round =>
    obtain ⟨k, rfl, hk, hz, rfl, hb⟩ := hrel
    by_cases hlt : k < xs.length
    · have hX := Lib.hid (List.getElem?_eq_getElem hlt)
      obtain ⟨b, o, c1, cs, hv, hab, -, hE, hc⟩ := (hr.below hb).atX hX.out
      simp only [Value.slice.injEq] at hv
      obtain ⟨rfl, -, rfl⟩ := hv
      have hTk := Lib.hid (hP.szL_take hX.out)
      have hU := hP.szL_at hX.out
      generalize xs[k] = x at hX hE hTk hU
      obtain ⟨a0, x1, x2, x3⟩ := x
      obtain ⟨A1, n1, c1, A2, n2, c2, A3, n3, c3, rfl, e1, e2, e3⟩ := tP_R.1 hE
      have ec0 : wr.cell? ⟨b, o + k * 4, none⟩ = some (.int .i64 a0) := hc 0 _ rfl
      have ec1 : wr.cell? ⟨b, o + k * 4 + 1, none⟩ = some (.slice A1 n1 c1) := hc 1 _ rfl
      have ec2 : wr.cell? ⟨b, o + k * 4 + 2, none⟩ = some (.slice A2 n2 c2) := hc 2 _ rfl
      have ec3 : wr.cell? ⟨b, o + k * 4 + 3, none⟩ = some (.slice A3 n3 c3) := hc 3 _ rfl
      have f1 := tSS.more hb.size e1
      have f2 := tNS.more hb.size e2
      have f3 := tS.more hb.size e3
      clear hc
      by_cases hle : (hP.sz ((a0, x1, x2, x3) : zad) : Int) ≤ l - xs.length - hP.szL (xs.take k)
      · have hi := Lib.hid (show (if (hP.sz ((a0, x1, x2, x3) : zad) : Int) ≤ l - xs.length - hP.szL (xs.take k) then l - xs.length - hP.szL (xs.take k) - hP.sz ((a0, x1, x2, x3) : zad) else -1) = l - xs.length - hP.szL (xs.take k) - hP.sz ((a0, x1, x2, x3) : zad) by rw [if_pos hle])
        go_wp2_with (go_at_call 61; refine (zla _ _ _ _ _ _ _ _ _ _ _ _ _ _ _ f1 f2 f3 (by omega)).mono ?_; rw [hi.out]; rintro e w2 ⟨rfl, bel2⟩)
        go_roundw
        case rel => exact ⟨k + 1, by go_num, by omega, by rw [hTk.out]; omega, by rw [hTk.out]; go_num, hb.trans (bel2.mono hb.size)⟩
        case measure => simp [intOf]; omega
      · have hi := Lib.hid (show (if (hP.sz ((a0, x1, x2, x3) : zad) : Int) ≤ l - xs.length - hP.szL (xs.take k) then l - xs.length - hP.szL (xs.take k) - hP.sz ((a0, x1, x2, x3) : zad) else -1) = -1 by rw [if_neg hle])
        have hj := Lib.hid (show (if (hPS.sz xs : Int) ≤ l then l - hPS.sz xs else -1) = -1 by rw [HZ.out, if_neg (by omega)])
        go_wp2_with (go_at_call 61; refine (zla _ _ _ _ _ _ _ _ _ _ _ _ _ _ _ f1 f2 f3 (by omega)).mono ?_; rw [hi.out]; rintro e w2 ⟨rfl, bel2⟩)
        go_ret
        exact ⟨zar (hj.out.symm.trans HR.out), hb.trans (bel2.mono hb.size)⟩
    · obtain rfl : xs.length = k := by omega
      rw [List.take_of_length_le (Nat.le_refl _)] at hz ⊢
      have hj := Lib.hid (show (if (hPS.sz xs : Int) ≤ l then l - hPS.sz xs else -1) = l - xs.length - hP.szL xs by rw [HZ.out, if_pos (by omega)]; omega)
      go_wp2
      go_ret
      exact ⟨zar (hj.out.symm.trans HR.out), hb⟩
 · have hj := Lib.hid (show (if (hPS.sz xs : Int) ≤ l then l - hPS.sz xs else -1) = -1 by rw [HZ.out, if_neg (by omega)])
   go_enter Tryz.func31, Tryz.ntmps31
   go_wp2
   go_ret
   exact ⟨zar (hj.out.symm.trans HR.out), Below.refl _ _⟩
theorem ziy : EI Tryz.prog 35 107 (.agg #[.int .i64 0, .slice none 0 0, .slice none 0 0, .slice none 0 0]) 4 80 := ⟨Tryz.underlying35, by kernel_rfl, rfl, by decide⟩
theorem zp5 (w : World) (F : Nat → Prop) : tP.O w F [.int .i64 0, .slice none 0 0, .slice none 0 0, .slice none 0 0] (0, [], [], []) := tP_O.2 ⟨none, 0, 0, none, 0, 0, none, 0, 0, fun _ => False, fun _ => False, fun _ => False, rfl, ⟨_, rfl, OS.nil _ _ _ _⟩, ⟨_, rfl, OS.nil _ _ _ _⟩, ⟨_, rfl, OS.nil _ _ _ _⟩, fun _ h => h.elim, fun _ h => h.elim, fun _ h => h.elim, fun _ h => h.elim, fun _ h => h.elim, fun _ h => h.elim⟩
theorem zp6 (A : Option Addr) (n c : Nat) (xs : List zad) (w : World) (hx : tPS.R w w.heap.size [.slice A n c] xs) (hn : hPS.sz xs ≤ 100000000) :
 Calls Tryz.prog 38 #[.slice A n c] w fun e w' => ∃ A' n' c', e = .returned (.slice A' n' c') ∧ tPS.O w' (Iv w.heap.size w'.heap.size) [.slice A' n' c'] xs ∧ Below w.heap.size w w' := by
 have hr := sl_R.1 hx
 obtain rfl : xs.length = n := hr.cap.1
 have hn1 : xs.length + hP.szL xs ≤ 100000000 := hn
 clear hx hn
 go_enter Tryz.func38, Tryz.ntmps38
 go_wp2_with (at_make; refine zda ziy rfl _ _ rfl xs.length _ _ rfl rfl rfl rfl (by omega) (by unfold maxLen; omega) ?_; intro w1 own1 bel1)
 have hs1 : w.heap.size + 1 ≤ w1.heap.size := (World.ownsRow.lt own1 _ rfl).2
 have own2 : OS tP 107 w1 (Iv w.heap.size w1.heap.size) (.slice (some ⟨w.heap.size, 0, none⟩) xs.length xs.length) (List.replicate xs.length ((0, [], [], []) : zad)) :=
  OS.made (t := tP) (zc := [.int .i64 0, .slice none 0 0, .slice none 0 0, .slice none 0 0]) zp5 rfl ⟨Nat.le_refl _, by omega⟩ own1
 clear own1
 go_loopw [4] (fun i wr => ∃ k : Nat, i = .int .i64 k ∧ k ≤ xs.length ∧ OS tP 107 wr (Iv w.heap.size wr.heap.size) (.slice (some ⟨w.heap.size, 0, none⟩) xs.length xs.length) (xs.take k ++ (List.replicate xs.length ((0, [], [], []) : zad)).drop k) ∧ w.heap.size + 1 ≤ wr.heap.size ∧ Below w.heap.size w wr)
  (fun i _ => xs.length - (intOf i).toNat)
 case atStart => exact ⟨0, rfl, by omega, by simpa using own2, hs1, bel1⟩
 case round =>
  obtain ⟨k, rfl, hk, own, hsz, hb⟩ := hrel
  by_cases hlt : k < xs.length
  · have hX := Lib.hid (List.getElem?_eq_getElem hlt)
    obtain ⟨b, o, c1, cs, hv, hab, -, hE, hc⟩ := (hr.below hb).atX hX.out
    simp only [Value.slice.injEq] at hv
    obtain ⟨rfl, -, rfl⟩ := hv
    have hU := hP.szL_at hX.out
    generalize xs[k] = x at hX hE hU
    obtain ⟨a0, x1, x2, x3⟩ := x
    obtain ⟨A1, n1, c1, A2, n2, c2, A3, n3, c3, rfl, e1, e2, e3⟩ := tP_R.1 hE
    have ec0 : wr.cell? ⟨b, o + k * 4, none⟩ = some (.int .i64 a0) := hc 0 _ rfl
    have ec1 : wr.cell? ⟨b, o + k * 4 + 1, none⟩ = some (.slice A1 n1 c1) := hc 1 _ rfl
    have ec2 : wr.cell? ⟨b, o + k * 4 + 2, none⟩ = some (.slice A2 n2 c2) := hc 2 _ rfl
    have ec3 : wr.cell? ⟨b, o + k * 4 + 3, none⟩ = some (.slice A3 n3 c3) := hc 3 _ rfl
    have f1 := tSS.more hb.size e1
    have f2 := tNS.more hb.size e2
    have f3 := tS.more hb.size e3
    have hz2 : hP.sz ((a0, x1, x2, x3) : zad) ≤ 100000000 := by omega
    clear hc
    have hD := Lib.hid (show (xs.take k ++ (List.replicate xs.length ((0, [], [], []) : zad)).drop k)[k]? = some (0, [], [], []) by rw [M.mid_at (by rw [List.length_replicate])]; simp [hlt])
    go_wp2_with (go_at_call 70; refine (zp4 _ _ _ _ _ _ _ _ _ _ _ _ _ _  f1 f2 f3 hz2).mono ?_; rintro e w2 ⟨A1', n1', c1', A2', n2', c2', A3', n3', c3', rfl, o2, bel2⟩; have own' := own.below bel2 (Nat.le_refl _); obtain ⟨css, Fs, hole, cs, hcs, hE⟩ := own'.openAt hD.out; obtain ⟨A19, n19, c19, A29, n29, c29, A39, n39, c39, rfl, -, -, -⟩ := tP_R.1 (tP.read hE); have z2 := bel2.size; have q0 := (hole.cell hcs (j := 0) rfl).1; have r0 := (hole.cell hcs (j := 0) rfl).2; change w2.cell? ⟨w.heap.size, k * 4 + 0, none⟩ = _ at q0; change w2.frozen? ⟨w.heap.size, k * 4 + 0, none⟩ = _ at r0; have q1 := (hole.cell hcs (j := 1) rfl).1; have r1 := (hole.cell hcs (j := 1) rfl).2; change w2.cell? ⟨w.heap.size, k * 4 + 1, none⟩ = _ at q1; change w2.frozen? ⟨w.heap.size, k * 4 + 1, none⟩ = _ at r1; have q2 := (hole.cell hcs (j := 2) rfl).1; have r2 := (hole.cell hcs (j := 2) rfl).2; change w2.cell? ⟨w.heap.size, k * 4 + 2, none⟩ = _ at q2; change w2.frozen? ⟨w.heap.size, k * 4 + 2, none⟩ = _ at r2; have q3 := (hole.cell hcs (j := 3) rfl).1; have r3 := (hole.cell hcs (j := 3) rfl).2; change w2.cell? ⟨w.heap.size, k * 4 + 3, none⟩ = _ at q3; change w2.frozen? ⟨w.heap.size, k * 4 + 3, none⟩ = _ at r3; rw [Nat.add_zero] at q0 r0)
    go_roundw
    case rel =>
     have s0 := hole.set hcs 0 (by decide) (.int .i64 a0)
     have s1 := s0.1.set s0.2 1 (by decide) (.slice A1' n1' c1')
     have s2 := s1.1.set s1.2 2 (by decide) (.slice A2' n2' c2')
     have s3 := s2.1.set s2.2 3 (by decide) (.slice A3' n3' c3')
     have o3 := (tP.oset (g := w.heap.size) (o := k * 4 + 3) (u := .slice A3' n3' c3') (tP.oset (g := w.heap.size) (o := k * 4 + 2) (u := .slice A2' n2' c2') (tP.oset (g := w.heap.size) (o := k * 4 + 1) (u := .slice A1' n1' c1') (tP.oset (g := w.heap.size) (o := k * 4 + 0) (u := .int .i64 a0) o2 (.inl (by omega))) (.inl (by omega))) (.inl (by omega))) (.inl (by omega)))
     have h3 := s3.1.fill' s3.2 (y := ((a0, x1, x2, x3) : zad)) (Fe := Iv wr.heap.size w2.heap.size) o3 (fun b h1 h2 => by have := h1.1; have := h2.2; omega)
     rw [M.set_mid (by rw [List.length_replicate]) hX.out] at h3
     have hb2 := hb.trans (bel2.mono hb.size)
     exact ⟨k + 1, by go_num, by omega, h3.wide (fun b hb => ⟨by unfold Iv at hb; omega, by simp; unfold Iv at hb; omega⟩), by simp; omega, ((((hb2.setCell (Nat.le_refl _) _).setCell (Nat.le_refl _) _).setCell (Nat.le_refl _) _).setCell (Nat.le_refl _) _)⟩
    case measure => simp [intOf]; omega
  · go_wp2
    go_ret
    rw [List.take_of_length_le (by omega), List.drop_eq_nil_of_le (by simp; omega), List.append_nil] at own
    exact ⟨_, _, _, rfl, sl_O.2 own, hb⟩
theorem zp7 (A A' : Option Addr) (n c n' c' : Nat) (xs : List zad) (w : World) (hx : tPS.R w w.heap.size [.slice A n c] xs) (hy : tPS.R w w.heap.size [.slice A' n' c'] xs) (hn : hPS.sz xs ≤ 100000000) :
 Calls Tryz.prog 43 #[.slice A n c, .slice A' n' c'] w fun e w' => e = .returned (.bool true) ∧ Below w.heap.size w w' := by
 have hr := sl_R.1 hx
 have hr' := sl_R.1 hy
 obtain rfl : xs.length = n := hr.cap.1
 obtain rfl : xs.length = n' := hr'.cap.1
 have hn1 : xs.length + hP.szL xs ≤ 100000000 := hn
 clear hx hy hn
 go_enter Tryz.func43, Tryz.ntmps43
 go_wp2
 go_loopw [5] (fun i wr => ∃ k : Nat, i = .int .i64 k ∧ k ≤ xs.length ∧ Below w.heap.size w wr) (fun i _ => xs.length - (intOf i).toNat)
 case atStart => exact ⟨0, rfl, by omega, Below.refl _ _⟩
 case round =>
  obtain ⟨k, rfl, hk, hb⟩ := hrel
  by_cases hlt : k < xs.length
  · have hX := Lib.hid (List.getElem?_eq_getElem hlt)
    obtain ⟨b, o, c1, cs, hv, hab, -, hE, hc⟩ := (hr.below hb).atX hX.out
    obtain ⟨b', o', c1', cs', hv', hab', -, hE', hc'⟩ := (hr'.below hb).atX hX.out
    simp only [Value.slice.injEq] at hv hv'
    obtain ⟨rfl, -, rfl⟩ := hv
    obtain ⟨rfl, -, rfl⟩ := hv'
    have hU := hP.szL_at hX.out
    generalize xs[k] = x at hX hE hE' hU
    obtain ⟨a0, x1, x2, x3⟩ := x
    obtain ⟨A1, n1, c1, A2, n2, c2, A3, n3, c3, rfl, e1, e2, e3⟩ := tP_R.1 hE
    have ec0 : wr.cell? ⟨b, o + k * 4, none⟩ = some (.int .i64 a0) := hc 0 _ rfl
    have ec1 : wr.cell? ⟨b, o + k * 4 + 1, none⟩ = some (.slice A1 n1 c1) := hc 1 _ rfl
    have ec2 : wr.cell? ⟨b, o + k * 4 + 2, none⟩ = some (.slice A2 n2 c2) := hc 2 _ rfl
    have ec3 : wr.cell? ⟨b, o + k * 4 + 3, none⟩ = some (.slice A3 n3 c3) := hc 3 _ rfl
    obtain ⟨A1', n1', c1', A2', n2', c2', A3', n3', c3', rfl, d1, d2, d3⟩ := tP_R.1 hE'
    have dc0 : wr.cell? ⟨b', o' + k * 4, none⟩ = some (.int .i64 a0) := hc' 0 _ rfl
    have dc1 : wr.cell? ⟨b', o' + k * 4 + 1, none⟩ = some (.slice A1' n1' c1') := hc' 1 _ rfl
    have dc2 : wr.cell? ⟨b', o' + k * 4 + 2, none⟩ = some (.slice A2' n2' c2') := hc' 2 _ rfl
    have dc3 : wr.cell? ⟨b', o' + k * 4 + 3, none⟩ = some (.slice A3' n3' c3') := hc' 3 _ rfl
    have hbr : b < wr.heap.size := Nat.lt_of_lt_of_le hab hb.size
    have hbr' : b' < wr.heap.size := Nat.lt_of_lt_of_le hab' hb.size
    have hz2 : hP.sz ((a0, x1, x2, x3) : zad) ≤ 100000000 := by omega
    have f1 := tSS.later (tSS.more hb.size e1) (zac (Below.refl _ _) 1)
    have g1 := tSS.later (tSS.more hb.size d1) (zac (Below.refl _ _) 1)
    have f2 := tNS.later (tNS.more hb.size e2) (zac (Below.refl _ _) 1)
    have g2 := tNS.later (tNS.more hb.size d2) (zac (Below.refl _ _) 1)
    have f3 := tS.later (tS.more hb.size e3) (zac (Below.refl _ _) 1)
    have g3 := tS.later (tS.more hb.size d3) (zac (Below.refl _ _) 1)
    clear hc hc'
    go_wp2
    go_region_held3 (fun w' => Below wr.heap.size wr w' ∧ w'.cell? ⟨b, o + k * 4, none⟩ = some (.int .i64 a0) ∧ w'.cell? ⟨b, o + k * 4 + 1, none⟩ = some (.slice A1 n1 c1) ∧ w'.cell? ⟨b, o + k * 4 + 2, none⟩ = some (.slice A2 n2 c2) ∧ w'.cell? ⟨b, o + k * 4 + 3, none⟩ = some (.slice A3 n3 c3) ∧ w'.cell? ⟨b', o' + k * 4, none⟩ = some (.int .i64 a0) ∧ w'.cell? ⟨b', o' + k * 4 + 1, none⟩ = some (.slice A1' n1' c1') ∧ w'.cell? ⟨b', o' + k * 4 + 2, none⟩ = some (.slice A2' n2' c2') ∧ w'.cell? ⟨b', o' + k * 4 + 3, none⟩ = some (.slice A3' n3' c3'))
     (first
      | exact ⟨zac (Below.refl _ _) _, ec0, ec1, ec2, ec3, dc0, dc1, dc2, dc3⟩
      | exact ⟨zdb bel2 rfl (And.left (by assumption)), za9 bel2 rfl (And.left (by assumption)) ec0 hbr, za9 bel2 rfl (And.left (by assumption)) ec1 hbr, za9 bel2 rfl (And.left (by assumption)) ec2 hbr, za9 bel2 rfl (And.left (by assumption)) ec3 hbr, za9 bel2 rfl (And.left (by assumption)) dc0 hbr', za9 bel2 rfl (And.left (by assumption)) dc1 hbr', za9 bel2 rfl (And.left (by assumption)) dc2 hbr', za9 bel2 rfl (And.left (by assumption)) dc3 hbr'⟩)
     (first | (go_at_call 83; refine (zp3 _ _ _ _ _ _ _ _ _ _ _ _ _ _ _ _ _ _ _ _ _ _ _ f1 f2 f3 g1 g2 g3 hz2).mono ?_; rintro e w2 ⟨rfl, bel2⟩))
    go_wp2
    go_roundw
    case rel => exact ⟨k + 1, by go_num, by omega, hb.trans ((zdb bel2 rfl (zac (Below.refl _ _) _)).mono hb.size)⟩
    case measure => simp [intOf]; omega
  · go_wp2
    go_ret
    exact ⟨rfl, hb⟩
end
section
open Go.RowKit
abbrev tTS : Ty (List (List zag)) := tT.sl 89
abbrev hTS : Hs (List (List zag)) := hT.sl
theorem zgj (A : Option Addr) (n c : Nat) (xs : List (List zag)) (l : Int) (w : World) (hx : tTS.R w w.heap.size [.slice A n c] xs) (hl : 0 ≤ l ∧ l ≤ 1000000000) :
 Calls Tryz.prog 29 #[.slice A n c, .int .i64 l] w fun e w' => e = .returned (.int .i64 (if (hTS.sz xs : Int) ≤ l then l - hTS.sz xs else -1)) ∧ Below w.heap.size w w' := by
 have hr := sl_R.1 hx
 obtain ⟨h1, h2, h3⟩ := hr.cap
 have hn : n ≤ 9223372036854775807 := by unfold maxLen at h3; omega
 obtain rfl : xs.length = n := h1
 have hzz : hTS.sz xs = xs.length + hT.szL xs := rfl
 have HZ := Lib.hid hzz
 clear h2 h3 hx hzz
 generalize hR : (if (hTS.sz xs : Int) ≤ l then l - (hTS.sz xs : Int) else -1) = R
 have HR := Lib.hid hR
 clear hR
 by_cases h : (xs.length : Int) ≤ l
 · go_enter Tryz.func29, Tryz.ntmps29
   go_wp2
   go_loopw [1, 5] (fun q i wr => ∃ k : Nat, i = .int .i64 k ∧ k ≤ xs.length ∧ (hT.szL (xs.take k) : Int) ≤ l - xs.length ∧ q = .int .i64 (l - xs.length - hT.szL (xs.take k)) ∧ Below w.heap.size w wr) (fun _ i _ => xs.length - (intOf i).toNat)
   case atStart => exact ⟨0, rfl, by omega, by simp [Hs.szL]; omega, by simp [Hs.szL], Below.refl _ _⟩
   case round =>
    obtain ⟨k, rfl, hk, hz, rfl, hb⟩ := hrel
    by_cases hlt : k < xs.length
    · have hX := Lib.hid (List.getElem?_eq_getElem hlt)
      obtain ⟨b, o, c1, cs, hv, hab, -, hE, hc⟩ := (hr.below hb).atX hX.out
      simp only [Value.slice.injEq] at hv
      obtain ⟨rfl, -, rfl⟩ := hv
      have hTk := Lib.hid (hT.szL_take hX.out)
      have hU := hT.szL_at hX.out
      generalize xs[k] = x at hX hE hTk hU
      obtain ⟨A0, n0, c0, rfl⟩ := za6 hE
      have ec0 : wr.cell? ⟨b, o + k * 1, none⟩ = some (.slice A0 n0 c0) := hc 0 _ rfl
      rw [Nat.mul_one] at ec0
      have f0 := tT.more hb.size hE
      clear hc
      by_cases hle : (hT.sz x : Int) ≤ l - xs.length - hT.szL (xs.take k)
      · have hi := Lib.hid (show (if (hT.sz x : Int) ≤ l - xs.length - hT.szL (xs.take k) then l - xs.length - hT.szL (xs.take k) - hT.sz x else -1) = l - xs.length - hT.szL (xs.take k) - hT.sz x by rw [if_pos hle])
        go_wp2_with (go_at_call 60; refine (zkm _ _ _ _ _ _ f0 (by omega)).mono ?_; rw [hi.out]; rintro e w2 ⟨rfl, bel2⟩)
        go_roundw
        case rel => exact ⟨k + 1, by go_num, by omega, by rw [hTk.out]; omega, by rw [hTk.out]; go_num, hb.trans (bel2.mono hb.size)⟩
        case measure => simp [intOf]; omega
      · have hi := Lib.hid (show (if (hT.sz x : Int) ≤ l - xs.length - hT.szL (xs.take k) then l - xs.length - hT.szL (xs.take k) - hT.sz x else -1) = -1 by rw [if_neg hle])
        have hj := Lib.hid (show (if (hTS.sz xs : Int) ≤ l then l - hTS.sz xs else -1) = -1 by rw [HZ.out, if_neg (by omega)])
        go_wp2_with (go_at_call 60; refine (zkm _ _ _ _ _ _ f0 (by omega)).mono ?_; rw [hi.out]; rintro e w2 ⟨rfl, bel2⟩)
        go_ret
        exact ⟨zar (hj.out.symm.trans HR.out), hb.trans (bel2.mono hb.size)⟩
    · obtain rfl : xs.length = k := by omega
      rw [List.take_of_length_le (Nat.le_refl _)] at hz ⊢
      have hj := Lib.hid (show (if (hTS.sz xs : Int) ≤ l then l - hTS.sz xs else -1) = l - xs.length - hT.szL xs by rw [HZ.out, if_pos (by omega)]; omega)
      go_wp2
      go_ret
      exact ⟨zar (hj.out.symm.trans HR.out), hb⟩
 · have hj := Lib.hid (show (if (hTS.sz xs : Int) ≤ l then l - hTS.sz xs else -1) = -1 by rw [HZ.out, if_neg (by omega)])
   go_enter Tryz.func29, Tryz.ntmps29
   go_wp2
   go_ret
   exact ⟨zar (hj.out.symm.trans HR.out), Below.refl _ _⟩
theorem ziz : EI Tryz.prog 34 89 (.agg #[.slice none 0 0]) 1 24 := ⟨Tryz.underlying34, by kernel_rfl, rfl, by decide⟩
theorem zp8 (w : World) (F : Nat → Prop) : tT.O w F [.slice none 0 0] [] := ⟨_, rfl, OS.nil _ _ _ _⟩
theorem zp9 (A : Option Addr) (n c : Nat) (xs : List (List zag)) (w : World) (hx : tTS.R w w.heap.size [.slice A n c] xs) (hn : hTS.sz xs ≤ 100000000) :
 Calls Tryz.prog 36 #[.slice A n c] w fun e w' => ∃ A' n' c', e = .returned (.slice A' n' c') ∧ tTS.O w' (Iv w.heap.size w'.heap.size) [.slice A' n' c'] xs ∧ Below w.heap.size w w' := by
 have hr := sl_R.1 hx
 obtain rfl : xs.length = n := hr.cap.1
 have hn1 : xs.length + hT.szL xs ≤ 100000000 := hn
 clear hx hn
 go_enter Tryz.func36, Tryz.ntmps36
 go_wp2_with (at_make; refine zda ziz rfl _ _ rfl xs.length _ _ rfl rfl rfl rfl (by omega) (by unfold maxLen; omega) ?_; intro w1 own1 bel1)
 have hs1 : w.heap.size + 1 ≤ w1.heap.size := (World.ownsRow.lt own1 _ rfl).2
 have own2 : OS tT 89 w1 (Iv w.heap.size w1.heap.size) (.slice (some ⟨w.heap.size, 0, none⟩) xs.length xs.length) (List.replicate xs.length ([] : (List zag))) :=
  OS.made (t := tT) (zc := [.slice none 0 0]) zp8 rfl ⟨Nat.le_refl _, by omega⟩ own1
 clear own1
 go_loopw [4] (fun i wr => ∃ k : Nat, i = .int .i64 k ∧ k ≤ xs.length ∧ OS tT 89 wr (Iv w.heap.size wr.heap.size) (.slice (some ⟨w.heap.size, 0, none⟩) xs.length xs.length) (xs.take k ++ (List.replicate xs.length ([] : (List zag))).drop k) ∧ w.heap.size + 1 ≤ wr.heap.size ∧ Below w.heap.size w wr)
  (fun i _ => xs.length - (intOf i).toNat)
 case atStart => exact ⟨0, rfl, by omega, by simpa using own2, hs1, bel1⟩
 case round =>
  obtain ⟨k, rfl, hk, own, hsz, hb⟩ := hrel
  by_cases hlt : k < xs.length
  · have hX := Lib.hid (List.getElem?_eq_getElem hlt)
    obtain ⟨b, o, c1, cs, hv, hab, -, hE, hc⟩ := (hr.below hb).atX hX.out
    simp only [Value.slice.injEq] at hv
    obtain ⟨rfl, -, rfl⟩ := hv
    have hU := hT.szL_at hX.out
    generalize xs[k] = x at hX hE hU
    obtain ⟨A0, n0, c0, rfl⟩ := za6 hE
    have ec0 : wr.cell? ⟨b, o + k * 1, none⟩ = some (.slice A0 n0 c0) := hc 0 _ rfl
    rw [Nat.mul_one] at ec0
    have f0 := tT.more hb.size hE
    have hz2 : hT.sz x ≤ 100000000 := by omega
    clear hc
    have hD := Lib.hid (show (xs.take k ++ (List.replicate xs.length ([] : (List zag))).drop k)[k]? = some [] by rw [M.mid_at (by rw [List.length_replicate])]; simp [hlt])
    go_wp2_with (go_at_call 69; refine (zoq _ _ _ _ _ f0 hz2).mono ?_; rintro e w2 ⟨A0', n0', c0', rfl, o2, bel2⟩; have own' := own.below bel2 (Nat.le_refl _); obtain ⟨css, Fs, hole, cs, hcs, hE⟩ := own'.openAt hD.out; obtain ⟨A09, n09, c09, rfl⟩ := za6 (tT.read hE); have z2 := bel2.size; have q0 := (hole.cell hcs (j := 0) rfl).1; have r0 := (hole.cell hcs (j := 0) rfl).2; change w2.cell? ⟨w.heap.size, k * 1 + 0, none⟩ = _ at q0; change w2.frozen? ⟨w.heap.size, k * 1 + 0, none⟩ = _ at r0; rw [Nat.add_zero, Nat.mul_one] at q0 r0)
    go_roundw
    case rel =>
     have s0 := hole.set hcs 0 (by decide) (.slice A0' n0' c0')
     have o3 := (tT.oset (g := w.heap.size) (o := k * 1 + 0) (u := .slice A0' n0' c0') o2 (.inl (by omega)))
     have h3 := s0.1.fill' s0.2 (y := x) (Fe := Iv wr.heap.size w2.heap.size) o3 (fun b h1 h2 => by have := h1.1; have := h2.2; omega)
     rw [M.set_mid (by rw [List.length_replicate]) hX.out] at h3
     have hb2 := hb.trans (bel2.mono hb.size)
     rw [Nat.add_zero, show tT.s = 1 from rfl, Nat.mul_one] at h3
     exact ⟨k + 1, by go_num, by omega, h3.wide (fun b hb => ⟨by unfold Iv at hb; omega, by simp; unfold Iv at hb; omega⟩), by simp; omega, (hb2.setCell (Nat.le_refl _) _)⟩
    case measure => simp [intOf]; omega
  · go_wp2
    go_ret
    rw [List.take_of_length_le (by omega), List.drop_eq_nil_of_le (by simp; omega), List.append_nil] at own
    exact ⟨_, _, _, rfl, sl_O.2 own, hb⟩
theorem zqa (A A' : Option Addr) (n c n' c' : Nat) (xs : List (List zag)) (w : World) (hx : tTS.R w w.heap.size [.slice A n c] xs) (hy : tTS.R w w.heap.size [.slice A' n' c'] xs) (hn : hTS.sz xs ≤ 100000000) :
 Calls Tryz.prog 42 #[.slice A n c, .slice A' n' c'] w fun e w' => e = .returned (.bool true) ∧ Below w.heap.size w w' := by
 have hr := sl_R.1 hx
 have hr' := sl_R.1 hy
 obtain rfl : xs.length = n := hr.cap.1
 obtain rfl : xs.length = n' := hr'.cap.1
 have hn1 : xs.length + hT.szL xs ≤ 100000000 := hn
 clear hx hy hn
 go_enter Tryz.func42, Tryz.ntmps42
 go_wp2
 go_loopw [5] (fun i wr => ∃ k : Nat, i = .int .i64 k ∧ k ≤ xs.length ∧ Below w.heap.size w wr) (fun i _ => xs.length - (intOf i).toNat)
 case atStart => exact ⟨0, rfl, by omega, Below.refl _ _⟩
 case round =>
  obtain ⟨k, rfl, hk, hb⟩ := hrel
  by_cases hlt : k < xs.length
  · have hX := Lib.hid (List.getElem?_eq_getElem hlt)
    obtain ⟨b, o, c1, cs, hv, hab, -, hE, hc⟩ := (hr.below hb).atX hX.out
    obtain ⟨b', o', c1', cs', hv', hab', -, hE', hc'⟩ := (hr'.below hb).atX hX.out
    simp only [Value.slice.injEq] at hv hv'
    obtain ⟨rfl, -, rfl⟩ := hv
    obtain ⟨rfl, -, rfl⟩ := hv'
    have hU := hT.szL_at hX.out
    generalize xs[k] = x at hX hE hE' hU
    obtain ⟨A0, n0, c0, rfl⟩ := za6 hE
    have ec0 : wr.cell? ⟨b, o + k * 1, none⟩ = some (.slice A0 n0 c0) := hc 0 _ rfl
    rw [Nat.mul_one] at ec0
    obtain ⟨A0', n0', c0', rfl⟩ := za6 hE'
    have dc0 : wr.cell? ⟨b', o' + k * 1, none⟩ = some (.slice A0' n0' c0') := hc' 0 _ rfl
    rw [Nat.mul_one] at dc0
    have hbr : b < wr.heap.size := Nat.lt_of_lt_of_le hab hb.size
    have hbr' : b' < wr.heap.size := Nat.lt_of_lt_of_le hab' hb.size
    have hz2 : hT.sz x ≤ 100000000 := by omega
    have f0 := tT.later (tT.more hb.size hE) (zac (Below.refl _ _) 1)
    have g0 := tT.later (tT.more hb.size hE') (zac (Below.refl _ _) 1)
    clear hc hc' hE hE'
    go_wp2
    go_region_held3 (fun w' => Below wr.heap.size wr w' ∧ w'.cell? ⟨b, o + k, none⟩ = some (.slice A0 n0 c0) ∧ w'.cell? ⟨b', o' + k, none⟩ = some (.slice A0' n0' c0'))
     (first
      | exact ⟨zac (Below.refl _ _) _, ec0, dc0⟩
      | exact ⟨zdb bel2 rfl (And.left (by assumption)), za9 bel2 rfl (And.left (by assumption)) ec0 hbr, za9 bel2 rfl (And.left (by assumption)) dc0 hbr'⟩)
     (first | (go_at_call 82; refine (zor _ _ _ _ _ _ _ _ f0 g0 hz2).mono ?_; rintro e w2 ⟨rfl, bel2⟩))
    go_wp2
    go_roundw
    case rel => exact ⟨k + 1, by go_num, by omega, hb.trans ((zdb bel2 rfl (zac (Below.refl _ _) _)).mono hb.size)⟩
    case measure => simp [intOf]; omega
  · go_wp2
    go_ret
    exact ⟨rfl, hb⟩
end
section
open Go.RowKit
abbrev Sess := Int × (List (List Int)) × (List (List zag)) × (List Int) × (List zad) × (List zae)
abbrev tZ : Ty Sess := tI.prod (tSS.prod (tTS.prod (tS.prod (tPS.prod tM))))
abbrev hZ : Hs Sess := hU.prod (hSS.prod (hTS.prod (hS.prod (hPS.prod hM))))
theorem tZ_R {w : World} {B : Nat} {cs : List Value} {a0 : Int} {x1 : List (List Int)} {x2 : List (List zag)} {x3 : List Int} {x4 : List zad} {x5 : List zae} : tZ.R w B cs (a0, x1, x2, x3, x4, x5) ↔ ∃ A1 n1 c1 A2 n2 c2 A3 n3 c3 A4 n4 c4 A5 n5 c5, cs = [.int .i64 a0, .slice A1 n1 c1, .slice A2 n2 c2, .slice A3 n3 c3, .slice A4 n4 c4, .slice A5 n5 c5] ∧ tSS.R w B [.slice A1 n1 c1] x1 ∧ tTS.R w B [.slice A2 n2 c2] x2 ∧ tS.R w B [.slice A3 n3 c3] x3 ∧ tPS.R w B [.slice A4 n4 c4] x4 ∧ tM.R w B [.slice A5 n5 c5] x5 := by
 constructor
 · rintro ⟨u0, d0, rfl, g0, ⟨u1, d1, rfl, g1, ⟨u2, d2, rfl, g2, ⟨u3, d3, rfl, g3, ⟨u4, d4, rfl, g4, g5⟩⟩⟩⟩⟩
   obtain rfl : u0 = [.int .i64 a0] := g0
   obtain ⟨A1, n1, c1, rfl⟩ := za6 g1
   obtain ⟨A2, n2, c2, rfl⟩ := za6 g2
   obtain ⟨A3, n3, c3, rfl⟩ := za6 g3
   obtain ⟨A4, n4, c4, rfl⟩ := za6 g4
   obtain ⟨A5, n5, c5, rfl⟩ := za6 g5
   exact ⟨A1, n1, c1, A2, n2, c2, A3, n3, c3, A4, n4, c4, A5, n5, c5, rfl, g1, g2, g3, g4, g5⟩
 · rintro ⟨A1, n1, c1, A2, n2, c2, A3, n3, c3, A4, n4, c4, A5, n5, c5, rfl, g1, g2, g3, g4, g5⟩
   exact ⟨[.int .i64 a0], _, rfl, rfl, ⟨[.slice A1 n1 c1], _, rfl, g1, ⟨[.slice A2 n2 c2], _, rfl, g2, ⟨[.slice A3 n3 c3], _, rfl, g3, ⟨[.slice A4 n4 c4], _, rfl, g4, g5⟩⟩⟩⟩⟩
theorem tZ_O {w : World} {F : Nat → Prop} {cs : List Value} {a0 : Int} {x1 : List (List Int)} {x2 : List (List zag)} {x3 : List Int} {x4 : List zad} {x5 : List zae} : tZ.O w F cs (a0, x1, x2, x3, x4, x5) ↔ ∃ A1 n1 c1 A2 n2 c2 A3 n3 c3 A4 n4 c4 A5 n5 c5, ∃ F1 F2 F3 F4 F5 : Nat → Prop, cs = [.int .i64 a0, .slice A1 n1 c1, .slice A2 n2 c2, .slice A3 n3 c3, .slice A4 n4 c4, .slice A5 n5 c5] ∧ tSS.O w F1 [.slice A1 n1 c1] x1 ∧ tTS.O w F2 [.slice A2 n2 c2] x2 ∧ tS.O w F3 [.slice A3 n3 c3] x3 ∧ tPS.O w F4 [.slice A4 n4 c4] x4 ∧ tM.O w F5 [.slice A5 n5 c5] x5 ∧ (∀ b, F1 b → F b) ∧ (∀ b, F2 b → F b) ∧ (∀ b, F3 b → F b) ∧ (∀ b, F4 b → F b) ∧ (∀ b, F5 b → F b) ∧ (∀ b, F1 b → ¬ F2 b) ∧ (∀ b, F1 b → ¬ F3 b) ∧ (∀ b, F1 b → ¬ F4 b) ∧ (∀ b, F1 b → ¬ F5 b) ∧ (∀ b, F2 b → ¬ F3 b) ∧ (∀ b, F2 b → ¬ F4 b) ∧ (∀ b, F2 b → ¬ F5 b) ∧ (∀ b, F3 b → ¬ F4 b) ∧ (∀ b, F3 b → ¬ F5 b) ∧ (∀ b, F4 b → ¬ F5 b) := by
 constructor
 · rintro ⟨u0, d0, F0, G0, rfl, g0, ⟨u1, d1, F1, G1, rfl, g1, ⟨u2, d2, F2, G2, rfl, g2, ⟨u3, d3, F3, G3, rfl, g3, ⟨u4, d4, F4, G4, rfl, g4, g5, p4, q4, r4⟩, p3, q3, r3⟩, p2, q2, r2⟩, p1, q1, r1⟩, p0, q0, r0⟩
   obtain rfl : u0 = [.int .i64 a0] := g0
   obtain ⟨A1, n1, c1, rfl⟩ := za6 (tSS.read g1)
   obtain ⟨A2, n2, c2, rfl⟩ := za6 (tTS.read g2)
   obtain ⟨A3, n3, c3, rfl⟩ := za6 (tS.read g3)
   obtain ⟨A4, n4, c4, rfl⟩ := za6 (tPS.read g4)
   obtain ⟨A5, n5, c5, rfl⟩ := za6 (tM.read g5)
   exact ⟨A1, n1, c1, A2, n2, c2, A3, n3, c3, A4, n4, c4, A5, n5, c5, F1, F2, F3, F4, G4, rfl, g1, g2, g3, g4, g5, fun b h => q0 _ (p1 _ h), fun b h => q0 _ (q1 _ (p2 _ h)), fun b h => q0 _ (q1 _ (q2 _ (p3 _ h))), fun b h => q0 _ (q1 _ (q2 _ (q3 _ (p4 _ h)))), fun b h => q0 _ (q1 _ (q2 _ (q3 _ (q4 _ (h))))), fun b h h2 => r1 b h (p2 _ h2), fun b h h2 => r1 b h (q2 _ (p3 _ h2)), fun b h h2 => r1 b h (q2 _ (q3 _ (p4 _ h2))), fun b h h2 => r1 b h (q2 _ (q3 _ (q4 _ (h2)))), fun b h h2 => r2 b h (p3 _ h2), fun b h h2 => r2 b h (q3 _ (p4 _ h2)), fun b h h2 => r2 b h (q3 _ (q4 _ (h2))), fun b h h2 => r3 b h (p4 _ h2), fun b h h2 => r3 b h (q4 _ (h2)), fun b h h2 => r4 b h (h2)⟩
 · rintro ⟨A1, n1, c1, A2, n2, c2, A3, n3, c3, A4, n4, c4, A5, n5, c5, F1, F2, F3, F4, F5, rfl, g1, g2, g3, g4, g5, p1, p2, p3, p4, p5, r1_2, r1_3, r1_4, r1_5, r2_3, r2_4, r2_5, r3_4, r3_5, r4_5⟩
   exact ⟨[.int .i64 a0], _, (fun _ => False), (fun b => F1 b ∨ F2 b ∨ F3 b ∨ F4 b ∨ F5 b), rfl, rfl, ⟨[.slice A1 n1 c1], _, F1, (fun b => F2 b ∨ F3 b ∨ F4 b ∨ F5 b), rfl, g1, ⟨[.slice A2 n2 c2], _, F2, (fun b => F3 b ∨ F4 b ∨ F5 b), rfl, g2, ⟨[.slice A3 n3 c3], _, F3, (fun b => F4 b ∨ F5 b), rfl, g3, ⟨[.slice A4 n4 c4], _, F4, F5, rfl, g4, g5, fun b h => by first | exact h | (simp only [*, true_or, or_true]), fun b h => by first | exact h | exact Or.inr h | (rcases h with h <;> simp only [*, true_or, or_true]), r4_5⟩, fun b h => by first | exact h | (simp only [*, true_or, or_true]), fun b h => by first | exact h | exact Or.inr h | (rcases h with h | h <;> simp only [*, true_or, or_true]), fun b h h2 => by rcases h2 with h2 | h2 <;> first | exact r3_4 b h h2 | exact r3_5 b h h2⟩, fun b h => by first | exact h | (simp only [*, true_or, or_true]), fun b h => by first | exact h | exact Or.inr h | (rcases h with h | h | h <;> simp only [*, true_or, or_true]), fun b h h2 => by rcases h2 with h2 | h2 | h2 <;> first | exact r2_3 b h h2 | exact r2_4 b h h2 | exact r2_5 b h h2⟩, fun b h => by first | exact h | (simp only [*, true_or, or_true]), fun b h => by first | exact h | exact Or.inr h | (rcases h with h | h | h | h <;> simp only [*, true_or, or_true]), fun b h h2 => by rcases h2 with h2 | h2 | h2 | h2 <;> first | exact r1_2 b h h2 | exact r1_3 b h h2 | exact r1_4 b h h2 | exact r1_5 b h h2⟩, fun _ h => h.elim, fun b h => by rcases h with h | h | h | h | h <;> first | exact p1 b h | exact p2 b h | exact p3 b h | exact p4 b h | exact p5 b h, fun _ h => h.elim⟩
theorem zc7 (a0 : Int) (x1 : List (List Int)) (x2 : List (List zag)) (x3 : List Int) (x4 : List zad) (x5 : List zae) : hZ.sz (a0, x1, x2, x3, x4, x5) = hSS.sz x1 + hTS.sz x2 + hS.sz x3 + hPS.sz x4 + hM.sz x5 := by
 show 0 + (hSS.sz x1 + (hTS.sz x2 + (hS.sz x3 + (hPS.sz x4 + (hM.sz x5))))) = _
 omega
theorem zlb (a0 : Int) (x1 : List (List Int)) (x2 : List (List zag)) (x3 : List Int) (x4 : List zad) (x5 : List zae) : hZ.cnt (a0, x1, x2, x3, x4, x5) = hSS.cnt x1 + hTS.cnt x2 + hS.cnt x3 + hPS.cnt x4 + hM.cnt x5 := by
 show 0 + (hSS.cnt x1 + (hTS.cnt x2 + (hS.cnt x3 + (hPS.cnt x4 + (hM.cnt x5))))) = _
 omega
theorem zqb (a0 : Int) (A1 : Option Addr) (n1 c1 : Nat) (A2 : Option Addr) (n2 c2 : Nat) (A3 : Option Addr) (n3 c3 : Nat) (A4 : Option Addr) (n4 c4 : Nat) (A5 : Option Addr) (n5 c5 : Nat) (x1 : List (List Int)) (x2 : List (List zag)) (x3 : List Int) (x4 : List zad) (x5 : List zae) (l : Int) (w : World) (h1 : tSS.R w w.heap.size [.slice A1 n1 c1] x1) (h2 : tTS.R w w.heap.size [.slice A2 n2 c2] x2) (h3 : tS.R w w.heap.size [.slice A3 n3 c3] x3) (h4 : tPS.R w w.heap.size [.slice A4 n4 c4] x4) (h5 : tM.R w w.heap.size [.slice A5 n5 c5] x5) (hl : 0 ≤ l ∧ l ≤ 1000000000) :
 Calls Tryz.prog 8 #[.agg #[.int .i64 a0, .slice A1 n1 c1, .slice A2 n2 c2, .slice A3 n3 c3, .slice A4 n4 c4, .slice A5 n5 c5], .int .i64 l] w fun e w' => e = .returned (.int .i64 (if (hZ.sz ((a0, x1, x2, x3, x4, x5) : Sess) : Int) ≤ l then l - hZ.sz ((a0, x1, x2, x3, x4, x5) : Sess) else -1)) ∧ Below w.heap.size w w' := by
 obtain ⟨W, hW⟩ : ∃ W, W = w.alloc (.cells #[.int .i64 a0, .slice A1 n1 c1, .slice A2 n2 c2, .slice A3 n3 c3, .slice A4 n4 c4, .slice A5 n5 c5] 30) := ⟨_, rfl⟩
 have B0 : Below w.heap.size w W := by rw [hW]; exact (Below.refl _ _).alloc (Nat.le_refl _) _
 have p1 : W.cell? ⟨w.heap.size, 1, none⟩ = some (.slice A1 n1 c1) := by rw [hW]; simp [go_sem]
 have p2 : W.cell? ⟨w.heap.size, 2, none⟩ = some (.slice A2 n2 c2) := by rw [hW]; simp [go_sem]
 have p3 : W.cell? ⟨w.heap.size, 3, none⟩ = some (.slice A3 n3 c3) := by rw [hW]; simp [go_sem]
 have p4 : W.cell? ⟨w.heap.size, 4, none⟩ = some (.slice A4 n4 c4) := by rw [hW]; simp [go_sem]
 have p5 : W.cell? ⟨w.heap.size, 5, none⟩ = some (.slice A5 n5 c5) := by rw [hW]; simp [go_sem]
 have l0 : w.heap.size < W.heap.size := by rw [hW]; simp
 have y1_0 := tSS.later h1 B0
 have y2_0 := tTS.later h2 B0
 have y3_0 := tS.later h3 B0
 have y4_0 := tPS.later h4 B0
 have y5_0 := tM.later h5 B0
 have HW := Lib.hid hW
 clear hW
 rw [zc7]
 have z1 : 0 ≤ (hSS.sz x1 : Int) := Int.natCast_nonneg _
 have z2 : 0 ≤ (hTS.sz x2 : Int) := Int.natCast_nonneg _
 have z3 : 0 ≤ (hS.sz x3 : Int) := Int.natCast_nonneg _
 have z4 : 0 ≤ (hPS.sz x4 : Int) := Int.natCast_nonneg _
 have z5 : 0 ≤ (hM.sz x5 : Int) := Int.natCast_nonneg _
 by_cases g0 : (hSS.sz x1 : Int) ≤ l
 · have i0 := Lib.hid (show (if (hSS.sz x1 : Int) ≤ l then l - hSS.sz x1 else -1) = l - hSS.sz x1 by rw [if_pos g0])
   by_cases g1 : (hTS.sz x2 : Int) ≤ l - hSS.sz x1
   · have i1 := Lib.hid (show (if (hTS.sz x2 : Int) ≤ l - hSS.sz x1 then l - hSS.sz x1 - hTS.sz x2 else -1) = l - hSS.sz x1 - hTS.sz x2 by rw [if_pos g1])
     by_cases g2 : (hS.sz x3 : Int) ≤ l - hSS.sz x1 - hTS.sz x2
     · have i2 := Lib.hid (show (if (hS.sz x3 : Int) ≤ l - hSS.sz x1 - hTS.sz x2 then l - hSS.sz x1 - hTS.sz x2 - hS.sz x3 else -1) = l - hSS.sz x1 - hTS.sz x2 - hS.sz x3 by rw [if_pos g2])
       by_cases g3 : (hPS.sz x4 : Int) ≤ l - hSS.sz x1 - hTS.sz x2 - hS.sz x3
       · have i3 := Lib.hid (show (if (hPS.sz x4 : Int) ≤ l - hSS.sz x1 - hTS.sz x2 - hS.sz x3 then l - hSS.sz x1 - hTS.sz x2 - hS.sz x3 - hPS.sz x4 else -1) = l - hSS.sz x1 - hTS.sz x2 - hS.sz x3 - hPS.sz x4 by rw [if_pos g3])
         by_cases g4 : (hM.sz x5 : Int) ≤ l - hSS.sz x1 - hTS.sz x2 - hS.sz x3 - hPS.sz x4
         · have i4 := Lib.hid (show (if (hM.sz x5 : Int) ≤ l - hSS.sz x1 - hTS.sz x2 - hS.sz x3 - hPS.sz x4 then l - hSS.sz x1 - hTS.sz x2 - hS.sz x3 - hPS.sz x4 - hM.sz x5 else -1) = l - hSS.sz x1 - hTS.sz x2 - hS.sz x3 - hPS.sz x4 - hM.sz x5 by rw [if_pos g4])
           have hj := Lib.hid (show (if ((hSS.sz x1 + hTS.sz x2 + hS.sz x3 + hPS.sz x4 + hM.sz x5 : Nat) : Int) ≤ l then l - ((hSS.sz x1 + hTS.sz x2 + hS.sz x3 + hPS.sz x4 + hM.sz x5 : Nat) : Int) else -1) = l - hSS.sz x1 - hTS.sz x2 - hS.sz x3 - hPS.sz x4 - hM.sz x5 by rw [if_pos (by omega)]; first | done | omega)
           rw [hj.out]
           clear z1 z2 z3 z4 z5
           go_enter Tryz.func8, Tryz.ntmps8
           go_wp2_with fail
           rw [← HW.out]
           refine (zek _ _ _ _ _ _ y1_0 (by omega)).mono ?_
           rw [i0.out]
           rintro e w1 ⟨rfl, b1⟩
           obtain ⟨hc1, -⟩ := zau b1
           have l1 := Nat.lt_of_lt_of_le l0 b1.size
           have B1 := zaa B0 b1
           have y2_1 := tTS.later y2_0 b1
           have y3_1 := tS.later y3_0 b1
           have y4_1 := tPS.later y4_0 b1
           have y5_1 := tM.later y5_0 b1
           go_wp2_with fail
           refine (zgj _ _ _ _ _ _ y2_1 (by omega)).mono ?_
           rw [i1.out]
           rintro e w2 ⟨rfl, b2⟩
           obtain ⟨hc2, -⟩ := zau b2
           have l2 := Nat.lt_of_lt_of_le l1 b2.size
           have B2 := zaa B1 b2
           have y3_2 := tS.later y3_1 b2
           have y4_2 := tPS.later y4_1 b2
           have y5_2 := tM.later y5_1 b2
           go_wp2_with fail
           refine (zej _ _ _ _ _ _ y3_2 (by omega)).mono ?_
           rw [i2.out]
           rintro e w3 ⟨rfl, b3⟩
           obtain ⟨hc3, -⟩ := zau b3
           have l3 := Nat.lt_of_lt_of_le l2 b3.size
           have B3 := zaa B2 b3
           have y4_3 := tPS.later y4_2 b3
           have y5_3 := tM.later y5_2 b3
           go_wp2_with fail
           refine (zix _ _ _ _ _ _ y4_3 (by omega)).mono ?_
           rw [i3.out]
           rintro e w4 ⟨rfl, b4⟩
           obtain ⟨hc4, -⟩ := zau b4
           have l4 := Nat.lt_of_lt_of_le l3 b4.size
           have B4 := zaa B3 b4
           have y5_4 := tM.later y5_3 b4
           go_wp2_with fail
           refine (zk0 _ _ _ _ _ _ y5_4 (by omega)).mono ?_
           rw [i4.out]
           rintro e w5 ⟨rfl, b5⟩
           obtain ⟨hc5, -⟩ := zau b5
           have l5 := Nat.lt_of_lt_of_le l4 b5.size
           have B5 := zaa B4 b5
           go_wp2
           go_ret
           exact ⟨rfl, B5⟩
         · have i4 := Lib.hid (show (if (hM.sz x5 : Int) ≤ l - hSS.sz x1 - hTS.sz x2 - hS.sz x3 - hPS.sz x4 then l - hSS.sz x1 - hTS.sz x2 - hS.sz x3 - hPS.sz x4 - hM.sz x5 else -1) = -1 by rw [if_neg g4])
           have hj := Lib.hid (show (if ((hSS.sz x1 + hTS.sz x2 + hS.sz x3 + hPS.sz x4 + hM.sz x5 : Nat) : Int) ≤ l then l - ((hSS.sz x1 + hTS.sz x2 + hS.sz x3 + hPS.sz x4 + hM.sz x5 : Nat) : Int) else -1) = -1 by rw [if_neg (by omega)])
           rw [hj.out]
           clear z1 z2 z3 z4 z5
           go_enter Tryz.func8, Tryz.ntmps8
           go_wp2_with fail
           rw [← HW.out]
           refine (zek _ _ _ _ _ _ y1_0 (by omega)).mono ?_
           rw [i0.out]
           rintro e w1 ⟨rfl, b1⟩
           obtain ⟨hc1, -⟩ := zau b1
           have l1 := Nat.lt_of_lt_of_le l0 b1.size
           have B1 := zaa B0 b1
           have y2_1 := tTS.later y2_0 b1
           have y3_1 := tS.later y3_0 b1
           have y4_1 := tPS.later y4_0 b1
           have y5_1 := tM.later y5_0 b1
           go_wp2_with fail
           refine (zgj _ _ _ _ _ _ y2_1 (by omega)).mono ?_
           rw [i1.out]
           rintro e w2 ⟨rfl, b2⟩
           obtain ⟨hc2, -⟩ := zau b2
           have l2 := Nat.lt_of_lt_of_le l1 b2.size
           have B2 := zaa B1 b2
           have y3_2 := tS.later y3_1 b2
           have y4_2 := tPS.later y4_1 b2
           have y5_2 := tM.later y5_1 b2
           go_wp2_with fail
           refine (zej _ _ _ _ _ _ y3_2 (by omega)).mono ?_
           rw [i2.out]
           rintro e w3 ⟨rfl, b3⟩
           obtain ⟨hc3, -⟩ := zau b3
           have l3 := Nat.lt_of_lt_of_le l2 b3.size
           have B3 := zaa B2 b3
           have y4_3 := tPS.later y4_2 b3
           have y5_3 := tM.later y5_2 b3
           go_wp2_with fail
           refine (zix _ _ _ _ _ _ y4_3 (by omega)).mono ?_
           rw [i3.out]
           rintro e w4 ⟨rfl, b4⟩
           obtain ⟨hc4, -⟩ := zau b4
           have l4 := Nat.lt_of_lt_of_le l3 b4.size
           have B4 := zaa B3 b4
           have y5_4 := tM.later y5_3 b4
           go_wp2_with fail
           refine (zk0 _ _ _ _ _ _ y5_4 (by omega)).mono ?_
           rw [i4.out]
           rintro e w5 ⟨rfl, b5⟩
           obtain ⟨hc5, -⟩ := zau b5
           have l5 := Nat.lt_of_lt_of_le l4 b5.size
           have B5 := zaa B4 b5
           go_wp2
           go_ret
           exact ⟨rfl, B5⟩
       · have i3 := Lib.hid (show (if (hPS.sz x4 : Int) ≤ l - hSS.sz x1 - hTS.sz x2 - hS.sz x3 then l - hSS.sz x1 - hTS.sz x2 - hS.sz x3 - hPS.sz x4 else -1) = -1 by rw [if_neg g3])
         have hj := Lib.hid (show (if ((hSS.sz x1 + hTS.sz x2 + hS.sz x3 + hPS.sz x4 + hM.sz x5 : Nat) : Int) ≤ l then l - ((hSS.sz x1 + hTS.sz x2 + hS.sz x3 + hPS.sz x4 + hM.sz x5 : Nat) : Int) else -1) = -1 by rw [if_neg (by omega)])
         rw [hj.out]
         clear z1 z2 z3 z4 z5
         go_enter Tryz.func8, Tryz.ntmps8
         go_wp2_with fail
         rw [← HW.out]
         refine (zek _ _ _ _ _ _ y1_0 (by omega)).mono ?_
         rw [i0.out]
         rintro e w1 ⟨rfl, b1⟩
         obtain ⟨hc1, -⟩ := zau b1
         have l1 := Nat.lt_of_lt_of_le l0 b1.size
         have B1 := zaa B0 b1
         have y2_1 := tTS.later y2_0 b1
         have y3_1 := tS.later y3_0 b1
         have y4_1 := tPS.later y4_0 b1
         have y5_1 := tM.later y5_0 b1
         go_wp2_with fail
         refine (zgj _ _ _ _ _ _ y2_1 (by omega)).mono ?_
         rw [i1.out]
         rintro e w2 ⟨rfl, b2⟩
         obtain ⟨hc2, -⟩ := zau b2
         have l2 := Nat.lt_of_lt_of_le l1 b2.size
         have B2 := zaa B1 b2
         have y3_2 := tS.later y3_1 b2
         have y4_2 := tPS.later y4_1 b2
         have y5_2 := tM.later y5_1 b2
         go_wp2_with fail
         refine (zej _ _ _ _ _ _ y3_2 (by omega)).mono ?_
         rw [i2.out]
         rintro e w3 ⟨rfl, b3⟩
         obtain ⟨hc3, -⟩ := zau b3
         have l3 := Nat.lt_of_lt_of_le l2 b3.size
         have B3 := zaa B2 b3
         have y4_3 := tPS.later y4_2 b3
         have y5_3 := tM.later y5_2 b3
         go_wp2_with fail
         refine (zix _ _ _ _ _ _ y4_3 (by omega)).mono ?_
         rw [i3.out]
         rintro e w4 ⟨rfl, b4⟩
         obtain ⟨hc4, -⟩ := zau b4
         have l4 := Nat.lt_of_lt_of_le l3 b4.size
         have B4 := zaa B3 b4
         have y5_4 := tM.later y5_3 b4
         go_wp2
         go_ret
         exact ⟨rfl, B4⟩
     · have i2 := Lib.hid (show (if (hS.sz x3 : Int) ≤ l - hSS.sz x1 - hTS.sz x2 then l - hSS.sz x1 - hTS.sz x2 - hS.sz x3 else -1) = -1 by rw [if_neg g2])
       have hj := Lib.hid (show (if ((hSS.sz x1 + hTS.sz x2 + hS.sz x3 + hPS.sz x4 + hM.sz x5 : Nat) : Int) ≤ l then l - ((hSS.sz x1 + hTS.sz x2 + hS.sz x3 + hPS.sz x4 + hM.sz x5 : Nat) : Int) else -1) = -1 by rw [if_neg (by omega)])
       rw [hj.out]
       clear z1 z2 z3 z4 z5
       go_enter Tryz.func8, Tryz.ntmps8
       go_wp2_with fail
       rw [← HW.out]
       refine (zek _ _ _ _ _ _ y1_0 (by omega)).mono ?_
       rw [i0.out]
       rintro e w1 ⟨rfl, b1⟩
       obtain ⟨hc1, -⟩ := zau b1
       have l1 := Nat.lt_of_lt_of_le l0 b1.size
       have B1 := zaa B0 b1
       have y2_1 := tTS.later y2_0 b1
       have y3_1 := tS.later y3_0 b1
       have y4_1 := tPS.later y4_0 b1
       have y5_1 := tM.later y5_0 b1
       go_wp2_with fail
       refine (zgj _ _ _ _ _ _ y2_1 (by omega)).mono ?_
       rw [i1.out]
       rintro e w2 ⟨rfl, b2⟩
       obtain ⟨hc2, -⟩ := zau b2
       have l2 := Nat.lt_of_lt_of_le l1 b2.size
       have B2 := zaa B1 b2
       have y3_2 := tS.later y3_1 b2
       have y4_2 := tPS.later y4_1 b2
       have y5_2 := tM.later y5_1 b2
       go_wp2_with fail
       refine (zej _ _ _ _ _ _ y3_2 (by omega)).mono ?_
       rw [i2.out]
       rintro e w3 ⟨rfl, b3⟩
       obtain ⟨hc3, -⟩ := zau b3
       have l3 := Nat.lt_of_lt_of_le l2 b3.size
       have B3 := zaa B2 b3
       have y4_3 := tPS.later y4_2 b3
       have y5_3 := tM.later y5_2 b3
       go_wp2
       go_ret
       exact ⟨rfl, B3⟩
   · have i1 := Lib.hid (show (if (hTS.sz x2 : Int) ≤ l - hSS.sz x1 then l - hSS.sz x1 - hTS.sz x2 else -1) = -1 by rw [if_neg g1])
     have hj := Lib.hid (show (if ((hSS.sz x1 + hTS.sz x2 + hS.sz x3 + hPS.sz x4 + hM.sz x5 : Nat) : Int) ≤ l then l - ((hSS.sz x1 + hTS.sz x2 + hS.sz x3 + hPS.sz x4 + hM.sz x5 : Nat) : Int) else -1) = -1 by rw [if_neg (by omega)])
     rw [hj.out]
     clear z1 z2 z3 z4 z5
     go_enter Tryz.func8, Tryz.ntmps8
     go_wp2_with fail
     rw [← HW.out]
     refine (zek _ _ _ _ _ _ y1_0 (by omega)).mono ?_
     rw [i0.out]
     rintro e w1 ⟨rfl, b1⟩
     obtain ⟨hc1, -⟩ := zau b1
     have l1 := Nat.lt_of_lt_of_le l0 b1.size
     have B1 := zaa B0 b1
     have y2_1 := tTS.later y2_0 b1
     have y3_1 := tS.later y3_0 b1
     have y4_1 := tPS.later y4_0 b1
     have y5_1 := tM.later y5_0 b1
     go_wp2_with fail
     refine (zgj _ _ _ _ _ _ y2_1 (by omega)).mono ?_
     rw [i1.out]
     rintro e w2 ⟨rfl, b2⟩
     obtain ⟨hc2, -⟩ := zau b2
     have l2 := Nat.lt_of_lt_of_le l1 b2.size
     have B2 := zaa B1 b2
     have y3_2 := tS.later y3_1 b2
     have y4_2 := tPS.later y4_1 b2
     have y5_2 := tM.later y5_1 b2
     go_wp2
     go_ret
     exact ⟨rfl, B2⟩
 · have i0 := Lib.hid (show (if (hSS.sz x1 : Int) ≤ l then l - hSS.sz x1 else -1) = -1 by rw [if_neg g0])
   have hj := Lib.hid (show (if ((hSS.sz x1 + hTS.sz x2 + hS.sz x3 + hPS.sz x4 + hM.sz x5 : Nat) : Int) ≤ l then l - ((hSS.sz x1 + hTS.sz x2 + hS.sz x3 + hPS.sz x4 + hM.sz x5 : Nat) : Int) else -1) = -1 by rw [if_neg (by omega)])
   rw [hj.out]
   clear z1 z2 z3 z4 z5
   go_enter Tryz.func8, Tryz.ntmps8
   go_wp2_with fail
   rw [← HW.out]
   refine (zek _ _ _ _ _ _ y1_0 (by omega)).mono ?_
   rw [i0.out]
   rintro e w1 ⟨rfl, b1⟩
   obtain ⟨hc1, -⟩ := zau b1
   have l1 := Nat.lt_of_lt_of_le l0 b1.size
   have B1 := zaa B0 b1
   have y2_1 := tTS.later y2_0 b1
   have y3_1 := tS.later y3_0 b1
   have y4_1 := tPS.later y4_0 b1
   have y5_1 := tM.later y5_0 b1
   go_wp2
   go_ret
   exact ⟨rfl, B1⟩
theorem zqc (a0 : Int) (A1 : Option Addr) (n1 c1 : Nat) (A2 : Option Addr) (n2 c2 : Nat) (A3 : Option Addr) (n3 c3 : Nat) (A4 : Option Addr) (n4 c4 : Nat) (A5 : Option Addr) (n5 c5 : Nat) (A1' : Option Addr) (n1' c1' : Nat) (A2' : Option Addr) (n2' c2' : Nat) (A3' : Option Addr) (n3' c3' : Nat) (A4' : Option Addr) (n4' c4' : Nat) (A5' : Option Addr) (n5' c5' : Nat) (x1 : List (List Int)) (x2 : List (List zag)) (x3 : List Int) (x4 : List zad) (x5 : List zae) (w : World) (h1 : tSS.R w w.heap.size [.slice A1 n1 c1] x1) (h2 : tTS.R w w.heap.size [.slice A2 n2 c2] x2) (h3 : tS.R w w.heap.size [.slice A3 n3 c3] x3) (h4 : tPS.R w w.heap.size [.slice A4 n4 c4] x4) (h5 : tM.R w w.heap.size [.slice A5 n5 c5] x5) (k1 : tSS.R w w.heap.size [.slice A1' n1' c1'] x1) (k2 : tTS.R w w.heap.size [.slice A2' n2' c2'] x2) (k3 : tS.R w w.heap.size [.slice A3' n3' c3'] x3) (k4 : tPS.R w w.heap.size [.slice A4' n4' c4'] x4) (k5 : tM.R w w.heap.size [.slice A5' n5' c5'] x5) (hn : hZ.sz ((a0, x1, x2, x3, x4, x5) : Sess) ≤ 100000000) :
 Calls Tryz.prog 13 #[.agg #[.int .i64 a0, .slice A1 n1 c1, .slice A2 n2 c2, .slice A3 n3 c3, .slice A4 n4 c4, .slice A5 n5 c5], .agg #[.int .i64 a0, .slice A1' n1' c1', .slice A2' n2' c2', .slice A3' n3' c3', .slice A4' n4' c4', .slice A5' n5' c5']] w fun e w' => e = .returned (.bool true) ∧ Below w.heap.size w w' := by
 obtain ⟨W, hW⟩ : ∃ W, W = (w.alloc (.cells #[.int .i64 a0, .slice A1 n1 c1, .slice A2 n2 c2, .slice A3 n3 c3, .slice A4 n4 c4, .slice A5 n5 c5] 40)).alloc (.cells #[.int .i64 a0, .slice A1' n1' c1', .slice A2' n2' c2', .slice A3' n3' c3', .slice A4' n4' c4', .slice A5' n5' c5'] 40) := ⟨_, rfl⟩
 have B0 : Below w.heap.size w W := by rw [hW]; exact ((Below.refl _ _).alloc (Nat.le_refl _) _).alloc (by simp) _
 have p0 : W.cell? ⟨w.heap.size, 0, none⟩ = some (.int .i64 a0) := by rw [hW]; simp [go_sem]
 have q0 : W.cell? ⟨w.heap.size + 1, 0, none⟩ = some (.int .i64 a0) := by rw [hW]; simp [go_sem]
 have p1 : W.cell? ⟨w.heap.size, 1, none⟩ = some (.slice A1 n1 c1) := by rw [hW]; simp [go_sem]
 have q1 : W.cell? ⟨w.heap.size + 1, 1, none⟩ = some (.slice A1' n1' c1') := by rw [hW]; simp [go_sem]
 have p2 : W.cell? ⟨w.heap.size, 2, none⟩ = some (.slice A2 n2 c2) := by rw [hW]; simp [go_sem]
 have q2 : W.cell? ⟨w.heap.size + 1, 2, none⟩ = some (.slice A2' n2' c2') := by rw [hW]; simp [go_sem]
 have p3 : W.cell? ⟨w.heap.size, 3, none⟩ = some (.slice A3 n3 c3) := by rw [hW]; simp [go_sem]
 have q3 : W.cell? ⟨w.heap.size + 1, 3, none⟩ = some (.slice A3' n3' c3') := by rw [hW]; simp [go_sem]
 have p4 : W.cell? ⟨w.heap.size, 4, none⟩ = some (.slice A4 n4 c4) := by rw [hW]; simp [go_sem]
 have q4 : W.cell? ⟨w.heap.size + 1, 4, none⟩ = some (.slice A4' n4' c4') := by rw [hW]; simp [go_sem]
 have p5 : W.cell? ⟨w.heap.size, 5, none⟩ = some (.slice A5 n5 c5) := by rw [hW]; simp [go_sem]
 have q5 : W.cell? ⟨w.heap.size + 1, 5, none⟩ = some (.slice A5' n5' c5') := by rw [hW]; simp [go_sem]
 have l0 : w.heap.size + 1 < W.heap.size := by rw [hW]; simp
 have l0' : w.heap.size < W.heap.size := by omega
 have y1_0 := tSS.later h1 B0
 have v1_0 := tSS.later k1 B0
 have y2_0 := tTS.later h2 B0
 have v2_0 := tTS.later k2 B0
 have y3_0 := tS.later h3 B0
 have v3_0 := tS.later k3 B0
 have y4_0 := tPS.later h4 B0
 have v4_0 := tPS.later k4 B0
 have y5_0 := tM.later h5 B0
 have v5_0 := tM.later k5 B0
 have HW := Lib.hid hW
 clear hW
 rw [zc7] at hn
 go_enter Tryz.func13, Tryz.ntmps13
 go_wp2_with fail
 rw [← HW.out]
 refine (zgd _ _ _ _ _ _ _ _ y1_0 v1_0 (by omega)).mono ?_
 rintro e w1 ⟨rfl, b1⟩
 obtain ⟨hc1, -⟩ := zau b1
 have l1 := Nat.lt_of_lt_of_le l0 b1.size
 have l1' := Nat.lt_of_lt_of_le l0' b1.size
 have B1 := zaa B0 b1
 have y2_1 := tTS.later y2_0 b1
 have v2_1 := tTS.later v2_0 b1
 have y3_1 := tS.later y3_0 b1
 have v3_1 := tS.later v3_0 b1
 have y4_1 := tPS.later y4_0 b1
 have v4_1 := tPS.later v4_0 b1
 have y5_1 := tM.later y5_0 b1
 have v5_1 := tM.later v5_0 b1
 go_wp2_with fail
 refine (zqa _ _ _ _ _ _ _ _ y2_1 v2_1 (by omega)).mono ?_
 rintro e w2 ⟨rfl, b2⟩
 obtain ⟨hc2, -⟩ := zau b2
 have l2 := Nat.lt_of_lt_of_le l1 b2.size
 have l2' := Nat.lt_of_lt_of_le l1' b2.size
 have B2 := zaa B1 b2
 have y3_2 := tS.later y3_1 b2
 have v3_2 := tS.later v3_1 b2
 have y4_2 := tPS.later y4_1 b2
 have v4_2 := tPS.later v4_1 b2
 have y5_2 := tM.later y5_1 b2
 have v5_2 := tM.later v5_1 b2
 go_wp2_with fail
 refine (zef _ _ _ _ _ _ _ _ y3_2 v3_2 (by omega)).mono ?_
 rintro e w3 ⟨rfl, b3⟩
 obtain ⟨hc3, -⟩ := zau b3
 have l3 := Nat.lt_of_lt_of_le l2 b3.size
 have l3' := Nat.lt_of_lt_of_le l2' b3.size
 have B3 := zaa B2 b3
 have y4_3 := tPS.later y4_2 b3
 have v4_3 := tPS.later v4_2 b3
 have y5_3 := tM.later y5_2 b3
 have v5_3 := tM.later v5_2 b3
 go_wp2_with fail
 refine (zp7 _ _ _ _ _ _ _ _ y4_3 v4_3 (by omega)).mono ?_
 rintro e w4 ⟨rfl, b4⟩
 obtain ⟨hc4, -⟩ := zau b4
 have l4 := Nat.lt_of_lt_of_le l3 b4.size
 have l4' := Nat.lt_of_lt_of_le l3' b4.size
 have B4 := zaa B3 b4
 have y5_4 := tM.later y5_3 b4
 have v5_4 := tM.later v5_3 b4
 go_wp2_with fail
 refine (zpe _ _ _ _ _ _ _ _ y5_4 v5_4 (by omega)).mono ?_
 rintro e w5 ⟨rfl, b5⟩
 obtain ⟨hc5, -⟩ := zau b5
 have l5 := Nat.lt_of_lt_of_le l4 b5.size
 have l5' := Nat.lt_of_lt_of_le l4' b5.size
 have B5 := zaa B4 b5
 go_wp2
 go_ret
 exact ⟨rfl, B5⟩
theorem zqd (a0 : Int) (A1 : Option Addr) (n1 c1 : Nat) (A2 : Option Addr) (n2 c2 : Nat) (A3 : Option Addr) (n3 c3 : Nat) (A4 : Option Addr) (n4 c4 : Nat) (A5 : Option Addr) (n5 c5 : Nat) (x1 : List (List Int)) (x2 : List (List zag)) (x3 : List Int) (x4 : List zad) (x5 : List zae) (w : World) (h1 : tSS.R w w.heap.size [.slice A1 n1 c1] x1) (h2 : tTS.R w w.heap.size [.slice A2 n2 c2] x2) (h3 : tS.R w w.heap.size [.slice A3 n3 c3] x3) (h4 : tPS.R w w.heap.size [.slice A4 n4 c4] x4) (h5 : tM.R w w.heap.size [.slice A5 n5 c5] x5) (hn : hZ.sz ((a0, x1, x2, x3, x4, x5) : Sess) ≤ 100000000) :
 Calls Tryz.prog 10 #[.agg #[.int .i64 a0, .slice A1 n1 c1, .slice A2 n2 c2, .slice A3 n3 c3, .slice A4 n4 c4, .slice A5 n5 c5]] w fun e w' => ∃ A1' n1' c1' A2' n2' c2' A3' n3' c3' A4' n4' c4' A5' n5' c5', e = .returned (.agg #[.int .i64 a0, .slice A1' n1' c1', .slice A2' n2' c2', .slice A3' n3' c3', .slice A4' n4' c4', .slice A5' n5' c5']) ∧ tZ.O w' (Iv w.heap.size w'.heap.size) [.int .i64 a0, .slice A1' n1' c1', .slice A2' n2' c2', .slice A3' n3' c3', .slice A4' n4' c4', .slice A5' n5' c5'] (a0, x1, x2, x3, x4, x5) ∧ Below w.heap.size w w' := by
 obtain ⟨W, hW⟩ : ∃ W, W = ((w.alloc (.cells #[.int .i64 a0, .slice A1 n1 c1, .slice A2 n2 c2, .slice A3 n3 c3, .slice A4 n4 c4, .slice A5 n5 c5] 30)).alloc (.cells #[.int .i64 0, .slice none 0 0, .slice none 0 0, .slice none 0 0, .slice none 0 0, .slice none 0 0] 40)).alloc (.cells #[.int .i64 a0, .slice none 0 0, .slice none 0 0, .slice none 0 0, .slice none 0 0, .slice none 0 0] 40) := ⟨_, rfl⟩
 have B0 : Below w.heap.size w W := by rw [hW]; exact (((Below.refl _ _).alloc (Nat.le_refl _) _).alloc (by simp) _).alloc (by simp; omega) _
 have z0 : W.heap.size = w.heap.size + 1 + 1 + 1 := by rw [hW]; simp
 have p0 : W.cell? ⟨w.heap.size, 0, none⟩ = some (.int .i64 a0) := by rw [hW]; simp [go_sem]
 have q0 : W.cell? ⟨w.heap.size + 1, 0, none⟩ = some (.int .i64 0) := by rw [hW]; simp [go_sem]
 have r0 : W.cell? ⟨w.heap.size + 1 + 1, 0, none⟩ = some (.int .i64 a0) := by rw [hW]; simp [go_sem]
 have s0 : W.frozen? ⟨w.heap.size + 1, 0, none⟩ = false := by rw [hW]; simp [go_sem]
 have t0 : W.frozen? ⟨w.heap.size + 1 + 1, 0, none⟩ = false := by rw [hW]; simp [go_sem]
 have p1 : W.cell? ⟨w.heap.size, 1, none⟩ = some (.slice A1 n1 c1) := by rw [hW]; simp [go_sem]
 have q1 : W.cell? ⟨w.heap.size + 1, 1, none⟩ = some (.slice none 0 0) := by rw [hW]; simp [go_sem]
 have r1 : W.cell? ⟨w.heap.size + 1 + 1, 1, none⟩ = some (.slice none 0 0) := by rw [hW]; simp [go_sem]
 have s1 : W.frozen? ⟨w.heap.size + 1, 1, none⟩ = false := by rw [hW]; simp [go_sem]
 have t1 : W.frozen? ⟨w.heap.size + 1 + 1, 1, none⟩ = false := by rw [hW]; simp [go_sem]
 have p2 : W.cell? ⟨w.heap.size, 2, none⟩ = some (.slice A2 n2 c2) := by rw [hW]; simp [go_sem]
 have q2 : W.cell? ⟨w.heap.size + 1, 2, none⟩ = some (.slice none 0 0) := by rw [hW]; simp [go_sem]
 have r2 : W.cell? ⟨w.heap.size + 1 + 1, 2, none⟩ = some (.slice none 0 0) := by rw [hW]; simp [go_sem]
 have s2 : W.frozen? ⟨w.heap.size + 1, 2, none⟩ = false := by rw [hW]; simp [go_sem]
 have t2 : W.frozen? ⟨w.heap.size + 1 + 1, 2, none⟩ = false := by rw [hW]; simp [go_sem]
 have p3 : W.cell? ⟨w.heap.size, 3, none⟩ = some (.slice A3 n3 c3) := by rw [hW]; simp [go_sem]
 have q3 : W.cell? ⟨w.heap.size + 1, 3, none⟩ = some (.slice none 0 0) := by rw [hW]; simp [go_sem]
 have r3 : W.cell? ⟨w.heap.size + 1 + 1, 3, none⟩ = some (.slice none 0 0) := by rw [hW]; simp [go_sem]
 have s3 : W.frozen? ⟨w.heap.size + 1, 3, none⟩ = false := by rw [hW]; simp [go_sem]
 have t3 : W.frozen? ⟨w.heap.size + 1 + 1, 3, none⟩ = false := by rw [hW]; simp [go_sem]
 have p4 : W.cell? ⟨w.heap.size, 4, none⟩ = some (.slice A4 n4 c4) := by rw [hW]; simp [go_sem]
 have q4 : W.cell? ⟨w.heap.size + 1, 4, none⟩ = some (.slice none 0 0) := by rw [hW]; simp [go_sem]
 have r4 : W.cell? ⟨w.heap.size + 1 + 1, 4, none⟩ = some (.slice none 0 0) := by rw [hW]; simp [go_sem]
 have s4 : W.frozen? ⟨w.heap.size + 1, 4, none⟩ = false := by rw [hW]; simp [go_sem]
 have t4 : W.frozen? ⟨w.heap.size + 1 + 1, 4, none⟩ = false := by rw [hW]; simp [go_sem]
 have p5 : W.cell? ⟨w.heap.size, 5, none⟩ = some (.slice A5 n5 c5) := by rw [hW]; simp [go_sem]
 have q5 : W.cell? ⟨w.heap.size + 1, 5, none⟩ = some (.slice none 0 0) := by rw [hW]; simp [go_sem]
 have r5 : W.cell? ⟨w.heap.size + 1 + 1, 5, none⟩ = some (.slice none 0 0) := by rw [hW]; simp [go_sem]
 have s5 : W.frozen? ⟨w.heap.size + 1, 5, none⟩ = false := by rw [hW]; simp [go_sem]
 have t5 : W.frozen? ⟨w.heap.size + 1 + 1, 5, none⟩ = false := by rw [hW]; simp [go_sem]
 have l0 : w.heap.size < W.heap.size := by omega
 have l0' : w.heap.size + 1 < W.heap.size := by omega
 have l0'' : w.heap.size + 1 + 1 < W.heap.size := by omega
 have Z0 : w.heap.size + 1 + 1 + 1 ≤ W.heap.size := by omega
 clear z0
 have y1_0 := tSS.later h1 B0
 have y2_0 := tTS.later h2 B0
 have y3_0 := tS.later h3 B0
 have y4_0 := tPS.later h4 B0
 have y5_0 := tM.later h5 B0
 have HW := Lib.hid hW
 clear hW
 rw [zc7] at hn
 go_enter Tryz.func10, Tryz.ntmps10
 go_wp2_with fail
 rw [← HW.out]
 refine (zk9 _ _ _ _ _ y1_0 (by omega)).mono ?_
 rintro e w1 ⟨A1', n1', c1', rfl, o1_0, b1⟩
 obtain ⟨hc1, hf1⟩ := zau b1
 obtain ⟨U1, hU1⟩ : ∃ U, U = w1.setCell ⟨w.heap.size + 1 + 1, 1, none⟩ (.slice A1' n1' c1') := ⟨_, rfl⟩
 have m1 : Mid (w.heap.size + 1 + 1) (w.heap.size + 1 + 1 + 1) w1 U1 := by rw [hU1]; exact Mid.of_grown (zav w1 (w.heap.size + 1 + 1) 1 _) fun k hk => by injection hk with hk; omega
 have e1 : U1.heap.size = w1.heap.size := by rw [hU1]; simp
 have E1 := Lib.hid e1
 have sz1 : W.heap.size ≤ U1.heap.size := by rw [e1]; exact b1.size
 have BU1 : Below (w.heap.size + 1 + 1) w1 U1 := m1.toBelow (by omega)
 have B1 : Below w.heap.size w U1 := (zaa B0 b1).trans (BU1.mono (by omega))
 have l1 := Nat.lt_of_lt_of_le l0 sz1
 have l1' := Nat.lt_of_lt_of_le l0' sz1
 have l1'' := Nat.lt_of_lt_of_le l0'' sz1
 have Z1 := Nat.le_trans Z0 sz1
 have o1_1 : tSS.O U1 (Iv W.heap.size U1.heap.size) [.slice A1' n1' c1'] x1 := tSS.oiv (tSS.omid o1_0 m1 (.inr (by omega)) (Nat.le_refl _)) (Nat.le_refl _) (by omega)
 have y2_1 : tTS.R U1 U1.heap.size [.slice A2 n2 c2] x2 := tTS.later h2 B1
 have y3_1 : tS.R U1 U1.heap.size [.slice A3 n3 c3] x3 := tS.later h3 B1
 have y4_1 : tPS.R U1 U1.heap.size [.slice A4 n4 c4] x4 := tPS.later h4 B1
 have y5_1 : tM.R U1 U1.heap.size [.slice A5 n5 c5] x5 := tM.later h5 B1
 have q0_1 : U1.cell? ⟨w.heap.size + 1, 0, none⟩ = some (.int .i64 0) := by rw [BU1.cell (by show w.heap.size + 1 < _; omega), b1.cell (by show w.heap.size + 1 < _; omega)]; exact q0
 have s0_1 : U1.frozen? ⟨w.heap.size + 1, 0, none⟩ = false := by rw [BU1.frozen (by show w.heap.size + 1 < _; omega), b1.frozen (by show w.heap.size + 1 < _; omega)]; exact s0
 have r0_1 : U1.cell? ⟨w.heap.size + 1 + 1, 0, none⟩ = some (.int .i64 a0) := by rw [hU1]; simp [go_sem, hc1, l0'', r0]
 have t0_1 : U1.frozen? ⟨w.heap.size + 1 + 1, 0, none⟩ = false := by rw [hU1]; simp [go_sem, hf1, l0'', t0]
 have q1_1 : U1.cell? ⟨w.heap.size + 1, 1, none⟩ = some (.slice none 0 0) := by rw [BU1.cell (by show w.heap.size + 1 < _; omega), b1.cell (by show w.heap.size + 1 < _; omega)]; exact q1
 have s1_1 : U1.frozen? ⟨w.heap.size + 1, 1, none⟩ = false := by rw [BU1.frozen (by show w.heap.size + 1 < _; omega), b1.frozen (by show w.heap.size + 1 < _; omega)]; exact s1
 have r1_1 : U1.cell? ⟨w.heap.size + 1 + 1, 1, none⟩ = some (.slice A1' n1' c1') := by rw [hU1]; simp [go_sem, hc1, l0'', r1]
 have t1_1 : U1.frozen? ⟨w.heap.size + 1 + 1, 1, none⟩ = false := by rw [hU1]; simp [go_sem, hf1, l0'', t1]
 have p2_1 : U1.cell? ⟨w.heap.size, 2, none⟩ = some (.slice A2 n2 c2) := by rw [BU1.cell (by show w.heap.size < _; omega), b1.cell (by show w.heap.size < _; omega)]; exact p2
 have q2_1 : U1.cell? ⟨w.heap.size + 1, 2, none⟩ = some (.slice none 0 0) := by rw [BU1.cell (by show w.heap.size + 1 < _; omega), b1.cell (by show w.heap.size + 1 < _; omega)]; exact q2
 have s2_1 : U1.frozen? ⟨w.heap.size + 1, 2, none⟩ = false := by rw [BU1.frozen (by show w.heap.size + 1 < _; omega), b1.frozen (by show w.heap.size + 1 < _; omega)]; exact s2
 have r2_1 : U1.cell? ⟨w.heap.size + 1 + 1, 2, none⟩ = some (.slice none 0 0) := by rw [hU1]; simp [go_sem, hc1, l0'', r2]
 have t2_1 : U1.frozen? ⟨w.heap.size + 1 + 1, 2, none⟩ = false := by rw [hU1]; simp [go_sem, hf1, l0'', t2]
 have p3_1 : U1.cell? ⟨w.heap.size, 3, none⟩ = some (.slice A3 n3 c3) := by rw [BU1.cell (by show w.heap.size < _; omega), b1.cell (by show w.heap.size < _; omega)]; exact p3
 have q3_1 : U1.cell? ⟨w.heap.size + 1, 3, none⟩ = some (.slice none 0 0) := by rw [BU1.cell (by show w.heap.size + 1 < _; omega), b1.cell (by show w.heap.size + 1 < _; omega)]; exact q3
 have s3_1 : U1.frozen? ⟨w.heap.size + 1, 3, none⟩ = false := by rw [BU1.frozen (by show w.heap.size + 1 < _; omega), b1.frozen (by show w.heap.size + 1 < _; omega)]; exact s3
 have r3_1 : U1.cell? ⟨w.heap.size + 1 + 1, 3, none⟩ = some (.slice none 0 0) := by rw [hU1]; simp [go_sem, hc1, l0'', r3]
 have t3_1 : U1.frozen? ⟨w.heap.size + 1 + 1, 3, none⟩ = false := by rw [hU1]; simp [go_sem, hf1, l0'', t3]
 have p4_1 : U1.cell? ⟨w.heap.size, 4, none⟩ = some (.slice A4 n4 c4) := by rw [BU1.cell (by show w.heap.size < _; omega), b1.cell (by show w.heap.size < _; omega)]; exact p4
 have q4_1 : U1.cell? ⟨w.heap.size + 1, 4, none⟩ = some (.slice none 0 0) := by rw [BU1.cell (by show w.heap.size + 1 < _; omega), b1.cell (by show w.heap.size + 1 < _; omega)]; exact q4
 have s4_1 : U1.frozen? ⟨w.heap.size + 1, 4, none⟩ = false := by rw [BU1.frozen (by show w.heap.size + 1 < _; omega), b1.frozen (by show w.heap.size + 1 < _; omega)]; exact s4
 have r4_1 : U1.cell? ⟨w.heap.size + 1 + 1, 4, none⟩ = some (.slice none 0 0) := by rw [hU1]; simp [go_sem, hc1, l0'', r4]
 have t4_1 : U1.frozen? ⟨w.heap.size + 1 + 1, 4, none⟩ = false := by rw [hU1]; simp [go_sem, hf1, l0'', t4]
 have p5_1 : U1.cell? ⟨w.heap.size, 5, none⟩ = some (.slice A5 n5 c5) := by rw [BU1.cell (by show w.heap.size < _; omega), b1.cell (by show w.heap.size < _; omega)]; exact p5
 have q5_1 : U1.cell? ⟨w.heap.size + 1, 5, none⟩ = some (.slice none 0 0) := by rw [BU1.cell (by show w.heap.size + 1 < _; omega), b1.cell (by show w.heap.size + 1 < _; omega)]; exact q5
 have s5_1 : U1.frozen? ⟨w.heap.size + 1, 5, none⟩ = false := by rw [BU1.frozen (by show w.heap.size + 1 < _; omega), b1.frozen (by show w.heap.size + 1 < _; omega)]; exact s5
 have r5_1 : U1.cell? ⟨w.heap.size + 1 + 1, 5, none⟩ = some (.slice none 0 0) := by rw [hU1]; simp [go_sem, hc1, l0'', r5]
 have t5_1 : U1.frozen? ⟨w.heap.size + 1 + 1, 5, none⟩ = false := by rw [hU1]; simp [go_sem, hf1, l0'', t5]
 have t1_w : w1.frozen? ⟨w.heap.size + 1 + 1, 1, none⟩ = false := by rw [hf1 _ _ l0'']; exact t1
 have r1_w : w1.cell? ⟨w.heap.size + 1 + 1, 1, none⟩ = some (.slice none 0 0) := by rw [hc1 _ _ l0'']; exact r1
 have p2_w : w1.cell? ⟨w.heap.size, 2, none⟩ = some (.slice A2 n2 c2) := by rw [hc1 _ _ l0]; exact p2
 have p3_w : w1.cell? ⟨w.heap.size, 3, none⟩ = some (.slice A3 n3 c3) := by rw [hc1 _ _ l0]; exact p3
 have p4_w : w1.cell? ⟨w.heap.size, 4, none⟩ = some (.slice A4 n4 c4) := by rw [hc1 _ _ l0]; exact p4
 have p5_w : w1.cell? ⟨w.heap.size, 5, none⟩ = some (.slice A5 n5 c5) := by rw [hc1 _ _ l0]; exact p5
 have HU1 := Lib.hid hU1
 clear hU1 e1 hc1 hf1 q0 s0 r0 t0 q1 s1 r1 t1 q2 s2 r2 t2 q3 s3 r3 t3 q4 s4 r4 t4 q5 s5 r5 t5
 go_wp2_with fail
 rw [← HU1.out]
 clear t1_w r1_w p2_w p3_w p4_w p5_w
 refine (zp9 _ _ _ _ _ y2_1 (by omega)).mono ?_
 rintro e w2 ⟨A2', n2', c2', rfl, o2_1, b2⟩
 obtain ⟨hc2, hf2⟩ := zau b2
 obtain ⟨U2, hU2⟩ : ∃ U, U = w2.setCell ⟨w.heap.size + 1 + 1, 2, none⟩ (.slice A2' n2' c2') := ⟨_, rfl⟩
 have m2 : Mid (w.heap.size + 1 + 1) (w.heap.size + 1 + 1 + 1) w2 U2 := by rw [hU2]; exact Mid.of_grown (zav w2 (w.heap.size + 1 + 1) 2 _) fun k hk => by injection hk with hk; omega
 have e2 : U2.heap.size = w2.heap.size := by rw [hU2]; simp
 have E2 := Lib.hid e2
 have sz2 : U1.heap.size ≤ U2.heap.size := by rw [e2]; exact b2.size
 have BU2 : Below (w.heap.size + 1 + 1) w2 U2 := m2.toBelow (by omega)
 have B2 : Below w.heap.size w U2 := (zaa B1 b2).trans (BU2.mono (by omega))
 have l2 := Nat.lt_of_lt_of_le l1 sz2
 have l2' := Nat.lt_of_lt_of_le l1' sz2
 have l2'' := Nat.lt_of_lt_of_le l1'' sz2
 have Z2 := Nat.le_trans Z1 sz2
 have o2_2 : tTS.O U2 (Iv U1.heap.size U2.heap.size) [.slice A2' n2' c2'] x2 := tTS.oiv (tTS.omid o2_1 m2 (.inr (by omega)) (Nat.le_refl _)) (Nat.le_refl _) (by omega)
 have o1_2 := tSS.omid (tSS.obelow o1_1 b2 (by omega)) m2 (.inr (by omega)) (by omega)
 have y3_2 : tS.R U2 U2.heap.size [.slice A3 n3 c3] x3 := tS.later h3 B2
 have y4_2 : tPS.R U2 U2.heap.size [.slice A4 n4 c4] x4 := tPS.later h4 B2
 have y5_2 : tM.R U2 U2.heap.size [.slice A5 n5 c5] x5 := tM.later h5 B2
 have q0_2 : U2.cell? ⟨w.heap.size + 1, 0, none⟩ = some (.int .i64 0) := by rw [BU2.cell (by show w.heap.size + 1 < _; omega), b2.cell (by show w.heap.size + 1 < _; omega)]; exact q0_1
 have s0_2 : U2.frozen? ⟨w.heap.size + 1, 0, none⟩ = false := by rw [BU2.frozen (by show w.heap.size + 1 < _; omega), b2.frozen (by show w.heap.size + 1 < _; omega)]; exact s0_1
 have r0_2 : U2.cell? ⟨w.heap.size + 1 + 1, 0, none⟩ = some (.int .i64 a0) := by rw [hU2]; simp [go_sem, hc2, l1'', r0_1]
 have t0_2 : U2.frozen? ⟨w.heap.size + 1 + 1, 0, none⟩ = false := by rw [hU2]; simp [go_sem, hf2, l1'', t0_1]
 have q1_2 : U2.cell? ⟨w.heap.size + 1, 1, none⟩ = some (.slice none 0 0) := by rw [BU2.cell (by show w.heap.size + 1 < _; omega), b2.cell (by show w.heap.size + 1 < _; omega)]; exact q1_1
 have s1_2 : U2.frozen? ⟨w.heap.size + 1, 1, none⟩ = false := by rw [BU2.frozen (by show w.heap.size + 1 < _; omega), b2.frozen (by show w.heap.size + 1 < _; omega)]; exact s1_1
 have r1_2 : U2.cell? ⟨w.heap.size + 1 + 1, 1, none⟩ = some (.slice A1' n1' c1') := by rw [hU2]; simp [go_sem, hc2, l1'', r1_1]
 have t1_2 : U2.frozen? ⟨w.heap.size + 1 + 1, 1, none⟩ = false := by rw [hU2]; simp [go_sem, hf2, l1'', t1_1]
 have q2_2 : U2.cell? ⟨w.heap.size + 1, 2, none⟩ = some (.slice none 0 0) := by rw [BU2.cell (by show w.heap.size + 1 < _; omega), b2.cell (by show w.heap.size + 1 < _; omega)]; exact q2_1
 have s2_2 : U2.frozen? ⟨w.heap.size + 1, 2, none⟩ = false := by rw [BU2.frozen (by show w.heap.size + 1 < _; omega), b2.frozen (by show w.heap.size + 1 < _; omega)]; exact s2_1
 have r2_2 : U2.cell? ⟨w.heap.size + 1 + 1, 2, none⟩ = some (.slice A2' n2' c2') := by rw [hU2]; simp [go_sem, hc2, l1'', r2_1]
 have t2_2 : U2.frozen? ⟨w.heap.size + 1 + 1, 2, none⟩ = false := by rw [hU2]; simp [go_sem, hf2, l1'', t2_1]
 have p3_2 : U2.cell? ⟨w.heap.size, 3, none⟩ = some (.slice A3 n3 c3) := by rw [BU2.cell (by show w.heap.size < _; omega), b2.cell (by show w.heap.size < _; omega)]; exact p3_1
 have q3_2 : U2.cell? ⟨w.heap.size + 1, 3, none⟩ = some (.slice none 0 0) := by rw [BU2.cell (by show w.heap.size + 1 < _; omega), b2.cell (by show w.heap.size + 1 < _; omega)]; exact q3_1
 have s3_2 : U2.frozen? ⟨w.heap.size + 1, 3, none⟩ = false := by rw [BU2.frozen (by show w.heap.size + 1 < _; omega), b2.frozen (by show w.heap.size + 1 < _; omega)]; exact s3_1
 have r3_2 : U2.cell? ⟨w.heap.size + 1 + 1, 3, none⟩ = some (.slice none 0 0) := by rw [hU2]; simp [go_sem, hc2, l1'', r3_1]
 have t3_2 : U2.frozen? ⟨w.heap.size + 1 + 1, 3, none⟩ = false := by rw [hU2]; simp [go_sem, hf2, l1'', t3_1]
 have p4_2 : U2.cell? ⟨w.heap.size, 4, none⟩ = some (.slice A4 n4 c4) := by rw [BU2.cell (by show w.heap.size < _; omega), b2.cell (by show w.heap.size < _; omega)]; exact p4_1
 have q4_2 : U2.cell? ⟨w.heap.size + 1, 4, none⟩ = some (.slice none 0 0) := by rw [BU2.cell (by show w.heap.size + 1 < _; omega), b2.cell (by show w.heap.size + 1 < _; omega)]; exact q4_1
 have s4_2 : U2.frozen? ⟨w.heap.size + 1, 4, none⟩ = false := by rw [BU2.frozen (by show w.heap.size + 1 < _; omega), b2.frozen (by show w.heap.size + 1 < _; omega)]; exact s4_1
 have r4_2 : U2.cell? ⟨w.heap.size + 1 + 1, 4, none⟩ = some (.slice none 0 0) := by rw [hU2]; simp [go_sem, hc2, l1'', r4_1]
 have t4_2 : U2.frozen? ⟨w.heap.size + 1 + 1, 4, none⟩ = false := by rw [hU2]; simp [go_sem, hf2, l1'', t4_1]
 have p5_2 : U2.cell? ⟨w.heap.size, 5, none⟩ = some (.slice A5 n5 c5) := by rw [BU2.cell (by show w.heap.size < _; omega), b2.cell (by show w.heap.size < _; omega)]; exact p5_1
 have q5_2 : U2.cell? ⟨w.heap.size + 1, 5, none⟩ = some (.slice none 0 0) := by rw [BU2.cell (by show w.heap.size + 1 < _; omega), b2.cell (by show w.heap.size + 1 < _; omega)]; exact q5_1
 have s5_2 : U2.frozen? ⟨w.heap.size + 1, 5, none⟩ = false := by rw [BU2.frozen (by show w.heap.size + 1 < _; omega), b2.frozen (by show w.heap.size + 1 < _; omega)]; exact s5_1
 have r5_2 : U2.cell? ⟨w.heap.size + 1 + 1, 5, none⟩ = some (.slice none 0 0) := by rw [hU2]; simp [go_sem, hc2, l1'', r5_1]
 have t5_2 : U2.frozen? ⟨w.heap.size + 1 + 1, 5, none⟩ = false := by rw [hU2]; simp [go_sem, hf2, l1'', t5_1]
 have t2_w : w2.frozen? ⟨w.heap.size + 1 + 1, 2, none⟩ = false := by rw [hf2 _ _ l1'']; exact t2_1
 have r2_w : w2.cell? ⟨w.heap.size + 1 + 1, 2, none⟩ = some (.slice none 0 0) := by rw [hc2 _ _ l1'']; exact r2_1
 have p3_w : w2.cell? ⟨w.heap.size, 3, none⟩ = some (.slice A3 n3 c3) := by rw [hc2 _ _ l1]; exact p3_1
 have p4_w : w2.cell? ⟨w.heap.size, 4, none⟩ = some (.slice A4 n4 c4) := by rw [hc2 _ _ l1]; exact p4_1
 have p5_w : w2.cell? ⟨w.heap.size, 5, none⟩ = some (.slice A5 n5 c5) := by rw [hc2 _ _ l1]; exact p5_1
 have HU2 := Lib.hid hU2
 clear hU2 e2 hc2 hf2 q0_1 s0_1 r0_1 t0_1 q1_1 s1_1 r1_1 t1_1 q2_1 s2_1 r2_1 t2_1 q3_1 s3_1 r3_1 t3_1 q4_1 s4_1 r4_1 t4_1 q5_1 s5_1 r5_1 t5_1
 go_wp2_with fail
 rw [← HU2.out]
 clear t2_w r2_w p3_w p4_w p5_w
 refine (zg9 _ _ _ _ _ y3_2 (by omega)).mono ?_
 rintro e w3 ⟨A3', n3', c3', rfl, o3_2, b3⟩
 obtain ⟨hc3, hf3⟩ := zau b3
 obtain ⟨U3, hU3⟩ : ∃ U, U = w3.setCell ⟨w.heap.size + 1 + 1, 3, none⟩ (.slice A3' n3' c3') := ⟨_, rfl⟩
 have m3 : Mid (w.heap.size + 1 + 1) (w.heap.size + 1 + 1 + 1) w3 U3 := by rw [hU3]; exact Mid.of_grown (zav w3 (w.heap.size + 1 + 1) 3 _) fun k hk => by injection hk with hk; omega
 have e3 : U3.heap.size = w3.heap.size := by rw [hU3]; simp
 have E3 := Lib.hid e3
 have sz3 : U2.heap.size ≤ U3.heap.size := by rw [e3]; exact b3.size
 have BU3 : Below (w.heap.size + 1 + 1) w3 U3 := m3.toBelow (by omega)
 have B3 : Below w.heap.size w U3 := (zaa B2 b3).trans (BU3.mono (by omega))
 have l3 := Nat.lt_of_lt_of_le l2 sz3
 have l3' := Nat.lt_of_lt_of_le l2' sz3
 have l3'' := Nat.lt_of_lt_of_le l2'' sz3
 have Z3 := Nat.le_trans Z2 sz3
 have o3_3 : tS.O U3 (Iv U2.heap.size U3.heap.size) [.slice A3' n3' c3'] x3 := tS.oiv (tS.omid o3_2 m3 (.inr (by omega)) (Nat.le_refl _)) (Nat.le_refl _) (by omega)
 have o1_3 := tSS.omid (tSS.obelow o1_2 b3 (by omega)) m3 (.inr (by omega)) (by omega)
 have o2_3 := tTS.omid (tTS.obelow o2_2 b3 (by omega)) m3 (.inr (by omega)) (by omega)
 have y4_3 : tPS.R U3 U3.heap.size [.slice A4 n4 c4] x4 := tPS.later h4 B3
 have y5_3 : tM.R U3 U3.heap.size [.slice A5 n5 c5] x5 := tM.later h5 B3
 have q0_3 : U3.cell? ⟨w.heap.size + 1, 0, none⟩ = some (.int .i64 0) := by rw [BU3.cell (by show w.heap.size + 1 < _; omega), b3.cell (by show w.heap.size + 1 < _; omega)]; exact q0_2
 have s0_3 : U3.frozen? ⟨w.heap.size + 1, 0, none⟩ = false := by rw [BU3.frozen (by show w.heap.size + 1 < _; omega), b3.frozen (by show w.heap.size + 1 < _; omega)]; exact s0_2
 have r0_3 : U3.cell? ⟨w.heap.size + 1 + 1, 0, none⟩ = some (.int .i64 a0) := by rw [hU3]; simp [go_sem, hc3, l2'', r0_2]
 have t0_3 : U3.frozen? ⟨w.heap.size + 1 + 1, 0, none⟩ = false := by rw [hU3]; simp [go_sem, hf3, l2'', t0_2]
 have q1_3 : U3.cell? ⟨w.heap.size + 1, 1, none⟩ = some (.slice none 0 0) := by rw [BU3.cell (by show w.heap.size + 1 < _; omega), b3.cell (by show w.heap.size + 1 < _; omega)]; exact q1_2
 have s1_3 : U3.frozen? ⟨w.heap.size + 1, 1, none⟩ = false := by rw [BU3.frozen (by show w.heap.size + 1 < _; omega), b3.frozen (by show w.heap.size + 1 < _; omega)]; exact s1_2
 have r1_3 : U3.cell? ⟨w.heap.size + 1 + 1, 1, none⟩ = some (.slice A1' n1' c1') := by rw [hU3]; simp [go_sem, hc3, l2'', r1_2]
 have t1_3 : U3.frozen? ⟨w.heap.size + 1 + 1, 1, none⟩ = false := by rw [hU3]; simp [go_sem, hf3, l2'', t1_2]
 have q2_3 : U3.cell? ⟨w.heap.size + 1, 2, none⟩ = some (.slice none 0 0) := by rw [BU3.cell (by show w.heap.size + 1 < _; omega), b3.cell (by show w.heap.size + 1 < _; omega)]; exact q2_2
 have s2_3 : U3.frozen? ⟨w.heap.size + 1, 2, none⟩ = false := by rw [BU3.frozen (by show w.heap.size + 1 < _; omega), b3.frozen (by show w.heap.size + 1 < _; omega)]; exact s2_2
 have r2_3 : U3.cell? ⟨w.heap.size + 1 + 1, 2, none⟩ = some (.slice A2' n2' c2') := by rw [hU3]; simp [go_sem, hc3, l2'', r2_2]
 have t2_3 : U3.frozen? ⟨w.heap.size + 1 + 1, 2, none⟩ = false := by rw [hU3]; simp [go_sem, hf3, l2'', t2_2]
 have q3_3 : U3.cell? ⟨w.heap.size + 1, 3, none⟩ = some (.slice none 0 0) := by rw [BU3.cell (by show w.heap.size + 1 < _; omega), b3.cell (by show w.heap.size + 1 < _; omega)]; exact q3_2
 have s3_3 : U3.frozen? ⟨w.heap.size + 1, 3, none⟩ = false := by rw [BU3.frozen (by show w.heap.size + 1 < _; omega), b3.frozen (by show w.heap.size + 1 < _; omega)]; exact s3_2
 have r3_3 : U3.cell? ⟨w.heap.size + 1 + 1, 3, none⟩ = some (.slice A3' n3' c3') := by rw [hU3]; simp [go_sem, hc3, l2'', r3_2]
 have t3_3 : U3.frozen? ⟨w.heap.size + 1 + 1, 3, none⟩ = false := by rw [hU3]; simp [go_sem, hf3, l2'', t3_2]
 have p4_3 : U3.cell? ⟨w.heap.size, 4, none⟩ = some (.slice A4 n4 c4) := by rw [BU3.cell (by show w.heap.size < _; omega), b3.cell (by show w.heap.size < _; omega)]; exact p4_2
 have q4_3 : U3.cell? ⟨w.heap.size + 1, 4, none⟩ = some (.slice none 0 0) := by rw [BU3.cell (by show w.heap.size + 1 < _; omega), b3.cell (by show w.heap.size + 1 < _; omega)]; exact q4_2
 have s4_3 : U3.frozen? ⟨w.heap.size + 1, 4, none⟩ = false := by rw [BU3.frozen (by show w.heap.size + 1 < _; omega), b3.frozen (by show w.heap.size + 1 < _; omega)]; exact s4_2
 have r4_3 : U3.cell? ⟨w.heap.size + 1 + 1, 4, none⟩ = some (.slice none 0 0) := by rw [hU3]; simp [go_sem, hc3, l2'', r4_2]
 have t4_3 : U3.frozen? ⟨w.heap.size + 1 + 1, 4, none⟩ = false := by rw [hU3]; simp [go_sem, hf3, l2'', t4_2]
 have p5_3 : U3.cell? ⟨w.heap.size, 5, none⟩ = some (.slice A5 n5 c5) := by rw [BU3.cell (by show w.heap.size < _; omega), b3.cell (by show w.heap.size < _; omega)]; exact p5_2
 have q5_3 : U3.cell? ⟨w.heap.size + 1, 5, none⟩ = some (.slice none 0 0) := by rw [BU3.cell (by show w.heap.size + 1 < _; omega), b3.cell (by show w.heap.size + 1 < _; omega)]; exact q5_2
 have s5_3 : U3.frozen? ⟨w.heap.size + 1, 5, none⟩ = false := by rw [BU3.frozen (by show w.heap.size + 1 < _; omega), b3.frozen (by show w.heap.size + 1 < _; omega)]; exact s5_2
 have r5_3 : U3.cell? ⟨w.heap.size + 1 + 1, 5, none⟩ = some (.slice none 0 0) := by rw [hU3]; simp [go_sem, hc3, l2'', r5_2]
 have t5_3 : U3.frozen? ⟨w.heap.size + 1 + 1, 5, none⟩ = false := by rw [hU3]; simp [go_sem, hf3, l2'', t5_2]
 have t3_w : w3.frozen? ⟨w.heap.size + 1 + 1, 3, none⟩ = false := by rw [hf3 _ _ l2'']; exact t3_2
 have r3_w : w3.cell? ⟨w.heap.size + 1 + 1, 3, none⟩ = some (.slice none 0 0) := by rw [hc3 _ _ l2'']; exact r3_2
 have p4_w : w3.cell? ⟨w.heap.size, 4, none⟩ = some (.slice A4 n4 c4) := by rw [hc3 _ _ l2]; exact p4_2
 have p5_w : w3.cell? ⟨w.heap.size, 5, none⟩ = some (.slice A5 n5 c5) := by rw [hc3 _ _ l2]; exact p5_2
 have HU3 := Lib.hid hU3
 clear hU3 e3 hc3 hf3 q0_2 s0_2 r0_2 t0_2 q1_2 s1_2 r1_2 t1_2 q2_2 s2_2 r2_2 t2_2 q3_2 s3_2 r3_2 t3_2 q4_2 s4_2 r4_2 t4_2 q5_2 s5_2 r5_2 t5_2
 go_wp2_with fail
 rw [← HU3.out]
 clear t3_w r3_w p4_w p5_w
 refine (zp6 _ _ _ _ _ y4_3 (by omega)).mono ?_
 rintro e w4 ⟨A4', n4', c4', rfl, o4_3, b4⟩
 obtain ⟨hc4, hf4⟩ := zau b4
 obtain ⟨U4, hU4⟩ : ∃ U, U = w4.setCell ⟨w.heap.size + 1 + 1, 4, none⟩ (.slice A4' n4' c4') := ⟨_, rfl⟩
 have m4 : Mid (w.heap.size + 1 + 1) (w.heap.size + 1 + 1 + 1) w4 U4 := by rw [hU4]; exact Mid.of_grown (zav w4 (w.heap.size + 1 + 1) 4 _) fun k hk => by injection hk with hk; omega
 have e4 : U4.heap.size = w4.heap.size := by rw [hU4]; simp
 have E4 := Lib.hid e4
 have sz4 : U3.heap.size ≤ U4.heap.size := by rw [e4]; exact b4.size
 have BU4 : Below (w.heap.size + 1 + 1) w4 U4 := m4.toBelow (by omega)
 have B4 : Below w.heap.size w U4 := (zaa B3 b4).trans (BU4.mono (by omega))
 have l4 := Nat.lt_of_lt_of_le l3 sz4
 have l4' := Nat.lt_of_lt_of_le l3' sz4
 have l4'' := Nat.lt_of_lt_of_le l3'' sz4
 have Z4 := Nat.le_trans Z3 sz4
 have o4_4 : tPS.O U4 (Iv U3.heap.size U4.heap.size) [.slice A4' n4' c4'] x4 := tPS.oiv (tPS.omid o4_3 m4 (.inr (by omega)) (Nat.le_refl _)) (Nat.le_refl _) (by omega)
 have o1_4 := tSS.omid (tSS.obelow o1_3 b4 (by omega)) m4 (.inr (by omega)) (by omega)
 have o2_4 := tTS.omid (tTS.obelow o2_3 b4 (by omega)) m4 (.inr (by omega)) (by omega)
 have o3_4 := tS.omid (tS.obelow o3_3 b4 (by omega)) m4 (.inr (by omega)) (by omega)
 have y5_4 : tM.R U4 U4.heap.size [.slice A5 n5 c5] x5 := tM.later h5 B4
 have q0_4 : U4.cell? ⟨w.heap.size + 1, 0, none⟩ = some (.int .i64 0) := by rw [BU4.cell (by show w.heap.size + 1 < _; omega), b4.cell (by show w.heap.size + 1 < _; omega)]; exact q0_3
 have s0_4 : U4.frozen? ⟨w.heap.size + 1, 0, none⟩ = false := by rw [BU4.frozen (by show w.heap.size + 1 < _; omega), b4.frozen (by show w.heap.size + 1 < _; omega)]; exact s0_3
 have r0_4 : U4.cell? ⟨w.heap.size + 1 + 1, 0, none⟩ = some (.int .i64 a0) := by rw [hU4]; simp [go_sem, hc4, l3'', r0_3]
 have t0_4 : U4.frozen? ⟨w.heap.size + 1 + 1, 0, none⟩ = false := by rw [hU4]; simp [go_sem, hf4, l3'', t0_3]
 have q1_4 : U4.cell? ⟨w.heap.size + 1, 1, none⟩ = some (.slice none 0 0) := by rw [BU4.cell (by show w.heap.size + 1 < _; omega), b4.cell (by show w.heap.size + 1 < _; omega)]; exact q1_3
 have s1_4 : U4.frozen? ⟨w.heap.size + 1, 1, none⟩ = false := by rw [BU4.frozen (by show w.heap.size + 1 < _; omega), b4.frozen (by show w.heap.size + 1 < _; omega)]; exact s1_3
 have r1_4 : U4.cell? ⟨w.heap.size + 1 + 1, 1, none⟩ = some (.slice A1' n1' c1') := by rw [hU4]; simp [go_sem, hc4, l3'', r1_3]
 have t1_4 : U4.frozen? ⟨w.heap.size + 1 + 1, 1, none⟩ = false := by rw [hU4]; simp [go_sem, hf4, l3'', t1_3]
 have q2_4 : U4.cell? ⟨w.heap.size + 1, 2, none⟩ = some (.slice none 0 0) := by rw [BU4.cell (by show w.heap.size + 1 < _; omega), b4.cell (by show w.heap.size + 1 < _; omega)]; exact q2_3
 have s2_4 : U4.frozen? ⟨w.heap.size + 1, 2, none⟩ = false := by rw [BU4.frozen (by show w.heap.size + 1 < _; omega), b4.frozen (by show w.heap.size + 1 < _; omega)]; exact s2_3
 have r2_4 : U4.cell? ⟨w.heap.size + 1 + 1, 2, none⟩ = some (.slice A2' n2' c2') := by rw [hU4]; simp [go_sem, hc4, l3'', r2_3]
 have t2_4 : U4.frozen? ⟨w.heap.size + 1 + 1, 2, none⟩ = false := by rw [hU4]; simp [go_sem, hf4, l3'', t2_3]
 have q3_4 : U4.cell? ⟨w.heap.size + 1, 3, none⟩ = some (.slice none 0 0) := by rw [BU4.cell (by show w.heap.size + 1 < _; omega), b4.cell (by show w.heap.size + 1 < _; omega)]; exact q3_3
 have s3_4 : U4.frozen? ⟨w.heap.size + 1, 3, none⟩ = false := by rw [BU4.frozen (by show w.heap.size + 1 < _; omega), b4.frozen (by show w.heap.size + 1 < _; omega)]; exact s3_3
 have r3_4 : U4.cell? ⟨w.heap.size + 1 + 1, 3, none⟩ = some (.slice A3' n3' c3') := by rw [hU4]; simp [go_sem, hc4, l3'', r3_3]
 have t3_4 : U4.frozen? ⟨w.heap.size + 1 + 1, 3, none⟩ = false := by rw [hU4]; simp [go_sem, hf4, l3'', t3_3]
 have q4_4 : U4.cell? ⟨w.heap.size + 1, 4, none⟩ = some (.slice none 0 0) := by rw [BU4.cell (by show w.heap.size + 1 < _; omega), b4.cell (by show w.heap.size + 1 < _; omega)]; exact q4_3
 have s4_4 : U4.frozen? ⟨w.heap.size + 1, 4, none⟩ = false := by rw [BU4.frozen (by show w.heap.size + 1 < _; omega), b4.frozen (by show w.heap.size + 1 < _; omega)]; exact s4_3
 have r4_4 : U4.cell? ⟨w.heap.size + 1 + 1, 4, none⟩ = some (.slice A4' n4' c4') := by rw [hU4]; simp [go_sem, hc4, l3'', r4_3]
 have t4_4 : U4.frozen? ⟨w.heap.size + 1 + 1, 4, none⟩ = false := by rw [hU4]; simp [go_sem, hf4, l3'', t4_3]
 have p5_4 : U4.cell? ⟨w.heap.size, 5, none⟩ = some (.slice A5 n5 c5) := by rw [BU4.cell (by show w.heap.size < _; omega), b4.cell (by show w.heap.size < _; omega)]; exact p5_3
 have q5_4 : U4.cell? ⟨w.heap.size + 1, 5, none⟩ = some (.slice none 0 0) := by rw [BU4.cell (by show w.heap.size + 1 < _; omega), b4.cell (by show w.heap.size + 1 < _; omega)]; exact q5_3
 have s5_4 : U4.frozen? ⟨w.heap.size + 1, 5, none⟩ = false := by rw [BU4.frozen (by show w.heap.size + 1 < _; omega), b4.frozen (by show w.heap.size + 1 < _; omega)]; exact s5_3
 have r5_4 : U4.cell? ⟨w.heap.size + 1 + 1, 5, none⟩ = some (.slice none 0 0) := by rw [hU4]; simp [go_sem, hc4, l3'', r5_3]
 have t5_4 : U4.frozen? ⟨w.heap.size + 1 + 1, 5, none⟩ = false := by rw [hU4]; simp [go_sem, hf4, l3'', t5_3]
 have t4_w : w4.frozen? ⟨w.heap.size + 1 + 1, 4, none⟩ = false := by rw [hf4 _ _ l3'']; exact t4_3
 have r4_w : w4.cell? ⟨w.heap.size + 1 + 1, 4, none⟩ = some (.slice none 0 0) := by rw [hc4 _ _ l3'']; exact r4_3
 have p5_w : w4.cell? ⟨w.heap.size, 5, none⟩ = some (.slice A5 n5 c5) := by rw [hc4 _ _ l3]; exact p5_3
 have HU4 := Lib.hid hU4
 clear hU4 e4 hc4 hf4 q0_3 s0_3 r0_3 t0_3 q1_3 s1_3 r1_3 t1_3 q2_3 s2_3 r2_3 t2_3 q3_3 s3_3 r3_3 t3_3 q4_3 s4_3 r4_3 t4_3 q5_3 s5_3 r5_3 t5_3
 go_wp2_with fail
 rw [← HU4.out]
 clear t4_w r4_w p5_w
 refine (zpd _ _ _ _ _ y5_4 (by omega)).mono ?_
 rintro e w5 ⟨A5', n5', c5', rfl, o5_4, b5⟩
 obtain ⟨hc5, hf5⟩ := zau b5
 obtain ⟨U5, hU5⟩ : ∃ U, U = w5.setCell ⟨w.heap.size + 1 + 1, 5, none⟩ (.slice A5' n5' c5') := ⟨_, rfl⟩
 have m5 : Mid (w.heap.size + 1 + 1) (w.heap.size + 1 + 1 + 1) w5 U5 := by rw [hU5]; exact Mid.of_grown (zav w5 (w.heap.size + 1 + 1) 5 _) fun k hk => by injection hk with hk; omega
 have e5 : U5.heap.size = w5.heap.size := by rw [hU5]; simp
 have E5 := Lib.hid e5
 have sz5 : U4.heap.size ≤ U5.heap.size := by rw [e5]; exact b5.size
 have BU5 : Below (w.heap.size + 1 + 1) w5 U5 := m5.toBelow (by omega)
 have B5 : Below w.heap.size w U5 := (zaa B4 b5).trans (BU5.mono (by omega))
 have l5 := Nat.lt_of_lt_of_le l4 sz5
 have l5' := Nat.lt_of_lt_of_le l4' sz5
 have l5'' := Nat.lt_of_lt_of_le l4'' sz5
 have Z5 := Nat.le_trans Z4 sz5
 have o5_5 : tM.O U5 (Iv U4.heap.size U5.heap.size) [.slice A5' n5' c5'] x5 := tM.oiv (tM.omid o5_4 m5 (.inr (by omega)) (Nat.le_refl _)) (Nat.le_refl _) (by omega)
 have o1_5 := tSS.omid (tSS.obelow o1_4 b5 (by omega)) m5 (.inr (by omega)) (by omega)
 have o2_5 := tTS.omid (tTS.obelow o2_4 b5 (by omega)) m5 (.inr (by omega)) (by omega)
 have o3_5 := tS.omid (tS.obelow o3_4 b5 (by omega)) m5 (.inr (by omega)) (by omega)
 have o4_5 := tPS.omid (tPS.obelow o4_4 b5 (by omega)) m5 (.inr (by omega)) (by omega)
 have q0_5 : U5.cell? ⟨w.heap.size + 1, 0, none⟩ = some (.int .i64 0) := by rw [BU5.cell (by show w.heap.size + 1 < _; omega), b5.cell (by show w.heap.size + 1 < _; omega)]; exact q0_4
 have s0_5 : U5.frozen? ⟨w.heap.size + 1, 0, none⟩ = false := by rw [BU5.frozen (by show w.heap.size + 1 < _; omega), b5.frozen (by show w.heap.size + 1 < _; omega)]; exact s0_4
 have r0_5 : U5.cell? ⟨w.heap.size + 1 + 1, 0, none⟩ = some (.int .i64 a0) := by rw [hU5]; simp [go_sem, hc5, l4'', r0_4]
 have t0_5 : U5.frozen? ⟨w.heap.size + 1 + 1, 0, none⟩ = false := by rw [hU5]; simp [go_sem, hf5, l4'', t0_4]
 have q1_5 : U5.cell? ⟨w.heap.size + 1, 1, none⟩ = some (.slice none 0 0) := by rw [BU5.cell (by show w.heap.size + 1 < _; omega), b5.cell (by show w.heap.size + 1 < _; omega)]; exact q1_4
 have s1_5 : U5.frozen? ⟨w.heap.size + 1, 1, none⟩ = false := by rw [BU5.frozen (by show w.heap.size + 1 < _; omega), b5.frozen (by show w.heap.size + 1 < _; omega)]; exact s1_4
 have r1_5 : U5.cell? ⟨w.heap.size + 1 + 1, 1, none⟩ = some (.slice A1' n1' c1') := by rw [hU5]; simp [go_sem, hc5, l4'', r1_4]
 have t1_5 : U5.frozen? ⟨w.heap.size + 1 + 1, 1, none⟩ = false := by rw [hU5]; simp [go_sem, hf5, l4'', t1_4]
 have q2_5 : U5.cell? ⟨w.heap.size + 1, 2, none⟩ = some (.slice none 0 0) := by rw [BU5.cell (by show w.heap.size + 1 < _; omega), b5.cell (by show w.heap.size + 1 < _; omega)]; exact q2_4
 have s2_5 : U5.frozen? ⟨w.heap.size + 1, 2, none⟩ = false := by rw [BU5.frozen (by show w.heap.size + 1 < _; omega), b5.frozen (by show w.heap.size + 1 < _; omega)]; exact s2_4
 have r2_5 : U5.cell? ⟨w.heap.size + 1 + 1, 2, none⟩ = some (.slice A2' n2' c2') := by rw [hU5]; simp [go_sem, hc5, l4'', r2_4]
 have t2_5 : U5.frozen? ⟨w.heap.size + 1 + 1, 2, none⟩ = false := by rw [hU5]; simp [go_sem, hf5, l4'', t2_4]
 have q3_5 : U5.cell? ⟨w.heap.size + 1, 3, none⟩ = some (.slice none 0 0) := by rw [BU5.cell (by show w.heap.size + 1 < _; omega), b5.cell (by show w.heap.size + 1 < _; omega)]; exact q3_4
 have s3_5 : U5.frozen? ⟨w.heap.size + 1, 3, none⟩ = false := by rw [BU5.frozen (by show w.heap.size + 1 < _; omega), b5.frozen (by show w.heap.size + 1 < _; omega)]; exact s3_4
 have r3_5 : U5.cell? ⟨w.heap.size + 1 + 1, 3, none⟩ = some (.slice A3' n3' c3') := by rw [hU5]; simp [go_sem, hc5, l4'', r3_4]
 have t3_5 : U5.frozen? ⟨w.heap.size + 1 + 1, 3, none⟩ = false := by rw [hU5]; simp [go_sem, hf5, l4'', t3_4]
 have q4_5 : U5.cell? ⟨w.heap.size + 1, 4, none⟩ = some (.slice none 0 0) := by rw [BU5.cell (by show w.heap.size + 1 < _; omega), b5.cell (by show w.heap.size + 1 < _; omega)]; exact q4_4
 have s4_5 : U5.frozen? ⟨w.heap.size + 1, 4, none⟩ = false := by rw [BU5.frozen (by show w.heap.size + 1 < _; omega), b5.frozen (by show w.heap.size + 1 < _; omega)]; exact s4_4
 have r4_5 : U5.cell? ⟨w.heap.size + 1 + 1, 4, none⟩ = some (.slice A4' n4' c4') := by rw [hU5]; simp [go_sem, hc5, l4'', r4_4]
 have t4_5 : U5.frozen? ⟨w.heap.size + 1 + 1, 4, none⟩ = false := by rw [hU5]; simp [go_sem, hf5, l4'', t4_4]
 have q5_5 : U5.cell? ⟨w.heap.size + 1, 5, none⟩ = some (.slice none 0 0) := by rw [BU5.cell (by show w.heap.size + 1 < _; omega), b5.cell (by show w.heap.size + 1 < _; omega)]; exact q5_4
 have s5_5 : U5.frozen? ⟨w.heap.size + 1, 5, none⟩ = false := by rw [BU5.frozen (by show w.heap.size + 1 < _; omega), b5.frozen (by show w.heap.size + 1 < _; omega)]; exact s5_4
 have r5_5 : U5.cell? ⟨w.heap.size + 1 + 1, 5, none⟩ = some (.slice A5' n5' c5') := by rw [hU5]; simp [go_sem, hc5, l4'', r5_4]
 have t5_5 : U5.frozen? ⟨w.heap.size + 1 + 1, 5, none⟩ = false := by rw [hU5]; simp [go_sem, hf5, l4'', t5_4]
 have t0_w : w5.frozen? ⟨w.heap.size + 1 + 1, 0, none⟩ = false := by rw [hf5 _ _ l4'']; exact t0_4
 have s0_w : w5.frozen? ⟨w.heap.size + 1, 0, none⟩ = false := by rw [hf5 _ _ l4']; exact s0_4
 have q0_w : w5.cell? ⟨w.heap.size + 1, 0, none⟩ = some (.int .i64 0) := by rw [hc5 _ _ l4']; exact q0_4
 have r0_w : w5.cell? ⟨w.heap.size + 1 + 1, 0, none⟩ = some (.int .i64 a0) := by rw [hc5 _ _ l4'']; exact r0_4
 have t1_w : w5.frozen? ⟨w.heap.size + 1 + 1, 1, none⟩ = false := by rw [hf5 _ _ l4'']; exact t1_4
 have s1_w : w5.frozen? ⟨w.heap.size + 1, 1, none⟩ = false := by rw [hf5 _ _ l4']; exact s1_4
 have q1_w : w5.cell? ⟨w.heap.size + 1, 1, none⟩ = some (.slice none 0 0) := by rw [hc5 _ _ l4']; exact q1_4
 have r1_w : w5.cell? ⟨w.heap.size + 1 + 1, 1, none⟩ = some (.slice A1' n1' c1') := by rw [hc5 _ _ l4'']; exact r1_4
 have t2_w : w5.frozen? ⟨w.heap.size + 1 + 1, 2, none⟩ = false := by rw [hf5 _ _ l4'']; exact t2_4
 have s2_w : w5.frozen? ⟨w.heap.size + 1, 2, none⟩ = false := by rw [hf5 _ _ l4']; exact s2_4
 have q2_w : w5.cell? ⟨w.heap.size + 1, 2, none⟩ = some (.slice none 0 0) := by rw [hc5 _ _ l4']; exact q2_4
 have r2_w : w5.cell? ⟨w.heap.size + 1 + 1, 2, none⟩ = some (.slice A2' n2' c2') := by rw [hc5 _ _ l4'']; exact r2_4
 have t3_w : w5.frozen? ⟨w.heap.size + 1 + 1, 3, none⟩ = false := by rw [hf5 _ _ l4'']; exact t3_4
 have s3_w : w5.frozen? ⟨w.heap.size + 1, 3, none⟩ = false := by rw [hf5 _ _ l4']; exact s3_4
 have q3_w : w5.cell? ⟨w.heap.size + 1, 3, none⟩ = some (.slice none 0 0) := by rw [hc5 _ _ l4']; exact q3_4
 have r3_w : w5.cell? ⟨w.heap.size + 1 + 1, 3, none⟩ = some (.slice A3' n3' c3') := by rw [hc5 _ _ l4'']; exact r3_4
 have t4_w : w5.frozen? ⟨w.heap.size + 1 + 1, 4, none⟩ = false := by rw [hf5 _ _ l4'']; exact t4_4
 have s4_w : w5.frozen? ⟨w.heap.size + 1, 4, none⟩ = false := by rw [hf5 _ _ l4']; exact s4_4
 have q4_w : w5.cell? ⟨w.heap.size + 1, 4, none⟩ = some (.slice none 0 0) := by rw [hc5 _ _ l4']; exact q4_4
 have r4_w : w5.cell? ⟨w.heap.size + 1 + 1, 4, none⟩ = some (.slice A4' n4' c4') := by rw [hc5 _ _ l4'']; exact r4_4
 have t5_w : w5.frozen? ⟨w.heap.size + 1 + 1, 5, none⟩ = false := by rw [hf5 _ _ l4'']; exact t5_4
 have s5_w : w5.frozen? ⟨w.heap.size + 1, 5, none⟩ = false := by rw [hf5 _ _ l4']; exact s5_4
 have q5_w : w5.cell? ⟨w.heap.size + 1, 5, none⟩ = some (.slice none 0 0) := by rw [hc5 _ _ l4']; exact q5_4
 have r5_w : w5.cell? ⟨w.heap.size + 1 + 1, 5, none⟩ = some (.slice none 0 0) := by rw [hc5 _ _ l4'']; exact r5_4
 have HU5 := Lib.hid hU5
 clear hU5 e5 hc5 hf5 q0_4 s0_4 r0_4 t0_4 q1_4 s1_4 r1_4 t1_4 q2_4 s2_4 r2_4 t2_4 q3_4 s3_4 r3_4 t3_4 q4_4 s4_4 r4_4 t4_4 q5_4 s5_4 r5_4 t5_4
 go_wp2
 rw [← HU5.out]
 clear t0_w r0_w s0_w q0_w t1_w r1_w s1_w q1_w t2_w r2_w s2_w q2_w t3_w r3_w s3_w q3_w t4_w r4_w s4_w q4_w t5_w r5_w s5_w q5_w
 have mm : Mid (w.heap.size + 1) (w.heap.size + 1 + 1) U5 ((((((U5.setCell ⟨w.heap.size + 1, 0, none⟩ (.int .i64 a0)).setCell ⟨w.heap.size + 1, 1, none⟩ (.slice A1' n1' c1')).setCell ⟨w.heap.size + 1, 2, none⟩ (.slice A2' n2' c2')).setCell ⟨w.heap.size + 1, 3, none⟩ (.slice A3' n3' c3')).setCell ⟨w.heap.size + 1, 4, none⟩ (.slice A4' n4' c4')).setCell ⟨w.heap.size + 1, 5, none⟩ (.slice A5' n5' c5')) := ((((((Mid.of_grown (zav _ (w.heap.size + 1) 0 _) fun k hk => by injection hk with hk; omega).trans (Mid.of_grown (zav _ (w.heap.size + 1) 1 _) fun k hk => by injection hk with hk; omega)).trans (Mid.of_grown (zav _ (w.heap.size + 1) 2 _) fun k hk => by injection hk with hk; omega)).trans (Mid.of_grown (zav _ (w.heap.size + 1) 3 _) fun k hk => by injection hk with hk; omega)).trans (Mid.of_grown (zav _ (w.heap.size + 1) 4 _) fun k hk => by injection hk with hk; omega)).trans (Mid.of_grown (zav _ (w.heap.size + 1) 5 _) fun k hk => by injection hk with hk; omega))
 refine bodyPost_ret (v := .agg #[.int .i64 a0, .slice A1' n1' c1', .slice A2' n2' c2', .slice A3' n3' c3', .slice A4' n4' c4', .slice A5' n5' c5']) (by simp [results, Tryz.results10, go_sem, q0_5, s0_5, r0_5, q1_5, s1_5, r1_5, q2_5, s2_5, r2_5, q3_5, s3_5, r3_5, q4_5, s4_5, r4_5, q5_5, s5_5, r5_5]) rfl ?_
 refine ⟨A1', n1', c1', A2', n2', c2', A3', n3', c3', A4', n4', c4', A5', n5', c5', rfl, tZ_O.2 ⟨A1', n1', c1', A2', n2', c2', A3', n3', c3', A4', n4', c4', A5', n5', c5', Iv W.heap.size U1.heap.size, Iv U1.heap.size U2.heap.size, Iv U2.heap.size U3.heap.size, Iv U3.heap.size U4.heap.size, Iv U4.heap.size U5.heap.size, rfl, tSS.omid o1_5 mm (.inr (by omega)) (by omega), tTS.omid o2_5 mm (.inr (by omega)) (by omega), tS.omid o3_5 mm (.inr (by omega)) (by omega), tPS.omid o4_5 mm (.inr (by omega)) (by omega), tM.omid o5_5 mm (.inr (by omega)) (by omega), fun b h => ⟨by have := h.1; omega, Nat.lt_of_lt_of_le (Nat.lt_of_lt_of_le h.2 (by omega)) mm.size⟩, fun b h => ⟨by have := h.1; omega, Nat.lt_of_lt_of_le (Nat.lt_of_lt_of_le h.2 (by omega)) mm.size⟩, fun b h => ⟨by have := h.1; omega, Nat.lt_of_lt_of_le (Nat.lt_of_lt_of_le h.2 (by omega)) mm.size⟩, fun b h => ⟨by have := h.1; omega, Nat.lt_of_lt_of_le (Nat.lt_of_lt_of_le h.2 (by omega)) mm.size⟩, fun b h => ⟨by have := h.1; omega, Nat.lt_of_lt_of_le (Nat.lt_of_lt_of_le h.2 (by omega)) mm.size⟩, fun b h h2 => by have := h.2; have := h2.1; omega, fun b h h2 => by have := h.2; have := h2.1; omega, fun b h h2 => by have := h.2; have := h2.1; omega, fun b h h2 => by have := h.2; have := h2.1; omega, fun b h h2 => by have := h.2; have := h2.1; omega, fun b h h2 => by have := h.2; have := h2.1; omega, fun b h h2 => by have := h.2; have := h2.1; omega, fun b h h2 => by have := h.2; have := h2.1; omega, fun b h h2 => by have := h.2; have := h2.1; omega, fun b h h2 => by have := h.2; have := h2.1; omega⟩, ?_⟩
 exact B5.trans ((mm.toBelow (by omega)).mono (by omega))
end
section
open Go.RowKit Go.Sort
set_option synthInstance.maxSize 2000
set_option synthInstance.maxHeartbeats 400000
abbrev KD := Int × Int × Int × Bool × Bool
def zfu : List KD := [(0, 0, 3, true, false), (0, -2147483648, 2147483647, false, false), (2, 1, 0, true, false), (2, 1, 0, true, false), (1, -2147483648, 2147483647, true, false), (1, 1, 16, true, false), (1, 1, 0, true, false), (1, 1, 0, true, false), (2, 1, 0, false, false), (1, 0, 31, false, false), (1, 0, 2147483647, false, false), (1, -2147483648, 2147483647, false, false), (1, 0, 3, false, false), (0, -2147483648, 2147483647, false, false), (3, 1, 0, false, false), (2, 1, 0, false, false), (1, -2147483648, 2147483647, true, true)]
def M.kd (j : Nat) : KD := zfu.getD j (0, 0, 0, false, false)
def M.aI (k : KD) (a : Int) : Bool := if k.2.1 ≤ k.2.2.1 then M.inn a k.2.1 k.2.2.1 else decide (a = 0)
def M.bI (k : KD) (b : Int) : Bool := if k.2.2.2.2 then M.inn b 1 16 else decide (b = 0)
def zax (f : Int) : Bool := M.inn f 0 23
def zai (x : Node) (tb : Int) : Bool :=
 M.inn x.1 1 17 && (M.aI (M.kd (x.1.toNat - 1)) x.2.1 && M.bI (M.kd (x.1.toNat - 1)) x.2.2.1 && x.2.2.2.all zax && decide ((x.2.2.2.length : Int) = (M.kd (x.1.toNat - 1)).1) && (decide (¬ x.1 = 13) || decide (x.2.1 < tb)))
def zfv (k : Int) : Bool := decide (k = 1) || decide (k = 2) || decide (k = 5) || decide (k = 6) || decide (k = 10) || decide (k = 11) || decide (k = 12) || decide (k = 13) || decide (k = 14) || decide (k = 17)
def M.aS (k a tb : Int) : Bool :=
 if k = 1 then M.inn a 0 3 else if k = 6 then M.inn a 1 16 else if k = 10 then M.inn a 0 31 else if k = 11 then M.inn a 0 2147483647 else if k = 13 then M.inn a 0 (min (max tb 0) 4 - 1) else if zfv k then M.smp a else decide (a = 0)
def zhh : List Int := [-1, 0, 0, 2, 2, 1, 1, 1, 1, 2, 1, 1, 1, 1, 0, 3, 2, 1]
def M.ar (k : Nat) : Int := zhh.getD k 0
def zdj (x : Node) (tb : Int) : Bool :=
 M.inn x.1 1 17 && (M.aS x.1 x.2.1 tb && decide ((x.2.2.2.length : Int) = M.ar x.1.toNat) && x.2.2.2.all zax && (if x.1 = 17 then M.inn x.2.2.1 1 16 else decide (x.2.2.1 = 0)))
theorem ze3 {k : Int} (h : M.inn k 1 17 = true) : k = 1 ∨ k = 2 ∨ k = 3 ∨ k = 4 ∨ k = 5 ∨ k = 6 ∨ k = 7 ∨ k = 8 ∨ k = 9 ∨ k = 10 ∨ k = 11 ∨ k = 12 ∨ k = 13 ∨ k = 14 ∨ k = 15 ∨ k = 16 ∨ k = 17 := by
 have := zby.1 h
 omega
theorem zqe (x : Node) (tb : Int) : zdj x tb = zai x tb := by
 obtain ⟨k, a, b, l⟩ := x
 cases h : M.inn k 1 17
 · rw [zdj, zai, h, Bool.false_and, Bool.false_and]
 · rw [zdj, zai]
   simp only [h, Bool.true_and]
   have key : ∀ A B C D E F : Bool, A = (F && E) → (A && C && B && D) = (F && D && B && C && E) := by decide
   rcases ze3 h with rfl | rfl | rfl | rfl | rfl | rfl | rfl | rfl | rfl | rfl | rfl | rfl | rfl | rfl | rfl | rfl | rfl
   all_goals
    refine key _ _ _ _ _ _ ?_
    rw [Bool.eq_iff_iff]
    simp [M.aS, M.aI, M.kd, zfu, zfv, M.smp, M.inn, List.getD]
    try omega
def zc1 (t : List Int) : Bool := (decide (t.length = 2) || decide (t.length = 4) || decide (t.length = 8) || decide (t.length = 16)) && t.all M.smp
def zb4 (ts : List (List Int)) : Bool := ts.all zc1 && decide (ts.length ≤ 4)
theorem zqf (t : List Int) : (decide (t.length = 2) || decide (t.length = 4) || decide (t.length = 8) || decide (t.length = 16)) = true → M.sig t = t.all M.smp := by
 intro h
 rw [M.sig, show decide (t.length ≤ 4000) = true by simp at h ⊢; omega, Bool.true_and]
def zbc (n : Int) (f : Int) : Bool := M.inn f 0 (n - 1)
def zbp (tb n inp : Int) (x : Node) : Bool := zai x tb && x.2.2.2.all (zbc n) && !(decide (x.1 = 1) && decide (inp ≤ x.2.1))
def za7 (p : zad) : Bool :=
 M.inn p.1 0 4 && zb4 p.2.1 && decide (p.2.2.1.length ≤ 24) && decide (p.2.2.2.length ≤ 4) && p.2.2.2.all (zbc p.2.2.1.length) && p.2.2.1.all (zbp p.2.1.length p.2.2.1.length p.1)
def zbq (x : Node) : List Int := if x.1 = 6 then [] else x.2.2.2
def zap (xs : List Int) (m : Int) : Bool := xs.any fun x => decide (x = m)
theorem zhi (x m : Int) (xs : List Int) : zap (x :: xs) m = (decide (x = m) || zap xs m) := rfl
theorem zqg (m : Int) : zap [] m = false := rfl
theorem zlc (xs : List Int) (x m : Int) : zap (xs ++ [x]) m = (zap xs m || decide (x = m)) := by
 rw [zap, List.any_append]
 simp [zap]
def zdk (ns : List Node) (out : List Int) (i : Nat) : Bool := !zap out i && (zbq ((ns[i]?).getD (0, 0, 0, []))).all (zap out)
def zdl (ns : List Node) (out : List Int) : Option Nat := (List.range ns.length).find? (zdk ns out)
def zba (ns : List Node) : Nat → List Int
 | 0 => []
 | t + 1 => match zdl ns (zba ns t) with
  | none => zba ns t
  | some i => zba ns t ++ [(i : Int)]
def zal (ns : List Node) : List Int := zba ns ns.length
def zcw (p : zad) : Bool := za7 p && decide ((zal p.2.2.1).length = p.2.2.1.length)
theorem zld {ns : List Node} {out : List Int} {i : Nat} (hi : i < ns.length) (h : zdk ns out i = true) (hb : ∀ j, j < i → zdk ns out j = false) : zdl ns out = some i := by
 rw [zdl, List.find?_range_eq_some]
 exact ⟨h, List.mem_range.2 hi, fun j hj => by rw [hb j hj]; rfl⟩
theorem zle {ns : List Node} {out : List Int} (hb : ∀ j, j < ns.length → zdk ns out j = false) : zdl ns out = none := by
 rw [zdl, List.find?_eq_none]
 intro j hj
 rw [hb j (List.mem_range.1 hj)]
 simp
theorem zi0 {ns : List Node} {t i : Nat} (h : zdl ns (zba ns t) = some i) : zba ns (t + 1) = zba ns t ++ [(i : Int)] := by rw [zba, h]
theorem zqh {ns : List Node} {t : Nat} (h : zdl ns (zba ns t) = none) (d : Nat) : zba ns (t + d) = zba ns t := by
 induction d with
 | zero => rfl
 | succ d ih => rw [show t + (d + 1) = (t + d) + 1 from rfl, zba, ih, h]
theorem zlf {ns : List Node} {t : Nat} (ht : t ≤ ns.length) (h : zdl ns (zba ns t) = none) : zal ns = zba ns t := by
 rw [zal, show ns.length = t + (ns.length - t) by omega, zqh h]
theorem zlg {ns : List Node} {out : List Int} {i : Nat} {x : Node} (h : ns[i]? = some x) : zdk ns out i = (!zap out i && (zbq x).all (zap out)) := by
 rw [zdk, h]; rfl
def M.p0 : zad := (0, [], [], [])
def zbf (p : zad) : Bool := decide (p = M.p0) || (zcw p && decide (p.1 = 1) && decide (p.2.2.2.length = 1))
def zbo (s : Sess) : Bool :=
 M.inn s.1 0 1000 && zcb s.2.1 && decide (s.2.2.1.length ≤ 6) && zay s.2.2.2.2.2 && decide (s.2.2.2.1.length = s.2.2.1.length) && s.2.2.2.1.all (zbc s.2.2.2.2.2.length) && decide (s.2.2.2.2.1.length = s.2.2.2.2.2.length) && s.2.2.1.all (fun t => za4 t && zbb t s.2.1.length) && s.2.2.2.2.1.all zbf
end
end Go.Proofs.YtffhodocjjkkoaaGreat
