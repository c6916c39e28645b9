import Derived.Test.YtffhodocjjkkoaaGreatFnExactStemOfG5
import Derived.Test.YtffhodocjjkkoaaGreatFnExactStemOfG1
import Derived.Test.YtffhodocjjkkoaaGreatFnExactStemOfG2
import Derived.StillTailTactics
import Derived.Deep.QuietTactic
import Derived.Lib.QuietBelow
import Derived.Test.YtffhodocjjkkoaaGreatFnExactStemOfG4
import Derived.Deep.DeepCutAuto
set_option linter.unusedVariables false
set_option linter.unusedSimpArgs false
set_option maxRecDepth 100000
set_option maxHeartbeats 4000000
namespace Go.Proofs.YtffhodocjjkkoaaGreat
section
open Go.RowKit
structure DL (w : World) (b lo : Nat) (A : Option Addr) (n c : Nat) (code : List UInt8) (K : Nat) (xs : List Int) (v : Value) (wr : World) : Prop where
 own : OS tI 2 wr (Iv w.heap.size wr.heap.size) v xs
 src : Src wr b lo A n c code K
 mid : Mid b (b + 1) w wr
 sz : w.heap.size + 1 ≤ wr.heap.size
theorem DL.more {w wr : World} {b lo : Nat} {A : Option Addr} {n c : Nat} {code : List UInt8} {K K' : Nat} {xs : List Int} {v : Value} (h : DL w b lo A n c code K xs v wr) (hK : K ≤ K') : DL w b lo A n c code K' xs v wr :=
 ⟨h.own, h.src.more hK, h.mid, h.sz⟩
end
section
open Go.RowKit
theorem OA.cap {α : Type} {enc : α → List Value} {e : TypeId} {s lo hi n c : Nat} {w : World} {A : Option Addr} {xs : List α} (h : OA enc e s lo hi w (.slice A n c) xs) : n ≤ c ∧ c ≤ maxLen := by
 obtain ⟨A', c', hv, h1, h2, _⟩ := zb9 h.1
 simp only [Value.slice.injEq] at hv
 obtain ⟨rfl, rfl, rfl⟩ := hv
 exact ⟨h1, h2⟩
end
section
open Go.RowKit
theorem zrd (a b : Int) (w : World) : Calls Tryz.prog 88 #[.int .i64 a, .int .i64 b] w fun e w' => e = .returned (.int .i64 (max a b)) ∧ w = w' := by
 by_cases h : b < a
 all_goals
  go_enter Tryz.func88, Tryz.ntmps88
  go_wp2
  go_ret
  exact ⟨zar (by omega), rfl⟩
def zb5 (xs ys : List Int) (g : Int) : List Int := (List.range (max xs.length ys.length)).map fun (i : Nat) => wrap32 (M.at_ xs (i : Int) + M.at_ ys (i : Int) * g)
theorem zeu (xs ys : List Int) (g : Int) : (zb5 xs ys g).length = max xs.length ys.length := by simp [zb5]
theorem zl0 {xs ys : List Int} {g : Int} {i : Nat} (h : i < max xs.length ys.length) : (zb5 xs ys g)[i]? = some (wrap32 (M.at_ xs (i : Int) + M.at_ ys (i : Int) * g)) := by simp [zb5, h]
theorem zi9 (A A' : Option Addr) (n c n' c' : Nat) (xs ys : List Int) (g : Int) (w : World) (hx : RI w w.heap.size A n xs) (hy : RI w w.heap.size A' n' ys) (hn : n ≤ 1000000) (hn' : n' ≤ 1000000) :
 Calls Tryz.prog 57 #[.slice A n c, .slice A' n' c', .int .i64 g] w (Ret1 2 w (zb5 xs ys g)) := by
 have hl := Lib.hid hx.len
 have hl' := Lib.hid hy.len
 go_enter Tryz.func57, Tryz.ntmps57
 go_wp2_with fail
 refine (zrd _ _ _).mono ?_
 rintro e w' ⟨rfl, rfl⟩
 obtain ⟨m, hm⟩ : ∃ m : Nat, m = max n n' := ⟨_, rfl⟩
 have hmi : max (n : Int) (n' : Int) = (m : Int) := by omega
 have hm2 : m ≤ 1000000 := by omega
 have HM := Lib.hid (show max xs.length ys.length = m by rw [hl.out, hl'.out, hm])
 rw [hmi]
 clear hm hmi
 go_wp2_with fail
 go_loopw [7, 9] (fun v i wr => ∃ k : Nat, i = .int .i64 k ∧ k ≤ m ∧ OI 2 w.heap.size wr v ((zb5 xs ys g).take k) ∧ Below w.heap.size w wr) (fun _ i _ => m - (intOf i).toNat)
 case atStart => exact ⟨0, rfl, by omega, OI.made _ _, (Below.refl _ _).alloc (Nat.le_refl _) _⟩
 case round =>
  obtain ⟨k, rfl, hk, own, hb⟩ := hrel
  by_cases hlt : k < m
  · have hT := Lib.hid (M.take_at (zl0 (xs := xs) (ys := ys) (g := g) (i := k) (by rw [HM.out]; exact hlt)))
    have hk1 : ((zb5 xs ys g).take k).length ≤ 1000000000 := by rw [List.length_take]; omega
    have rx := (hx.below hb).more hb.size
    have ry := (hy.below hb).more hb.size
    go_wp2_with fail
    refine (zga _ _ _ _ _ wr rx (by omega)).mono ?_
    rintro e w' ⟨rfl, rfl⟩
    go_wp2_with fail
    refine (zga _ _ _ _ _ wr ry (by omega)).mono ?_
    rintro e w' ⟨rfl, rfl⟩
    go_wp2_with fail
    refine (zgp _ _ wr).mono ?_
    rintro e w' ⟨rfl, rfl⟩
    go_wp2_with fail
    refine (zgo _ _ wr).mono ?_
    rintro e w' ⟨rfl, rfl⟩
    go_wp2_with (at_builtin; refine zdy zbs rfl _ _ rfl own rfl rfl rfl (by unfold maxLen; omega) (by omega) hb.size ?_; intro v1 w1 own1 gr1 bel1)
    go_roundw
    case rel => exact ⟨k + 1, by go_num, by omega, by rw [hT.out, ← M.wrap32_addr]; exact OI.push own1, hb.trans bel1⟩
    case measure => simp [intOf]; omega
  · go_wp2
    go_ret
    rw [List.take_of_length_le (by rw [zeu, HM.out]; omega)] at own
    exact ⟨_, rfl, own, hb⟩
theorem zre (A : Option Addr) (n c : Nat) (xs : List Clip) (w : World) (hx : RA cl 5 w w.heap.size A n xs) (hn : n ≤ 1000000000) :
 Calls Tryz.prog 115 #[.agg #[.slice A n c]] w fun e w' => e = .returned (.bool (za4 xs)) ∧ Below w.heap.size w w' := by
 have B0 : Below w.heap.size w (w.alloc (.cells #[.slice A n c] 89)) := (Below.refl _ _).alloc (Nat.le_refl _) _
 have hself := zkn w (.slice A n c) 89
 go_enter Tryz.func115, Tryz.ntmps115
 go_wp2_with fail
 refine (zhe _ _ _ _ _ _ hself (hx.later B0) hn).mono ?_
 rintro e w2 ⟨rfl, b2⟩
 go_wp2
 go_ret
 exact ⟨rfl, zaa B0 b2⟩
end
section
open Go.RowKit Go.Sort
theorem zds {w : World} {B : Nat} {A : Option Addr} {n c : Nat} {ns : List Node} (hr : RS tN w B (.slice A n c) ns) (hb : hNS.sz ns ≤ 100000000) {k : Nat} (hk : k < n) :
 ∃ (bb o : Nat) (a0 a1 a2 : Int) (A1 : Option Addr) (c1 : Nat) (x3 : List Int), A = some ⟨bb, o, none⟩ ∧ bb < B ∧ Hid (ns[k]? = some (a0, a1, a2, x3)) ∧ w.cell? ⟨bb, o + k * 4, none⟩ = some (.int .i64 a0) ∧ w.cell? ⟨bb, o + k * 4 + 1, none⟩ = some (.int .i64 a1) ∧ w.cell? ⟨bb, o + k * 4 + 2, none⟩ = some (.int .i64 a2) ∧ w.cell? ⟨bb, o + k * 4 + 3, none⟩ = some (.slice A1 x3.length c1) ∧ RI w B A1 x3.length x3 ∧ x3.length ≤ 100000000 := by
 obtain rfl : ns.length = n := hr.cap.1
 have hX := List.getElem?_eq_getElem hk
 obtain ⟨bb, o, c1, cs, hv, hab, -, hE, hc⟩ := hr.atX hX
 simp only [Value.slice.injEq] at hv
 obtain ⟨rfl, -, rfl⟩ := hv
 have hU := hN.szL_at hX
 have hU2 : ns.length + hN.szL ns ≤ 100000000 := hb
 generalize ns[k] = x at hX hE hU
 obtain ⟨a0, a1, a2, x3⟩ := x
 rw [zft, zbl] at hU
 obtain ⟨A1, n1, c1, rfl, hS3⟩ := tN_R.1 hE
 obtain rfl : x3.length = n1 := zc0 hS3
 have e0 : w.cell? ⟨bb, o + k * 4, none⟩ = some (.int .i64 a0) := hc 0 _ rfl
 exact ⟨bb, o, a0, a1, a2, A1, c1, x3, rfl, hab, Lib.hid hX, e0, hc 1 _ rfl, hc 2 _ rfl, hc 3 _ rfl, (tS_R.1 hS3).ri, by omega⟩
theorem zhm (A : Option Addr) (n c : Nat) (ts : List (List Int)) (w : World) (hx : RS tS w w.heap.size (.slice A n c) ts) (hb : Hid (∀ x ∈ ts, x.length ≤ 1000000000)) (hn : n ≤ 1000000000) :
 Calls Tryz.prog 150 #[.slice A n c] w fun e w' => e = .returned (.bool (zb4 ts)) ∧ Below w.heap.size w w' := by
 have hl := Lib.hid hx.cap.1
 go_enter Tryz.func150, Tryz.ntmps150
 go_wp2
 go_loopw [3] (fun i wr => ∃ k : Nat, i = .int .i64 k ∧ k ≤ n ∧ Hid (ts.all zc1 = (ts.drop k).all zc1) ∧ Below w.heap.size w wr) (fun i _ => n - (intOf i).toNat)
 case atStart => exact ⟨0, rfl, by omega, Lib.hid (by simp), Below.refl _ _⟩
 case round =>
  obtain ⟨k, rfl, hk, H, Bw⟩ := hrel
  by_cases hlt : k < n
  · have B1 : Below wr.heap.size wr (wr.alloc (.cells #[.int .i64 2, .int .i64 4, .int .i64 8, .int .i64 16] 2)) := (Below.refl _ _).alloc (Nat.le_refl _) _
    have hr4 : RI (wr.alloc (.cells #[.int .i64 2, .int .i64 4, .int .i64 8, .int .i64 16] 2)) (wr.alloc (.cells #[.int .i64 2, .int .i64 4, .int .i64 8, .int .i64 16] 2)).heap.size (some ⟨wr.heap.size, 0, none⟩) 4 [2, 4, 8, 16] := (zi7 wr 2 [2, 4, 8, 16] _ rfl).more (by simp)
    obtain ⟨V, hV⟩ : ∃ V, V = wr.alloc (.cells #[.int .i64 2, .int .i64 4, .int .i64 8, .int .i64 16] 2) := ⟨_, rfl⟩
    have HV := Lib.hid hV
    rw [← hV] at B1 hr4
    have B2 := zaa Bw B1
    obtain ⟨bb, o, A1, c1, x, rfl, hbb, X, hc, hri, hxl⟩ := zdr (hx.below B2) hb hlt
    have hri := hri.more B2.size
    have hd := Lib.hid (M.drop_at X.out)
    have hc0 := hc
    rw [hV] at hc0
    have HM := Lib.hid (show zap [2, 4, 8, 16] (x.length : Int) = (decide (x.length = 2) || decide (x.length = 4) || decide (x.length = 8) || decide (x.length = 16)) by
     rw [Bool.eq_iff_iff]
     simp only [zap, List.any_cons, List.any_nil, Bool.or_eq_true, decide_eq_true_eq, Bool.false_eq_true, or_false]
     omega)
    clear hV
    cases hs : (decide (x.length = 2) || decide (x.length = 4) || decide (x.length = 8) || decide (x.length = 16))
    · have R := Lib.hid (show zb4 ts = false by rw [zb4, H.out, hd.out, List.all_cons, zc1, hs]; rfl)
      have HS := Lib.hid hs
      clear hs
      go_wp2_with fail
      rw [← HV.out]
      refine (zd9 _ _ _ _ _ _ hr4 (by omega)).mono ?_
      rw [HM.out, HS.out]
      rintro e w' ⟨rfl, rfl⟩
      clear hc0
      go_wp2
      go_ret
      exact ⟨zab (by rw [R.out]), B2⟩
    · have HG := Lib.hid (zqf x hs)
      have HS := Lib.hid hs
      clear hs
      cases hq : x.all M.smp
      · have R := Lib.hid (show zb4 ts = false by rw [zb4, H.out, hd.out, List.all_cons, zc1, hq, Bool.and_false]; rfl)
        have HQ := Lib.hid hq
        clear hq
        go_wp2_with fail
        rw [← HV.out]
        refine (zd9 _ _ _ _ _ _ hr4 (by omega)).mono ?_
        rw [HM.out, HS.out]
        rintro e w' ⟨rfl, rfl⟩
        clear hc0
        go_wp2_with fail
        refine (zfo _ _ _ _ _ hri (by omega)).mono ?_
        rw [HG.out, HQ.out]
        rintro e w' ⟨rfl, rfl⟩
        go_wp2
        go_ret
        exact ⟨zab (by rw [R.out]), B2⟩
      · have R := Lib.hid (show ts.all zc1 = (ts.drop (k + 1)).all zc1 by rw [H.out, hd.out, List.all_cons, zc1, HS.out, hq]; rfl)
        have HQ := Lib.hid hq
        clear hq
        go_wp2_with fail
        rw [← HV.out]
        refine (zd9 _ _ _ _ _ _ hr4 (by omega)).mono ?_
        rw [HM.out, HS.out]
        rintro e w' ⟨rfl, rfl⟩
        clear hc0
        go_wp2_with fail
        refine (zfo _ _ _ _ _ hri (by omega)).mono ?_
        rw [HG.out, HQ.out]
        rintro e w' ⟨rfl, rfl⟩
        go_wp2
        go_roundw
        case rel => exact ⟨k + 1, by go_num, by omega, R, B2⟩
        case measure => simp [intOf]; omega
  · have R := Lib.hid (show zb4 ts = decide (n ≤ 4) by rw [zb4, H.out, List.drop_eq_nil_of_le (by rw [hl.out]; omega), hl.out]; rfl)
    go_wp2
    go_ret
    exact ⟨zab (by rw [R.out, Bool.eq_iff_iff]; simp; try omega), Bw⟩
theorem zrf (b o : Nat) (a0 a1 a2 : Int) (A : Option Addr) (c : Nat) (xs : List Int) (tb : Int) (w : World) (p0 : w.cell? ⟨b, o, none⟩ = some (.int .i64 a0)) (p1 : w.cell? ⟨b, o + 1, none⟩ = some (.int .i64 a1)) (p2 : w.cell? ⟨b, o + 2, none⟩ = some (.int .i64 a2)) (p3 : w.cell? ⟨b, o + 3, none⟩ = some (.slice A xs.length c)) (hx : RI w w.heap.size A xs.length xs) (hn : xs.length ≤ 1000000000) (htb : 0 ≤ tb ∧ tb ≤ 1000000000) :
 Calls Tryz.prog 151 #[.pointer (some ⟨b, o, none⟩), .int .i64 tb] w fun e w' => e = .returned (.bool (zai (a0, a1, a2, xs) tb)) ∧ Below w.heap.size w w' := by
 rw [← zqe]
 have cK : ∀ d os, Calls Tryz.prog 184 #[.int .i64 a0] (grow (redrawn w d) os) fun e w'' => e = .returned (.bool (M.inn a0 1 17)) ∧ ∃ p : Regrown, w'' = grow (redrawn w p.d) p.os := fun d os => Calls.regrown_of (zfz (zq6 a0 _))
 have pp0 := cell_regrown p0
 have pp1 := cell_regrown p1
 have pp2 := cell_regrown p2
 have pp3 := cell_regrown p3
 have cA : ∀ d os, Calls Tryz.prog 185 #[.pointer (some ⟨b, o, none⟩), .int .i64 tb] (grow (redrawn w d) os) fun e w'' => e = .returned (.bool (M.aS a0 a1 tb)) ∧ ∃ p : Regrown, w'' = grow (redrawn w p.d) p.os := fun d os => Calls.regrown_of (zq9 b o a0 a1 tb _ (cell_regrown p0 d os) (cell_regrown p1 d os) htb)
 clear p0 p1 p2 p3
 cases hk : M.inn a0 1 17
 · have R := Lib.hid (show zdj (a0, a1, a2, xs) tb = false by rw [zdj, hk]; rfl)
   rw [hk] at cK
   clear hk
   go_enter Tryz.func151, Tryz.ntmps151
   go_wp2_with fail
   (refine wp_region_quiet_below (by kernel_rfl) (by kernel_rfl) ?_; (repeat (go_big_quiet_step (exact cK _ _))); refine wpQuiet_nil ?_; intro _ hw'; obtain ⟨⟨dq, osq⟩, hw''⟩ := hw'; subst hw'')
   go_wp2
   go_ret
   exact ⟨zab (by rw [R.out]), below_regrown w dq osq⟩
 · have hkb := zby.1 hk
   have cR : ∀ d os, Calls Tryz.prog 186 #[.int .i64 a0] (grow (redrawn w d) os) fun e w'' => e = .returned (.int .i64 (M.ar a0.toNat)) ∧ ∃ p : Regrown, w'' = grow (redrawn w p.d) p.os := fun d os => Calls.regrown_of (zq8 a0 _ (by omega))
   rw [hk] at cK
   have HK := Lib.hid (show zdj (a0, a1, a2, xs) tb = (M.aS a0 a1 tb && decide ((xs.length : Int) = M.ar a0.toNat) && xs.all zax && (if a0 = 17 then M.inn a2 1 16 else decide (a2 = 0))) by rw [zdj]; simp only [hk, Bool.true_and])
   generalize M.ar a0.toNat = ra at cR HK
   clear hk hkb
   cases ha : M.aS a0 a1 tb
   · have R := Lib.hid (show zdj (a0, a1, a2, xs) tb = false by rw [HK.out, ha]; rfl)
     rw [ha] at cA
     clear ha
     go_enter Tryz.func151, Tryz.ntmps151
     go_wp2_with fail
     (refine wp_region_quiet_below (by kernel_rfl) (by kernel_rfl) ?_; (repeat (go_big_quiet_step ((first | exact cK _ _ | exact cA _ _ | exact cR _ _)))); refine wpQuiet_nil ?_; intro _ hw'; obtain ⟨⟨dq, osq⟩, hw''⟩ := hw'; subst hw'')
     go_wp2
     go_ret
     exact ⟨zab (by rw [R.out]), below_regrown w dq osq⟩
   · rw [ha] at cA
     by_cases hl : (xs.length : Int) = ra
     · have HM := Lib.hid (show zdj (a0, a1, a2, xs) tb = (xs.all zax && (if a0 = 17 then M.inn a2 1 16 else decide (a2 = 0))) by rw [HK.out, ha, decide_eq_true hl]; rfl)
       rw [← hl] at cR
       have hxr := fun d os => hx.later (below_regrown w d os)
       clear ha hl HK
       go_enter Tryz.func151, Tryz.ntmps151
       go_wp2_with fail
       (refine wp_region_quiet_below (by kernel_rfl) (by kernel_rfl) ?_; (repeat (go_big_quiet_step ((first | exact cK _ _ | exact cA _ _ | exact cR _ _)))); refine wpQuiet_nil ?_; intro _ hw'; obtain ⟨⟨dq, osq⟩, hw''⟩ := hw'; subst hw'')
       replace pp0 := pp0 dq osq
       replace pp1 := pp1 dq osq
       replace pp2 := pp2 dq osq
       replace pp3 := pp3 dq osq
       replace hxr := hxr dq osq
       have BV := below_regrown w dq osq
       clear cK cA cR
       generalize grow (redrawn w dq) osq = V at pp0 pp1 pp2 pp3 hxr BV ⊢
       go_wp2_with fail
       go_loop [5] (fun i => ∃ k : Nat, i = .int .i64 k ∧ k ≤ xs.length ∧ Hid (xs.all zax = (xs.drop k).all zax)) (fun i => xs.length - (intOf i).toNat)
       case atStart => exact ⟨0, rfl, by omega, Lib.hid (by simp)⟩
       case round =>
        obtain ⟨k, rfl, hk, H⟩ := hrel
        by_cases hlt : k < xs.length
        · obtain ⟨ad, x, rfl, hab, X, hc⟩ := hxr.at hlt
          have hd := Lib.hid (M.drop_at X.out)
          cases hs : M.inn x 0 23
          · have R := Lib.hid (show zdj (a0, a1, a2, xs) tb = false by rw [HM.out, H.out, hd.out, List.all_cons, zax, hs]; rfl)
            go_wp2_with (go_at_call 53; refine (zas _ _ _ _).mono ?_; rintro e w' ⟨rfl, rfl⟩)
            go_ret
            exact ⟨zab (by rw [R.out]), BV⟩
          · have R := Lib.hid (show xs.all zax = (xs.drop (k + 1)).all zax by rw [H.out, hd.out, List.all_cons, zax, hs]; rfl)
            go_wp2_with (go_at_call 53; refine (zas _ _ _ _).mono ?_; rintro e w' ⟨rfl, rfl⟩)
            go_round
            case rel => exact ⟨k + 1, by go_num, by omega, R⟩
            case measure => simp [intOf]; omega
        · have HF := Lib.hid (show xs.all zax = true by rw [H.out, List.drop_eq_nil_of_le (by omega)]; rfl)
          clear H
          by_cases h17 : a0 = 17
          · have R := Lib.hid (show zdj (a0, a1, a2, xs) tb = M.inn a2 1 16 by rw [HM.out, HF.out, if_pos h17]; rfl)
            clear HM
            subst h17
            go_wp2_with (go_at_call 53; refine (zas _ _ _ _).mono ?_; rintro e w' ⟨rfl, rfl⟩)
            go_ret
            exact ⟨zab (by rw [R.out]), BV⟩
          · have R := Lib.hid (show zdj (a0, a1, a2, xs) tb = decide (a2 = 0) by rw [HM.out, HF.out, if_neg h17]; rfl)
            have g17 : (a0 == 17) = false := by simpa using h17
            go_wp2_with (go_at_call 53; refine (zas _ _ _ _).mono ?_; rintro e w' ⟨rfl, rfl⟩)
            go_ret
            exact ⟨zab (by rw [R.out, Bool.eq_iff_iff]; simp), BV⟩
     · have R := Lib.hid (show zdj (a0, a1, a2, xs) tb = false by rw [HK.out, ha, decide_eq_false hl]; rfl)
       have gl : ((xs.length : Int) != ra) = true := by simpa using hl
       clear ha
       go_enter Tryz.func151, Tryz.ntmps151
       go_wp2_with fail
       (refine wp_region_quiet_below (by kernel_rfl) (by kernel_rfl) ?_; (repeat (go_big_quiet_step ((first | exact cK _ _ | exact cA _ _ | exact cR _ _)))); refine wpQuiet_nil ?_; intro _ hw'; obtain ⟨⟨dq, osq⟩, hw''⟩ := hw'; subst hw'')
       go_wp2
       go_ret
       exact ⟨zab (by rw [R.out]), below_regrown w dq osq⟩
theorem zl1 (b o : Nat) (a0 a1 a2 : Int) (A : Option Addr) (c : Nat) (xs : List Int) (w : World) (p0 : w.cell? ⟨b, o, none⟩ = some (.int .i64 a0)) (p3 : w.cell? ⟨b, o + 3, none⟩ = some (.slice A xs.length c)) (hx : RI w w.heap.size A xs.length xs) :
 Calls Tryz.prog 153 #[.pointer (some ⟨b, o, none⟩)] w fun e w' => ∃ A' c', e = .returned (.slice A' (zbq (a0, a1, a2, xs)).length c') ∧ RI w' w'.heap.size A' (zbq (a0, a1, a2, xs)).length (zbq (a0, a1, a2, xs)) ∧ Below w.heap.size w w' := by
 by_cases h : a0 = 6
 · have HW := Lib.hid (show zbq (a0, a1, a2, xs) = [] by rw [zbq, if_pos h])
   rw [HW.out]
   subst h
   go_enter Tryz.func153, Tryz.ntmps153
   go_wp2
   go_ret
   exact ⟨_, _, rfl, RI.nil _ _ _, (Below.refl _ _).alloc (Nat.le_refl _) _⟩
 · have HW := Lib.hid (show zbq (a0, a1, a2, xs) = xs by rw [zbq, if_neg h])
   rw [HW.out]
   have g : (a0 == 6) = false := by simpa using h
   go_enter Tryz.func153, Tryz.ntmps153
   go_wp2
   go_ret
   exact ⟨_, _, rfl, hx, Below.refl _ _⟩
theorem zl2 (A A' : Option Addr) (n c n' c' : Nat) (xs ys : List Int) (w : World) (hx : RI w w.heap.size A n xs) (hy : RI w w.heap.size A' n' ys) (hn : n ≤ 1000000000) (hn' : n' ≤ 1000000000) :
 Calls Tryz.prog 152 #[.slice A n c, .slice A' n' c'] w fun e w' => e = .returned (.bool (xs.all (zap ys))) ∧ w = w' := by
 have hl := Lib.hid hx.len
 go_enter Tryz.func152, Tryz.ntmps152
 go_wp2
 go_loop [5] (fun i => ∃ k : Nat, i = .int .i64 k ∧ k ≤ n ∧ Hid (xs.all (zap ys) = (xs.drop k).all (zap ys))) (fun i => n - (intOf i).toNat)
 case atStart => exact ⟨0, rfl, by omega, Lib.hid (by simp)⟩
 case round =>
  obtain ⟨k, rfl, hk, H⟩ := hrel
  by_cases hlt : k < n
  · obtain ⟨ad, x, rfl, hab, X, hc⟩ := hx.at hlt
    have hd := Lib.hid (M.drop_at X.out)
    cases hs : zap ys x
    · have R := Lib.hid (show xs.all (zap ys) = false by rw [H.out, hd.out, List.all_cons, hs]; rfl)
      have HS := Lib.hid hs
      clear hs
      go_wp2_with (go_at_call 143; refine (zd9 _ _ _ _ _ _ hy (by omega)).mono ?_; rw [HS.out]; rintro e w' ⟨rfl, rfl⟩)
      go_ret
      exact ⟨zab (by rw [R.out]), rfl⟩
    · have R := Lib.hid (show xs.all (zap ys) = (xs.drop (k + 1)).all (zap ys) by rw [H.out, hd.out, List.all_cons, hs]; rfl)
      have HS := Lib.hid hs
      clear hs
      go_wp2_with (go_at_call 143; refine (zd9 _ _ _ _ _ _ hy (by omega)).mono ?_; rw [HS.out]; rintro e w' ⟨rfl, rfl⟩)
      go_round
      case rel => exact ⟨k + 1, by go_num, by omega, R⟩
      case measure => simp [intOf]; omega
  · have R := Lib.hid (show xs.all (zap ys) = true by rw [H.out, List.drop_eq_nil_of_le (by rw [hl.out]; omega)]; rfl)
    go_wp2
    go_ret
    exact ⟨zab (by rw [R.out]), rfl⟩
end
section
open Go.RowKit Go.Sort
theorem zl3 {v : Value} {b c : Bool} (h : c = b) : Ending.returned (.tuple #[v, .bool b]) = .returned (.tuple #[v, .bool c]) := by rw [h]
def zf0 : Value → Nat
 | .slice _ n _ => n
 | _ => 0
theorem zl4 (b o : Nat) (A : Option Addr) (n c : Nat) (ns : List Node) (w : World) (p2 : w.cell? ⟨b, o + 2, none⟩ = some (.slice A n c)) (hx : RS tN w w.heap.size (.slice A n c) ns) (hb : hNS.sz ns ≤ 100000000) :
 Calls Tryz.prog 117 #[.pointer (some ⟨b, o, none⟩)] w fun e w' => ∃ v, e = .returned (.tuple #[v, .bool (decide ((zal ns).length = ns.length))]) ∧ ((zal ns).length = ns.length → OI 2 w.heap.size w' v (zal ns)) ∧ Below w.heap.size w w' := by
 have lx : b < w.heap.size := World.block_lt_of_cell? w _ p2
 have hl := Lib.hid hx.cap.1
 have hnb : n ≤ 100000000 := by have e : ns.length + hN.szL ns = hNS.sz ns := rfl; have := hl.out; omega
 have H0 : Below w.heap.size w (w.alloc (.cells #[] 2)) := (Below.refl _ _).alloc (Nat.le_refl _) _
 have O0 : OI 2 w.heap.size (w.alloc (.cells #[] 2)) (.slice (some ⟨w.heap.size, 0, none⟩) 0 0) [] := OI.made _ w
 go_enter Tryz.func117, Tryz.ntmps117
 go_wp2_with fail
 go_loopw [4, 5, 6] (fun v _ _ wr => ∃ (t : Nat) (O : List Int), t ≤ n ∧ Hid (O = zba ns t) ∧ Hid (O.length = t) ∧ OI 2 w.heap.size wr v O ∧ Below w.heap.size w wr) (fun v _ _ _ => n - zf0 v)
 case atStart => exact ⟨0, [], by omega, Lib.hid rfl, Lib.hid rfl, O0, H0⟩
 case round =>
  obtain ⟨t, O, ht, HO, HL, own, Bw⟩ := hrel
  obtain ⟨A2, c2, rfl, hri⟩ := own.shape
  rw [HL.out] at own hri ⊢
  have q2 : wr.cell? ⟨b, o + 2, none⟩ = some (.slice A n c) := by rw [Bw.cell lx]; exact p2
  by_cases hlt : t < n
  · go_wp2_with fail
    obtain ⟨wo, rfl⟩ : ∃ wo : World, wo = wr := ⟨_, rfl⟩
    go_loopw [5, 6] (fun q i wr => ((∃ k : Nat, q = .int .i64 (-1) ∧ i = .int .i64 k ∧ k ≤ n ∧ Hid (∀ j, j < k → zdk ns O j = false)) ∨ (∃ k : Nat, q = .int .i64 (k : Int) ∧ i = .int .i64 ((k : Int) + 1) ∧ k < n ∧ Hid (zdl ns O = some k))) ∧ Below wo.heap.size wo wr) (fun _ i _ => n + 1 - (intOf i).toNat)
    case atStart => exact ⟨.inl ⟨0, rfl, rfl, by omega, Lib.hid (by omega)⟩, Below.refl _ _⟩
    case round =>
     obtain ⟨hor, B2⟩ := hrel
     have BB := zaa Bw B2
     have q3 : wr.cell? ⟨b, o + 2, none⟩ = some (.slice A n c) := by rw [BB.cell lx]; exact p2
     have own2 := own.below B2
     rcases hor with ⟨k, rfl, rfl, hk, H⟩ | ⟨k, rfl, rfl, hk, H⟩
     · by_cases hlt2 : k < n
       · obtain ⟨bb, o1, a0, a1, a2, A1, c1, x3, rfl, hbb, X, e0, e1, e2, e3, hr3, h3b⟩ := zds (hx.below BB) hb hlt2
         have hrdy := Lib.hid (zlg (out := O) X.out)
         have hk0 : (0 : Int) ≤ (k : Int) := by omega
         have hkn : (k : Int) < (n : Int) := by omega
         have hriO := hri.later B2
         have hrx := hr3.more BB.size
         cases hm : zap O k
         · have HM := Lib.hid hm
           clear hm
           cases ha : (zbq (a0, a1, a2, x3)).all (zap O)
           · have HA := Lib.hid ha
             have R := Lib.hid (show zdk ns O k = false by rw [hrdy.out, ha, Bool.and_false])
             clear ha
             go_wp2_with fail
             refine (zd9 _ _ _ _ _ _ hriO (by omega)).mono ?_
             rw [HM.out]
             rintro e w' ⟨rfl, rfl⟩
             go_wp2_with fail
             refine (zl1 bb (o1 + k * 4) a0 a1 a2 A1 c1 x3 wr e0 e3 hrx).mono ?_
             rintro e w3 ⟨A5, c5, rfl, hr5, bel3⟩
             have hriO3 := hriO.later bel3
             have hwl : (zbq (a0, a1, a2, x3)).length ≤ 1000000000 := by unfold zbq; split <;> simp <;> omega
             go_wp2_with fail
             refine (zl2 _ _ _ _ _ _ _ _ _ hr5 hriO3 hwl (by omega)).mono ?_
             rw [HA.out]
             rintro e w' ⟨rfl, rfl⟩
             go_wp2
             go_roundw
             case rel => exact ⟨.inl ⟨k + 1, rfl, by go_num, by omega, Lib.hid (fun j hj => by rcases Nat.lt_succ_iff_lt_or_eq.1 hj with h | h; exact H.out j h; rw [h]; exact R.out)⟩, zaa B2 bel3⟩
             case measure => simp [intOf]; omega
           · have HA := Lib.hid ha
             have R := Lib.hid (show zdl ns O = some k from zld (by rw [hl.out]; exact hlt2) (by rw [hrdy.out, ha, HM.out]; rfl) H.out)
             clear ha
             go_wp2_with fail
             refine (zd9 _ _ _ _ _ _ hriO (by omega)).mono ?_
             rw [HM.out]
             rintro e w' ⟨rfl, rfl⟩
             go_wp2_with fail
             refine (zl1 bb (o1 + k * 4) a0 a1 a2 A1 c1 x3 wr e0 e3 hrx).mono ?_
             rintro e w3 ⟨A5, c5, rfl, hr5, bel3⟩
             have hriO3 := hriO.later bel3
             have hwl : (zbq (a0, a1, a2, x3)).length ≤ 1000000000 := by unfold zbq; split <;> simp <;> omega
             go_wp2_with fail
             refine (zl2 _ _ _ _ _ _ _ _ _ hr5 hriO3 hwl (by omega)).mono ?_
             rw [HA.out]
             rintro e w' ⟨rfl, rfl⟩
             go_wp2
             go_roundw
             case rel => exact ⟨.inr ⟨k, rfl, by go_num, hlt2, R⟩, zaa B2 bel3⟩
             case measure => simp [intOf]; omega
         · have HM := Lib.hid hm
           have R := Lib.hid (show zdk ns O k = false by rw [hrdy.out, hm]; rfl)
           clear hm
           go_wp2_with fail
           refine (zd9 _ _ _ _ _ _ hriO (by omega)).mono ?_
           rw [HM.out]
           rintro e w' ⟨rfl, rfl⟩
           go_wp2
           go_roundw
           case rel => exact ⟨.inl ⟨k + 1, rfl, by go_num, by omega, Lib.hid (fun j hj => by rcases Nat.lt_succ_iff_lt_or_eq.1 hj with h | h; exact H.out j h; rw [h]; exact R.out)⟩, B2⟩
           case measure => simp [intOf]; omega
       · have hno := Lib.hid (zle (ns := ns) (out := O) (fun j hj => H.out j (by rw [hl.out] at hj; omega)))
         have HR := Lib.hid (show zal ns = O by rw [HO.out]; exact zlf (by rw [hl.out]; exact ht) (by rw [← HO.out]; exact hno.out))
         have R := Lib.hid (show ¬ (zal ns).length = ns.length by rw [HR.out, HL.out, hl.out]; omega)
         go_wp2
         go_ret2
         exact ⟨_, zl3 (decide_eq_false R.out), fun h => absurd h R.out, BB⟩
     · by_cases hk1 : (k : Int) + 1 < n
       · have hd : decide ((k : Int) + 1 < n) = true := decide_eq_true hk1
         have hge : decide ((k : Int) < 0) = false := decide_eq_false (by omega)
         have hge2 : ¬ (k : Int) < 0 := by omega
         have hO1 : O.length ≤ t := by rw [HL.out]; omega
         have hO2 : t ≤ O.length := by rw [HL.out]; omega
         have HN := Lib.hid (show O ++ [(k : Int)] = zba ns (t + 1) by rw [zi0 (by rw [← HO.out]; exact H.out), ← HO.out])
         have HL2 := Lib.hid (show (O ++ [(k : Int)]).length = t + 1 by rw [List.length_append, HL.out]; rfl)
         go_wp2_with (at_builtin; refine zdy zbs rfl _ _ rfl own2 rfl rfl rfl (by unfold maxLen; omega) (by omega) BB.size ?_; intro v1 w1 own1 gr1 bel1)
         go_roundw
         case rel => exact ⟨t + 1, O ++ [(k : Int)], by omega, HN, HL2, OI.push own1, BB.trans bel1⟩
         case measure => obtain ⟨A9, c9, rfl, -⟩ := (OI.push own1).shape; rw [HL2.out]; simp [zf0]; omega
       · have hd : decide ((k : Int) + 1 < n) = false := decide_eq_false hk1
         have hge2 : ¬ (k : Int) < 0 := by omega
         have hO1 : O.length ≤ t := by rw [HL.out]; omega
         have hO2 : t ≤ O.length := by rw [HL.out]; omega
         have HN := Lib.hid (show O ++ [(k : Int)] = zba ns (t + 1) by rw [zi0 (by rw [← HO.out]; exact H.out), ← HO.out])
         have HL2 := Lib.hid (show (O ++ [(k : Int)]).length = t + 1 by rw [List.length_append, HL.out]; rfl)
         go_wp2_with (at_builtin; refine zdy zbs rfl _ _ rfl own2 rfl rfl rfl (by unfold maxLen; omega) (by omega) BB.size ?_; intro v1 w1 own1 gr1 bel1)
         go_roundw
         case rel => exact ⟨t + 1, O ++ [(k : Int)], by omega, HN, HL2, OI.push own1, BB.trans bel1⟩
         case measure => obtain ⟨A9, c9, rfl, -⟩ := (OI.push own1).shape; rw [HL2.out]; simp [zf0]; omega
  · have HR := Lib.hid (show zal ns = O by rw [HO.out, zal, hl.out, show n = t by omega])
    have R := Lib.hid (show (zal ns).length = ns.length by rw [HR.out, HL.out, hl.out]; omega)
    go_wp2
    go_ret2
    exact ⟨_, zl3 (decide_eq_true R.out), fun _ => by rw [HR.out]; exact own, Bw⟩
end
section
open Go.RowKit Go.Sort
set_option synthInstance.maxSize 2000
set_option synthInstance.maxHeartbeats 400000
def zgq (tb n inp : Int) (x : Node) : Bool := zai x tb && (!(decide (x.1 = 1) && decide (inp ≤ x.2.1)) && x.2.2.2.all (fun f => decide (f < n)))
theorem zja (tb n inp : Int) (x : Node) : zgq tb n inp x = zbp tb n inp x := by
 rw [zgq, zbp]
 cases h : zai x tb
 · rfl
 · have hf : x.2.2.2.all zax = true := by
    rw [zai] at h
    simp only [Bool.and_eq_true] at h
    exact h.2.1.1.2
   have e : x.2.2.2.all (fun f => decide (f < n)) = x.2.2.2.all (zbc n) := by
    rw [List.all_eq_true] at hf
    rw [Bool.eq_iff_iff, List.all_eq_true, List.all_eq_true]
    constructor
    · intro h2 f hfm
      have h3 := zby.1 (hf f hfm)
      have h4 := h2 f hfm
      simp at h4
      exact zby.2 (by omega)
    · intro h2 f hfm
      have h4 := zby.1 (h2 f hfm)
      simp
      omega
   rw [e, Bool.true_and, Bool.true_and, Bool.and_comm]
theorem zl5 (b o : Nat) (a0 : Int) (A1 : Option Addr) (n1 c1 : Nat) (A2 : Option Addr) (n2 c2 : Nat) (A3 : Option Addr) (n3 c3 : Nat) (x1 : List (List Int)) (x2 : List Node) (x3 : List Int) (w : World) (p0 : w.cell? ⟨b, o, none⟩ = some (.int .i64 a0)) (p1 : w.cell? ⟨b, o + 1, none⟩ = some (.slice A1 n1 c1)) (p2 : w.cell? ⟨b, o + 2, none⟩ = some (.slice A2 n2 c2)) (p3 : w.cell? ⟨b, o + 3, none⟩ = some (.slice A3 n3 c3))
 (h1 : tSS.R w w.heap.size [.slice A1 n1 c1] x1) (h2 : tNS.R w w.heap.size [.slice A2 n2 c2] x2) (h3 : tS.R w w.heap.size [.slice A3 n3 c3] x3) (hn : hP.sz ((a0, x1, x2, x3) : zad) ≤ 100000000) :
 Calls Tryz.prog 116 #[.pointer (some ⟨b, o, none⟩)] w fun e w' => e = .returned (.bool (za7 (a0, x1, x2, x3))) ∧ Below w.heap.size w w' := by
 have lx : b < w.heap.size := World.block_lt_of_cell? w _ p0
 rw [zc6, zbl] at hn
 have r1 := sl_R.1 h1
 have r2 := sl_R.1 h2
 have hx3 := (tS_R.1 h3).ri
 have L1 := Lib.hid r1.cap.1
 have L2 := Lib.hid r2.cap.1
 have L3 := Lib.hid (zc0 h3)
 have hb2 : hNS.sz x2 ≤ 100000000 := by omega
 have hq1 : x1.length + hS.szL x1 = hSS.sz x1 := rfl
 have hb1 : Hid (∀ x ∈ x1, x.length ≤ 1000000000) := Lib.hid (fun x hx => by
  obtain ⟨i, hi⟩ := List.getElem?_of_mem hx
  have := hS.szL_at hi
  rw [zbl] at this
  omega)
 have bn1 : n1 ≤ 100000000 := by have := L1.out; omega
 have bn2 : n2 ≤ 100000000 := by have e : x2.length + hN.szL x2 = hNS.sz x2 := rfl; have := L2.out; omega
 have bn3 : n3 ≤ 100000000 := by have := L3.out; omega
 clear hn hq1 h1 h2 h3
 cases g0 : M.inn a0 0 4
 · have R := Lib.hid (show za7 (a0, x1, x2, x3) = false by rw [za7]; simp only [g0]; rfl)
   go_enter Tryz.func116, Tryz.ntmps116
   go_wp2_with (go_at_call 53; refine (zas _ _ _ _).mono ?_; rintro e w' ⟨rfl, rfl⟩)
   go_ret
   exact ⟨zab (by rw [R.out]), Below.refl _ _⟩
 have G0 := Lib.hid g0
 clear g0
 cases g1 : zb4 x1
 · have R := Lib.hid (show za7 (a0, x1, x2, x3) = false by rw [za7]; simp only [G0.out, g1]; rfl)
   have G1 := Lib.hid g1
   clear g1
   go_enter Tryz.func116, Tryz.ntmps116
   go_wp2_with (first | (go_at_call 53; refine (zas _ _ _ _).mono ?_; rw [G0.out]; rintro e w' ⟨rfl, rfl⟩) | (go_at_call 150; refine (zhm _ _ _ _ _ r1 hb1 (by omega)).mono ?_; rw [G1.out]; rintro e w2 ⟨rfl, bel2⟩))
   go_ret
   exact ⟨zab (by rw [R.out]), bel2⟩
 have G1 := Lib.hid g1
 clear g1
 by_cases g2 : ¬ n2 ≤ 24
 · have R := Lib.hid (show za7 (a0, x1, x2, x3) = false by rw [za7]; simp only [L2.out, decide_eq_false g2, Bool.and_false, Bool.false_and])
   go_enter Tryz.func116, Tryz.ntmps116
   go_wp2_with (first | (go_at_call 53; refine (zas _ _ _ _).mono ?_; rw [G0.out]; rintro e w' ⟨rfl, rfl⟩) | (go_at_call 150; refine (zhm _ _ _ _ _ r1 hb1 (by omega)).mono ?_; rw [G1.out]; rintro e w2 ⟨rfl, bel2⟩))
   go_ret
   exact ⟨zab (by rw [R.out]), bel2⟩
 replace g2 : n2 ≤ 24 := Decidable.not_not.1 g2
 by_cases g3 : ¬ n3 ≤ 4
 · have R := Lib.hid (show za7 (a0, x1, x2, x3) = false by rw [za7]; simp only [L3.out, decide_eq_false g3, Bool.and_false, Bool.false_and])
   go_enter Tryz.func116, Tryz.ntmps116
   go_wp2_with (first | (go_at_call 53; refine (zas _ _ _ _).mono ?_; rw [G0.out]; rintro e w' ⟨rfl, rfl⟩) | (go_at_call 150; refine (zhm _ _ _ _ _ r1 hb1 (by omega)).mono ?_; rw [G1.out]; rintro e w2 ⟨rfl, bel2⟩; have k3 : w2.cell? ⟨b, o + 3, none⟩ = some (.slice A3 n3 c3) := (by rw [bel2.cell lx]; exact p3)))
   go_ret
   exact ⟨zab (by rw [R.out]), bel2⟩
 replace g3 : n3 ≤ 4 := Decidable.not_not.1 g3
 have HF := Lib.hid (show za7 (a0, x1, x2, x3) = (x3.all (zbc n2) && x2.all (zbp n1 n2 a0)) by
  rw [za7]
  simp only [G0.out, G1.out, L1.out, L2.out, L3.out, decide_eq_true g2, decide_eq_true g3, Bool.true_and])
 go_enter Tryz.func116, Tryz.ntmps116
 go_wp2_with (first | (go_at_call 53; refine (zas _ _ _ _).mono ?_; rw [G0.out]; rintro e w' ⟨rfl, rfl⟩) | (go_at_call 150; refine (zhm _ _ _ _ _ r1 hb1 (by omega)).mono ?_; rw [G1.out]; rintro e w2 ⟨rfl, bel2⟩; have k3 : w2.cell? ⟨b, o + 3, none⟩ = some (.slice A3 n3 c3) := (by rw [bel2.cell lx]; exact p3)))
 go_loopw [4, 5, 6] (fun i _ _ wr => ∃ k : Nat, i = .int .i64 k ∧ k ≤ n2 ∧ Hid (x2.all (zbp n1 n2 a0) = (x2.drop k).all (zbp n1 n2 a0)) ∧ Below w.heap.size w wr) (fun i _ _ _ => n2 - (intOf i).toNat)
 case atStart => exact ⟨0, rfl, by omega, Lib.hid (by simp), bel2⟩
 case round =>
  obtain ⟨k, rfl, hk, H, Bw⟩ := hrel
  clear k3 bel2
  have q0 : wr.cell? ⟨b, o, none⟩ = some (.int .i64 a0) := by rw [Bw.cell lx]; exact p0
  have q1 : wr.cell? ⟨b, o + 1, none⟩ = some (.slice A1 n1 c1) := by rw [Bw.cell lx]; exact p1
  have q2 : wr.cell? ⟨b, o + 2, none⟩ = some (.slice A2 n2 c2) := by rw [Bw.cell lx]; exact p2
  have q3 : wr.cell? ⟨b, o + 3, none⟩ = some (.slice A3 n3 c3) := by rw [Bw.cell lx]; exact p3
  by_cases hlt : k < n2
  · obtain ⟨bb, o1, b0, b1, b2, A5, c5, y3, rfl, hbb, X, e0, e1, e2, e3, hr3, h3b⟩ := zds (r2.below Bw) hb2 hlt
    have hd := Lib.hid (M.drop_at X.out)
    have hry := hr3.more Bw.size
    have hk0 : (0 : Int) ≤ (k : Int) := by omega
    have hkn : (k : Int) < (n2 : Int) := by omega
    have hkw : IntKind.i64.wrap ((k : Int) + 1) = (k : Int) + 1 := IntWalk.i64_in _ (by omega)
    have cN : ∀ d os, Calls Tryz.prog 151 #[.pointer (some ⟨bb, o1 + k * 4, none⟩), .int .i64 n1] (grow (redrawn wr d) os) fun e w'' => e = .returned (.bool (zai (b0, b1, b2, y3) n1)) ∧ ∃ p : Regrown, w'' = grow (redrawn wr p.d) p.os := fun d os => Calls.regrown_of (zrf bb (o1 + k * 4) b0 b1 b2 A5 c5 y3 n1 _ (cell_regrown e0 d os) (cell_regrown e1 d os) (cell_regrown e2 d os) (cell_regrown e3 d os) (hry.later (below_regrown wr d os)) (by omega) (by omega))
    have qq0 := cell_regrown q0
    have qq1 := cell_regrown q1
    have qq2 := cell_regrown q2
    have qq3 := cell_regrown q3
    have ee0 := cell_regrown e0
    have ee1 := cell_regrown e1
    have ee3 := cell_regrown e3
    have hryr := fun d os => hry.later (below_regrown wr d os)
    cases hok : zai (b0, b1, b2, y3) n1
    · have R := Lib.hid (show za7 (a0, x1, x2, x3) = false by rw [HF.out, H.out, hd.out, List.all_cons, ← zja, zgq, hok, Bool.false_and, Bool.false_and, Bool.and_false])
      rw [hok] at cN
      clear hok
      go_wp2_with fail
      clear q0 q1 q2 q3 e0 e1 e2 e3
      (refine wp_region_quiet_below (by kernel_rfl) (by kernel_rfl) ?_; (repeat (go_big_quiet_step (exact cN _ _))); refine wpQuiet_nil ?_; intro _ hw'; obtain ⟨⟨dq, osq⟩, hw''⟩ := hw'; subst hw'')
      go_wp2
      go_ret
      exact ⟨zab (by rw [R.out]), zaa Bw (below_regrown wr dq osq)⟩
    · rw [hok] at cN
      have HK := Lib.hid hok
      clear hok
      by_cases hin : b0 = 1 ∧ a0 ≤ b1
      · have R := Lib.hid (show za7 (a0, x1, x2, x3) = false by rw [HF.out, H.out, hd.out, List.all_cons, ← zja, zgq]; simp only [hin.1, decide_eq_true hin.2]; simp)
        obtain ⟨rfl, hin2⟩ := hin
        go_wp2_with fail
        clear q0 q1 q2 q3 e0 e1 e2 e3
        (refine wp_region_quiet_below (by kernel_rfl) (by kernel_rfl) ?_; (repeat (go_big_quiet_step (exact cN _ _))); refine wpQuiet_nil ?_; intro _ hw'; obtain ⟨⟨dq, osq⟩, hw''⟩ := hw'; subst hw'')
        go_wp2
        go_ret
        exact ⟨zab (by rw [R.out]), zaa Bw (below_regrown wr dq osq)⟩
      · have HI := Lib.hid (show (!(decide (b0 = 1) && decide (a0 ≤ b1))) = true by
         rw [Bool.not_eq_true', Bool.and_eq_false_iff]
         rcases Classical.em (b0 = 1) with h | h
         · exact .inr (decide_eq_false fun h2 => hin ⟨h, h2⟩)
         · exact .inl (decide_eq_false h))
        have HF2 := Lib.hid (show x2.all (zbp n1 n2 a0) = (y3.all (fun f => decide (f < n2)) && (x2.drop (k + 1)).all (zbp n1 n2 a0)) by rw [H.out, hd.out, List.all_cons, ← zja, zgq, HK.out]; simp only [HI.out, Bool.true_and])
        by_cases hb0 : b0 = 1
        · have hna : ¬ a0 ≤ b1 := fun h => hin ⟨hb0, h⟩
          clear hin HI
          have HK2 := HK
          clear HK
          subst hb0
          go_wp2_with fail
          clear q0 q1 q2 q3 e0 e1 e2 e3
          (refine wp_region_quiet_below (by kernel_rfl) (by kernel_rfl) ?_; (repeat (go_big_quiet_step (exact cN _ _))); refine wpQuiet_nil ?_; intro _ hw'; obtain ⟨⟨dq, osq⟩, hw''⟩ := hw'; subst hw'')
          replace qq0 := qq0 dq osq
          replace qq1 := qq1 dq osq
          replace qq2 := qq2 dq osq
          replace qq3 := qq3 dq osq
          replace ee0 := ee0 dq osq
          replace ee1 := ee1 dq osq
          replace ee3 := ee3 dq osq
          replace hryr := hryr dq osq
          have BV := below_regrown wr dq osq
          clear cN
          generalize grow (redrawn wr dq) osq = V at qq0 qq1 qq2 qq3 ee0 ee1 ee3 hryr BV ⊢
          have BW := zaa Bw BV
          go_wp2_with fail
          go_loop [6] (fun i => ∃ q : Nat, i = .int .i64 q ∧ q ≤ y3.length ∧ Hid (y3.all (fun f => decide (f < n2)) = (y3.drop q).all (fun f => decide (f < n2)))) (fun i => y3.length - (intOf i).toNat)
          case atStart => exact ⟨0, rfl, by omega, Lib.hid (by simp)⟩
          case round =>
           obtain ⟨q, rfl, hq, HQ⟩ := hrel
           by_cases hlt2 : q < y3.length
           · obtain ⟨ad, x, rfl, hab, Y, hc⟩ := hryr.at hlt2
             have hdq := Lib.hid (M.drop_at Y.out)
             by_cases hs : x < n2
             · have R := Lib.hid (show y3.all (fun f => decide (f < n2)) = (y3.drop (q + 1)).all (fun f => decide (f < n2)) by rw [HQ.out, hdq.out, List.all_cons, decide_eq_true hs, Bool.true_and])
               have hs2 : ¬ (n2 : Int) ≤ x := by omega
               go_wp2
               go_round
               case rel => exact ⟨q + 1, by go_num, by omega, R⟩
               case measure => simp [intOf]; omega
             · have R := Lib.hid (show za7 (a0, x1, x2, x3) = false by rw [HF.out, HF2.out, HQ.out, hdq.out, List.all_cons, decide_eq_false hs, Bool.false_and, Bool.false_and, Bool.and_false])
               have hs2 : (n2 : Int) ≤ x := by omega
               go_wp2
               go_ret
               exact ⟨zab (by rw [R.out]), BW⟩
           · have HY := Lib.hid (show x2.all (zbp n1 n2 a0) = (x2.drop (k + 1)).all (zbp n1 n2 a0) by rw [HF2.out, HQ.out, List.drop_eq_nil_of_le (by omega)]; rfl)
             clear HQ
             go_wp2_with fail
             go_roundw
             case rel => exact ⟨k + 1, by go_num, by omega, HY, BW⟩
             case measure => simp [intOf]; omega
        · have gb0 : (b0 == 1) = false := by simpa using hb0
          clear hin HI HK
          go_wp2_with fail
          clear q0 q1 q2 q3 e0 e1 e2 e3
          (refine wp_region_quiet_below (by kernel_rfl) (by kernel_rfl) ?_; (repeat (go_big_quiet_step (exact cN _ _))); refine wpQuiet_nil ?_; intro _ hw'; obtain ⟨⟨dq, osq⟩, hw''⟩ := hw'; subst hw'')
          replace qq0 := qq0 dq osq
          replace qq1 := qq1 dq osq
          replace qq2 := qq2 dq osq
          replace qq3 := qq3 dq osq
          replace ee0 := ee0 dq osq
          replace ee1 := ee1 dq osq
          replace ee3 := ee3 dq osq
          replace hryr := hryr dq osq
          have BV := below_regrown wr dq osq
          clear cN
          generalize grow (redrawn wr dq) osq = V at qq0 qq1 qq2 qq3 ee0 ee1 ee3 hryr BV ⊢
          have BW := zaa Bw BV
          go_wp2_with fail
          go_loop [6] (fun i => ∃ q : Nat, i = .int .i64 q ∧ q ≤ y3.length ∧ Hid (y3.all (fun f => decide (f < n2)) = (y3.drop q).all (fun f => decide (f < n2)))) (fun i => y3.length - (intOf i).toNat)
          case atStart => exact ⟨0, rfl, by omega, Lib.hid (by simp)⟩
          case round =>
           obtain ⟨q, rfl, hq, HQ⟩ := hrel
           by_cases hlt2 : q < y3.length
           · obtain ⟨ad, x, rfl, hab, Y, hc⟩ := hryr.at hlt2
             have hdq := Lib.hid (M.drop_at Y.out)
             by_cases hs : x < n2
             · have R := Lib.hid (show y3.all (fun f => decide (f < n2)) = (y3.drop (q + 1)).all (fun f => decide (f < n2)) by rw [HQ.out, hdq.out, List.all_cons, decide_eq_true hs, Bool.true_and])
               have hs2 : ¬ (n2 : Int) ≤ x := by omega
               go_wp2
               go_round
               case rel => exact ⟨q + 1, by go_num, by omega, R⟩
               case measure => simp [intOf]; omega
             · have R := Lib.hid (show za7 (a0, x1, x2, x3) = false by rw [HF.out, HF2.out, HQ.out, hdq.out, List.all_cons, decide_eq_false hs, Bool.false_and, Bool.false_and, Bool.and_false])
               have hs2 : (n2 : Int) ≤ x := by omega
               go_wp2
               go_ret
               exact ⟨zab (by rw [R.out]), BW⟩
           · have HY := Lib.hid (show x2.all (zbp n1 n2 a0) = (x2.drop (k + 1)).all (zbp n1 n2 a0) by rw [HF2.out, HQ.out, List.drop_eq_nil_of_le (by omega)]; rfl)
             clear HQ
             go_wp2_with fail
             go_roundw
             case rel => exact ⟨k + 1, by go_num, by omega, HY, BW⟩
             case measure => simp [intOf]; omega
  · have HA := Lib.hid (show x2.all (zbp n1 n2 a0) = true by rw [H.out, List.drop_eq_nil_of_le (by rw [L2.out]; omega)]; rfl)
    have HF3 := Lib.hid (show za7 (a0, x1, x2, x3) = x3.all (zbc n2) by rw [HF.out, HA.out, Bool.and_true])
    have hx3r := (hx3.below Bw)
    go_wp2_with fail
    clear H hk hlt
    go_loop [7] (fun i => ∃ k : Nat, i = .int .i64 k ∧ k ≤ n3 ∧ Hid (x3.all (zbc n2) = (x3.drop k).all (zbc n2))) (fun i => n3 - (intOf i).toNat)
    case atStart => exact ⟨0, rfl, by omega, Lib.hid (by simp)⟩
    case round =>
     obtain ⟨k, rfl, hk, H⟩ := hrel
     by_cases hlt : k < n3
     · obtain ⟨ad, x, rfl, hab, X, hc⟩ := hx3r.at hlt
       have hd := Lib.hid (M.drop_at X.out)
       cases hs : M.inn x 0 ((n2 : Int) - 1)
       · have R := Lib.hid (show za7 (a0, x1, x2, x3) = false by rw [HF3.out, H.out, hd.out, List.all_cons, zbc, hs]; rfl)
         go_wp2_with (go_at_call 53; refine (zas _ _ _ _).mono ?_; rintro e w' ⟨rfl, rfl⟩)
         go_ret
         exact ⟨zab (by rw [R.out]), Bw⟩
       · have R := Lib.hid (show x3.all (zbc n2) = (x3.drop (k + 1)).all (zbc n2) by rw [H.out, hd.out, List.all_cons, zbc, hs]; rfl)
         go_wp2_with (go_at_call 53; refine (zas _ _ _ _).mono ?_; rintro e w' ⟨rfl, rfl⟩)
         go_round
         case rel => exact ⟨k + 1, by go_num, by omega, R⟩
         case measure => simp [intOf]; omega
     · have R := Lib.hid (show za7 (a0, x1, x2, x3) = true by rw [HF3.out, H.out, List.drop_eq_nil_of_le (by rw [L3.out]; omega)]; rfl)
       go_wp2
       go_ret
       exact ⟨zab (by rw [R.out]), Bw⟩
theorem zl6 (b o : Nat) (a0 : Int) (A1 : Option Addr) (n1 c1 : Nat) (A2 : Option Addr) (n2 c2 : Nat) (A3 : Option Addr) (n3 c3 : Nat) (x1 : List (List Int)) (x2 : List Node) (x3 : List Int) (w : World) (p0 : w.cell? ⟨b, o, none⟩ = some (.int .i64 a0)) (p1 : w.cell? ⟨b, o + 1, none⟩ = some (.slice A1 n1 c1)) (p2 : w.cell? ⟨b, o + 2, none⟩ = some (.slice A2 n2 c2)) (p3 : w.cell? ⟨b, o + 3, none⟩ = some (.slice A3 n3 c3))
 (h1 : tSS.R w w.heap.size [.slice A1 n1 c1] x1) (h2 : tNS.R w w.heap.size [.slice A2 n2 c2] x2) (h3 : tS.R w w.heap.size [.slice A3 n3 c3] x3) (hn : hP.sz ((a0, x1, x2, x3) : zad) ≤ 100000000) :
 Calls Tryz.prog 67 #[.pointer (some ⟨b, o, none⟩)] w fun e w' => e = .returned (.bool (zcw (a0, x1, x2, x3))) ∧ Below w.heap.size w w' := by
 have lx : b < w.heap.size := World.block_lt_of_cell? w _ p0
 have hb2 : hNS.sz x2 ≤ 100000000 := by rw [zc6] at hn; omega
 have r2 := sl_R.1 h2
 cases g0 : za7 (a0, x1, x2, x3)
 · have R := Lib.hid (show zcw (a0, x1, x2, x3) = false by rw [zcw, g0]; rfl)
   have G0 := Lib.hid g0
   clear g0
   go_enter Tryz.func67, Tryz.ntmps67
   go_wp2_with (go_at_call 116; refine (zl5 b o a0 A1 n1 c1 A2 n2 c2 A3 n3 c3 x1 x2 x3 _ p0 p1 p2 p3 h1 h2 h3 hn).mono ?_; rw [G0.out]; rintro e w2 ⟨rfl, bel2⟩)
   go_ret
   exact ⟨zab (by rw [R.out]), bel2⟩
 · have G0 := Lib.hid g0
   have R := Lib.hid (show zcw (a0, x1, x2, x3) = decide ((zal x2).length = x2.length) by rw [zcw, g0]; rfl)
   clear g0
   go_enter Tryz.func67, Tryz.ntmps67
   go_wp2_with (go_at_call 116; refine (zl5 b o a0 A1 n1 c1 A2 n2 c2 A3 n3 c3 x1 x2 x3 _ p0 p1 p2 p3 h1 h2 h3 hn).mono ?_; rw [G0.out]; rintro e w2 ⟨rfl, bel2⟩)
   refine (zl4 b o A2 n2 c2 x2 w2 (by rw [bel2.cell lx]; exact p2) (r2.later bel2) hb2).mono ?_
   rintro e w3 ⟨v, rfl, -, bel3⟩
   go_wp2
   go_ret
   exact ⟨zab (by rw [R.out]), zaa bel2 bel3⟩
theorem zf1 (b o : Nat) (a0 : Int) (A1 : Option Addr) (n1 c1 : Nat) (A2 : Option Addr) (n2 c2 : Nat) (A3 : Option Addr) (n3 c3 : Nat) (x1 : List (List Int)) (x2 : List Node) (x3 : List Int) (w : World) (p0 : w.cell? ⟨b, o, none⟩ = some (.int .i64 a0)) (p1 : w.cell? ⟨b, o + 1, none⟩ = some (.slice A1 n1 c1)) (p2 : w.cell? ⟨b, o + 2, none⟩ = some (.slice A2 n2 c2)) (p3 : w.cell? ⟨b, o + 3, none⟩ = some (.slice A3 n3 c3))
 (L1 : Hid (x1.length = n1)) (L2 : Hid (x2.length = n2)) (L3 : Hid (x3.length = n3)) :
 Calls Tryz.prog 66 #[.pointer (some ⟨b, o, none⟩)] w fun e w' => e = .returned (.bool (decide (((a0, x1, x2, x3) : zad) = M.p0))) ∧ w = w' := by
 have R0 := Lib.hid (show decide (((a0, x1, x2, x3) : zad) = M.p0) = (decide (a0 = 0) && decide (n1 = 0) && decide (n2 = 0) && decide (n3 = 0)) by
  rw [Bool.eq_iff_iff, M.p0, ← L1.out, ← L2.out, ← L3.out]
  simp only [decide_eq_true_eq, Prod.mk.injEq, Bool.and_eq_true, List.length_eq_zero_iff, and_assoc])
 rw [R0.out]
 by_cases k0 : a0 = 0
 · subst k0
   by_cases k1 : n1 = 0
   · subst k1
     by_cases k2 : n2 = 0
     · subst k2
       by_cases k3 : n3 = 0
       · subst k3
         go_enter Tryz.func66, Tryz.ntmps66
         go_wp2
         go_ret
         exact ⟨rfl, rfl⟩
       · have g3 : ((n3 : Int) == 0) = false := by simpa using k3
         go_enter Tryz.func66, Tryz.ntmps66
         go_wp2
         go_ret
         exact ⟨zab (by simp [k3]), rfl⟩
     · have g2 : ((n2 : Int) == 0) = false := by simpa using k2
       go_enter Tryz.func66, Tryz.ntmps66
       go_wp2
       go_ret
       exact ⟨zab (by simp [k2]), rfl⟩
   · have g1 : ((n1 : Int) == 0) = false := by simpa using k1
     go_enter Tryz.func66, Tryz.ntmps66
     go_wp2
     go_ret
     exact ⟨zab (by simp [k1]), rfl⟩
 · have g0 : (a0 == 0) = false := by simpa using k0
   go_enter Tryz.func66, Tryz.ntmps66
   go_wp2
   go_ret
   exact ⟨zab (by simp [k0]), rfl⟩
theorem zrg (xs : List Clip) (m : Int) (h : xs.all (fun c => M.inn c.1 0 (m - 1)) = true) : zbb xs m = true := by
 rw [List.all_eq_true] at h
 rw [zbb, List.all_eq_true]
 intro x hx
 have := zby.1 (h x hx)
 simp
 omega
theorem zrh (xs : List Clip) (m : Int) {k : Nat} {x : Clip} (hx : xs[k]? = some x) (h : M.inn x.1 0 (m - 1) = false) : (za4 xs && zbb xs m) = false := by
 rw [Bool.and_eq_false_iff]
 rcases Classical.em (x.1 < m) with h1 | h1
 · left
   cases ht : za4 xs
   · rfl
   · have := (zii (zih ht hx)).1
     rw [zby.2 (by omega)] at h
     cases h
 · right
   rw [zbb, List.all_eq_false]
   exact ⟨x, List.mem_of_getElem? hx, by simpa using h1⟩
theorem zri (b o : Nat) (A : Option Addr) (n c : Nat) (xs : List Clip) (m : Int) (w : World) (p0 : w.cell? ⟨b, o, none⟩ = some (.slice A n c)) (hx : RA cl 5 w w.heap.size A n xs) (hn : n ≤ 1000000000) (hm : 0 ≤ m ∧ m ≤ 1000000000) :
 Calls Tryz.prog 65 #[.pointer (some ⟨b, o, none⟩), .int .i64 m] w fun e w' => e = .returned (.bool (za4 xs && zbb xs m)) ∧ Below w.heap.size w w' := by
 have hl := Lib.hid hx.len
 go_enter Tryz.func65, Tryz.ntmps65
 go_wp2
 go_loop [5] (fun i => ∃ k : Nat, i = .int .i64 k ∧ k ≤ n ∧ Hid (xs.all (fun c => M.inn c.1 0 (m - 1)) = (xs.drop k).all (fun c => M.inn c.1 0 (m - 1)))) (fun i => n - (intOf i).toNat)
 case atStart => exact ⟨0, rfl, by omega, Lib.hid (by simp)⟩
 case round =>
  obtain ⟨k, rfl, hk, H⟩ := hrel
  by_cases hlt : k < n
  · obtain ⟨bb, o1, ⟨d0, d1, d2, d3, d4⟩, rfl, hab, X, hc⟩ := hx.at zeg (by decide) hlt
    have e0 : w.cell? ⟨bb, o1 + k * 5, none⟩ = some (.int .i64 d0) := hc 0 _ rfl
    clear hc
    have hd := Lib.hid (M.drop_at X.out)
    cases hs : M.inn d0 0 (m - 1)
    · have R := Lib.hid (zrh xs m X.out hs)
      go_wp2_with (go_at_call 53; refine (zas _ _ _ _).mono ?_; rintro e w' ⟨rfl, rfl⟩)
      go_ret
      exact ⟨zab (by rw [R.out]), Below.refl _ _⟩
    · have R := Lib.hid (show xs.all (fun c => M.inn c.1 0 (m - 1)) = (xs.drop (k + 1)).all (fun c => M.inn c.1 0 (m - 1)) by rw [H.out, hd.out, List.all_cons]; simp only [hs, Bool.true_and])
      go_wp2_with (go_at_call 53; refine (zas _ _ _ _).mono ?_; rintro e w' ⟨rfl, rfl⟩)
      go_round
      case rel => exact ⟨k + 1, by go_num, by omega, R⟩
      case measure => simp [intOf]; omega
  · have HS := Lib.hid (zrg xs m (by rw [H.out, List.drop_eq_nil_of_le (by rw [hl.out]; omega)]; rfl))
    clear H
    go_wp2_with (go_at_call 115; refine (zre _ _ _ _ _ hx hn).mono ?_; rintro e w2 ⟨rfl, bel2⟩)
    go_ret
    exact ⟨zab (by rw [HS.out, Bool.and_true]), bel2⟩
end
section
open Go.RowKit Go.Sort
set_option synthInstance.maxSize 2000
set_option synthInstance.maxHeartbeats 400000
theorem ze4 (A : Option Addr) (n c : Nat) (xs : List Int) (m : Int) (w : World) (hx : RI w w.heap.size A n xs) (hn : n ≤ 1000000000000) (hm : 0 ≤ m ∧ m ≤ 1000000000) :
 Calls Tryz.prog 76 #[.slice A n c, .int .i64 m] w fun e w' => e = .returned (.bool (xs.all (zbc m))) ∧ w = w' := by
 go_enter Tryz.func76, Tryz.ntmps76
 go_wp2
 go_loop [6, 9] (fun _ i => ∃ k : Nat, i = .int .i64 k ∧ k ≤ n ∧ Hid (xs.all (zbc m) = (xs.drop k).all (zbc m))) (fun _ i => n - (intOf i).toNat)
 case atStart => exact ⟨0, rfl, by omega, Lib.hid (by simp)⟩
 case round =>
  obtain ⟨k, rfl, hk, H⟩ := hrel
  have hl := Lib.hid hx.len
  by_cases hlt : k < n
  · obtain ⟨ad, x, rfl, hab, X, hc⟩ := hx.at hlt
    have hd := Lib.hid (M.drop_at X.out)
    cases hs : M.inn x 0 (m - 1)
    · have R := Lib.hid (show xs.all (zbc m) = false by rw [H.out, hd.out, List.all_cons, zbc, hs]; rfl)
      go_wp2_with (go_at_call 73; refine (zat _ _ _ _).mono ?_; rintro e w' ⟨rfl, rfl⟩)
      go_ret
      exact ⟨zab (by rw [R.out]), rfl⟩
    · have R := Lib.hid (show xs.all (zbc m) = (xs.drop (k + 1)).all (zbc m) by rw [H.out, hd.out, List.all_cons, zbc, hs]; rfl)
      go_wp2_with (go_at_call 73; refine (zat _ _ _ _).mono ?_; rintro e w' ⟨rfl, rfl⟩)
      go_round
      case rel => exact ⟨k + 1, by go_num, by omega, R⟩
      case measure => simp [intOf]; omega
  · have R := Lib.hid (show xs.all (zbc m) = true by rw [H.out, List.drop_eq_nil_of_le (by rw [hl.out]; omega)]; rfl)
    go_wp2
    go_ret
    exact ⟨zab (by rw [R.out]), rfl⟩
theorem zgr (A : Option Addr) (n c : Nat) (ts : List (List Int)) (w : World) (hx : RS tS w w.heap.size (.slice A n c) ts) (hb : Hid (∀ x ∈ ts, x.length ≤ 1000000000)) (hn : n ≤ 1000000000) :
 Calls Tryz.prog 189 #[.slice A n c] w fun e w' => e = .returned (.bool (zb4 ts)) ∧ w = w' := by
 have hl := Lib.hid hx.cap.1
 go_enter Tryz.func189, Tryz.ntmps189
 go_wp2
 go_loop [4, 5, 8] (fun _ _ i => ∃ k : Nat, i = .int .i64 k ∧ k ≤ n ∧ Hid (ts.all zc1 = (ts.drop k).all zc1)) (fun _ _ i => n - (intOf i).toNat)
 case atStart => exact ⟨0, rfl, by omega, Lib.hid (by simp)⟩
 case round =>
  obtain ⟨k, rfl, hk, H⟩ := hrel
  by_cases hlt : k < n
  · obtain ⟨bb, o, A1, c1, x, rfl, hbb, X, hc, hri, hxl⟩ := zdr hx hb hlt
    have hd := Lib.hid (M.drop_at X.out)
    cases hs : (decide (x.length = 2) || decide (x.length = 4) || decide (x.length = 8) || decide (x.length = 16))
    · have R := Lib.hid (show zb4 ts = false by rw [zb4, H.out, hd.out, List.all_cons, zc1, hs]; rfl)
      have h2 : ¬ x.length = 2 := fun e => by simp [e] at hs
      have h4 : ¬ x.length = 4 := fun e => by simp [e] at hs
      have h8 : ¬ x.length = 8 := fun e => by simp [e] at hs
      have h16 : ¬ x.length = 16 := fun e => by simp [e] at hs
      have g2 : ((x.length : Int) != 2) = true := by simp; omega
      have g4 : ((x.length : Int) != 4) = true := by simp; omega
      have g8 : ((x.length : Int) != 8) = true := by simp; omega
      have g16 : ((x.length : Int) != 16) = true := by simp; omega
      clear hs h2 h4 h8 h16
      go_wp2
      go_ret
      exact ⟨zab (by rw [R.out]), rfl⟩
    · have HS := Lib.hid hs
      cases hq : x.all M.smp
      · have R := Lib.hid (show zb4 ts = false by rw [zb4, H.out, hd.out, List.all_cons, zc1, hq, Bool.and_false]; rfl)
        have hor : x.length = 2 ∨ x.length = 4 ∨ x.length = 8 ∨ x.length = 16 := by simp at hs; omega
        have HQ := Lib.hid hq
        clear hs hq
        rcases hor with e | e | e | e
        all_goals
         rw [e] at hc hri
         go_wp2_with (go_at_call 188; refine (zib _ _ _ _ _ hri (by omega)).mono ?_; rw [HQ.out]; rintro e w' ⟨rfl, rfl⟩)
         go_ret
         exact ⟨zab (by rw [R.out]), rfl⟩
      · have R := Lib.hid (show ts.all zc1 = (ts.drop (k + 1)).all zc1 by rw [H.out, hd.out, List.all_cons, zc1, hs, hq]; rfl)
        have hor : x.length = 2 ∨ x.length = 4 ∨ x.length = 8 ∨ x.length = 16 := by simp at hs; omega
        have HQ := Lib.hid hq
        clear hs hq
        rcases hor with e | e | e | e
        all_goals
         rw [e] at hc hri
         go_wp2_with (go_at_call 188; refine (zib _ _ _ _ _ hri (by omega)).mono ?_; rw [HQ.out]; rintro e w' ⟨rfl, rfl⟩)
         go_round
         case rel => exact ⟨k + 1, by go_num, by omega, R⟩
         case measure => simp [intOf]; omega
  · have R := Lib.hid (show zb4 ts = decide (n ≤ 4) by rw [zb4, H.out, List.drop_eq_nil_of_le (by rw [hl.out]; omega), hl.out]; rfl)
    go_wp2
    go_ret
    exact ⟨zab (by rw [R.out, Bool.eq_iff_iff]; simp; try omega), rfl⟩
def M.kn (j : Nat) : ByteArray := [⟨#[105, 110, 112, 117, 116]⟩, ⟨#[99, 111, 110, 115, 116]⟩, ⟨#[97, 100, 100]⟩, ⟨#[115, 117, 98]⟩, ⟨#[103, 97, 105, 110]⟩, ⟨#[100, 101, 108, 97, 121]⟩, ⟨#[115, 117, 109]⟩, ⟨#[100, 105, 102, 102]⟩, ⟨#[109, 117, 108]⟩, ⟨#[115, 104, 105, 102, 116]⟩, ⟨#[99, 108, 105, 112]⟩, ⟨#[112, 104, 97, 115, 101]⟩, ⟨#[116, 97, 98, 108, 101]⟩, ⟨#[110, 111, 105, 115, 101]⟩, ⟨#[115, 101, 108, 101, 99, 116]⟩, ⟨#[104, 111, 108, 100]⟩, ⟨#[99, 111, 109, 98]⟩].getD j ⟨#[]⟩
def zrj (w : World) (g : Nat) : Prop := ∀ j, j < 17 → w.cell? ⟨g, j * 6, none⟩ = some (.string (M.kn j)) ∧ w.cell? ⟨g, j * 6 + 1, none⟩ = some (.int .i64 (M.kd j).1) ∧ w.cell? ⟨g, j * 6 + 2, none⟩ = some (.int .i64 (M.kd j).2.1) ∧ w.cell? ⟨g, j * 6 + 3, none⟩ = some (.int .i64 (M.kd j).2.2.1) ∧ w.cell? ⟨g, j * 6 + 4, none⟩ = some (.bool (M.kd j).2.2.2.1) ∧ w.cell? ⟨g, j * 6 + 5, none⟩ = some (.bool (M.kd j).2.2.2.2)
theorem zl7 (w : World) :
 Calls Tryz.prog 203 #[] w fun e w' => ∃ g, e = .returned (.slice (some ⟨g, 0, none⟩) 17 17) ∧ w.heap.size ≤ g ∧ g < w'.heap.size ∧ zrj w' g ∧ Below w.heap.size w w' := by
 go_enter Tryz.func203, Tryz.ntmps203
 go_wp2
 go_ret
 refine ⟨_, rfl, Nat.le_refl _, by simp, ?_, (Below.refl _ _).alloc (Nat.le_refl _) _⟩
 intro j hj
 obtain rfl | rfl | rfl | rfl | rfl | rfl | rfl | rfl | rfl | rfl | rfl | rfl | rfl | rfl | rfl | rfl | rfl : j = 0 ∨ j = 1 ∨ j = 2 ∨ j = 3 ∨ j = 4 ∨ j = 5 ∨ j = 6 ∨ j = 7 ∨ j = 8 ∨ j = 9 ∨ j = 10 ∨ j = 11 ∨ j = 12 ∨ j = 13 ∨ j = 14 ∨ j = 15 ∨ j = 16 := by omega
 all_goals
  refine ⟨?_, ?_, ?_, ?_, ?_, ?_⟩
  all_goals (rw [cell_of_row _ w.heap.size _ _ 231 (0, 0) (heap_alloc_new w _)]; rfl)
theorem zl8 (k : Int) (w : World) : Calls Tryz.prog 202 #[.int .i64 k] w fun e w' => e = .returned (.bool (M.inn k 1 17)) ∧ w = w' := by
 go_enter Tryz.func202, Tryz.ntmps202
 go_wp2_with (go_at_call 73; refine (zat _ _ _ _).mono ?_; rintro e w' ⟨rfl, rfl⟩)
 go_ret
 exact ⟨rfl, rfl⟩
theorem zel (s : ByteArray) (i lo hi : Int) (l b : Bool) (w : World) : Calls Tryz.prog 204 #[.agg #[.string s, .int .i64 i, .int .i64 lo, .int .i64 hi, .bool l, .bool b]] w fun e w' => e = .returned (.bool (decide (lo ≤ hi))) ∧ Below w.heap.size w w' := by
 have B0 : Below w.heap.size w (w.alloc (.cells #[.string s, .int .i64 i, .int .i64 lo, .int .i64 hi, .bool l, .bool b] 231)) := (Below.refl _ _).alloc (Nat.le_refl _) _
 go_enter Tryz.func204, Tryz.ntmps204
 go_wp2
 go_ret
 exact ⟨rfl, B0⟩
end
section
open Go.RowKit Go.Sort
theorem zrk (a0 a1 a2 : Int) (A : Option Addr) (n c : Nat) (xs : List Int) (tb : Int) (w : World) (hx : RI w w.heap.size A n xs) (hn : n ≤ 1000000000) :
 Calls Tryz.prog 190 #[.agg #[.int .i64 a0, .int .i64 a1, .int .i64 a2, .slice A n c], .int .i64 tb] w fun e w' => e = .returned (.bool (zai (a0, a1, a2, xs) tb)) ∧ Below w.heap.size w w' := by
 obtain ⟨W, hW⟩ : ∃ W, W = w.alloc (.cells #[.int .i64 a0, .int .i64 a1, .int .i64 a2, .slice A n c] 171) := ⟨_, rfl⟩
 have B0 : Below w.heap.size w W := by rw [hW]; exact (Below.refl _ _).alloc (Nat.le_refl _) _
 have p0 : W.cell? ⟨w.heap.size, 0, none⟩ = some (.int .i64 a0) := by rw [hW]; simp [go_sem]
 have p1 : W.cell? ⟨w.heap.size, 1, none⟩ = some (.int .i64 a1) := by rw [hW]; simp [go_sem]
 have p2 : W.cell? ⟨w.heap.size, 2, none⟩ = some (.int .i64 a2) := by rw [hW]; simp [go_sem]
 have p3 : W.cell? ⟨w.heap.size, 3, none⟩ = some (.slice A n c) := by rw [hW]; simp [go_sem]
 have lx : w.heap.size < W.heap.size := by rw [hW]; simp
 have hx1 := hx.later B0
 have HW := Lib.hid hW
 have hlen := Lib.hid hx.len
 clear hW hx
 cases h : M.inn a0 1 17
 · have R := Lib.hid (show zai (a0, a1, a2, xs) tb = false by rw [zai, h]; rfl)
   go_enter Tryz.func190, Tryz.ntmps190
   go_wp2_with fail
   rw [← HW.out]
   go_wp2_with (go_at_call 202; refine (zl8 _ _).mono ?_; rintro e w' ⟨rfl, rfl⟩)
   go_ret
   exact ⟨zab (by rw [R.out]), B0⟩
 · have hr := zby.1 h
   obtain ⟨j, hj⟩ : ∃ j : Nat, j = a0.toNat - 1 := ⟨_, rfl⟩
   have hj17 : j < 17 := by omega
   have hja : IntKind.i64.wrap (a0 - 1) = (j : Int) := by rw [IntWalk.i64_in _ (by omega)]; omega
   have hj0 : (0 : Int) ≤ (j : Int) := by omega
   have hj1 : (j : Int) < 17 := by omega
   obtain ⟨⟨ki, lo, hi, li, hb⟩, hk⟩ : ∃ q, q = M.kd j := ⟨_, rfl⟩
   have HK := Lib.hid hk
   have HI := Lib.hid h
   have HN := Lib.hid (show zai (a0, a1, a2, xs) tb = (M.aI (ki, lo, hi, li, hb) a1 && M.bI (ki, lo, hi, li, hb) a2 && xs.all zax && decide ((xs.length : Int) = ki) && (decide (¬ a0 = 13) || decide (a1 < tb))) by rw [zai]; simp only [h, Bool.true_and]; rw [← hj, ← hk])
   clear hj hk h hr
   have Da : Below W.heap.size W W.drew := zac (Below.refl _ _) 1
   have Db : Below W.heap.size W (W.alloc (.cells #[.string ⟨#[]⟩, .int .i64 0, .int .i64 0, .int .i64 0, .bool false, .bool false] 231)).drew := zac ((Below.refl _ _).alloc (Nat.le_refl _) _) 1
   have sb : (W.alloc (.cells #[.string ⟨#[]⟩, .int .i64 0, .int .i64 0, .int .i64 0, .bool false, .bool false] 231)).drew.heap.size = W.heap.size + 1 := by simp
   have sa : W.drew.heap.size = W.heap.size := rfl
   go_enter Tryz.func190, Tryz.ntmps190
   go_wp2_with fail
   rw [← HW.out]
   go_wp2_with (go_at_call 202; refine (zl8 _ _).mono ?_; rw [HI.out]; rintro e w' ⟨rfl, rfl⟩)
   go_cut [5] (fun q5 wx => ∃ g, q5 = .pointer (some ⟨g, 0, none⟩) ∧ W.heap.size ≤ g ∧ g < wx.heap.size ∧ wx.cell? ⟨g, 0, none⟩ = some (.string (M.kn j)) ∧ wx.cell? ⟨g, 1, none⟩ = some (.int .i64 ki) ∧ wx.cell? ⟨g, 2, none⟩ = some (.int .i64 lo) ∧ wx.cell? ⟨g, 3, none⟩ = some (.int .i64 hi) ∧ wx.cell? ⟨g, 4, none⟩ = some (.bool li) ∧ wx.cell? ⟨g, 5, none⟩ = some (.bool hb) ∧ Below W.heap.size W wx)
   case first =>
    go_region_with (first | (go_at_call 203; refine (zl7 _).mono ?_; rintro e w2 ⟨g, rfl, hg0, hg1, KC, bel2⟩; obtain ⟨k0, k1, k2, k3, k4, k5⟩ := KC j hj17; rw [← HK.out] at k1 k2 k3 k4 k5; simp only at k1 k2 k3 k4 k5; have G2 : Below W.heap.size W w2 := zaa Db bel2; have q0 : w2.cell? ⟨w.heap.size, 0, none⟩ = some (.int .i64 a0) := (by rw [G2.cell lx]; exact p0); have hs2 := bel2.size; have lw2 : w.heap.size < w2.heap.size := (by have := G2.size; omega); have bz0 : w2.cell? ⟨W.heap.size, 0, none⟩ = some (.string ⟨#[]⟩) := (by rw [bel2.cell (by simp)]; simp [go_sem]); have by0 : w2.frozen? ⟨W.heap.size, 0, none⟩ = false := (by rw [bel2.frozen (by simp)]; simp [go_sem]); have bz1 : w2.cell? ⟨W.heap.size, 1, none⟩ = some (.int .i64 0) := (by rw [bel2.cell (by simp)]; simp [go_sem]); have by1 : w2.frozen? ⟨W.heap.size, 1, none⟩ = false := (by rw [bel2.frozen (by simp)]; simp [go_sem]); have bz2 : w2.cell? ⟨W.heap.size, 2, none⟩ = some (.int .i64 0) := (by rw [bel2.cell (by simp)]; simp [go_sem]); have by2 : w2.frozen? ⟨W.heap.size, 2, none⟩ = false := (by rw [bel2.frozen (by simp)]; simp [go_sem]); have bz3 : w2.cell? ⟨W.heap.size, 3, none⟩ = some (.int .i64 0) := (by rw [bel2.cell (by simp)]; simp [go_sem]); have by3 : w2.frozen? ⟨W.heap.size, 3, none⟩ = false := (by rw [bel2.frozen (by simp)]; simp [go_sem]); have bz4 : w2.cell? ⟨W.heap.size, 4, none⟩ = some (.bool false) := (by rw [bel2.cell (by simp)]; simp [go_sem]); have by4 : w2.frozen? ⟨W.heap.size, 4, none⟩ = false := (by rw [bel2.frozen (by simp)]; simp [go_sem]); have bz5 : w2.cell? ⟨W.heap.size, 5, none⟩ = some (.bool false) := (by rw [bel2.cell (by simp)]; simp [go_sem]); have by5 : w2.frozen? ⟨W.heap.size, 5, none⟩ = false := (by rw [bel2.frozen (by simp)]; simp [go_sem]); have lb2 : W.heap.size < w2.heap.size := (by rw [sb] at hs2; omega); have nb2 : ¬ g = W.heap.size := (by rw [sb] at hg0; omega)) | (go_at_call 203; refine (zl7 _).mono ?_; rintro e w2 ⟨g, rfl, hg0, hg1, KC, bel2⟩; obtain ⟨k0, k1, k2, k3, k4, k5⟩ := KC j hj17; rw [← HK.out] at k1 k2 k3 k4 k5; simp only at k1 k2 k3 k4 k5; have G2 : Below W.heap.size W w2 := zaa Da bel2; have q0 : w2.cell? ⟨w.heap.size, 0, none⟩ = some (.int .i64 a0) := (by rw [G2.cell lx]; exact p0); have hs2 := bel2.size; have lw2 : w.heap.size < w2.heap.size := (by have := G2.size; omega)))
    all_goals
     go_wp2_with fail
     go_meet
     refine ⟨_, rfl, ?_⟩
     first
      | (have _t := nb2; refine ⟨Nat.le_refl _, by simp; omega, ?_, ?_, ?_, ?_, ?_, ?_, (((((G2.setCell (Nat.le_refl _) _).setCell (Nat.le_refl _) _).setCell (Nat.le_refl _) _).setCell (Nat.le_refl _) _).setCell (Nat.le_refl _) _).setCell (Nat.le_refl _) _⟩ <;> (simp [go_sem, bz0, bz1, bz2, bz3, bz4, bz5]; done))
      | (refine ⟨by have := G2.size; omega, by simp, ?_, ?_, ?_, ?_, ?_, ?_, G2.alloc G2.size _⟩ <;> (simp [go_sem]; done))
   case rest =>
    have hcut_ := hcut
    clear hcut Da Db sa sb
    obtain ⟨U, rfl⟩ : ∃ u_ : World, u_ = wc := ⟨_, rfl⟩
    obtain ⟨g, rfl, hg, lg, e0, e1, e2, e3, e4, e5, G⟩ := hcut_
    clear HW
    have lw : w.heap.size < U.heap.size := by have := G.size; omega
    replace p0 : U.cell? ⟨w.heap.size, 0, none⟩ = some (.int .i64 a0) := by rw [G.cell lx]; exact p0
    replace p1 : U.cell? ⟨w.heap.size, 1, none⟩ = some (.int .i64 a1) := by rw [G.cell lx]; exact p1
    replace p2 : U.cell? ⟨w.heap.size, 2, none⟩ = some (.int .i64 a2) := by rw [G.cell lx]; exact p2
    replace p3 : U.cell? ⟨w.heap.size, 3, none⟩ = some (.slice A n c) := by rw [G.cell lx]; exact p3
    replace hx1 := hx1.later G
    by_cases hle : lo ≤ hi
    · have HL := Lib.hid (decide_eq_true hle)
      cases h1 : M.inn a1 lo hi
      · have HA := Lib.hid (show M.aI (ki, lo, hi, li, hb) a1 = false by rw [M.aI, if_pos hle, h1])
        have R := Lib.hid (show zai (a0, a1, a2, xs) tb = false by rw [HN.out, HA.out]; try rfl)
        go_wp2_with (first | (go_at_call 204; refine (zel _ _ _ _ _ _ _).mono ?_; rw [HL.out]; rintro e v5 ⟨rfl, bel5⟩; have s5 := bel5.size; replace e0 : v5.cell? ⟨g, 0, none⟩ = some (.string (M.kn j)) := (by rw [bel5.cell lg]; exact e0); replace e1 : v5.cell? ⟨g, 1, none⟩ = some (.int .i64 ki) := (by rw [bel5.cell lg]; exact e1); replace e2 : v5.cell? ⟨g, 2, none⟩ = some (.int .i64 lo) := (by rw [bel5.cell lg]; exact e2); replace e3 : v5.cell? ⟨g, 3, none⟩ = some (.int .i64 hi) := (by rw [bel5.cell lg]; exact e3); replace e4 : v5.cell? ⟨g, 4, none⟩ = some (.bool li) := (by rw [bel5.cell lg]; exact e4); replace e5 : v5.cell? ⟨g, 5, none⟩ = some (.bool hb) := (by rw [bel5.cell lg]; exact e5); replace p0 : v5.cell? ⟨w.heap.size, 0, none⟩ = some (.int .i64 a0) := (by rw [bel5.cell lw]; exact p0); replace p1 : v5.cell? ⟨w.heap.size, 1, none⟩ = some (.int .i64 a1) := (by rw [bel5.cell lw]; exact p1); replace p2 : v5.cell? ⟨w.heap.size, 2, none⟩ = some (.int .i64 a2) := (by rw [bel5.cell lw]; exact p2); replace p3 : v5.cell? ⟨w.heap.size, 3, none⟩ = some (.slice A n c) := (by rw [bel5.cell lw]; exact p3); replace hx1 := hx1.later bel5; replace lg : g < v5.heap.size := (by omega); replace lw : w.heap.size < v5.heap.size := (by omega); replace G := zaa G bel5; clear bel5 s5) | (go_at_call 73; refine (zat _ _ _ _).mono ?_; rintro e w' ⟨rfl, rfl⟩))
        go_ret
        exact ⟨zab (by rw [R.out]), zaa B0 G⟩
      · have HA := Lib.hid (fun hb => show M.aI (ki, lo, hi, li, hb) a1 = true by rw [M.aI, if_pos hle, h1])
        cases hb
        · by_cases h2 : a2 = 0
          · have HB := Lib.hid (show M.bI (ki, lo, hi, li, false) a2 = true by rw [M.bI, if_neg (by simp)]; simpa using h2)
            have g2 : (a2 != 0) = false := by simp [h2]
            have HM := Lib.hid (show zai (a0, a1, a2, xs) tb = (xs.all zax && decide ((xs.length : Int) = ki) && (decide (¬ a0 = 13) || decide (a1 < tb))) by rw [HN.out, (HA.out _), HB.out]; rfl)
            go_wp2_with (first | (go_at_call 204; refine (zel _ _ _ _ _ _ _).mono ?_; rw [HL.out]; rintro e v5 ⟨rfl, bel5⟩; have s5 := bel5.size; replace e0 : v5.cell? ⟨g, 0, none⟩ = some (.string (M.kn j)) := (by rw [bel5.cell lg]; exact e0); replace e1 : v5.cell? ⟨g, 1, none⟩ = some (.int .i64 ki) := (by rw [bel5.cell lg]; exact e1); replace e2 : v5.cell? ⟨g, 2, none⟩ = some (.int .i64 lo) := (by rw [bel5.cell lg]; exact e2); replace e3 : v5.cell? ⟨g, 3, none⟩ = some (.int .i64 hi) := (by rw [bel5.cell lg]; exact e3); replace e4 : v5.cell? ⟨g, 4, none⟩ = some (.bool li) := (by rw [bel5.cell lg]; exact e4); replace e5 : v5.cell? ⟨g, 5, none⟩ = some (.bool false) := (by rw [bel5.cell lg]; exact e5); replace p0 : v5.cell? ⟨w.heap.size, 0, none⟩ = some (.int .i64 a0) := (by rw [bel5.cell lw]; exact p0); replace p1 : v5.cell? ⟨w.heap.size, 1, none⟩ = some (.int .i64 a1) := (by rw [bel5.cell lw]; exact p1); replace p2 : v5.cell? ⟨w.heap.size, 2, none⟩ = some (.int .i64 a2) := (by rw [bel5.cell lw]; exact p2); replace p3 : v5.cell? ⟨w.heap.size, 3, none⟩ = some (.slice A n c) := (by rw [bel5.cell lw]; exact p3); replace hx1 := hx1.later bel5; replace lg : g < v5.heap.size := (by omega); replace lw : w.heap.size < v5.heap.size := (by omega); replace G := zaa G bel5; clear bel5 s5) | (go_at_call 73; refine (zat _ _ _ _).mono ?_; rintro e w' ⟨rfl, rfl⟩))
            skip
            go_loop [7, 63] (fun _ i => ∃ k : Nat, i = .int .i64 k ∧ k ≤ n ∧ Hid (xs.all zax = (xs.drop k).all zax)) (fun _ i => n - (intOf i).toNat)
            case atStart => exact ⟨0, rfl, by omega, Lib.hid (by simp)⟩
            case round =>
             obtain ⟨k, rfl, hk, H⟩ := hrel
             by_cases hlt : k < n
             · obtain ⟨ad, x, rfl, hab, X, hc⟩ := hx1.at hlt
               have hd := Lib.hid (M.drop_at X.out)
               cases hs : M.inn x 0 23
               · have R := Lib.hid (show zai (a0, a1, a2, xs) tb = false by rw [HM.out, H.out, hd.out, List.all_cons, zax, hs]; rfl)
                 go_wp2_with (go_at_call 73; refine (zat _ _ _ _).mono ?_; rintro e w' ⟨rfl, rfl⟩)
                 go_ret
                 exact ⟨zab (by rw [R.out]), zaa B0 G⟩
               · have R := Lib.hid (show xs.all zax = (xs.drop (k + 1)).all zax by rw [H.out, hd.out, List.all_cons, zax, hs]; rfl)
                 go_wp2_with (go_at_call 73; refine (zat _ _ _ _).mono ?_; rintro e w' ⟨rfl, rfl⟩)
                 go_round
                 case rel => exact ⟨k + 1, by go_num, by omega, R⟩
                 case measure => simp [intOf]; omega
             · have HF := Lib.hid (show xs.all zax = true by rw [H.out, List.drop_eq_nil_of_le (by rw [hlen.out]; omega)]; rfl)
               clear H
               by_cases c1 : (n : Int) = ki
               · by_cases c2 : a0 = 13
                 · have d1 : decide ((n : Int) = ki) = true := by simpa using c1
                   have d2 : (a0 != 13) = false := by simp [c2]
                   by_cases c3 : a1 < tb
                   · have R := Lib.hid (show zai (a0, a1, a2, xs) tb = true by rw [HM.out, HF.out, hlen.out, c1, c2]; simpa using c3)
                     skip
                     go_wp2_with fail
                     go_quiet (first | (refine zaz (zbt _ _ _ _)))
                     go_wp2
                     go_ret
                     exact ⟨zab (by rw [R.out]; try (simp; omega)), zaa B0 (zac G _)⟩
                   · have R := Lib.hid (show zai (a0, a1, a2, xs) tb = false by rw [HM.out, HF.out, hlen.out, c1, c2]; simpa using c3)
                     skip
                     go_wp2_with fail
                     go_quiet (first | (refine zaz (zbt _ _ _ _)))
                     go_wp2
                     go_ret
                     exact ⟨zab (by rw [R.out]; try (simp; omega)), zaa B0 (zac G _)⟩
                 · have R := Lib.hid (show zai (a0, a1, a2, xs) tb = true by rw [HM.out, HF.out, hlen.out, c1]; simp [c2])
                   have d2 : (a0 != 13) = true := by simpa using c2
                   skip
                   go_wp2_with fail
                   go_quiet (first | (refine zaz (zbt _ _ _ _)))
                   go_wp2
                   go_ret
                   exact ⟨zab (by rw [R.out]; try (simp; omega)), zaa B0 (zac G _)⟩
               · have R := Lib.hid (show zai (a0, a1, a2, xs) tb = false by rw [HM.out, HF.out, hlen.out]; simp [c1])
                 have d1 : ((n : Int) == ki) = false := by simpa using c1
                 skip
                 go_wp2_with fail
                 go_quiet (first | (refine zaz (zbt _ _ _ _)))
                 go_wp2
                 go_ret
                 exact ⟨zab (by rw [R.out]; try (simp; omega)), zaa B0 (zac G _)⟩
          · have HB := Lib.hid (show M.bI (ki, lo, hi, li, false) a2 = false by rw [M.bI, if_neg (by simp)]; simpa using h2)
            have g2 : (a2 != 0) = true := by simpa using h2
            have R := Lib.hid (show zai (a0, a1, a2, xs) tb = false by rw [HN.out, (HA.out _), HB.out]; try rfl)
            go_wp2_with (first | (go_at_call 204; refine (zel _ _ _ _ _ _ _).mono ?_; rw [HL.out]; rintro e v5 ⟨rfl, bel5⟩; have s5 := bel5.size; replace e0 : v5.cell? ⟨g, 0, none⟩ = some (.string (M.kn j)) := (by rw [bel5.cell lg]; exact e0); replace e1 : v5.cell? ⟨g, 1, none⟩ = some (.int .i64 ki) := (by rw [bel5.cell lg]; exact e1); replace e2 : v5.cell? ⟨g, 2, none⟩ = some (.int .i64 lo) := (by rw [bel5.cell lg]; exact e2); replace e3 : v5.cell? ⟨g, 3, none⟩ = some (.int .i64 hi) := (by rw [bel5.cell lg]; exact e3); replace e4 : v5.cell? ⟨g, 4, none⟩ = some (.bool li) := (by rw [bel5.cell lg]; exact e4); replace e5 : v5.cell? ⟨g, 5, none⟩ = some (.bool false) := (by rw [bel5.cell lg]; exact e5); replace p0 : v5.cell? ⟨w.heap.size, 0, none⟩ = some (.int .i64 a0) := (by rw [bel5.cell lw]; exact p0); replace p1 : v5.cell? ⟨w.heap.size, 1, none⟩ = some (.int .i64 a1) := (by rw [bel5.cell lw]; exact p1); replace p2 : v5.cell? ⟨w.heap.size, 2, none⟩ = some (.int .i64 a2) := (by rw [bel5.cell lw]; exact p2); replace p3 : v5.cell? ⟨w.heap.size, 3, none⟩ = some (.slice A n c) := (by rw [bel5.cell lw]; exact p3); replace hx1 := hx1.later bel5; replace lg : g < v5.heap.size := (by omega); replace lw : w.heap.size < v5.heap.size := (by omega); replace G := zaa G bel5; clear bel5 s5) | (go_at_call 73; refine (zat _ _ _ _).mono ?_; rintro e w' ⟨rfl, rfl⟩))
            go_ret
            exact ⟨zab (by rw [R.out]), zaa B0 G⟩
        · cases h2 : M.inn a2 1 16
          · have HB := Lib.hid (show M.bI (ki, lo, hi, li, true) a2 = false by rw [M.bI, if_pos rfl, h2])
            have R := Lib.hid (show zai (a0, a1, a2, xs) tb = false by rw [HN.out, (HA.out _), HB.out]; try rfl)
            go_wp2_with (first | (go_at_call 204; refine (zel _ _ _ _ _ _ _).mono ?_; rw [HL.out]; rintro e v5 ⟨rfl, bel5⟩; have s5 := bel5.size; replace e0 : v5.cell? ⟨g, 0, none⟩ = some (.string (M.kn j)) := (by rw [bel5.cell lg]; exact e0); replace e1 : v5.cell? ⟨g, 1, none⟩ = some (.int .i64 ki) := (by rw [bel5.cell lg]; exact e1); replace e2 : v5.cell? ⟨g, 2, none⟩ = some (.int .i64 lo) := (by rw [bel5.cell lg]; exact e2); replace e3 : v5.cell? ⟨g, 3, none⟩ = some (.int .i64 hi) := (by rw [bel5.cell lg]; exact e3); replace e4 : v5.cell? ⟨g, 4, none⟩ = some (.bool li) := (by rw [bel5.cell lg]; exact e4); replace e5 : v5.cell? ⟨g, 5, none⟩ = some (.bool true) := (by rw [bel5.cell lg]; exact e5); replace p0 : v5.cell? ⟨w.heap.size, 0, none⟩ = some (.int .i64 a0) := (by rw [bel5.cell lw]; exact p0); replace p1 : v5.cell? ⟨w.heap.size, 1, none⟩ = some (.int .i64 a1) := (by rw [bel5.cell lw]; exact p1); replace p2 : v5.cell? ⟨w.heap.size, 2, none⟩ = some (.int .i64 a2) := (by rw [bel5.cell lw]; exact p2); replace p3 : v5.cell? ⟨w.heap.size, 3, none⟩ = some (.slice A n c) := (by rw [bel5.cell lw]; exact p3); replace hx1 := hx1.later bel5; replace lg : g < v5.heap.size := (by omega); replace lw : w.heap.size < v5.heap.size := (by omega); replace G := zaa G bel5; clear bel5 s5) | (go_at_call 73; refine (zat _ _ _ _).mono ?_; rintro e w' ⟨rfl, rfl⟩))
            go_ret
            exact ⟨zab (by rw [R.out]), zaa B0 G⟩
          · have HB := Lib.hid (show M.bI (ki, lo, hi, li, true) a2 = true by rw [M.bI, if_pos rfl, h2])
            have HM := Lib.hid (show zai (a0, a1, a2, xs) tb = (xs.all zax && decide ((xs.length : Int) = ki) && (decide (¬ a0 = 13) || decide (a1 < tb))) by rw [HN.out, (HA.out _), HB.out]; rfl)
            go_wp2_with (first | (go_at_call 204; refine (zel _ _ _ _ _ _ _).mono ?_; rw [HL.out]; rintro e v5 ⟨rfl, bel5⟩; have s5 := bel5.size; replace e0 : v5.cell? ⟨g, 0, none⟩ = some (.string (M.kn j)) := (by rw [bel5.cell lg]; exact e0); replace e1 : v5.cell? ⟨g, 1, none⟩ = some (.int .i64 ki) := (by rw [bel5.cell lg]; exact e1); replace e2 : v5.cell? ⟨g, 2, none⟩ = some (.int .i64 lo) := (by rw [bel5.cell lg]; exact e2); replace e3 : v5.cell? ⟨g, 3, none⟩ = some (.int .i64 hi) := (by rw [bel5.cell lg]; exact e3); replace e4 : v5.cell? ⟨g, 4, none⟩ = some (.bool li) := (by rw [bel5.cell lg]; exact e4); replace e5 : v5.cell? ⟨g, 5, none⟩ = some (.bool true) := (by rw [bel5.cell lg]; exact e5); replace p0 : v5.cell? ⟨w.heap.size, 0, none⟩ = some (.int .i64 a0) := (by rw [bel5.cell lw]; exact p0); replace p1 : v5.cell? ⟨w.heap.size, 1, none⟩ = some (.int .i64 a1) := (by rw [bel5.cell lw]; exact p1); replace p2 : v5.cell? ⟨w.heap.size, 2, none⟩ = some (.int .i64 a2) := (by rw [bel5.cell lw]; exact p2); replace p3 : v5.cell? ⟨w.heap.size, 3, none⟩ = some (.slice A n c) := (by rw [bel5.cell lw]; exact p3); replace hx1 := hx1.later bel5; replace lg : g < v5.heap.size := (by omega); replace lw : w.heap.size < v5.heap.size := (by omega); replace G := zaa G bel5; clear bel5 s5) | (go_at_call 73; refine (zat _ _ _ _).mono ?_; rintro e w' ⟨rfl, rfl⟩))
            skip
            go_loop [7, 63] (fun _ i => ∃ k : Nat, i = .int .i64 k ∧ k ≤ n ∧ Hid (xs.all zax = (xs.drop k).all zax)) (fun _ i => n - (intOf i).toNat)
            case atStart => exact ⟨0, rfl, by omega, Lib.hid (by simp)⟩
            case round =>
             obtain ⟨k, rfl, hk, H⟩ := hrel
             by_cases hlt : k < n
             · obtain ⟨ad, x, rfl, hab, X, hc⟩ := hx1.at hlt
               have hd := Lib.hid (M.drop_at X.out)
               cases hs : M.inn x 0 23
               · have R := Lib.hid (show zai (a0, a1, a2, xs) tb = false by rw [HM.out, H.out, hd.out, List.all_cons, zax, hs]; rfl)
                 go_wp2_with (go_at_call 73; refine (zat _ _ _ _).mono ?_; rintro e w' ⟨rfl, rfl⟩)
                 go_ret
                 exact ⟨zab (by rw [R.out]), zaa B0 G⟩
               · have R := Lib.hid (show xs.all zax = (xs.drop (k + 1)).all zax by rw [H.out, hd.out, List.all_cons, zax, hs]; rfl)
                 go_wp2_with (go_at_call 73; refine (zat _ _ _ _).mono ?_; rintro e w' ⟨rfl, rfl⟩)
                 go_round
                 case rel => exact ⟨k + 1, by go_num, by omega, R⟩
                 case measure => simp [intOf]; omega
             · have HF := Lib.hid (show xs.all zax = true by rw [H.out, List.drop_eq_nil_of_le (by rw [hlen.out]; omega)]; rfl)
               clear H
               by_cases c1 : (n : Int) = ki
               · by_cases c2 : a0 = 13
                 · have d1 : decide ((n : Int) = ki) = true := by simpa using c1
                   have d2 : (a0 != 13) = false := by simp [c2]
                   by_cases c3 : a1 < tb
                   · have R := Lib.hid (show zai (a0, a1, a2, xs) tb = true by rw [HM.out, HF.out, hlen.out, c1, c2]; simpa using c3)
                     skip
                     go_wp2_with fail
                     go_quiet (first | (refine zaz (zbt _ _ _ _)))
                     go_wp2
                     go_ret
                     exact ⟨zab (by rw [R.out]; try (simp; omega)), zaa B0 (zac G _)⟩
                   · have R := Lib.hid (show zai (a0, a1, a2, xs) tb = false by rw [HM.out, HF.out, hlen.out, c1, c2]; simpa using c3)
                     skip
                     go_wp2_with fail
                     go_quiet (first | (refine zaz (zbt _ _ _ _)))
                     go_wp2
                     go_ret
                     exact ⟨zab (by rw [R.out]; try (simp; omega)), zaa B0 (zac G _)⟩
                 · have R := Lib.hid (show zai (a0, a1, a2, xs) tb = true by rw [HM.out, HF.out, hlen.out, c1]; simp [c2])
                   have d2 : (a0 != 13) = true := by simpa using c2
                   skip
                   go_wp2_with fail
                   go_quiet (first | (refine zaz (zbt _ _ _ _)))
                   go_wp2
                   go_ret
                   exact ⟨zab (by rw [R.out]; try (simp; omega)), zaa B0 (zac G _)⟩
               · have R := Lib.hid (show zai (a0, a1, a2, xs) tb = false by rw [HM.out, HF.out, hlen.out]; simp [c1])
                 have d1 : ((n : Int) == ki) = false := by simpa using c1
                 skip
                 go_wp2_with fail
                 go_quiet (first | (refine zaz (zbt _ _ _ _)))
                 go_wp2
                 go_ret
                 exact ⟨zab (by rw [R.out]; try (simp; omega)), zaa B0 (zac G _)⟩
    · have HL := Lib.hid (decide_eq_false hle)
      by_cases h1 : a1 = 0
      · have HA := Lib.hid (fun hb => show M.aI (ki, lo, hi, li, hb) a1 = true by rw [M.aI, if_neg hle]; simpa using h1)
        have g1 : (a1 != 0) = false := by simp [h1]
        cases hb
        · by_cases h2 : a2 = 0
          · have HB := Lib.hid (show M.bI (ki, lo, hi, li, false) a2 = true by rw [M.bI, if_neg (by simp)]; simpa using h2)
            have g2 : (a2 != 0) = false := by simp [h2]
            have HM := Lib.hid (show zai (a0, a1, a2, xs) tb = (xs.all zax && decide ((xs.length : Int) = ki) && (decide (¬ a0 = 13) || decide (a1 < tb))) by rw [HN.out, (HA.out _), HB.out]; rfl)
            go_wp2_with (first | (go_at_call 204; refine (zel _ _ _ _ _ _ _).mono ?_; rw [HL.out]; rintro e v5 ⟨rfl, bel5⟩; have s5 := bel5.size; replace e0 : v5.cell? ⟨g, 0, none⟩ = some (.string (M.kn j)) := (by rw [bel5.cell lg]; exact e0); replace e1 : v5.cell? ⟨g, 1, none⟩ = some (.int .i64 ki) := (by rw [bel5.cell lg]; exact e1); replace e2 : v5.cell? ⟨g, 2, none⟩ = some (.int .i64 lo) := (by rw [bel5.cell lg]; exact e2); replace e3 : v5.cell? ⟨g, 3, none⟩ = some (.int .i64 hi) := (by rw [bel5.cell lg]; exact e3); replace e4 : v5.cell? ⟨g, 4, none⟩ = some (.bool li) := (by rw [bel5.cell lg]; exact e4); replace e5 : v5.cell? ⟨g, 5, none⟩ = some (.bool false) := (by rw [bel5.cell lg]; exact e5); replace p0 : v5.cell? ⟨w.heap.size, 0, none⟩ = some (.int .i64 a0) := (by rw [bel5.cell lw]; exact p0); replace p1 : v5.cell? ⟨w.heap.size, 1, none⟩ = some (.int .i64 a1) := (by rw [bel5.cell lw]; exact p1); replace p2 : v5.cell? ⟨w.heap.size, 2, none⟩ = some (.int .i64 a2) := (by rw [bel5.cell lw]; exact p2); replace p3 : v5.cell? ⟨w.heap.size, 3, none⟩ = some (.slice A n c) := (by rw [bel5.cell lw]; exact p3); replace hx1 := hx1.later bel5; replace lg : g < v5.heap.size := (by omega); replace lw : w.heap.size < v5.heap.size := (by omega); replace G := zaa G bel5; clear bel5 s5) | (go_at_call 73; refine (zat _ _ _ _).mono ?_; rintro e w' ⟨rfl, rfl⟩))
            skip
            go_loop [7, 63] (fun _ i => ∃ k : Nat, i = .int .i64 k ∧ k ≤ n ∧ Hid (xs.all zax = (xs.drop k).all zax)) (fun _ i => n - (intOf i).toNat)
            case atStart => exact ⟨0, rfl, by omega, Lib.hid (by simp)⟩
            case round =>
             obtain ⟨k, rfl, hk, H⟩ := hrel
             by_cases hlt : k < n
             · obtain ⟨ad, x, rfl, hab, X, hc⟩ := hx1.at hlt
               have hd := Lib.hid (M.drop_at X.out)
               cases hs : M.inn x 0 23
               · have R := Lib.hid (show zai (a0, a1, a2, xs) tb = false by rw [HM.out, H.out, hd.out, List.all_cons, zax, hs]; rfl)
                 go_wp2_with (go_at_call 73; refine (zat _ _ _ _).mono ?_; rintro e w' ⟨rfl, rfl⟩)
                 go_ret
                 exact ⟨zab (by rw [R.out]), zaa B0 G⟩
               · have R := Lib.hid (show xs.all zax = (xs.drop (k + 1)).all zax by rw [H.out, hd.out, List.all_cons, zax, hs]; rfl)
                 go_wp2_with (go_at_call 73; refine (zat _ _ _ _).mono ?_; rintro e w' ⟨rfl, rfl⟩)
                 go_round
                 case rel => exact ⟨k + 1, by go_num, by omega, R⟩
                 case measure => simp [intOf]; omega
             · have HF := Lib.hid (show xs.all zax = true by rw [H.out, List.drop_eq_nil_of_le (by rw [hlen.out]; omega)]; rfl)
               clear H
               by_cases c1 : (n : Int) = ki
               · by_cases c2 : a0 = 13
                 · have d1 : decide ((n : Int) = ki) = true := by simpa using c1
                   have d2 : (a0 != 13) = false := by simp [c2]
                   by_cases c3 : a1 < tb
                   · have R := Lib.hid (show zai (a0, a1, a2, xs) tb = true by rw [HM.out, HF.out, hlen.out, c1, c2]; simpa using c3)
                     skip
                     go_wp2_with fail
                     go_quiet (first | (refine zaz (zbt _ _ _ _)))
                     go_wp2
                     go_ret
                     exact ⟨zab (by rw [R.out]; try (simp; omega)), zaa B0 (zac G _)⟩
                   · have R := Lib.hid (show zai (a0, a1, a2, xs) tb = false by rw [HM.out, HF.out, hlen.out, c1, c2]; simpa using c3)
                     skip
                     go_wp2_with fail
                     go_quiet (first | (refine zaz (zbt _ _ _ _)))
                     go_wp2
                     go_ret
                     exact ⟨zab (by rw [R.out]; try (simp; omega)), zaa B0 (zac G _)⟩
                 · have R := Lib.hid (show zai (a0, a1, a2, xs) tb = true by rw [HM.out, HF.out, hlen.out, c1]; simp [c2])
                   have d2 : (a0 != 13) = true := by simpa using c2
                   skip
                   go_wp2_with fail
                   go_quiet (first | (refine zaz (zbt _ _ _ _)))
                   go_wp2
                   go_ret
                   exact ⟨zab (by rw [R.out]; try (simp; omega)), zaa B0 (zac G _)⟩
               · have R := Lib.hid (show zai (a0, a1, a2, xs) tb = false by rw [HM.out, HF.out, hlen.out]; simp [c1])
                 have d1 : ((n : Int) == ki) = false := by simpa using c1
                 skip
                 go_wp2_with fail
                 go_quiet (first | (refine zaz (zbt _ _ _ _)))
                 go_wp2
                 go_ret
                 exact ⟨zab (by rw [R.out]; try (simp; omega)), zaa B0 (zac G _)⟩
          · have HB := Lib.hid (show M.bI (ki, lo, hi, li, false) a2 = false by rw [M.bI, if_neg (by simp)]; simpa using h2)
            have g2 : (a2 != 0) = true := by simpa using h2
            have R := Lib.hid (show zai (a0, a1, a2, xs) tb = false by rw [HN.out, (HA.out _), HB.out]; try rfl)
            go_wp2_with (first | (go_at_call 204; refine (zel _ _ _ _ _ _ _).mono ?_; rw [HL.out]; rintro e v5 ⟨rfl, bel5⟩; have s5 := bel5.size; replace e0 : v5.cell? ⟨g, 0, none⟩ = some (.string (M.kn j)) := (by rw [bel5.cell lg]; exact e0); replace e1 : v5.cell? ⟨g, 1, none⟩ = some (.int .i64 ki) := (by rw [bel5.cell lg]; exact e1); replace e2 : v5.cell? ⟨g, 2, none⟩ = some (.int .i64 lo) := (by rw [bel5.cell lg]; exact e2); replace e3 : v5.cell? ⟨g, 3, none⟩ = some (.int .i64 hi) := (by rw [bel5.cell lg]; exact e3); replace e4 : v5.cell? ⟨g, 4, none⟩ = some (.bool li) := (by rw [bel5.cell lg]; exact e4); replace e5 : v5.cell? ⟨g, 5, none⟩ = some (.bool false) := (by rw [bel5.cell lg]; exact e5); replace p0 : v5.cell? ⟨w.heap.size, 0, none⟩ = some (.int .i64 a0) := (by rw [bel5.cell lw]; exact p0); replace p1 : v5.cell? ⟨w.heap.size, 1, none⟩ = some (.int .i64 a1) := (by rw [bel5.cell lw]; exact p1); replace p2 : v5.cell? ⟨w.heap.size, 2, none⟩ = some (.int .i64 a2) := (by rw [bel5.cell lw]; exact p2); replace p3 : v5.cell? ⟨w.heap.size, 3, none⟩ = some (.slice A n c) := (by rw [bel5.cell lw]; exact p3); replace hx1 := hx1.later bel5; replace lg : g < v5.heap.size := (by omega); replace lw : w.heap.size < v5.heap.size := (by omega); replace G := zaa G bel5; clear bel5 s5) | (go_at_call 73; refine (zat _ _ _ _).mono ?_; rintro e w' ⟨rfl, rfl⟩))
            go_ret
            exact ⟨zab (by rw [R.out]), zaa B0 G⟩
        · cases h2 : M.inn a2 1 16
          · have HB := Lib.hid (show M.bI (ki, lo, hi, li, true) a2 = false by rw [M.bI, if_pos rfl, h2])
            have R := Lib.hid (show zai (a0, a1, a2, xs) tb = false by rw [HN.out, (HA.out _), HB.out]; try rfl)
            go_wp2_with (first | (go_at_call 204; refine (zel _ _ _ _ _ _ _).mono ?_; rw [HL.out]; rintro e v5 ⟨rfl, bel5⟩; have s5 := bel5.size; replace e0 : v5.cell? ⟨g, 0, none⟩ = some (.string (M.kn j)) := (by rw [bel5.cell lg]; exact e0); replace e1 : v5.cell? ⟨g, 1, none⟩ = some (.int .i64 ki) := (by rw [bel5.cell lg]; exact e1); replace e2 : v5.cell? ⟨g, 2, none⟩ = some (.int .i64 lo) := (by rw [bel5.cell lg]; exact e2); replace e3 : v5.cell? ⟨g, 3, none⟩ = some (.int .i64 hi) := (by rw [bel5.cell lg]; exact e3); replace e4 : v5.cell? ⟨g, 4, none⟩ = some (.bool li) := (by rw [bel5.cell lg]; exact e4); replace e5 : v5.cell? ⟨g, 5, none⟩ = some (.bool true) := (by rw [bel5.cell lg]; exact e5); replace p0 : v5.cell? ⟨w.heap.size, 0, none⟩ = some (.int .i64 a0) := (by rw [bel5.cell lw]; exact p0); replace p1 : v5.cell? ⟨w.heap.size, 1, none⟩ = some (.int .i64 a1) := (by rw [bel5.cell lw]; exact p1); replace p2 : v5.cell? ⟨w.heap.size, 2, none⟩ = some (.int .i64 a2) := (by rw [bel5.cell lw]; exact p2); replace p3 : v5.cell? ⟨w.heap.size, 3, none⟩ = some (.slice A n c) := (by rw [bel5.cell lw]; exact p3); replace hx1 := hx1.later bel5; replace lg : g < v5.heap.size := (by omega); replace lw : w.heap.size < v5.heap.size := (by omega); replace G := zaa G bel5; clear bel5 s5) | (go_at_call 73; refine (zat _ _ _ _).mono ?_; rintro e w' ⟨rfl, rfl⟩))
            go_ret
            exact ⟨zab (by rw [R.out]), zaa B0 G⟩
          · have HB := Lib.hid (show M.bI (ki, lo, hi, li, true) a2 = true by rw [M.bI, if_pos rfl, h2])
            have HM := Lib.hid (show zai (a0, a1, a2, xs) tb = (xs.all zax && decide ((xs.length : Int) = ki) && (decide (¬ a0 = 13) || decide (a1 < tb))) by rw [HN.out, (HA.out _), HB.out]; rfl)
            go_wp2_with (first | (go_at_call 204; refine (zel _ _ _ _ _ _ _).mono ?_; rw [HL.out]; rintro e v5 ⟨rfl, bel5⟩; have s5 := bel5.size; replace e0 : v5.cell? ⟨g, 0, none⟩ = some (.string (M.kn j)) := (by rw [bel5.cell lg]; exact e0); replace e1 : v5.cell? ⟨g, 1, none⟩ = some (.int .i64 ki) := (by rw [bel5.cell lg]; exact e1); replace e2 : v5.cell? ⟨g, 2, none⟩ = some (.int .i64 lo) := (by rw [bel5.cell lg]; exact e2); replace e3 : v5.cell? ⟨g, 3, none⟩ = some (.int .i64 hi) := (by rw [bel5.cell lg]; exact e3); replace e4 : v5.cell? ⟨g, 4, none⟩ = some (.bool li) := (by rw [bel5.cell lg]; exact e4); replace e5 : v5.cell? ⟨g, 5, none⟩ = some (.bool true) := (by rw [bel5.cell lg]; exact e5); replace p0 : v5.cell? ⟨w.heap.size, 0, none⟩ = some (.int .i64 a0) := (by rw [bel5.cell lw]; exact p0); replace p1 : v5.cell? ⟨w.heap.size, 1, none⟩ = some (.int .i64 a1) := (by rw [bel5.cell lw]; exact p1); replace p2 : v5.cell? ⟨w.heap.size, 2, none⟩ = some (.int .i64 a2) := (by rw [bel5.cell lw]; exact p2); replace p3 : v5.cell? ⟨w.heap.size, 3, none⟩ = some (.slice A n c) := (by rw [bel5.cell lw]; exact p3); replace hx1 := hx1.later bel5; replace lg : g < v5.heap.size := (by omega); replace lw : w.heap.size < v5.heap.size := (by omega); replace G := zaa G bel5; clear bel5 s5) | (go_at_call 73; refine (zat _ _ _ _).mono ?_; rintro e w' ⟨rfl, rfl⟩))
            skip
            go_loop [7, 63] (fun _ i => ∃ k : Nat, i = .int .i64 k ∧ k ≤ n ∧ Hid (xs.all zax = (xs.drop k).all zax)) (fun _ i => n - (intOf i).toNat)
            case atStart => exact ⟨0, rfl, by omega, Lib.hid (by simp)⟩
            case round =>
             obtain ⟨k, rfl, hk, H⟩ := hrel
             by_cases hlt : k < n
             · obtain ⟨ad, x, rfl, hab, X, hc⟩ := hx1.at hlt
               have hd := Lib.hid (M.drop_at X.out)
               cases hs : M.inn x 0 23
               · have R := Lib.hid (show zai (a0, a1, a2, xs) tb = false by rw [HM.out, H.out, hd.out, List.all_cons, zax, hs]; rfl)
                 go_wp2_with (go_at_call 73; refine (zat _ _ _ _).mono ?_; rintro e w' ⟨rfl, rfl⟩)
                 go_ret
                 exact ⟨zab (by rw [R.out]), zaa B0 G⟩
               · have R := Lib.hid (show xs.all zax = (xs.drop (k + 1)).all zax by rw [H.out, hd.out, List.all_cons, zax, hs]; rfl)
                 go_wp2_with (go_at_call 73; refine (zat _ _ _ _).mono ?_; rintro e w' ⟨rfl, rfl⟩)
                 go_round
                 case rel => exact ⟨k + 1, by go_num, by omega, R⟩
                 case measure => simp [intOf]; omega
             · have HF := Lib.hid (show xs.all zax = true by rw [H.out, List.drop_eq_nil_of_le (by rw [hlen.out]; omega)]; rfl)
               clear H
               by_cases c1 : (n : Int) = ki
               · by_cases c2 : a0 = 13
                 · have d1 : decide ((n : Int) = ki) = true := by simpa using c1
                   have d2 : (a0 != 13) = false := by simp [c2]
                   by_cases c3 : a1 < tb
                   · have R := Lib.hid (show zai (a0, a1, a2, xs) tb = true by rw [HM.out, HF.out, hlen.out, c1, c2]; simpa using c3)
                     skip
                     go_wp2_with fail
                     go_quiet (first | (refine zaz (zbt _ _ _ _)))
                     go_wp2
                     go_ret
                     exact ⟨zab (by rw [R.out]; try (simp; omega)), zaa B0 (zac G _)⟩
                   · have R := Lib.hid (show zai (a0, a1, a2, xs) tb = false by rw [HM.out, HF.out, hlen.out, c1, c2]; simpa using c3)
                     skip
                     go_wp2_with fail
                     go_quiet (first | (refine zaz (zbt _ _ _ _)))
                     go_wp2
                     go_ret
                     exact ⟨zab (by rw [R.out]; try (simp; omega)), zaa B0 (zac G _)⟩
                 · have R := Lib.hid (show zai (a0, a1, a2, xs) tb = true by rw [HM.out, HF.out, hlen.out, c1]; simp [c2])
                   have d2 : (a0 != 13) = true := by simpa using c2
                   skip
                   go_wp2_with fail
                   go_quiet (first | (refine zaz (zbt _ _ _ _)))
                   go_wp2
                   go_ret
                   exact ⟨zab (by rw [R.out]; try (simp; omega)), zaa B0 (zac G _)⟩
               · have R := Lib.hid (show zai (a0, a1, a2, xs) tb = false by rw [HM.out, HF.out, hlen.out]; simp [c1])
                 have d1 : ((n : Int) == ki) = false := by simpa using c1
                 skip
                 go_wp2_with fail
                 go_quiet (first | (refine zaz (zbt _ _ _ _)))
                 go_wp2
                 go_ret
                 exact ⟨zab (by rw [R.out]; try (simp; omega)), zaa B0 (zac G _)⟩
      · have HA := Lib.hid (show M.aI (ki, lo, hi, li, hb) a1 = false by rw [M.aI, if_neg hle]; simpa using h1)
        have g1 : (a1 != 0) = true := by simpa using h1
        have R := Lib.hid (show zai (a0, a1, a2, xs) tb = false by rw [HN.out, HA.out]; try rfl)
        go_wp2_with (first | (go_at_call 204; refine (zel _ _ _ _ _ _ _).mono ?_; rw [HL.out]; rintro e v5 ⟨rfl, bel5⟩; have s5 := bel5.size; replace e0 : v5.cell? ⟨g, 0, none⟩ = some (.string (M.kn j)) := (by rw [bel5.cell lg]; exact e0); replace e1 : v5.cell? ⟨g, 1, none⟩ = some (.int .i64 ki) := (by rw [bel5.cell lg]; exact e1); replace e2 : v5.cell? ⟨g, 2, none⟩ = some (.int .i64 lo) := (by rw [bel5.cell lg]; exact e2); replace e3 : v5.cell? ⟨g, 3, none⟩ = some (.int .i64 hi) := (by rw [bel5.cell lg]; exact e3); replace e4 : v5.cell? ⟨g, 4, none⟩ = some (.bool li) := (by rw [bel5.cell lg]; exact e4); replace e5 : v5.cell? ⟨g, 5, none⟩ = some (.bool hb) := (by rw [bel5.cell lg]; exact e5); replace p0 : v5.cell? ⟨w.heap.size, 0, none⟩ = some (.int .i64 a0) := (by rw [bel5.cell lw]; exact p0); replace p1 : v5.cell? ⟨w.heap.size, 1, none⟩ = some (.int .i64 a1) := (by rw [bel5.cell lw]; exact p1); replace p2 : v5.cell? ⟨w.heap.size, 2, none⟩ = some (.int .i64 a2) := (by rw [bel5.cell lw]; exact p2); replace p3 : v5.cell? ⟨w.heap.size, 3, none⟩ = some (.slice A n c) := (by rw [bel5.cell lw]; exact p3); replace hx1 := hx1.later bel5; replace lg : g < v5.heap.size := (by omega); replace lw : w.heap.size < v5.heap.size := (by omega); replace G := zaa G bel5; clear bel5 s5) | (go_at_call 73; refine (zat _ _ _ _).mono ?_; rintro e w' ⟨rfl, rfl⟩))
        go_ret
        exact ⟨zab (by rw [R.out]), zaa B0 G⟩
end
end Go.Proofs.YtffhodocjjkkoaaGreat
