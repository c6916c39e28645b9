import Derived.Test.YtfkcoiefkjmdeaaGreatFnNullG3
import Derived.Test.YtfkcoiefkjmdeaaGreatFnNullG5
import Derived.Test.YtfkcoiefkjmdeaaGreatFnNullG4
import Derived.Lib.QuietBelow
import Derived.Test.YtfkcoiefkjmdeaaGreatFnNullG2
import Derived.Deep.DeepCutAuto
set_option linter.unusedVariables false
set_option linter.unusedSimpArgs false
set_option maxRecDepth 100000
set_option maxHeartbeats 4000000
namespace Go.Proofs.YtfkcoiefkjmdeaaGreat
section
open Go.RowKit Go.Sort
theorem zes {w : World} {B : Nat} {A : Option Addr} {n c : Nat} {ns : List Node} (hr : RS tN w B (.slice A n c) ns) (hb : hNS.sz ns ≤ 100000000) {k : Nat} (hk : k < n) :
 ∃ (bb o : Nat) (a0 a1 a2 : Int) (A1 : Option Addr) (c1 : Nat) (x3 : List Int), A = some ⟨bb, o, none⟩ ∧ bb < B ∧ Hid (ns[k]? = some (a0, a1, a2, x3)) ∧ w.cell? ⟨bb, o + k * 4, none⟩ = some (.int .i64 a0) ∧ w.cell? ⟨bb, o + k * 4 + 1, none⟩ = some (.int .i64 a1) ∧ w.cell? ⟨bb, o + k * 4 + 2, none⟩ = some (.int .i64 a2) ∧ w.cell? ⟨bb, o + k * 4 + 3, none⟩ = some (.slice A1 x3.length c1) ∧ RI w B A1 x3.length x3 ∧ x3.length ≤ 100000000 := by
 obtain rfl : ns.length = n := hr.cap.1
 have hX := List.getElem?_eq_getElem hk
 obtain ⟨bb, o, c1, cs, hv, hab, -, hE, hc⟩ := hr.atX hX
 simp only [Value.slice.injEq] at hv
 obtain ⟨rfl, -, rfl⟩ := hv
 have hU := hN.szL_at hX
 have hU2 : ns.length + hN.szL ns ≤ 100000000 := hb
 generalize ns[k] = x at hX hE hU
 obtain ⟨a0, a1, a2, x3⟩ := x
 rw [zj3, zb8] at hU
 obtain ⟨A1, n1, c1, rfl, hS3⟩ := tN_R.1 hE
 obtain rfl : x3.length = n1 := zdf hS3
 have e0 : w.cell? ⟨bb, o + k * 4, none⟩ = some (.int .i64 a0) := hc 0 _ rfl
 exact ⟨bb, o, a0, a1, a2, A1, c1, x3, rfl, hab, Lib.hid hX, e0, hc 1 _ rfl, hc 2 _ rfl, hc 3 _ rfl, (tS_R.1 hS3).ri, by omega⟩
theorem zhg (A : Option Addr) (n c : Nat) (ts : List (List Int)) (w : World) (hx : RS tS w w.heap.size (.slice A n c) ts) (hb : Hid (∀ x ∈ ts, x.length ≤ 1000000000)) (hn : n ≤ 1000000000) :
 Calls Tryz.prog 121 #[.slice A n c] w fun e w' => e = .returned (.bool (zbj ts)) ∧ Below w.heap.size w w' := by
 have hl := Lib.hid hx.cap.1
 go_enter Tryz.func121, Tryz.ntmps121
 go_wp2
 go_loopw [3] (fun i wr => ∃ k : Nat, i = .int .i64 k ∧ k ≤ n ∧ Hid (ts.all zcg = (ts.drop k).all zcg) ∧ Below w.heap.size w wr) (fun i _ => n - (intOf i).toNat)
 case atStart => exact ⟨0, rfl, by omega, Lib.hid (by simp), Below.refl _ _⟩
 case round =>
  obtain ⟨k, rfl, hk, H, Bw⟩ := hrel
  by_cases hlt : k < n
  · have B1 : Below wr.heap.size wr (wr.alloc (.cells #[.int .i64 2, .int .i64 4, .int .i64 8, .int .i64 16] 2)) := (Below.refl _ _).alloc (Nat.le_refl _) _
    have hr4 : RI (wr.alloc (.cells #[.int .i64 2, .int .i64 4, .int .i64 8, .int .i64 16] 2)) (wr.alloc (.cells #[.int .i64 2, .int .i64 4, .int .i64 8, .int .i64 16] 2)).heap.size (some ⟨wr.heap.size, 0, none⟩) 4 [2, 4, 8, 16] := (zii wr 2 [2, 4, 8, 16] _ rfl).more (by simp)
    obtain ⟨V, hV⟩ : ∃ V, V = wr.alloc (.cells #[.int .i64 2, .int .i64 4, .int .i64 8, .int .i64 16] 2) := ⟨_, rfl⟩
    have HV := Lib.hid hV
    rw [← hV] at B1 hr4
    have B2 := zaa Bw B1
    obtain ⟨bb, o, A1, c1, x, rfl, hbb, X, hc, hri, hxl⟩ := ze6 (hx.below B2) hb hlt
    have hri := hri.more B2.size
    have hd := Lib.hid (M.drop_at X.out)
    have hc0 := hc
    rw [hV] at hc0
    have HM := Lib.hid (show zal [2, 4, 8, 16] (x.length : Int) = (decide (x.length = 2) || decide (x.length = 4) || decide (x.length = 8) || decide (x.length = 16)) by
     rw [Bool.eq_iff_iff]
     simp only [zal, List.any_cons, List.any_nil, Bool.or_eq_true, decide_eq_true_eq, Bool.false_eq_true, or_false]
     omega)
    clear hV
    cases hs : (decide (x.length = 2) || decide (x.length = 4) || decide (x.length = 8) || decide (x.length = 16))
    · have R := Lib.hid (show zbj ts = false by rw [zbj, H.out, hd.out, List.all_cons, zcg, hs]; rfl)
      have HS := Lib.hid hs
      clear hs
      go_wp2_with fail
      rw [← HV.out]
      refine (zeh _ _ _ _ _ _ hr4 (by omega)).mono ?_
      rw [HM.out, HS.out]
      rintro e w' ⟨rfl, rfl⟩
      clear hc0
      go_wp2
      go_ret
      exact ⟨zab (by rw [R.out]), B2⟩
    · have HG := Lib.hid (znz x hs)
      have HS := Lib.hid hs
      clear hs
      cases hq : x.all M.smp
      · have R := Lib.hid (show zbj ts = false by rw [zbj, H.out, hd.out, List.all_cons, zcg, hq, Bool.and_false]; rfl)
        have HQ := Lib.hid hq
        clear hq
        go_wp2_with fail
        rw [← HV.out]
        refine (zeh _ _ _ _ _ _ hr4 (by omega)).mono ?_
        rw [HM.out, HS.out]
        rintro e w' ⟨rfl, rfl⟩
        clear hc0
        go_wp2_with fail
        refine (zgy _ _ _ _ _ hri (by omega)).mono ?_
        rw [HG.out, HQ.out]
        rintro e w' ⟨rfl, rfl⟩
        go_wp2
        go_ret
        exact ⟨zab (by rw [R.out]), B2⟩
      · have R := Lib.hid (show ts.all zcg = (ts.drop (k + 1)).all zcg by rw [H.out, hd.out, List.all_cons, zcg, HS.out, hq]; rfl)
        have HQ := Lib.hid hq
        clear hq
        go_wp2_with fail
        rw [← HV.out]
        refine (zeh _ _ _ _ _ _ hr4 (by omega)).mono ?_
        rw [HM.out, HS.out]
        rintro e w' ⟨rfl, rfl⟩
        clear hc0
        go_wp2_with fail
        refine (zgy _ _ _ _ _ hri (by omega)).mono ?_
        rw [HG.out, HQ.out]
        rintro e w' ⟨rfl, rfl⟩
        go_wp2
        go_roundw
        case rel => exact ⟨k + 1, by go_num, by omega, R, B2⟩
        case measure => simp [intOf]; omega
  · have R := Lib.hid (show zbj ts = decide (n ≤ 4) by rw [zbj, H.out, List.drop_eq_nil_of_le (by rw [hl.out]; omega), hl.out]; rfl)
    go_wp2
    go_ret
    exact ⟨zab (by rw [R.out, Bool.eq_iff_iff]; simp; try omega), Bw⟩
theorem zp1 (b o : Nat) (a0 a1 a2 : Int) (A : Option Addr) (c : Nat) (xs : List Int) (tb : Int) (w : World) (p0 : w.cell? ⟨b, o, none⟩ = some (.int .i64 a0)) (p1 : w.cell? ⟨b, o + 1, none⟩ = some (.int .i64 a1)) (p2 : w.cell? ⟨b, o + 2, none⟩ = some (.int .i64 a2)) (p3 : w.cell? ⟨b, o + 3, none⟩ = some (.slice A xs.length c)) (hx : RI w w.heap.size A xs.length xs) (hn : xs.length ≤ 1000000000) (htb : 0 ≤ tb ∧ tb ≤ 1000000000) :
 Calls Tryz.prog 122 #[.pointer (some ⟨b, o, none⟩), .int .i64 tb] w fun e w' => e = .returned (.bool (zak (a0, a1, a2, xs) tb)) ∧ Below w.heap.size w w' := by
 rw [← zj5]
 have cK : ∀ d os, Calls Tryz.prog 140 #[.int .i64 a0] (grow (redrawn w d) os) fun e w'' => e = .returned (.bool (M.inn a0 1 17)) ∧ ∃ p : Regrown, w'' = grow (redrawn w p.d) p.os := fun d os => Calls.regrown_of (zfm (zoa a0 _))
 have pp0 := cell_regrown p0
 have pp1 := cell_regrown p1
 have pp2 := cell_regrown p2
 have pp3 := cell_regrown p3
 have cA : ∀ d os, Calls Tryz.prog 141 #[.pointer (some ⟨b, o, none⟩), .int .i64 tb] (grow (redrawn w d) os) fun e w'' => e = .returned (.bool (M.aS a0 a1 tb)) ∧ ∃ p : Regrown, w'' = grow (redrawn w p.d) p.os := fun d os => Calls.regrown_of (zoc b o a0 a1 tb _ (cell_regrown p0 d os) (cell_regrown p1 d os) htb)
 clear p0 p1 p2 p3
 cases hk : M.inn a0 1 17
 · have R := Lib.hid (show zc2 (a0, a1, a2, xs) tb = false by rw [zc2, hk]; rfl)
   rw [hk] at cK
   clear hk
   go_enter Tryz.func122, Tryz.ntmps122
   go_wp2_with fail
   (refine wp_region_quiet_below (by kernel_rfl) (by kernel_rfl) ?_; (repeat (go_big_quiet_step (exact cK _ _))); refine wpQuiet_nil ?_; intro _ hw'; obtain ⟨⟨dq, osq⟩, hw''⟩ := hw'; subst hw'')
   go_wp2
   go_ret
   exact ⟨zab (by rw [R.out]), below_regrown w dq osq⟩
 · have hkb := za2.1 hk
   have cR : ∀ d os, Calls Tryz.prog 82 #[.int .i64 a0] (grow (redrawn w d) os) fun e w'' => e = .returned (.int .i64 (M.ar a0.toNat)) ∧ ∃ p : Regrown, w'' = grow (redrawn w p.d) p.os := fun d os => Calls.regrown_of (zgc a0 _ (by omega))
   rw [hk] at cK
   have HK := Lib.hid (show zc2 (a0, a1, a2, xs) tb = (M.aS a0 a1 tb && decide ((xs.length : Int) = M.ar a0.toNat) && xs.all zav && (if a0 = 17 then M.inn a2 1 16 else decide (a2 = 0))) by rw [zc2]; simp only [hk, Bool.true_and])
   generalize M.ar a0.toNat = ra at cR HK
   clear hk hkb
   cases ha : M.aS a0 a1 tb
   · have R := Lib.hid (show zc2 (a0, a1, a2, xs) tb = false by rw [HK.out, ha]; rfl)
     rw [ha] at cA
     clear ha
     go_enter Tryz.func122, Tryz.ntmps122
     go_wp2_with fail
     (refine wp_region_quiet_below (by kernel_rfl) (by kernel_rfl) ?_; (repeat (go_big_quiet_step ((first | exact cK _ _ | exact cA _ _ | exact cR _ _)))); refine wpQuiet_nil ?_; intro _ hw'; obtain ⟨⟨dq, osq⟩, hw''⟩ := hw'; subst hw'')
     go_wp2
     go_ret
     exact ⟨zab (by rw [R.out]), below_regrown w dq osq⟩
   · rw [ha] at cA
     by_cases hl : (xs.length : Int) = ra
     · have HM := Lib.hid (show zc2 (a0, a1, a2, xs) tb = (xs.all zav && (if a0 = 17 then M.inn a2 1 16 else decide (a2 = 0))) by rw [HK.out, ha, decide_eq_true hl]; rfl)
       rw [← hl] at cR
       have hxr := fun d os => hx.later (below_regrown w d os)
       clear ha hl HK
       go_enter Tryz.func122, Tryz.ntmps122
       go_wp2_with fail
       (refine wp_region_quiet_below (by kernel_rfl) (by kernel_rfl) ?_; (repeat (go_big_quiet_step ((first | exact cK _ _ | exact cA _ _ | exact cR _ _)))); refine wpQuiet_nil ?_; intro _ hw'; obtain ⟨⟨dq, osq⟩, hw''⟩ := hw'; subst hw'')
       replace pp0 := pp0 dq osq
       replace pp1 := pp1 dq osq
       replace pp2 := pp2 dq osq
       replace pp3 := pp3 dq osq
       replace hxr := hxr dq osq
       have BV := below_regrown w dq osq
       clear cK cA cR
       generalize grow (redrawn w dq) osq = V at pp0 pp1 pp2 pp3 hxr BV ⊢
       go_wp2_with fail
       go_loop [5] (fun i => ∃ k : Nat, i = .int .i64 k ∧ k ≤ xs.length ∧ Hid (xs.all zav = (xs.drop k).all zav)) (fun i => xs.length - (intOf i).toNat)
       case atStart => exact ⟨0, rfl, by omega, Lib.hid (by simp)⟩
       case round =>
        obtain ⟨k, rfl, hk, H⟩ := hrel
        by_cases hlt : k < xs.length
        · obtain ⟨ad, x, rfl, hab, X, hc⟩ := hxr.at hlt
          have hd := Lib.hid (M.drop_at X.out)
          cases hs : M.inn x 0 23
          · have R := Lib.hid (show zc2 (a0, a1, a2, xs) tb = false by rw [HM.out, H.out, hd.out, List.all_cons, zav, hs]; rfl)
            go_wp2_with (go_at_call 25; refine (zat _ _ _ _).mono ?_; rintro e w' ⟨rfl, rfl⟩)
            go_ret
            exact ⟨zab (by rw [R.out]), BV⟩
          · have R := Lib.hid (show xs.all zav = (xs.drop (k + 1)).all zav by rw [H.out, hd.out, List.all_cons, zav, hs]; rfl)
            go_wp2_with (go_at_call 25; refine (zat _ _ _ _).mono ?_; rintro e w' ⟨rfl, rfl⟩)
            go_round
            case rel => exact ⟨k + 1, by go_num, by omega, R⟩
            case measure => simp [intOf]; omega
        · have HF := Lib.hid (show xs.all zav = true by rw [H.out, List.drop_eq_nil_of_le (by omega)]; rfl)
          clear H
          by_cases h17 : a0 = 17
          · have R := Lib.hid (show zc2 (a0, a1, a2, xs) tb = M.inn a2 1 16 by rw [HM.out, HF.out, if_pos h17]; rfl)
            clear HM
            subst h17
            go_wp2_with (go_at_call 25; refine (zat _ _ _ _).mono ?_; rintro e w' ⟨rfl, rfl⟩)
            go_ret
            exact ⟨zab (by rw [R.out]), BV⟩
          · have R := Lib.hid (show zc2 (a0, a1, a2, xs) tb = decide (a2 = 0) by rw [HM.out, HF.out, if_neg h17]; rfl)
            have g17 : (a0 == 17) = false := by simpa using h17
            go_wp2_with (go_at_call 25; refine (zat _ _ _ _).mono ?_; rintro e w' ⟨rfl, rfl⟩)
            go_ret
            exact ⟨zab (by rw [R.out, Bool.eq_iff_iff]; simp), BV⟩
     · have R := Lib.hid (show zc2 (a0, a1, a2, xs) tb = false by rw [HK.out, ha, decide_eq_false hl]; rfl)
       have gl : ((xs.length : Int) != ra) = true := by simpa using hl
       clear ha
       go_enter Tryz.func122, Tryz.ntmps122
       go_wp2_with fail
       (refine wp_region_quiet_below (by kernel_rfl) (by kernel_rfl) ?_; (repeat (go_big_quiet_step ((first | exact cK _ _ | exact cA _ _ | exact cR _ _)))); refine wpQuiet_nil ?_; intro _ hw'; obtain ⟨⟨dq, osq⟩, hw''⟩ := hw'; subst hw'')
       go_wp2
       go_ret
       exact ⟨zab (by rw [R.out]), below_regrown w dq osq⟩
theorem zkx (b o : Nat) (a0 a1 a2 : Int) (A : Option Addr) (c : Nat) (xs : List Int) (w : World) (p0 : w.cell? ⟨b, o, none⟩ = some (.int .i64 a0)) (p3 : w.cell? ⟨b, o + 3, none⟩ = some (.slice A xs.length c)) (hx : RI w w.heap.size A xs.length xs) :
 Calls Tryz.prog 125 #[.pointer (some ⟨b, o, none⟩)] w fun e w' => ∃ A' c', e = .returned (.slice A' (za5 (a0, a1, a2, xs)).length c') ∧ RI w' w'.heap.size A' (za5 (a0, a1, a2, xs)).length (za5 (a0, a1, a2, xs)) ∧ Below w.heap.size w w' := by
 by_cases h : a0 = 6
 · have HW := Lib.hid (show za5 (a0, a1, a2, xs) = [] by rw [za5, if_pos h])
   rw [HW.out]
   subst h
   go_enter Tryz.func125, Tryz.ntmps125
   go_wp2
   go_ret
   exact ⟨_, _, rfl, RI.nil _ _ _, (Below.refl _ _).alloc (Nat.le_refl _) _⟩
 · have HW := Lib.hid (show za5 (a0, a1, a2, xs) = xs by rw [za5, if_neg h])
   rw [HW.out]
   have g : (a0 == 6) = false := by simpa using h
   go_enter Tryz.func125, Tryz.ntmps125
   go_wp2
   go_ret
   exact ⟨_, _, rfl, hx, Below.refl _ _⟩
theorem zky (A A' : Option Addr) (n c n' c' : Nat) (xs ys : List Int) (w : World) (hx : RI w w.heap.size A n xs) (hy : RI w w.heap.size A' n' ys) (hn : n ≤ 1000000000) (hn' : n' ≤ 1000000000) :
 Calls Tryz.prog 124 #[.slice A n c, .slice A' n' c'] w fun e w' => e = .returned (.bool (xs.all (zal ys))) ∧ w = w' := by
 have hl := Lib.hid hx.len
 go_enter Tryz.func124, Tryz.ntmps124
 go_wp2
 go_loop [5] (fun i => ∃ k : Nat, i = .int .i64 k ∧ k ≤ n ∧ Hid (xs.all (zal ys) = (xs.drop k).all (zal ys))) (fun i => n - (intOf i).toNat)
 case atStart => exact ⟨0, rfl, by omega, Lib.hid (by simp)⟩
 case round =>
  obtain ⟨k, rfl, hk, H⟩ := hrel
  by_cases hlt : k < n
  · obtain ⟨ad, x, rfl, hab, X, hc⟩ := hx.at hlt
    have hd := Lib.hid (M.drop_at X.out)
    cases hs : zal ys x
    · have R := Lib.hid (show xs.all (zal ys) = false by rw [H.out, hd.out, List.all_cons, hs]; rfl)
      have HS := Lib.hid hs
      clear hs
      go_wp2_with (go_at_call 123; refine (zeh _ _ _ _ _ _ hy (by omega)).mono ?_; rw [HS.out]; rintro e w' ⟨rfl, rfl⟩)
      go_ret
      exact ⟨zab (by rw [R.out]), rfl⟩
    · have R := Lib.hid (show xs.all (zal ys) = (xs.drop (k + 1)).all (zal ys) by rw [H.out, hd.out, List.all_cons, hs]; rfl)
      have HS := Lib.hid hs
      clear hs
      go_wp2_with (go_at_call 123; refine (zeh _ _ _ _ _ _ hy (by omega)).mono ?_; rw [HS.out]; rintro e w' ⟨rfl, rfl⟩)
      go_round
      case rel => exact ⟨k + 1, by go_num, by omega, R⟩
      case measure => simp [intOf]; omega
  · have R := Lib.hid (show xs.all (zal ys) = true by rw [H.out, List.drop_eq_nil_of_le (by rw [hl.out]; omega)]; rfl)
    go_wp2
    go_ret
    exact ⟨zab (by rw [R.out]), rfl⟩
end
section
open Go.RowKit Go.Sort
theorem zkz {v : Value} {b c : Bool} (h : c = b) : Ending.returned (.tuple #[v, .bool b]) = .returned (.tuple #[v, .bool c]) := by rw [h]
def zfr : Value → Nat
 | .slice _ n _ => n
 | _ => 0
theorem zp2 (b o : Nat) (A : Option Addr) (n c : Nat) (ns : List Node) (w : World) (p2 : w.cell? ⟨b, o + 2, none⟩ = some (.slice A n c)) (hx : RS tN w w.heap.size (.slice A n c) ns) (hb : hNS.sz ns ≤ 100000000) :
 Calls Tryz.prog 105 #[.pointer (some ⟨b, o, none⟩)] w fun e w' => ∃ v, e = .returned (.tuple #[v, .bool (decide ((za8 ns).length = ns.length))]) ∧ ((za8 ns).length = ns.length → OI 2 w.heap.size w' v (za8 ns)) ∧ Below w.heap.size w w' := by
 have lx : b < w.heap.size := World.block_lt_of_cell? w _ p2
 have hl := Lib.hid hx.cap.1
 have hnb : n ≤ 100000000 := by have e : ns.length + hN.szL ns = hNS.sz ns := rfl; have := hl.out; omega
 have H0 : Below w.heap.size w (w.alloc (.cells #[] 2)) := (Below.refl _ _).alloc (Nat.le_refl _) _
 have O0 : OI 2 w.heap.size (w.alloc (.cells #[] 2)) (.slice (some ⟨w.heap.size, 0, none⟩) 0 0) [] := OI.made _ w
 go_enter Tryz.func105, Tryz.ntmps105
 go_wp2_with fail
 go_loopw [4, 5, 6] (fun v _ _ wr => ∃ (t : Nat) (O : List Int), t ≤ n ∧ Hid (O = zap ns t) ∧ Hid (O.length = t) ∧ OI 2 w.heap.size wr v O ∧ Below w.heap.size w wr) (fun v _ _ _ => n - zfr v)
 case atStart => exact ⟨0, [], by omega, Lib.hid rfl, Lib.hid rfl, O0, H0⟩
 case round =>
  obtain ⟨t, O, ht, HO, HL, own, Bw⟩ := hrel
  obtain ⟨A2, c2, rfl, hri⟩ := own.shape
  rw [HL.out] at own hri ⊢
  have q2 : wr.cell? ⟨b, o + 2, none⟩ = some (.slice A n c) := by rw [Bw.cell lx]; exact p2
  by_cases hlt : t < n
  · go_wp2_with fail
    obtain ⟨wo, rfl⟩ : ∃ wo : World, wo = wr := ⟨_, rfl⟩
    go_loopw [5, 6] (fun q i wr => ((∃ k : Nat, q = .int .i64 (-1) ∧ i = .int .i64 k ∧ k ≤ n ∧ Hid (∀ j, j < k → zc3 ns O j = false)) ∨ (∃ k : Nat, q = .int .i64 (k : Int) ∧ i = .int .i64 ((k : Int) + 1) ∧ k < n ∧ Hid (zcw ns O = some k))) ∧ Below wo.heap.size wo wr) (fun _ i _ => n + 1 - (intOf i).toNat)
    case atStart => exact ⟨.inl ⟨0, rfl, rfl, by omega, Lib.hid (by omega)⟩, Below.refl _ _⟩
    case round =>
     obtain ⟨hor, B2⟩ := hrel
     have BB := zaa Bw B2
     have q3 : wr.cell? ⟨b, o + 2, none⟩ = some (.slice A n c) := by rw [BB.cell lx]; exact p2
     have own2 := own.below B2
     rcases hor with ⟨k, rfl, rfl, hk, H⟩ | ⟨k, rfl, rfl, hk, H⟩
     · by_cases hlt2 : k < n
       · obtain ⟨bb, o1, a0, a1, a2, A1, c1, x3, rfl, hbb, X, e0, e1, e2, e3, hr3, h3b⟩ := zes (hx.below BB) hb hlt2
         have hrdy := Lib.hid (zih (out := O) X.out)
         have hk0 : (0 : Int) ≤ (k : Int) := by omega
         have hkn : (k : Int) < (n : Int) := by omega
         have hriO := hri.later B2
         have hrx := hr3.more BB.size
         cases hm : zal O k
         · have HM := Lib.hid hm
           clear hm
           cases ha : (za5 (a0, a1, a2, x3)).all (zal O)
           · have HA := Lib.hid ha
             have R := Lib.hid (show zc3 ns O k = false by rw [hrdy.out, ha, Bool.and_false])
             clear ha
             go_wp2_with fail
             refine (zeh _ _ _ _ _ _ hriO (by omega)).mono ?_
             rw [HM.out]
             rintro e w' ⟨rfl, rfl⟩
             go_wp2_with fail
             refine (zkx bb (o1 + k * 4) a0 a1 a2 A1 c1 x3 wr e0 e3 hrx).mono ?_
             rintro e w3 ⟨A5, c5, rfl, hr5, bel3⟩
             have hriO3 := hriO.later bel3
             have hwl : (za5 (a0, a1, a2, x3)).length ≤ 1000000000 := by unfold za5; split <;> simp <;> omega
             go_wp2_with fail
             refine (zky _ _ _ _ _ _ _ _ _ hr5 hriO3 hwl (by omega)).mono ?_
             rw [HA.out]
             rintro e w' ⟨rfl, rfl⟩
             go_wp2
             go_roundw
             case rel => exact ⟨.inl ⟨k + 1, rfl, by go_num, by omega, Lib.hid (fun j hj => by rcases Nat.lt_succ_iff_lt_or_eq.1 hj with h | h; exact H.out j h; rw [h]; exact R.out)⟩, zaa B2 bel3⟩
             case measure => simp [intOf]; omega
           · have HA := Lib.hid ha
             have R := Lib.hid (show zcw ns O = some k from zj7 (by rw [hl.out]; exact hlt2) (by rw [hrdy.out, ha, HM.out]; rfl) H.out)
             clear ha
             go_wp2_with fail
             refine (zeh _ _ _ _ _ _ hriO (by omega)).mono ?_
             rw [HM.out]
             rintro e w' ⟨rfl, rfl⟩
             go_wp2_with fail
             refine (zkx bb (o1 + k * 4) a0 a1 a2 A1 c1 x3 wr e0 e3 hrx).mono ?_
             rintro e w3 ⟨A5, c5, rfl, hr5, bel3⟩
             have hriO3 := hriO.later bel3
             have hwl : (za5 (a0, a1, a2, x3)).length ≤ 1000000000 := by unfold za5; split <;> simp <;> omega
             go_wp2_with fail
             refine (zky _ _ _ _ _ _ _ _ _ hr5 hriO3 hwl (by omega)).mono ?_
             rw [HA.out]
             rintro e w' ⟨rfl, rfl⟩
             go_wp2
             go_roundw
             case rel => exact ⟨.inr ⟨k, rfl, by go_num, hlt2, R⟩, zaa B2 bel3⟩
             case measure => simp [intOf]; omega
         · have HM := Lib.hid hm
           have R := Lib.hid (show zc3 ns O k = false by rw [hrdy.out, hm]; rfl)
           clear hm
           go_wp2_with fail
           refine (zeh _ _ _ _ _ _ hriO (by omega)).mono ?_
           rw [HM.out]
           rintro e w' ⟨rfl, rfl⟩
           go_wp2
           go_roundw
           case rel => exact ⟨.inl ⟨k + 1, rfl, by go_num, by omega, Lib.hid (fun j hj => by rcases Nat.lt_succ_iff_lt_or_eq.1 hj with h | h; exact H.out j h; rw [h]; exact R.out)⟩, B2⟩
           case measure => simp [intOf]; omega
       · have hno := Lib.hid (zj8 (ns := ns) (out := O) (fun j hj => H.out j (by rw [hl.out] at hj; omega)))
         have HR := Lib.hid (show za8 ns = O by rw [HO.out]; exact zj9 (by rw [hl.out]; exact ht) (by rw [← HO.out]; exact hno.out))
         have R := Lib.hid (show ¬ (za8 ns).length = ns.length by rw [HR.out, HL.out, hl.out]; omega)
         go_wp2
         go_ret2
         exact ⟨_, zkz (decide_eq_false R.out), fun h => absurd h R.out, BB⟩
     · by_cases hk1 : (k : Int) + 1 < n
       · have hd : decide ((k : Int) + 1 < n) = true := decide_eq_true hk1
         have hge : decide ((k : Int) < 0) = false := decide_eq_false (by omega)
         have hge2 : ¬ (k : Int) < 0 := by omega
         have hO1 : O.length ≤ t := by rw [HL.out]; omega
         have hO2 : t ≤ O.length := by rw [HL.out]; omega
         have HN := Lib.hid (show O ++ [(k : Int)] = zap ns (t + 1) by rw [zig (by rw [← HO.out]; exact H.out), ← HO.out])
         have HL2 := Lib.hid (show (O ++ [(k : Int)]).length = t + 1 by rw [List.length_append, HL.out]; rfl)
         go_wp2_with (at_builtin; refine ze2 zbl rfl _ _ rfl own2 rfl rfl rfl (by unfold maxLen; omega) (by omega) BB.size ?_; intro v1 w1 own1 gr1 bel1)
         go_roundw
         case rel => exact ⟨t + 1, O ++ [(k : Int)], by omega, HN, HL2, OI.push own1, BB.trans bel1⟩
         case measure => obtain ⟨A9, c9, rfl, -⟩ := (OI.push own1).shape; rw [HL2.out]; simp [zfr]; omega
       · have hd : decide ((k : Int) + 1 < n) = false := decide_eq_false hk1
         have hge2 : ¬ (k : Int) < 0 := by omega
         have hO1 : O.length ≤ t := by rw [HL.out]; omega
         have hO2 : t ≤ O.length := by rw [HL.out]; omega
         have HN := Lib.hid (show O ++ [(k : Int)] = zap ns (t + 1) by rw [zig (by rw [← HO.out]; exact H.out), ← HO.out])
         have HL2 := Lib.hid (show (O ++ [(k : Int)]).length = t + 1 by rw [List.length_append, HL.out]; rfl)
         go_wp2_with (at_builtin; refine ze2 zbl rfl _ _ rfl own2 rfl rfl rfl (by unfold maxLen; omega) (by omega) BB.size ?_; intro v1 w1 own1 gr1 bel1)
         go_roundw
         case rel => exact ⟨t + 1, O ++ [(k : Int)], by omega, HN, HL2, OI.push own1, BB.trans bel1⟩
         case measure => obtain ⟨A9, c9, rfl, -⟩ := (OI.push own1).shape; rw [HL2.out]; simp [zfr]; omega
  · have HR := Lib.hid (show za8 ns = O by rw [HO.out, za8, hl.out, show n = t by omega])
    have R := Lib.hid (show (za8 ns).length = ns.length by rw [HR.out, HL.out, hl.out]; omega)
    go_wp2
    go_ret2
    exact ⟨_, zkz (decide_eq_true R.out), fun _ => by rw [HR.out]; exact own, Bw⟩
end
section
open Go.RowKit Go.Sort
set_option synthInstance.maxSize 2000
set_option synthInstance.maxHeartbeats 400000
def zgj (tb n inp : Int) (x : Node) : Bool := zak x tb && (!(decide (x.1 = 1) && decide (inp ≤ x.2.1)) && x.2.2.2.all (fun f => decide (f < n)))
theorem zit (tb n inp : Int) (x : Node) : zgj tb n inp x = za7 tb n inp x := by
 rw [zgj, za7]
 cases h : zak x tb
 · rfl
 · have hf : x.2.2.2.all zav = true := by
    rw [zak] at h
    simp only [Bool.and_eq_true] at h
    exact h.2.1.1.2
   have e : x.2.2.2.all (fun f => decide (f < n)) = x.2.2.2.all (zax n) := by
    rw [List.all_eq_true] at hf
    rw [Bool.eq_iff_iff, List.all_eq_true, List.all_eq_true]
    constructor
    · intro h2 f hfm
      have h3 := za2.1 (hf f hfm)
      have h4 := h2 f hfm
      simp at h4
      exact za2.2 (by omega)
    · intro h2 f hfm
      have h4 := za2.1 (h2 f hfm)
      simp
      omega
   rw [e, Bool.true_and, Bool.true_and, Bool.and_comm]
theorem zk0 (b o : Nat) (a0 : Int) (A1 : Option Addr) (n1 c1 : Nat) (A2 : Option Addr) (n2 c2 : Nat) (A3 : Option Addr) (n3 c3 : Nat) (x1 : List (List Int)) (x2 : List Node) (x3 : List Int) (w : World) (p0 : w.cell? ⟨b, o, none⟩ = some (.int .i64 a0)) (p1 : w.cell? ⟨b, o + 1, none⟩ = some (.slice A1 n1 c1)) (p2 : w.cell? ⟨b, o + 2, none⟩ = some (.slice A2 n2 c2)) (p3 : w.cell? ⟨b, o + 3, none⟩ = some (.slice A3 n3 c3))
 (h1 : tSS.R w w.heap.size [.slice A1 n1 c1] x1) (h2 : tNS.R w w.heap.size [.slice A2 n2 c2] x2) (h3 : tS.R w w.heap.size [.slice A3 n3 c3] x3) (hn : hP.sz ((a0, x1, x2, x3) : zaf) ≤ 100000000) :
 Calls Tryz.prog 104 #[.pointer (some ⟨b, o, none⟩)] w fun e w' => e = .returned (.bool (zay (a0, x1, x2, x3))) ∧ Below w.heap.size w w' := by
 have lx : b < w.heap.size := World.block_lt_of_cell? w _ p0
 rw [zef, zb8] at hn
 have r1 := sl_R.1 h1
 have r2 := sl_R.1 h2
 have hx3 := (tS_R.1 h3).ri
 have L1 := Lib.hid r1.cap.1
 have L2 := Lib.hid r2.cap.1
 have L3 := Lib.hid (zdf h3)
 have hb2 : hNS.sz x2 ≤ 100000000 := by omega
 have hq1 : x1.length + hS.szL x1 = hSS.sz x1 := rfl
 have hb1 : Hid (∀ x ∈ x1, x.length ≤ 1000000000) := Lib.hid (fun x hx => by
  obtain ⟨i, hi⟩ := List.getElem?_of_mem hx
  have := hS.szL_at hi
  rw [zb8] at this
  omega)
 have bn1 : n1 ≤ 100000000 := by have := L1.out; omega
 have bn2 : n2 ≤ 100000000 := by have e : x2.length + hN.szL x2 = hNS.sz x2 := rfl; have := L2.out; omega
 have bn3 : n3 ≤ 100000000 := by have := L3.out; omega
 clear hn hq1 h1 h2 h3
 cases g0 : M.inn a0 0 4
 · have R := Lib.hid (show zay (a0, x1, x2, x3) = false by rw [zay]; simp only [g0]; rfl)
   go_enter Tryz.func104, Tryz.ntmps104
   go_wp2_with (go_at_call 25; refine (zat _ _ _ _).mono ?_; rintro e w' ⟨rfl, rfl⟩)
   go_ret
   exact ⟨zab (by rw [R.out]), Below.refl _ _⟩
 have G0 := Lib.hid g0
 clear g0
 cases g1 : zbj x1
 · have R := Lib.hid (show zay (a0, x1, x2, x3) = false by rw [zay]; simp only [G0.out, g1]; rfl)
   have G1 := Lib.hid g1
   clear g1
   go_enter Tryz.func104, Tryz.ntmps104
   go_wp2_with (first | (go_at_call 25; refine (zat _ _ _ _).mono ?_; rw [G0.out]; rintro e w' ⟨rfl, rfl⟩) | (go_at_call 121; refine (zhg _ _ _ _ _ r1 hb1 (by omega)).mono ?_; rw [G1.out]; rintro e w2 ⟨rfl, bel2⟩))
   go_ret
   exact ⟨zab (by rw [R.out]), bel2⟩
 have G1 := Lib.hid g1
 clear g1
 by_cases g2 : ¬ n2 ≤ 24
 · have R := Lib.hid (show zay (a0, x1, x2, x3) = false by rw [zay]; simp only [L2.out, decide_eq_false g2, Bool.and_false, Bool.false_and])
   go_enter Tryz.func104, Tryz.ntmps104
   go_wp2_with (first | (go_at_call 25; refine (zat _ _ _ _).mono ?_; rw [G0.out]; rintro e w' ⟨rfl, rfl⟩) | (go_at_call 121; refine (zhg _ _ _ _ _ r1 hb1 (by omega)).mono ?_; rw [G1.out]; rintro e w2 ⟨rfl, bel2⟩))
   go_ret
   exact ⟨zab (by rw [R.out]), bel2⟩
 replace g2 : n2 ≤ 24 := Decidable.not_not.1 g2
 by_cases g3 : ¬ n3 ≤ 4
 · have R := Lib.hid (show zay (a0, x1, x2, x3) = false by rw [zay]; simp only [L3.out, decide_eq_false g3, Bool.and_false, Bool.false_and])
   go_enter Tryz.func104, Tryz.ntmps104
   go_wp2_with (first | (go_at_call 25; refine (zat _ _ _ _).mono ?_; rw [G0.out]; rintro e w' ⟨rfl, rfl⟩) | (go_at_call 121; refine (zhg _ _ _ _ _ r1 hb1 (by omega)).mono ?_; rw [G1.out]; rintro e w2 ⟨rfl, bel2⟩; have k3 : w2.cell? ⟨b, o + 3, none⟩ = some (.slice A3 n3 c3) := (by rw [bel2.cell lx]; exact p3)))
   go_ret
   exact ⟨zab (by rw [R.out]), bel2⟩
 replace g3 : n3 ≤ 4 := Decidable.not_not.1 g3
 have HF := Lib.hid (show zay (a0, x1, x2, x3) = (x3.all (zax n2) && x2.all (za7 n1 n2 a0)) by
  rw [zay]
  simp only [G0.out, G1.out, L1.out, L2.out, L3.out, decide_eq_true g2, decide_eq_true g3, Bool.true_and])
 go_enter Tryz.func104, Tryz.ntmps104
 go_wp2_with (first | (go_at_call 25; refine (zat _ _ _ _).mono ?_; rw [G0.out]; rintro e w' ⟨rfl, rfl⟩) | (go_at_call 121; refine (zhg _ _ _ _ _ r1 hb1 (by omega)).mono ?_; rw [G1.out]; rintro e w2 ⟨rfl, bel2⟩; have k3 : w2.cell? ⟨b, o + 3, none⟩ = some (.slice A3 n3 c3) := (by rw [bel2.cell lx]; exact p3)))
 go_loopw [4, 5, 6] (fun i _ _ wr => ∃ k : Nat, i = .int .i64 k ∧ k ≤ n2 ∧ Hid (x2.all (za7 n1 n2 a0) = (x2.drop k).all (za7 n1 n2 a0)) ∧ Below w.heap.size w wr) (fun i _ _ _ => n2 - (intOf i).toNat)
 case atStart => exact ⟨0, rfl, by omega, Lib.hid (by simp), bel2⟩
 case round =>
  obtain ⟨k, rfl, hk, H, Bw⟩ := hrel
  clear k3 bel2
  have q0 : wr.cell? ⟨b, o, none⟩ = some (.int .i64 a0) := by rw [Bw.cell lx]; exact p0
  have q1 : wr.cell? ⟨b, o + 1, none⟩ = some (.slice A1 n1 c1) := by rw [Bw.cell lx]; exact p1
  have q2 : wr.cell? ⟨b, o + 2, none⟩ = some (.slice A2 n2 c2) := by rw [Bw.cell lx]; exact p2
  have q3 : wr.cell? ⟨b, o + 3, none⟩ = some (.slice A3 n3 c3) := by rw [Bw.cell lx]; exact p3
  by_cases hlt : k < n2
  · obtain ⟨bb, o1, b0, b1, b2, A5, c5, y3, rfl, hbb, X, e0, e1, e2, e3, hr3, h3b⟩ := zes (r2.below Bw) hb2 hlt
    have hd := Lib.hid (M.drop_at X.out)
    have hry := hr3.more Bw.size
    have hk0 : (0 : Int) ≤ (k : Int) := by omega
    have hkn : (k : Int) < (n2 : Int) := by omega
    have hkw : IntKind.i64.wrap ((k : Int) + 1) = (k : Int) + 1 := IntWalk.i64_in _ (by omega)
    have cN : ∀ d os, Calls Tryz.prog 122 #[.pointer (some ⟨bb, o1 + k * 4, none⟩), .int .i64 n1] (grow (redrawn wr d) os) fun e w'' => e = .returned (.bool (zak (b0, b1, b2, y3) n1)) ∧ ∃ p : Regrown, w'' = grow (redrawn wr p.d) p.os := fun d os => Calls.regrown_of (zp1 bb (o1 + k * 4) b0 b1 b2 A5 c5 y3 n1 _ (cell_regrown e0 d os) (cell_regrown e1 d os) (cell_regrown e2 d os) (cell_regrown e3 d os) (hry.later (below_regrown wr d os)) (by omega) (by omega))
    have qq0 := cell_regrown q0
    have qq1 := cell_regrown q1
    have qq2 := cell_regrown q2
    have qq3 := cell_regrown q3
    have ee0 := cell_regrown e0
    have ee1 := cell_regrown e1
    have ee3 := cell_regrown e3
    have hryr := fun d os => hry.later (below_regrown wr d os)
    cases hok : zak (b0, b1, b2, y3) n1
    · have R := Lib.hid (show zay (a0, x1, x2, x3) = false by rw [HF.out, H.out, hd.out, List.all_cons, ← zit, zgj, hok, Bool.false_and, Bool.false_and, Bool.and_false])
      rw [hok] at cN
      clear hok
      go_wp2_with fail
      clear q0 q1 q2 q3 e0 e1 e2 e3
      (refine wp_region_quiet_below (by kernel_rfl) (by kernel_rfl) ?_; (repeat (go_big_quiet_step (exact cN _ _))); refine wpQuiet_nil ?_; intro _ hw'; obtain ⟨⟨dq, osq⟩, hw''⟩ := hw'; subst hw'')
      go_wp2
      go_ret
      exact ⟨zab (by rw [R.out]), zaa Bw (below_regrown wr dq osq)⟩
    · rw [hok] at cN
      have HK := Lib.hid hok
      clear hok
      by_cases hin : b0 = 1 ∧ a0 ≤ b1
      · have R := Lib.hid (show zay (a0, x1, x2, x3) = false by rw [HF.out, H.out, hd.out, List.all_cons, ← zit, zgj]; simp only [hin.1, decide_eq_true hin.2]; simp)
        obtain ⟨rfl, hin2⟩ := hin
        go_wp2_with fail
        clear q0 q1 q2 q3 e0 e1 e2 e3
        (refine wp_region_quiet_below (by kernel_rfl) (by kernel_rfl) ?_; (repeat (go_big_quiet_step (exact cN _ _))); refine wpQuiet_nil ?_; intro _ hw'; obtain ⟨⟨dq, osq⟩, hw''⟩ := hw'; subst hw'')
        go_wp2
        go_ret
        exact ⟨zab (by rw [R.out]), zaa Bw (below_regrown wr dq osq)⟩
      · have HI := Lib.hid (show (!(decide (b0 = 1) && decide (a0 ≤ b1))) = true by
         rw [Bool.not_eq_true', Bool.and_eq_false_iff]
         rcases Classical.em (b0 = 1) with h | h
         · exact .inr (decide_eq_false fun h2 => hin ⟨h, h2⟩)
         · exact .inl (decide_eq_false h))
        have HF2 := Lib.hid (show x2.all (za7 n1 n2 a0) = (y3.all (fun f => decide (f < n2)) && (x2.drop (k + 1)).all (za7 n1 n2 a0)) by rw [H.out, hd.out, List.all_cons, ← zit, zgj, HK.out]; simp only [HI.out, Bool.true_and])
        by_cases hb0 : b0 = 1
        · have hna : ¬ a0 ≤ b1 := fun h => hin ⟨hb0, h⟩
          clear hin HI
          have HK2 := HK
          clear HK
          subst hb0
          go_wp2_with fail
          clear q0 q1 q2 q3 e0 e1 e2 e3
          (refine wp_region_quiet_below (by kernel_rfl) (by kernel_rfl) ?_; (repeat (go_big_quiet_step (exact cN _ _))); refine wpQuiet_nil ?_; intro _ hw'; obtain ⟨⟨dq, osq⟩, hw''⟩ := hw'; subst hw'')
          replace qq0 := qq0 dq osq
          replace qq1 := qq1 dq osq
          replace qq2 := qq2 dq osq
          replace qq3 := qq3 dq osq
          replace ee0 := ee0 dq osq
          replace ee1 := ee1 dq osq
          replace ee3 := ee3 dq osq
          replace hryr := hryr dq osq
          have BV := below_regrown wr dq osq
          clear cN
          generalize grow (redrawn wr dq) osq = V at qq0 qq1 qq2 qq3 ee0 ee1 ee3 hryr BV ⊢
          have BW := zaa Bw BV
          go_wp2_with fail
          go_loop [6] (fun i => ∃ q : Nat, i = .int .i64 q ∧ q ≤ y3.length ∧ Hid (y3.all (fun f => decide (f < n2)) = (y3.drop q).all (fun f => decide (f < n2)))) (fun i => y3.length - (intOf i).toNat)
          case atStart => exact ⟨0, rfl, by omega, Lib.hid (by simp)⟩
          case round =>
           obtain ⟨q, rfl, hq, HQ⟩ := hrel
           by_cases hlt2 : q < y3.length
           · obtain ⟨ad, x, rfl, hab, Y, hc⟩ := hryr.at hlt2
             have hdq := Lib.hid (M.drop_at Y.out)
             by_cases hs : x < n2
             · have R := Lib.hid (show y3.all (fun f => decide (f < n2)) = (y3.drop (q + 1)).all (fun f => decide (f < n2)) by rw [HQ.out, hdq.out, List.all_cons, decide_eq_true hs, Bool.true_and])
               have hs2 : ¬ (n2 : Int) ≤ x := by omega
               go_wp2
               go_round
               case rel => exact ⟨q + 1, by go_num, by omega, R⟩
               case measure => simp [intOf]; omega
             · have R := Lib.hid (show zay (a0, x1, x2, x3) = false by rw [HF.out, HF2.out, HQ.out, hdq.out, List.all_cons, decide_eq_false hs, Bool.false_and, Bool.false_and, Bool.and_false])
               have hs2 : (n2 : Int) ≤ x := by omega
               go_wp2
               go_ret
               exact ⟨zab (by rw [R.out]), BW⟩
           · have HY := Lib.hid (show x2.all (za7 n1 n2 a0) = (x2.drop (k + 1)).all (za7 n1 n2 a0) by rw [HF2.out, HQ.out, List.drop_eq_nil_of_le (by omega)]; rfl)
             clear HQ
             go_wp2_with fail
             go_roundw
             case rel => exact ⟨k + 1, by go_num, by omega, HY, BW⟩
             case measure => simp [intOf]; omega
        · have gb0 : (b0 == 1) = false := by simpa using hb0
          clear hin HI HK
          go_wp2_with fail
          clear q0 q1 q2 q3 e0 e1 e2 e3
          (refine wp_region_quiet_below (by kernel_rfl) (by kernel_rfl) ?_; (repeat (go_big_quiet_step (exact cN _ _))); refine wpQuiet_nil ?_; intro _ hw'; obtain ⟨⟨dq, osq⟩, hw''⟩ := hw'; subst hw'')
          replace qq0 := qq0 dq osq
          replace qq1 := qq1 dq osq
          replace qq2 := qq2 dq osq
          replace qq3 := qq3 dq osq
          replace ee0 := ee0 dq osq
          replace ee1 := ee1 dq osq
          replace ee3 := ee3 dq osq
          replace hryr := hryr dq osq
          have BV := below_regrown wr dq osq
          clear cN
          generalize grow (redrawn wr dq) osq = V at qq0 qq1 qq2 qq3 ee0 ee1 ee3 hryr BV ⊢
          have BW := zaa Bw BV
          go_wp2_with fail
          go_loop [6] (fun i => ∃ q : Nat, i = .int .i64 q ∧ q ≤ y3.length ∧ Hid (y3.all (fun f => decide (f < n2)) = (y3.drop q).all (fun f => decide (f < n2)))) (fun i => y3.length - (intOf i).toNat)
          case atStart => exact ⟨0, rfl, by omega, Lib.hid (by simp)⟩
          case round =>
           obtain ⟨q, rfl, hq, HQ⟩ := hrel
           by_cases hlt2 : q < y3.length
           · obtain ⟨ad, x, rfl, hab, Y, hc⟩ := hryr.at hlt2
             have hdq := Lib.hid (M.drop_at Y.out)
             by_cases hs : x < n2
             · have R := Lib.hid (show y3.all (fun f => decide (f < n2)) = (y3.drop (q + 1)).all (fun f => decide (f < n2)) by rw [HQ.out, hdq.out, List.all_cons, decide_eq_true hs, Bool.true_and])
               have hs2 : ¬ (n2 : Int) ≤ x := by omega
               go_wp2
               go_round
               case rel => exact ⟨q + 1, by go_num, by omega, R⟩
               case measure => simp [intOf]; omega
             · have R := Lib.hid (show zay (a0, x1, x2, x3) = false by rw [HF.out, HF2.out, HQ.out, hdq.out, List.all_cons, decide_eq_false hs, Bool.false_and, Bool.false_and, Bool.and_false])
               have hs2 : (n2 : Int) ≤ x := by omega
               go_wp2
               go_ret
               exact ⟨zab (by rw [R.out]), BW⟩
           · have HY := Lib.hid (show x2.all (za7 n1 n2 a0) = (x2.drop (k + 1)).all (za7 n1 n2 a0) by rw [HF2.out, HQ.out, List.drop_eq_nil_of_le (by omega)]; rfl)
             clear HQ
             go_wp2_with fail
             go_roundw
             case rel => exact ⟨k + 1, by go_num, by omega, HY, BW⟩
             case measure => simp [intOf]; omega
  · have HA := Lib.hid (show x2.all (za7 n1 n2 a0) = true by rw [H.out, List.drop_eq_nil_of_le (by rw [L2.out]; omega)]; rfl)
    have HF3 := Lib.hid (show zay (a0, x1, x2, x3) = x3.all (zax n2) by rw [HF.out, HA.out, Bool.and_true])
    have hx3r := (hx3.below Bw)
    go_wp2_with fail
    clear H hk hlt
    go_loop [7] (fun i => ∃ k : Nat, i = .int .i64 k ∧ k ≤ n3 ∧ Hid (x3.all (zax n2) = (x3.drop k).all (zax n2))) (fun i => n3 - (intOf i).toNat)
    case atStart => exact ⟨0, rfl, by omega, Lib.hid (by simp)⟩
    case round =>
     obtain ⟨k, rfl, hk, H⟩ := hrel
     by_cases hlt : k < n3
     · obtain ⟨ad, x, rfl, hab, X, hc⟩ := hx3r.at hlt
       have hd := Lib.hid (M.drop_at X.out)
       cases hs : M.inn x 0 ((n2 : Int) - 1)
       · have R := Lib.hid (show zay (a0, x1, x2, x3) = false by rw [HF3.out, H.out, hd.out, List.all_cons, zax, hs]; rfl)
         go_wp2_with (go_at_call 25; refine (zat _ _ _ _).mono ?_; rintro e w' ⟨rfl, rfl⟩)
         go_ret
         exact ⟨zab (by rw [R.out]), Bw⟩
       · have R := Lib.hid (show x3.all (zax n2) = (x3.drop (k + 1)).all (zax n2) by rw [H.out, hd.out, List.all_cons, zax, hs]; rfl)
         go_wp2_with (go_at_call 25; refine (zat _ _ _ _).mono ?_; rintro e w' ⟨rfl, rfl⟩)
         go_round
         case rel => exact ⟨k + 1, by go_num, by omega, R⟩
         case measure => simp [intOf]; omega
     · have R := Lib.hid (show zay (a0, x1, x2, x3) = true by rw [HF3.out, H.out, List.drop_eq_nil_of_le (by rw [L3.out]; omega)]; rfl)
       go_wp2
       go_ret
       exact ⟨zab (by rw [R.out]), Bw⟩
theorem zk1 (b o : Nat) (a0 : Int) (A1 : Option Addr) (n1 c1 : Nat) (A2 : Option Addr) (n2 c2 : Nat) (A3 : Option Addr) (n3 c3 : Nat) (x1 : List (List Int)) (x2 : List Node) (x3 : List Int) (w : World) (p0 : w.cell? ⟨b, o, none⟩ = some (.int .i64 a0)) (p1 : w.cell? ⟨b, o + 1, none⟩ = some (.slice A1 n1 c1)) (p2 : w.cell? ⟨b, o + 2, none⟩ = some (.slice A2 n2 c2)) (p3 : w.cell? ⟨b, o + 3, none⟩ = some (.slice A3 n3 c3))
 (h1 : tSS.R w w.heap.size [.slice A1 n1 c1] x1) (h2 : tNS.R w w.heap.size [.slice A2 n2 c2] x2) (h3 : tS.R w w.heap.size [.slice A3 n3 c3] x3) (hn : hP.sz ((a0, x1, x2, x3) : zaf) ≤ 100000000) :
 Calls Tryz.prog 75 #[.pointer (some ⟨b, o, none⟩)] w fun e w' => e = .returned (.bool (zcb (a0, x1, x2, x3))) ∧ Below w.heap.size w w' := by
 have lx : b < w.heap.size := World.block_lt_of_cell? w _ p0
 have hb2 : hNS.sz x2 ≤ 100000000 := by rw [zef] at hn; omega
 have r2 := sl_R.1 h2
 cases g0 : zay (a0, x1, x2, x3)
 · have R := Lib.hid (show zcb (a0, x1, x2, x3) = false by rw [zcb, g0]; rfl)
   have G0 := Lib.hid g0
   clear g0
   go_enter Tryz.func75, Tryz.ntmps75
   go_wp2_with (go_at_call 104; refine (zk0 b o a0 A1 n1 c1 A2 n2 c2 A3 n3 c3 x1 x2 x3 _ p0 p1 p2 p3 h1 h2 h3 hn).mono ?_; rw [G0.out]; rintro e w2 ⟨rfl, bel2⟩)
   go_ret
   exact ⟨zab (by rw [R.out]), bel2⟩
 · have G0 := Lib.hid g0
   have R := Lib.hid (show zcb (a0, x1, x2, x3) = decide ((za8 x2).length = x2.length) by rw [zcb, g0]; rfl)
   clear g0
   go_enter Tryz.func75, Tryz.ntmps75
   go_wp2_with (go_at_call 104; refine (zk0 b o a0 A1 n1 c1 A2 n2 c2 A3 n3 c3 x1 x2 x3 _ p0 p1 p2 p3 h1 h2 h3 hn).mono ?_; rw [G0.out]; rintro e w2 ⟨rfl, bel2⟩)
   refine (zp2 b o A2 n2 c2 x2 w2 (by rw [bel2.cell lx]; exact p2) (r2.later bel2) hb2).mono ?_
   rintro e w3 ⟨v, rfl, -, bel3⟩
   go_wp2
   go_ret
   exact ⟨zab (by rw [R.out]), zaa bel2 bel3⟩
theorem zgk (b o : Nat) (a0 : Int) (A1 : Option Addr) (n1 c1 : Nat) (A2 : Option Addr) (n2 c2 : Nat) (A3 : Option Addr) (n3 c3 : Nat) (x1 : List (List Int)) (x2 : List Node) (x3 : List Int) (w : World) (p0 : w.cell? ⟨b, o, none⟩ = some (.int .i64 a0)) (p1 : w.cell? ⟨b, o + 1, none⟩ = some (.slice A1 n1 c1)) (p2 : w.cell? ⟨b, o + 2, none⟩ = some (.slice A2 n2 c2)) (p3 : w.cell? ⟨b, o + 3, none⟩ = some (.slice A3 n3 c3))
 (L1 : Hid (x1.length = n1)) (L2 : Hid (x2.length = n2)) (L3 : Hid (x3.length = n3)) :
 Calls Tryz.prog 74 #[.pointer (some ⟨b, o, none⟩)] w fun e w' => e = .returned (.bool (decide (((a0, x1, x2, x3) : zaf) = M.p0))) ∧ w = w' := by
 have R0 := Lib.hid (show decide (((a0, x1, x2, x3) : zaf) = M.p0) = (decide (a0 = 0) && decide (n1 = 0) && decide (n2 = 0) && decide (n3 = 0)) by
  rw [Bool.eq_iff_iff, M.p0, ← L1.out, ← L2.out, ← L3.out]
  simp only [decide_eq_true_eq, Prod.mk.injEq, Bool.and_eq_true, List.length_eq_zero_iff, and_assoc])
 rw [R0.out]
 by_cases k0 : a0 = 0
 · subst k0
   by_cases k1 : n1 = 0
   · subst k1
     by_cases k2 : n2 = 0
     · subst k2
       by_cases k3 : n3 = 0
       · subst k3
         go_enter Tryz.func74, Tryz.ntmps74
         go_wp2
         go_ret
         exact ⟨rfl, rfl⟩
       · have g3 : ((n3 : Int) == 0) = false := by simpa using k3
         go_enter Tryz.func74, Tryz.ntmps74
         go_wp2
         go_ret
         exact ⟨zab (by simp [k3]), rfl⟩
     · have g2 : ((n2 : Int) == 0) = false := by simpa using k2
       go_enter Tryz.func74, Tryz.ntmps74
       go_wp2
       go_ret
       exact ⟨zab (by simp [k2]), rfl⟩
   · have g1 : ((n1 : Int) == 0) = false := by simpa using k1
     go_enter Tryz.func74, Tryz.ntmps74
     go_wp2
     go_ret
     exact ⟨zab (by simp [k1]), rfl⟩
 · have g0 : (a0 == 0) = false := by simpa using k0
   go_enter Tryz.func74, Tryz.ntmps74
   go_wp2
   go_ret
   exact ⟨zab (by simp [k0]), rfl⟩
theorem zp3 (xs : List Clip) (m : Int) (h : xs.all (fun c => M.inn c.1 0 (m - 1)) = true) : zbe xs m = true := by
 rw [List.all_eq_true] at h
 rw [zbe, List.all_eq_true]
 intro x hx
 have := za2.1 (h x hx)
 simp
 omega
theorem zp4 (xs : List Clip) (m : Int) {k : Nat} {x : Clip} (hx : xs[k]? = some x) (h : M.inn x.1 0 (m - 1) = false) : (zau xs && zbe xs m) = false := by
 rw [Bool.and_eq_false_iff]
 rcases Classical.em (x.1 < m) with h1 | h1
 · left
   cases ht : zau xs
   · rfl
   · have := (zjt (zh7 ht hx)).1
     rw [za2.2 (by omega)] at h
     cases h
 · right
   rw [zbe, List.all_eq_false]
   exact ⟨x, List.mem_of_getElem? hx, by simpa using h1⟩
theorem zp5 (b o : Nat) (A : Option Addr) (n c : Nat) (xs : List Clip) (m : Int) (w : World) (p0 : w.cell? ⟨b, o, none⟩ = some (.slice A n c)) (hx : RA cl 5 w w.heap.size A n xs) (hn : n ≤ 1000000000) (hm : 0 ≤ m ∧ m ≤ 1000000000) :
 Calls Tryz.prog 73 #[.pointer (some ⟨b, o, none⟩), .int .i64 m] w fun e w' => e = .returned (.bool (zau xs && zbe xs m)) ∧ Below w.heap.size w w' := by
 have hl := Lib.hid hx.len
 go_enter Tryz.func73, Tryz.ntmps73
 go_wp2
 go_loop [5] (fun i => ∃ k : Nat, i = .int .i64 k ∧ k ≤ n ∧ Hid (xs.all (fun c => M.inn c.1 0 (m - 1)) = (xs.drop k).all (fun c => M.inn c.1 0 (m - 1)))) (fun i => n - (intOf i).toNat)
 case atStart => exact ⟨0, rfl, by omega, Lib.hid (by simp)⟩
 case round =>
  obtain ⟨k, rfl, hk, H⟩ := hrel
  by_cases hlt : k < n
  · obtain ⟨bb, o1, ⟨d0, d1, d2, d3, d4⟩, rfl, hab, X, hc⟩ := hx.at zc8 (by decide) hlt
    have e0 : w.cell? ⟨bb, o1 + k * 5, none⟩ = some (.int .i64 d0) := hc 0 _ rfl
    clear hc
    have hd := Lib.hid (M.drop_at X.out)
    cases hs : M.inn d0 0 (m - 1)
    · have R := Lib.hid (zp4 xs m X.out hs)
      go_wp2_with (go_at_call 25; refine (zat _ _ _ _).mono ?_; rintro e w' ⟨rfl, rfl⟩)
      go_ret
      exact ⟨zab (by rw [R.out]), Below.refl _ _⟩
    · have R := Lib.hid (show xs.all (fun c => M.inn c.1 0 (m - 1)) = (xs.drop (k + 1)).all (fun c => M.inn c.1 0 (m - 1)) by rw [H.out, hd.out, List.all_cons]; simp only [hs, Bool.true_and])
      go_wp2_with (go_at_call 25; refine (zat _ _ _ _).mono ?_; rintro e w' ⟨rfl, rfl⟩)
      go_round
      case rel => exact ⟨k + 1, by go_num, by omega, R⟩
      case measure => simp [intOf]; omega
  · have HS := Lib.hid (zp3 xs m (by rw [H.out, List.drop_eq_nil_of_le (by rw [hl.out]; omega)]; rfl))
    clear H
    go_wp2_with (go_at_call 103; refine (zpd _ _ _ _ _ hx hn).mono ?_; rintro e w2 ⟨rfl, bel2⟩)
    go_ret
    exact ⟨zab (by rw [HS.out, Bool.and_true]), bel2⟩
end
section
open Go.RowKit Go.Sort
set_option synthInstance.maxSize 2000
set_option synthInstance.maxHeartbeats 400000
theorem zet (A : Option Addr) (n c : Nat) (xs : List Int) (m : Int) (w : World) (hx : RI w w.heap.size A n xs) (hn : n ≤ 1000000000000) (hm : 0 ≤ m ∧ m ≤ 1000000000) :
 Calls Tryz.prog 47 #[.slice A n c, .int .i64 m] w fun e w' => e = .returned (.bool (xs.all (zax m))) ∧ w = w' := by
 go_enter Tryz.func47, Tryz.ntmps47
 go_wp2
 go_loop [6, 9] (fun _ i => ∃ k : Nat, i = .int .i64 k ∧ k ≤ n ∧ Hid (xs.all (zax m) = (xs.drop k).all (zax m))) (fun _ i => n - (intOf i).toNat)
 case atStart => exact ⟨0, rfl, by omega, Lib.hid (by simp)⟩
 case round =>
  obtain ⟨k, rfl, hk, H⟩ := hrel
  have hl := Lib.hid hx.len
  by_cases hlt : k < n
  · obtain ⟨ad, x, rfl, hab, X, hc⟩ := hx.at hlt
    have hd := Lib.hid (M.drop_at X.out)
    cases hs : M.inn x 0 (m - 1)
    · have R := Lib.hid (show xs.all (zax m) = false by rw [H.out, hd.out, List.all_cons, zax, hs]; rfl)
      go_wp2_with (go_at_call 56; refine (zao _ _ _ _).mono ?_; rintro e w' ⟨rfl, rfl⟩)
      go_ret
      exact ⟨zab (by rw [R.out]), rfl⟩
    · have R := Lib.hid (show xs.all (zax m) = (xs.drop (k + 1)).all (zax m) by rw [H.out, hd.out, List.all_cons, zax, hs]; rfl)
      go_wp2_with (go_at_call 56; refine (zao _ _ _ _).mono ?_; rintro e w' ⟨rfl, rfl⟩)
      go_round
      case rel => exact ⟨k + 1, by go_num, by omega, R⟩
      case measure => simp [intOf]; omega
  · have R := Lib.hid (show xs.all (zax m) = true by rw [H.out, List.drop_eq_nil_of_le (by rw [hl.out]; omega)]; rfl)
    go_wp2
    go_ret
    exact ⟨zab (by rw [R.out]), rfl⟩
theorem zgl (A : Option Addr) (n c : Nat) (ts : List (List Int)) (w : World) (hx : RS tS w w.heap.size (.slice A n c) ts) (hb : Hid (∀ x ∈ ts, x.length ≤ 1000000000)) (hn : n ≤ 1000000000) :
 Calls Tryz.prog 135 #[.slice A n c] w fun e w' => e = .returned (.bool (zbj ts)) ∧ w = w' := by
 have hl := Lib.hid hx.cap.1
 go_enter Tryz.func135, Tryz.ntmps135
 go_wp2
 go_loop [4, 5, 8] (fun _ _ i => ∃ k : Nat, i = .int .i64 k ∧ k ≤ n ∧ Hid (ts.all zcg = (ts.drop k).all zcg)) (fun _ _ i => n - (intOf i).toNat)
 case atStart => exact ⟨0, rfl, by omega, Lib.hid (by simp)⟩
 case round =>
  obtain ⟨k, rfl, hk, H⟩ := hrel
  by_cases hlt : k < n
  · obtain ⟨bb, o, A1, c1, x, rfl, hbb, X, hc, hri, hxl⟩ := ze6 hx hb hlt
    have hd := Lib.hid (M.drop_at X.out)
    cases hs : (decide (x.length = 2) || decide (x.length = 4) || decide (x.length = 8) || decide (x.length = 16))
    · have R := Lib.hid (show zbj ts = false by rw [zbj, H.out, hd.out, List.all_cons, zcg, hs]; rfl)
      have h2 : ¬ x.length = 2 := fun e => by simp [e] at hs
      have h4 : ¬ x.length = 4 := fun e => by simp [e] at hs
      have h8 : ¬ x.length = 8 := fun e => by simp [e] at hs
      have h16 : ¬ x.length = 16 := fun e => by simp [e] at hs
      have g2 : ((x.length : Int) != 2) = true := by simp; omega
      have g4 : ((x.length : Int) != 4) = true := by simp; omega
      have g8 : ((x.length : Int) != 8) = true := by simp; omega
      have g16 : ((x.length : Int) != 16) = true := by simp; omega
      clear hs h2 h4 h8 h16
      go_wp2
      go_ret
      exact ⟨zab (by rw [R.out]), rfl⟩
    · have HS := Lib.hid hs
      cases hq : x.all M.smp
      · have R := Lib.hid (show zbj ts = false by rw [zbj, H.out, hd.out, List.all_cons, zcg, hq, Bool.and_false]; rfl)
        have hor : x.length = 2 ∨ x.length = 4 ∨ x.length = 8 ∨ x.length = 16 := by simp at hs; omega
        have HQ := Lib.hid hq
        clear hs hq
        rcases hor with e | e | e | e
        all_goals
         rw [e] at hc hri
         go_wp2_with (go_at_call 76; refine (zh3 _ _ _ _ _ hri (by omega)).mono ?_; rw [HQ.out]; rintro e w' ⟨rfl, rfl⟩)
         go_ret
         exact ⟨zab (by rw [R.out]), rfl⟩
      · have R := Lib.hid (show ts.all zcg = (ts.drop (k + 1)).all zcg by rw [H.out, hd.out, List.all_cons, zcg, hs, hq]; rfl)
        have hor : x.length = 2 ∨ x.length = 4 ∨ x.length = 8 ∨ x.length = 16 := by simp at hs; omega
        have HQ := Lib.hid hq
        clear hs hq
        rcases hor with e | e | e | e
        all_goals
         rw [e] at hc hri
         go_wp2_with (go_at_call 76; refine (zh3 _ _ _ _ _ hri (by omega)).mono ?_; rw [HQ.out]; rintro e w' ⟨rfl, rfl⟩)
         go_round
         case rel => exact ⟨k + 1, by go_num, by omega, R⟩
         case measure => simp [intOf]; omega
  · have R := Lib.hid (show zbj ts = decide (n ≤ 4) by rw [zbj, H.out, List.drop_eq_nil_of_le (by rw [hl.out]; omega), hl.out]; rfl)
    go_wp2
    go_ret
    exact ⟨zab (by rw [R.out, Bool.eq_iff_iff]; simp; try omega), rfl⟩
def M.kn (j : Nat) : ByteArray := [⟨#[105, 110, 112, 117, 116]⟩, ⟨#[99, 111, 110, 115, 116]⟩, ⟨#[97, 100, 100]⟩, ⟨#[115, 117, 98]⟩, ⟨#[103, 97, 105, 110]⟩, ⟨#[100, 101, 108, 97, 121]⟩, ⟨#[115, 117, 109]⟩, ⟨#[100, 105, 102, 102]⟩, ⟨#[109, 117, 108]⟩, ⟨#[115, 104, 105, 102, 116]⟩, ⟨#[99, 108, 105, 112]⟩, ⟨#[112, 104, 97, 115, 101]⟩, ⟨#[116, 97, 98, 108, 101]⟩, ⟨#[110, 111, 105, 115, 101]⟩, ⟨#[115, 101, 108, 101, 99, 116]⟩, ⟨#[104, 111, 108, 100]⟩, ⟨#[99, 111, 109, 98]⟩].getD j ⟨#[]⟩
def zp6 (w : World) (g : Nat) : Prop := ∀ j, j < 17 → w.cell? ⟨g, j * 6, none⟩ = some (.string (M.kn j)) ∧ w.cell? ⟨g, j * 6 + 1, none⟩ = some (.int .i64 (M.kd j).1) ∧ w.cell? ⟨g, j * 6 + 2, none⟩ = some (.int .i64 (M.kd j).2.1) ∧ w.cell? ⟨g, j * 6 + 3, none⟩ = some (.int .i64 (M.kd j).2.2.1) ∧ w.cell? ⟨g, j * 6 + 4, none⟩ = some (.bool (M.kd j).2.2.2.1) ∧ w.cell? ⟨g, j * 6 + 5, none⟩ = some (.bool (M.kd j).2.2.2.2)
theorem zk2 (w : World) :
 Calls Tryz.prog 146 #[] w fun e w' => ∃ g, e = .returned (.slice (some ⟨g, 0, none⟩) 17 17) ∧ w.heap.size ≤ g ∧ g < w'.heap.size ∧ zp6 w' g ∧ Below w.heap.size w w' := by
 go_enter Tryz.func146, Tryz.ntmps146
 go_wp2
 go_ret
 refine ⟨_, rfl, Nat.le_refl _, by simp, ?_, (Below.refl _ _).alloc (Nat.le_refl _) _⟩
 intro j hj
 obtain rfl | rfl | rfl | rfl | rfl | rfl | rfl | rfl | rfl | rfl | rfl | rfl | rfl | rfl | rfl | rfl | rfl : j = 0 ∨ j = 1 ∨ j = 2 ∨ j = 3 ∨ j = 4 ∨ j = 5 ∨ j = 6 ∨ j = 7 ∨ j = 8 ∨ j = 9 ∨ j = 10 ∨ j = 11 ∨ j = 12 ∨ j = 13 ∨ j = 14 ∨ j = 15 ∨ j = 16 := by omega
 all_goals
  refine ⟨?_, ?_, ?_, ?_, ?_, ?_⟩
  all_goals (rw [cell_of_row _ w.heap.size _ _ 178 (0, 0) (heap_alloc_new w _)]; rfl)
theorem zk3 (k : Int) (w : World) : Calls Tryz.prog 145 #[.int .i64 k] w fun e w' => e = .returned (.bool (M.inn k 1 17)) ∧ w = w' := by
 go_enter Tryz.func145, Tryz.ntmps145
 go_wp2_with (go_at_call 56; refine (zao _ _ _ _).mono ?_; rintro e w' ⟨rfl, rfl⟩)
 go_ret
 exact ⟨rfl, rfl⟩
theorem zd8 (s : ByteArray) (i lo hi : Int) (l b : Bool) (w : World) : Calls Tryz.prog 147 #[.agg #[.string s, .int .i64 i, .int .i64 lo, .int .i64 hi, .bool l, .bool b]] w fun e w' => e = .returned (.bool (decide (lo ≤ hi))) ∧ Below w.heap.size w w' := by
 have B0 : Below w.heap.size w (w.alloc (.cells #[.string s, .int .i64 i, .int .i64 lo, .int .i64 hi, .bool l, .bool b] 178)) := (Below.refl _ _).alloc (Nat.le_refl _) _
 go_enter Tryz.func147, Tryz.ntmps147
 go_wp2
 go_ret
 exact ⟨rfl, B0⟩
end
section
open Go.RowKit Go.Sort
theorem zp7 (a0 a1 a2 : Int) (A : Option Addr) (n c : Nat) (xs : List Int) (tb : Int) (w : World) (hx : RI w w.heap.size A n xs) (hn : n ≤ 1000000000) :
 Calls Tryz.prog 136 #[.agg #[.int .i64 a0, .int .i64 a1, .int .i64 a2, .slice A n c], .int .i64 tb] w fun e w' => e = .returned (.bool (zak (a0, a1, a2, xs) tb)) ∧ Below w.heap.size w w' := by
 obtain ⟨W, hW⟩ : ∃ W, W = w.alloc (.cells #[.int .i64 a0, .int .i64 a1, .int .i64 a2, .slice A n c] 122) := ⟨_, rfl⟩
 have B0 : Below w.heap.size w W := by rw [hW]; exact (Below.refl _ _).alloc (Nat.le_refl _) _
 have p0 : W.cell? ⟨w.heap.size, 0, none⟩ = some (.int .i64 a0) := by rw [hW]; simp [go_sem]
 have p1 : W.cell? ⟨w.heap.size, 1, none⟩ = some (.int .i64 a1) := by rw [hW]; simp [go_sem]
 have p2 : W.cell? ⟨w.heap.size, 2, none⟩ = some (.int .i64 a2) := by rw [hW]; simp [go_sem]
 have p3 : W.cell? ⟨w.heap.size, 3, none⟩ = some (.slice A n c) := by rw [hW]; simp [go_sem]
 have lx : w.heap.size < W.heap.size := by rw [hW]; simp
 have hx1 := hx.later B0
 have HW := Lib.hid hW
 have hlen := Lib.hid hx.len
 clear hW hx
 cases h : M.inn a0 1 17
 · have R := Lib.hid (show zak (a0, a1, a2, xs) tb = false by rw [zak, h]; rfl)
   go_enter Tryz.func136, Tryz.ntmps136
   go_wp2_with fail
   rw [← HW.out]
   go_wp2_with (go_at_call 145; refine (zk3 _ _).mono ?_; rintro e w' ⟨rfl, rfl⟩)
   go_ret
   exact ⟨zab (by rw [R.out]), B0⟩
 · have hr := za2.1 h
   obtain ⟨j, hj⟩ : ∃ j : Nat, j = a0.toNat - 1 := ⟨_, rfl⟩
   have hj17 : j < 17 := by omega
   have hja : IntKind.i64.wrap (a0 - 1) = (j : Int) := by rw [IntWalk.i64_in _ (by omega)]; omega
   have hj0 : (0 : Int) ≤ (j : Int) := by omega
   have hj1 : (j : Int) < 17 := by omega
   obtain ⟨⟨ki, lo, hi, li, hb⟩, hk⟩ : ∃ q, q = M.kd j := ⟨_, rfl⟩
   have HK := Lib.hid hk
   have HI := Lib.hid h
   have HN := Lib.hid (show zak (a0, a1, a2, xs) tb = (M.aI (ki, lo, hi, li, hb) a1 && M.bI (ki, lo, hi, li, hb) a2 && xs.all zav && decide ((xs.length : Int) = ki) && (decide (¬ a0 = 13) || decide (a1 < tb))) by rw [zak]; simp only [h, Bool.true_and]; rw [← hj, ← hk])
   clear hj hk h hr
   have Da : Below W.heap.size W W.drew := zac (Below.refl _ _) 1
   have Db : Below W.heap.size W (W.alloc (.cells #[.string ⟨#[]⟩, .int .i64 0, .int .i64 0, .int .i64 0, .bool false, .bool false] 178)).drew := zac ((Below.refl _ _).alloc (Nat.le_refl _) _) 1
   have sb : (W.alloc (.cells #[.string ⟨#[]⟩, .int .i64 0, .int .i64 0, .int .i64 0, .bool false, .bool false] 178)).drew.heap.size = W.heap.size + 1 := by simp
   have sa : W.drew.heap.size = W.heap.size := rfl
   go_enter Tryz.func136, Tryz.ntmps136
   go_wp2_with fail
   rw [← HW.out]
   go_wp2_with (go_at_call 145; refine (zk3 _ _).mono ?_; rw [HI.out]; rintro e w' ⟨rfl, rfl⟩)
   go_cut [5] (fun q5 wx => ∃ g, q5 = .pointer (some ⟨g, 0, none⟩) ∧ W.heap.size ≤ g ∧ g < wx.heap.size ∧ wx.cell? ⟨g, 0, none⟩ = some (.string (M.kn j)) ∧ wx.cell? ⟨g, 1, none⟩ = some (.int .i64 ki) ∧ wx.cell? ⟨g, 2, none⟩ = some (.int .i64 lo) ∧ wx.cell? ⟨g, 3, none⟩ = some (.int .i64 hi) ∧ wx.cell? ⟨g, 4, none⟩ = some (.bool li) ∧ wx.cell? ⟨g, 5, none⟩ = some (.bool hb) ∧ Below W.heap.size W wx)
   case first =>
    go_region_with (first | (go_at_call 146; refine (zk2 _).mono ?_; rintro e w2 ⟨g, rfl, hg0, hg1, KC, bel2⟩; obtain ⟨k0, k1, k2, k3, k4, k5⟩ := KC j hj17; rw [← HK.out] at k1 k2 k3 k4 k5; simp only at k1 k2 k3 k4 k5; have G2 : Below W.heap.size W w2 := zaa Db bel2; have q0 : w2.cell? ⟨w.heap.size, 0, none⟩ = some (.int .i64 a0) := (by rw [G2.cell lx]; exact p0); have hs2 := bel2.size; have lw2 : w.heap.size < w2.heap.size := (by have := G2.size; omega); have bz0 : w2.cell? ⟨W.heap.size, 0, none⟩ = some (.string ⟨#[]⟩) := (by rw [bel2.cell (by simp)]; simp [go_sem]); have by0 : w2.frozen? ⟨W.heap.size, 0, none⟩ = false := (by rw [bel2.frozen (by simp)]; simp [go_sem]); have bz1 : w2.cell? ⟨W.heap.size, 1, none⟩ = some (.int .i64 0) := (by rw [bel2.cell (by simp)]; simp [go_sem]); have by1 : w2.frozen? ⟨W.heap.size, 1, none⟩ = false := (by rw [bel2.frozen (by simp)]; simp [go_sem]); have bz2 : w2.cell? ⟨W.heap.size, 2, none⟩ = some (.int .i64 0) := (by rw [bel2.cell (by simp)]; simp [go_sem]); have by2 : w2.frozen? ⟨W.heap.size, 2, none⟩ = false := (by rw [bel2.frozen (by simp)]; simp [go_sem]); have bz3 : w2.cell? ⟨W.heap.size, 3, none⟩ = some (.int .i64 0) := (by rw [bel2.cell (by simp)]; simp [go_sem]); have by3 : w2.frozen? ⟨W.heap.size, 3, none⟩ = false := (by rw [bel2.frozen (by simp)]; simp [go_sem]); have bz4 : w2.cell? ⟨W.heap.size, 4, none⟩ = some (.bool false) := (by rw [bel2.cell (by simp)]; simp [go_sem]); have by4 : w2.frozen? ⟨W.heap.size, 4, none⟩ = false := (by rw [bel2.frozen (by simp)]; simp [go_sem]); have bz5 : w2.cell? ⟨W.heap.size, 5, none⟩ = some (.bool false) := (by rw [bel2.cell (by simp)]; simp [go_sem]); have by5 : w2.frozen? ⟨W.heap.size, 5, none⟩ = false := (by rw [bel2.frozen (by simp)]; simp [go_sem]); have lb2 : W.heap.size < w2.heap.size := (by rw [sb] at hs2; omega); have nb2 : ¬ g = W.heap.size := (by rw [sb] at hg0; omega)) | (go_at_call 146; refine (zk2 _).mono ?_; rintro e w2 ⟨g, rfl, hg0, hg1, KC, bel2⟩; obtain ⟨k0, k1, k2, k3, k4, k5⟩ := KC j hj17; rw [← HK.out] at k1 k2 k3 k4 k5; simp only at k1 k2 k3 k4 k5; have G2 : Below W.heap.size W w2 := zaa Da bel2; have q0 : w2.cell? ⟨w.heap.size, 0, none⟩ = some (.int .i64 a0) := (by rw [G2.cell lx]; exact p0); have hs2 := bel2.size; have lw2 : w.heap.size < w2.heap.size := (by have := G2.size; omega)))
    all_goals
     go_wp2_with fail
     go_meet
     refine ⟨_, rfl, ?_⟩
     first
      | (have _t := nb2; refine ⟨Nat.le_refl _, by simp; omega, ?_, ?_, ?_, ?_, ?_, ?_, (((((G2.setCell (Nat.le_refl _) _).setCell (Nat.le_refl _) _).setCell (Nat.le_refl _) _).setCell (Nat.le_refl _) _).setCell (Nat.le_refl _) _).setCell (Nat.le_refl _) _⟩ <;> (simp [go_sem, bz0, bz1, bz2, bz3, bz4, bz5]; done))
      | (refine ⟨by have := G2.size; omega, by simp, ?_, ?_, ?_, ?_, ?_, ?_, G2.alloc G2.size _⟩ <;> (simp [go_sem]; done))
   case rest =>
    have hcut_ := hcut
    clear hcut Da Db sa sb
    obtain ⟨U, rfl⟩ : ∃ u_ : World, u_ = wc := ⟨_, rfl⟩
    obtain ⟨g, rfl, hg, lg, e0, e1, e2, e3, e4, e5, G⟩ := hcut_
    clear HW
    have lw : w.heap.size < U.heap.size := by have := G.size; omega
    replace p0 : U.cell? ⟨w.heap.size, 0, none⟩ = some (.int .i64 a0) := by rw [G.cell lx]; exact p0
    replace p1 : U.cell? ⟨w.heap.size, 1, none⟩ = some (.int .i64 a1) := by rw [G.cell lx]; exact p1
    replace p2 : U.cell? ⟨w.heap.size, 2, none⟩ = some (.int .i64 a2) := by rw [G.cell lx]; exact p2
    replace p3 : U.cell? ⟨w.heap.size, 3, none⟩ = some (.slice A n c) := by rw [G.cell lx]; exact p3
    replace hx1 := hx1.later G
    by_cases hle : lo ≤ hi
    · have HL := Lib.hid (decide_eq_true hle)
      cases h1 : M.inn a1 lo hi
      · have HA := Lib.hid (show M.aI (ki, lo, hi, li, hb) a1 = false by rw [M.aI, if_pos hle, h1])
        have R := Lib.hid (show zak (a0, a1, a2, xs) tb = false by rw [HN.out, HA.out]; try rfl)
        go_wp2_with (first | (go_at_call 147; refine (zd8 _ _ _ _ _ _ _).mono ?_; rw [HL.out]; rintro e v5 ⟨rfl, bel5⟩; have s5 := bel5.size; replace e0 : v5.cell? ⟨g, 0, none⟩ = some (.string (M.kn j)) := (by rw [bel5.cell lg]; exact e0); replace e1 : v5.cell? ⟨g, 1, none⟩ = some (.int .i64 ki) := (by rw [bel5.cell lg]; exact e1); replace e2 : v5.cell? ⟨g, 2, none⟩ = some (.int .i64 lo) := (by rw [bel5.cell lg]; exact e2); replace e3 : v5.cell? ⟨g, 3, none⟩ = some (.int .i64 hi) := (by rw [bel5.cell lg]; exact e3); replace e4 : v5.cell? ⟨g, 4, none⟩ = some (.bool li) := (by rw [bel5.cell lg]; exact e4); replace e5 : v5.cell? ⟨g, 5, none⟩ = some (.bool hb) := (by rw [bel5.cell lg]; exact e5); replace p0 : v5.cell? ⟨w.heap.size, 0, none⟩ = some (.int .i64 a0) := (by rw [bel5.cell lw]; exact p0); replace p1 : v5.cell? ⟨w.heap.size, 1, none⟩ = some (.int .i64 a1) := (by rw [bel5.cell lw]; exact p1); replace p2 : v5.cell? ⟨w.heap.size, 2, none⟩ = some (.int .i64 a2) := (by rw [bel5.cell lw]; exact p2); replace p3 : v5.cell? ⟨w.heap.size, 3, none⟩ = some (.slice A n c) := (by rw [bel5.cell lw]; exact p3); replace hx1 := hx1.later bel5; replace lg : g < v5.heap.size := (by omega); replace lw : w.heap.size < v5.heap.size := (by omega); replace G := zaa G bel5; clear bel5 s5) | (go_at_call 56; refine (zao _ _ _ _).mono ?_; rintro e w' ⟨rfl, rfl⟩))
        go_ret
        exact ⟨zab (by rw [R.out]), zaa B0 G⟩
      · have HA := Lib.hid (fun hb => show M.aI (ki, lo, hi, li, hb) a1 = true by rw [M.aI, if_pos hle, h1])
        cases hb
        · by_cases h2 : a2 = 0
          · have HB := Lib.hid (show M.bI (ki, lo, hi, li, false) a2 = true by rw [M.bI, if_neg (by simp)]; simpa using h2)
            have g2 : (a2 != 0) = false := by simp [h2]
            have HM := Lib.hid (show zak (a0, a1, a2, xs) tb = (xs.all zav && decide ((xs.length : Int) = ki) && (decide (¬ a0 = 13) || decide (a1 < tb))) by rw [HN.out, (HA.out _), HB.out]; rfl)
            go_wp2_with (first | (go_at_call 147; refine (zd8 _ _ _ _ _ _ _).mono ?_; rw [HL.out]; rintro e v5 ⟨rfl, bel5⟩; have s5 := bel5.size; replace e0 : v5.cell? ⟨g, 0, none⟩ = some (.string (M.kn j)) := (by rw [bel5.cell lg]; exact e0); replace e1 : v5.cell? ⟨g, 1, none⟩ = some (.int .i64 ki) := (by rw [bel5.cell lg]; exact e1); replace e2 : v5.cell? ⟨g, 2, none⟩ = some (.int .i64 lo) := (by rw [bel5.cell lg]; exact e2); replace e3 : v5.cell? ⟨g, 3, none⟩ = some (.int .i64 hi) := (by rw [bel5.cell lg]; exact e3); replace e4 : v5.cell? ⟨g, 4, none⟩ = some (.bool li) := (by rw [bel5.cell lg]; exact e4); replace e5 : v5.cell? ⟨g, 5, none⟩ = some (.bool false) := (by rw [bel5.cell lg]; exact e5); replace p0 : v5.cell? ⟨w.heap.size, 0, none⟩ = some (.int .i64 a0) := (by rw [bel5.cell lw]; exact p0); replace p1 : v5.cell? ⟨w.heap.size, 1, none⟩ = some (.int .i64 a1) := (by rw [bel5.cell lw]; exact p1); replace p2 : v5.cell? ⟨w.heap.size, 2, none⟩ = some (.int .i64 a2) := (by rw [bel5.cell lw]; exact p2); replace p3 : v5.cell? ⟨w.heap.size, 3, none⟩ = some (.slice A n c) := (by rw [bel5.cell lw]; exact p3); replace hx1 := hx1.later bel5; replace lg : g < v5.heap.size := (by omega); replace lw : w.heap.size < v5.heap.size := (by omega); replace G := zaa G bel5; clear bel5 s5) | (go_at_call 56; refine (zao _ _ _ _).mono ?_; rintro e w' ⟨rfl, rfl⟩))
            skip
            go_loop [7, 63] (fun _ i => ∃ k : Nat, i = .int .i64 k ∧ k ≤ n ∧ Hid (xs.all zav = (xs.drop k).all zav)) (fun _ i => n - (intOf i).toNat)
            case atStart => exact ⟨0, rfl, by omega, Lib.hid (by simp)⟩
            case round =>
             obtain ⟨k, rfl, hk, H⟩ := hrel
             by_cases hlt : k < n
             · obtain ⟨ad, x, rfl, hab, X, hc⟩ := hx1.at hlt
               have hd := Lib.hid (M.drop_at X.out)
               cases hs : M.inn x 0 23
               · have R := Lib.hid (show zak (a0, a1, a2, xs) tb = false by rw [HM.out, H.out, hd.out, List.all_cons, zav, hs]; rfl)
                 go_wp2_with (go_at_call 56; refine (zao _ _ _ _).mono ?_; rintro e w' ⟨rfl, rfl⟩)
                 go_ret
                 exact ⟨zab (by rw [R.out]), zaa B0 G⟩
               · have R := Lib.hid (show xs.all zav = (xs.drop (k + 1)).all zav by rw [H.out, hd.out, List.all_cons, zav, hs]; rfl)
                 go_wp2_with (go_at_call 56; refine (zao _ _ _ _).mono ?_; rintro e w' ⟨rfl, rfl⟩)
                 go_round
                 case rel => exact ⟨k + 1, by go_num, by omega, R⟩
                 case measure => simp [intOf]; omega
             · have HF := Lib.hid (show xs.all zav = true by rw [H.out, List.drop_eq_nil_of_le (by rw [hlen.out]; omega)]; rfl)
               clear H
               by_cases c1 : (n : Int) = ki
               · by_cases c2 : a0 = 13
                 · have d1 : decide ((n : Int) = ki) = true := by simpa using c1
                   have d2 : (a0 != 13) = false := by simp [c2]
                   by_cases c3 : a1 < tb
                   · have R := Lib.hid (show zak (a0, a1, a2, xs) tb = true by rw [HM.out, HF.out, hlen.out, c1, c2]; simpa using c3)
                     skip
                     go_wp2_with fail
                     go_quiet (first | (refine zbd (zbn _ _ _ _)))
                     go_wp2
                     go_ret
                     exact ⟨zab (by rw [R.out]; try (simp; omega)), zaa B0 (zac G _)⟩
                   · have R := Lib.hid (show zak (a0, a1, a2, xs) tb = false by rw [HM.out, HF.out, hlen.out, c1, c2]; simpa using c3)
                     skip
                     go_wp2_with fail
                     go_quiet (first | (refine zbd (zbn _ _ _ _)))
                     go_wp2
                     go_ret
                     exact ⟨zab (by rw [R.out]; try (simp; omega)), zaa B0 (zac G _)⟩
                 · have R := Lib.hid (show zak (a0, a1, a2, xs) tb = true by rw [HM.out, HF.out, hlen.out, c1]; simp [c2])
                   have d2 : (a0 != 13) = true := by simpa using c2
                   skip
                   go_wp2_with fail
                   go_quiet (first | (refine zbd (zbn _ _ _ _)))
                   go_wp2
                   go_ret
                   exact ⟨zab (by rw [R.out]; try (simp; omega)), zaa B0 (zac G _)⟩
               · have R := Lib.hid (show zak (a0, a1, a2, xs) tb = false by rw [HM.out, HF.out, hlen.out]; simp [c1])
                 have d1 : ((n : Int) == ki) = false := by simpa using c1
                 skip
                 go_wp2_with fail
                 go_quiet (first | (refine zbd (zbn _ _ _ _)))
                 go_wp2
                 go_ret
                 exact ⟨zab (by rw [R.out]; try (simp; omega)), zaa B0 (zac G _)⟩
          · have HB := Lib.hid (show M.bI (ki, lo, hi, li, false) a2 = false by rw [M.bI, if_neg (by simp)]; simpa using h2)
            have g2 : (a2 != 0) = true := by simpa using h2
            have R := Lib.hid (show zak (a0, a1, a2, xs) tb = false by rw [HN.out, (HA.out _), HB.out]; try rfl)
            go_wp2_with (first | (go_at_call 147; refine (zd8 _ _ _ _ _ _ _).mono ?_; rw [HL.out]; rintro e v5 ⟨rfl, bel5⟩; have s5 := bel5.size; replace e0 : v5.cell? ⟨g, 0, none⟩ = some (.string (M.kn j)) := (by rw [bel5.cell lg]; exact e0); replace e1 : v5.cell? ⟨g, 1, none⟩ = some (.int .i64 ki) := (by rw [bel5.cell lg]; exact e1); replace e2 : v5.cell? ⟨g, 2, none⟩ = some (.int .i64 lo) := (by rw [bel5.cell lg]; exact e2); replace e3 : v5.cell? ⟨g, 3, none⟩ = some (.int .i64 hi) := (by rw [bel5.cell lg]; exact e3); replace e4 : v5.cell? ⟨g, 4, none⟩ = some (.bool li) := (by rw [bel5.cell lg]; exact e4); replace e5 : v5.cell? ⟨g, 5, none⟩ = some (.bool false) := (by rw [bel5.cell lg]; exact e5); replace p0 : v5.cell? ⟨w.heap.size, 0, none⟩ = some (.int .i64 a0) := (by rw [bel5.cell lw]; exact p0); replace p1 : v5.cell? ⟨w.heap.size, 1, none⟩ = some (.int .i64 a1) := (by rw [bel5.cell lw]; exact p1); replace p2 : v5.cell? ⟨w.heap.size, 2, none⟩ = some (.int .i64 a2) := (by rw [bel5.cell lw]; exact p2); replace p3 : v5.cell? ⟨w.heap.size, 3, none⟩ = some (.slice A n c) := (by rw [bel5.cell lw]; exact p3); replace hx1 := hx1.later bel5; replace lg : g < v5.heap.size := (by omega); replace lw : w.heap.size < v5.heap.size := (by omega); replace G := zaa G bel5; clear bel5 s5) | (go_at_call 56; refine (zao _ _ _ _).mono ?_; rintro e w' ⟨rfl, rfl⟩))
            go_ret
            exact ⟨zab (by rw [R.out]), zaa B0 G⟩
        · cases h2 : M.inn a2 1 16
          · have HB := Lib.hid (show M.bI (ki, lo, hi, li, true) a2 = false by rw [M.bI, if_pos rfl, h2])
            have R := Lib.hid (show zak (a0, a1, a2, xs) tb = false by rw [HN.out, (HA.out _), HB.out]; try rfl)
            go_wp2_with (first | (go_at_call 147; refine (zd8 _ _ _ _ _ _ _).mono ?_; rw [HL.out]; rintro e v5 ⟨rfl, bel5⟩; have s5 := bel5.size; replace e0 : v5.cell? ⟨g, 0, none⟩ = some (.string (M.kn j)) := (by rw [bel5.cell lg]; exact e0); replace e1 : v5.cell? ⟨g, 1, none⟩ = some (.int .i64 ki) := (by rw [bel5.cell lg]; exact e1); replace e2 : v5.cell? ⟨g, 2, none⟩ = some (.int .i64 lo) := (by rw [bel5.cell lg]; exact e2); replace e3 : v5.cell? ⟨g, 3, none⟩ = some (.int .i64 hi) := (by rw [bel5.cell lg]; exact e3); replace e4 : v5.cell? ⟨g, 4, none⟩ = some (.bool li) := (by rw [bel5.cell lg]; exact e4); replace e5 : v5.cell? ⟨g, 5, none⟩ = some (.bool true) := (by rw [bel5.cell lg]; exact e5); replace p0 : v5.cell? ⟨w.heap.size, 0, none⟩ = some (.int .i64 a0) := (by rw [bel5.cell lw]; exact p0); replace p1 : v5.cell? ⟨w.heap.size, 1, none⟩ = some (.int .i64 a1) := (by rw [bel5.cell lw]; exact p1); replace p2 : v5.cell? ⟨w.heap.size, 2, none⟩ = some (.int .i64 a2) := (by rw [bel5.cell lw]; exact p2); replace p3 : v5.cell? ⟨w.heap.size, 3, none⟩ = some (.slice A n c) := (by rw [bel5.cell lw]; exact p3); replace hx1 := hx1.later bel5; replace lg : g < v5.heap.size := (by omega); replace lw : w.heap.size < v5.heap.size := (by omega); replace G := zaa G bel5; clear bel5 s5) | (go_at_call 56; refine (zao _ _ _ _).mono ?_; rintro e w' ⟨rfl, rfl⟩))
            go_ret
            exact ⟨zab (by rw [R.out]), zaa B0 G⟩
          · have HB := Lib.hid (show M.bI (ki, lo, hi, li, true) a2 = true by rw [M.bI, if_pos rfl, h2])
            have HM := Lib.hid (show zak (a0, a1, a2, xs) tb = (xs.all zav && decide ((xs.length : Int) = ki) && (decide (¬ a0 = 13) || decide (a1 < tb))) by rw [HN.out, (HA.out _), HB.out]; rfl)
            go_wp2_with (first | (go_at_call 147; refine (zd8 _ _ _ _ _ _ _).mono ?_; rw [HL.out]; rintro e v5 ⟨rfl, bel5⟩; have s5 := bel5.size; replace e0 : v5.cell? ⟨g, 0, none⟩ = some (.string (M.kn j)) := (by rw [bel5.cell lg]; exact e0); replace e1 : v5.cell? ⟨g, 1, none⟩ = some (.int .i64 ki) := (by rw [bel5.cell lg]; exact e1); replace e2 : v5.cell? ⟨g, 2, none⟩ = some (.int .i64 lo) := (by rw [bel5.cell lg]; exact e2); replace e3 : v5.cell? ⟨g, 3, none⟩ = some (.int .i64 hi) := (by rw [bel5.cell lg]; exact e3); replace e4 : v5.cell? ⟨g, 4, none⟩ = some (.bool li) := (by rw [bel5.cell lg]; exact e4); replace e5 : v5.cell? ⟨g, 5, none⟩ = some (.bool true) := (by rw [bel5.cell lg]; exact e5); replace p0 : v5.cell? ⟨w.heap.size, 0, none⟩ = some (.int .i64 a0) := (by rw [bel5.cell lw]; exact p0); replace p1 : v5.cell? ⟨w.heap.size, 1, none⟩ = some (.int .i64 a1) := (by rw [bel5.cell lw]; exact p1); replace p2 : v5.cell? ⟨w.heap.size, 2, none⟩ = some (.int .i64 a2) := (by rw [bel5.cell lw]; exact p2); replace p3 : v5.cell? ⟨w.heap.size, 3, none⟩ = some (.slice A n c) := (by rw [bel5.cell lw]; exact p3); replace hx1 := hx1.later bel5; replace lg : g < v5.heap.size := (by omega); replace lw : w.heap.size < v5.heap.size := (by omega); replace G := zaa G bel5; clear bel5 s5) | (go_at_call 56; refine (zao _ _ _ _).mono ?_; rintro e w' ⟨rfl, rfl⟩))
            skip
            go_loop [7, 63] (fun _ i => ∃ k : Nat, i = .int .i64 k ∧ k ≤ n ∧ Hid (xs.all zav = (xs.drop k).all zav)) (fun _ i => n - (intOf i).toNat)
            case atStart => exact ⟨0, rfl, by omega, Lib.hid (by simp)⟩
            case round =>
             obtain ⟨k, rfl, hk, H⟩ := hrel
             by_cases hlt : k < n
             · obtain ⟨ad, x, rfl, hab, X, hc⟩ := hx1.at hlt
               have hd := Lib.hid (M.drop_at X.out)
               cases hs : M.inn x 0 23
               · have R := Lib.hid (show zak (a0, a1, a2, xs) tb = false by rw [HM.out, H.out, hd.out, List.all_cons, zav, hs]; rfl)
                 go_wp2_with (go_at_call 56; refine (zao _ _ _ _).mono ?_; rintro e w' ⟨rfl, rfl⟩)
                 go_ret
                 exact ⟨zab (by rw [R.out]), zaa B0 G⟩
               · have R := Lib.hid (show xs.all zav = (xs.drop (k + 1)).all zav by rw [H.out, hd.out, List.all_cons, zav, hs]; rfl)
                 go_wp2_with (go_at_call 56; refine (zao _ _ _ _).mono ?_; rintro e w' ⟨rfl, rfl⟩)
                 go_round
                 case rel => exact ⟨k + 1, by go_num, by omega, R⟩
                 case measure => simp [intOf]; omega
             · have HF := Lib.hid (show xs.all zav = true by rw [H.out, List.drop_eq_nil_of_le (by rw [hlen.out]; omega)]; rfl)
               clear H
               by_cases c1 : (n : Int) = ki
               · by_cases c2 : a0 = 13
                 · have d1 : decide ((n : Int) = ki) = true := by simpa using c1
                   have d2 : (a0 != 13) = false := by simp [c2]
                   by_cases c3 : a1 < tb
                   · have R := Lib.hid (show zak (a0, a1, a2, xs) tb = true by rw [HM.out, HF.out, hlen.out, c1, c2]; simpa using c3)
                     skip
                     go_wp2_with fail
                     go_quiet (first | (refine zbd (zbn _ _ _ _)))
                     go_wp2
                     go_ret
                     exact ⟨zab (by rw [R.out]; try (simp; omega)), zaa B0 (zac G _)⟩
                   · have R := Lib.hid (show zak (a0, a1, a2, xs) tb = false by rw [HM.out, HF.out, hlen.out, c1, c2]; simpa using c3)
                     skip
                     go_wp2_with fail
                     go_quiet (first | (refine zbd (zbn _ _ _ _)))
                     go_wp2
                     go_ret
                     exact ⟨zab (by rw [R.out]; try (simp; omega)), zaa B0 (zac G _)⟩
                 · have R := Lib.hid (show zak (a0, a1, a2, xs) tb = true by rw [HM.out, HF.out, hlen.out, c1]; simp [c2])
                   have d2 : (a0 != 13) = true := by simpa using c2
                   skip
                   go_wp2_with fail
                   go_quiet (first | (refine zbd (zbn _ _ _ _)))
                   go_wp2
                   go_ret
                   exact ⟨zab (by rw [R.out]; try (simp; omega)), zaa B0 (zac G _)⟩
               · have R := Lib.hid (show zak (a0, a1, a2, xs) tb = false by rw [HM.out, HF.out, hlen.out]; simp [c1])
                 have d1 : ((n : Int) == ki) = false := by simpa using c1
                 skip
                 go_wp2_with fail
                 go_quiet (first | (refine zbd (zbn _ _ _ _)))
                 go_wp2
                 go_ret
                 exact ⟨zab (by rw [R.out]; try (simp; omega)), zaa B0 (zac G _)⟩
    · have HL := Lib.hid (decide_eq_false hle)
      by_cases h1 : a1 = 0
      · have HA := Lib.hid (fun hb => show M.aI (ki, lo, hi, li, hb) a1 = true by rw [M.aI, if_neg hle]; simpa using h1)
        have g1 : (a1 != 0) = false := by simp [h1]
        cases hb
        · by_cases h2 : a2 = 0
          · have HB := Lib.hid (show M.bI (ki, lo, hi, li, false) a2 = true by rw [M.bI, if_neg (by simp)]; simpa using h2)
            have g2 : (a2 != 0) = false := by simp [h2]
            have HM := Lib.hid (show zak (a0, a1, a2, xs) tb = (xs.all zav && decide ((xs.length : Int) = ki) && (decide (¬ a0 = 13) || decide (a1 < tb))) by rw [HN.out, (HA.out _), HB.out]; rfl)
            go_wp2_with (first | (go_at_call 147; refine (zd8 _ _ _ _ _ _ _).mono ?_; rw [HL.out]; rintro e v5 ⟨rfl, bel5⟩; have s5 := bel5.size; replace e0 : v5.cell? ⟨g, 0, none⟩ = some (.string (M.kn j)) := (by rw [bel5.cell lg]; exact e0); replace e1 : v5.cell? ⟨g, 1, none⟩ = some (.int .i64 ki) := (by rw [bel5.cell lg]; exact e1); replace e2 : v5.cell? ⟨g, 2, none⟩ = some (.int .i64 lo) := (by rw [bel5.cell lg]; exact e2); replace e3 : v5.cell? ⟨g, 3, none⟩ = some (.int .i64 hi) := (by rw [bel5.cell lg]; exact e3); replace e4 : v5.cell? ⟨g, 4, none⟩ = some (.bool li) := (by rw [bel5.cell lg]; exact e4); replace e5 : v5.cell? ⟨g, 5, none⟩ = some (.bool false) := (by rw [bel5.cell lg]; exact e5); replace p0 : v5.cell? ⟨w.heap.size, 0, none⟩ = some (.int .i64 a0) := (by rw [bel5.cell lw]; exact p0); replace p1 : v5.cell? ⟨w.heap.size, 1, none⟩ = some (.int .i64 a1) := (by rw [bel5.cell lw]; exact p1); replace p2 : v5.cell? ⟨w.heap.size, 2, none⟩ = some (.int .i64 a2) := (by rw [bel5.cell lw]; exact p2); replace p3 : v5.cell? ⟨w.heap.size, 3, none⟩ = some (.slice A n c) := (by rw [bel5.cell lw]; exact p3); replace hx1 := hx1.later bel5; replace lg : g < v5.heap.size := (by omega); replace lw : w.heap.size < v5.heap.size := (by omega); replace G := zaa G bel5; clear bel5 s5) | (go_at_call 56; refine (zao _ _ _ _).mono ?_; rintro e w' ⟨rfl, rfl⟩))
            skip
            go_loop [7, 63] (fun _ i => ∃ k : Nat, i = .int .i64 k ∧ k ≤ n ∧ Hid (xs.all zav = (xs.drop k).all zav)) (fun _ i => n - (intOf i).toNat)
            case atStart => exact ⟨0, rfl, by omega, Lib.hid (by simp)⟩
            case round =>
             obtain ⟨k, rfl, hk, H⟩ := hrel
             by_cases hlt : k < n
             · obtain ⟨ad, x, rfl, hab, X, hc⟩ := hx1.at hlt
               have hd := Lib.hid (M.drop_at X.out)
               cases hs : M.inn x 0 23
               · have R := Lib.hid (show zak (a0, a1, a2, xs) tb = false by rw [HM.out, H.out, hd.out, List.all_cons, zav, hs]; rfl)
                 go_wp2_with (go_at_call 56; refine (zao _ _ _ _).mono ?_; rintro e w' ⟨rfl, rfl⟩)
                 go_ret
                 exact ⟨zab (by rw [R.out]), zaa B0 G⟩
               · have R := Lib.hid (show xs.all zav = (xs.drop (k + 1)).all zav by rw [H.out, hd.out, List.all_cons, zav, hs]; rfl)
                 go_wp2_with (go_at_call 56; refine (zao _ _ _ _).mono ?_; rintro e w' ⟨rfl, rfl⟩)
                 go_round
                 case rel => exact ⟨k + 1, by go_num, by omega, R⟩
                 case measure => simp [intOf]; omega
             · have HF := Lib.hid (show xs.all zav = true by rw [H.out, List.drop_eq_nil_of_le (by rw [hlen.out]; omega)]; rfl)
               clear H
               by_cases c1 : (n : Int) = ki
               · by_cases c2 : a0 = 13
                 · have d1 : decide ((n : Int) = ki) = true := by simpa using c1
                   have d2 : (a0 != 13) = false := by simp [c2]
                   by_cases c3 : a1 < tb
                   · have R := Lib.hid (show zak (a0, a1, a2, xs) tb = true by rw [HM.out, HF.out, hlen.out, c1, c2]; simpa using c3)
                     skip
                     go_wp2_with fail
                     go_quiet (first | (refine zbd (zbn _ _ _ _)))
                     go_wp2
                     go_ret
                     exact ⟨zab (by rw [R.out]; try (simp; omega)), zaa B0 (zac G _)⟩
                   · have R := Lib.hid (show zak (a0, a1, a2, xs) tb = false by rw [HM.out, HF.out, hlen.out, c1, c2]; simpa using c3)
                     skip
                     go_wp2_with fail
                     go_quiet (first | (refine zbd (zbn _ _ _ _)))
                     go_wp2
                     go_ret
                     exact ⟨zab (by rw [R.out]; try (simp; omega)), zaa B0 (zac G _)⟩
                 · have R := Lib.hid (show zak (a0, a1, a2, xs) tb = true by rw [HM.out, HF.out, hlen.out, c1]; simp [c2])
                   have d2 : (a0 != 13) = true := by simpa using c2
                   skip
                   go_wp2_with fail
                   go_quiet (first | (refine zbd (zbn _ _ _ _)))
                   go_wp2
                   go_ret
                   exact ⟨zab (by rw [R.out]; try (simp; omega)), zaa B0 (zac G _)⟩
               · have R := Lib.hid (show zak (a0, a1, a2, xs) tb = false by rw [HM.out, HF.out, hlen.out]; simp [c1])
                 have d1 : ((n : Int) == ki) = false := by simpa using c1
                 skip
                 go_wp2_with fail
                 go_quiet (first | (refine zbd (zbn _ _ _ _)))
                 go_wp2
                 go_ret
                 exact ⟨zab (by rw [R.out]; try (simp; omega)), zaa B0 (zac G _)⟩
          · have HB := Lib.hid (show M.bI (ki, lo, hi, li, false) a2 = false by rw [M.bI, if_neg (by simp)]; simpa using h2)
            have g2 : (a2 != 0) = true := by simpa using h2
            have R := Lib.hid (show zak (a0, a1, a2, xs) tb = false by rw [HN.out, (HA.out _), HB.out]; try rfl)
            go_wp2_with (first | (go_at_call 147; refine (zd8 _ _ _ _ _ _ _).mono ?_; rw [HL.out]; rintro e v5 ⟨rfl, bel5⟩; have s5 := bel5.size; replace e0 : v5.cell? ⟨g, 0, none⟩ = some (.string (M.kn j)) := (by rw [bel5.cell lg]; exact e0); replace e1 : v5.cell? ⟨g, 1, none⟩ = some (.int .i64 ki) := (by rw [bel5.cell lg]; exact e1); replace e2 : v5.cell? ⟨g, 2, none⟩ = some (.int .i64 lo) := (by rw [bel5.cell lg]; exact e2); replace e3 : v5.cell? ⟨g, 3, none⟩ = some (.int .i64 hi) := (by rw [bel5.cell lg]; exact e3); replace e4 : v5.cell? ⟨g, 4, none⟩ = some (.bool li) := (by rw [bel5.cell lg]; exact e4); replace e5 : v5.cell? ⟨g, 5, none⟩ = some (.bool false) := (by rw [bel5.cell lg]; exact e5); replace p0 : v5.cell? ⟨w.heap.size, 0, none⟩ = some (.int .i64 a0) := (by rw [bel5.cell lw]; exact p0); replace p1 : v5.cell? ⟨w.heap.size, 1, none⟩ = some (.int .i64 a1) := (by rw [bel5.cell lw]; exact p1); replace p2 : v5.cell? ⟨w.heap.size, 2, none⟩ = some (.int .i64 a2) := (by rw [bel5.cell lw]; exact p2); replace p3 : v5.cell? ⟨w.heap.size, 3, none⟩ = some (.slice A n c) := (by rw [bel5.cell lw]; exact p3); replace hx1 := hx1.later bel5; replace lg : g < v5.heap.size := (by omega); replace lw : w.heap.size < v5.heap.size := (by omega); replace G := zaa G bel5; clear bel5 s5) | (go_at_call 56; refine (zao _ _ _ _).mono ?_; rintro e w' ⟨rfl, rfl⟩))
            go_ret
            exact ⟨zab (by rw [R.out]), zaa B0 G⟩
        · cases h2 : M.inn a2 1 16
          · have HB := Lib.hid (show M.bI (ki, lo, hi, li, true) a2 = false by rw [M.bI, if_pos rfl, h2])
            have R := Lib.hid (show zak (a0, a1, a2, xs) tb = false by rw [HN.out, (HA.out _), HB.out]; try rfl)
            go_wp2_with (first | (go_at_call 147; refine (zd8 _ _ _ _ _ _ _).mono ?_; rw [HL.out]; rintro e v5 ⟨rfl, bel5⟩; have s5 := bel5.size; replace e0 : v5.cell? ⟨g, 0, none⟩ = some (.string (M.kn j)) := (by rw [bel5.cell lg]; exact e0); replace e1 : v5.cell? ⟨g, 1, none⟩ = some (.int .i64 ki) := (by rw [bel5.cell lg]; exact e1); replace e2 : v5.cell? ⟨g, 2, none⟩ = some (.int .i64 lo) := (by rw [bel5.cell lg]; exact e2); replace e3 : v5.cell? ⟨g, 3, none⟩ = some (.int .i64 hi) := (by rw [bel5.cell lg]; exact e3); replace e4 : v5.cell? ⟨g, 4, none⟩ = some (.bool li) := (by rw [bel5.cell lg]; exact e4); replace e5 : v5.cell? ⟨g, 5, none⟩ = some (.bool true) := (by rw [bel5.cell lg]; exact e5); replace p0 : v5.cell? ⟨w.heap.size, 0, none⟩ = some (.int .i64 a0) := (by rw [bel5.cell lw]; exact p0); replace p1 : v5.cell? ⟨w.heap.size, 1, none⟩ = some (.int .i64 a1) := (by rw [bel5.cell lw]; exact p1); replace p2 : v5.cell? ⟨w.heap.size, 2, none⟩ = some (.int .i64 a2) := (by rw [bel5.cell lw]; exact p2); replace p3 : v5.cell? ⟨w.heap.size, 3, none⟩ = some (.slice A n c) := (by rw [bel5.cell lw]; exact p3); replace hx1 := hx1.later bel5; replace lg : g < v5.heap.size := (by omega); replace lw : w.heap.size < v5.heap.size := (by omega); replace G := zaa G bel5; clear bel5 s5) | (go_at_call 56; refine (zao _ _ _ _).mono ?_; rintro e w' ⟨rfl, rfl⟩))
            go_ret
            exact ⟨zab (by rw [R.out]), zaa B0 G⟩
          · have HB := Lib.hid (show M.bI (ki, lo, hi, li, true) a2 = true by rw [M.bI, if_pos rfl, h2])
            have HM := Lib.hid (show zak (a0, a1, a2, xs) tb = (xs.all zav && decide ((xs.length : Int) = ki) && (decide (¬ a0 = 13) || decide (a1 < tb))) by rw [HN.out, (HA.out _), HB.out]; rfl)
            go_wp2_with (first | (go_at_call 147; refine (zd8 _ _ _ _ _ _ _).mono ?_; rw [HL.out]; rintro e v5 ⟨rfl, bel5⟩; have s5 := bel5.size; replace e0 : v5.cell? ⟨g, 0, none⟩ = some (.string (M.kn j)) := (by rw [bel5.cell lg]; exact e0); replace e1 : v5.cell? ⟨g, 1, none⟩ = some (.int .i64 ki) := (by rw [bel5.cell lg]; exact e1); replace e2 : v5.cell? ⟨g, 2, none⟩ = some (.int .i64 lo) := (by rw [bel5.cell lg]; exact e2); replace e3 : v5.cell? ⟨g, 3, none⟩ = some (.int .i64 hi) := (by rw [bel5.cell lg]; exact e3); replace e4 : v5.cell? ⟨g, 4, none⟩ = some (.bool li) := (by rw [bel5.cell lg]; exact e4); replace e5 : v5.cell? ⟨g, 5, none⟩ = some (.bool true) := (by rw [bel5.cell lg]; exact e5); replace p0 : v5.cell? ⟨w.heap.size, 0, none⟩ = some (.int .i64 a0) := (by rw [bel5.cell lw]; exact p0); replace p1 : v5.cell? ⟨w.heap.size, 1, none⟩ = some (.int .i64 a1) := (by rw [bel5.cell lw]; exact p1); replace p2 : v5.cell? ⟨w.heap.size, 2, none⟩ = some (.int .i64 a2) := (by rw [bel5.cell lw]; exact p2); replace p3 : v5.cell? ⟨w.heap.size, 3, none⟩ = some (.slice A n c) := (by rw [bel5.cell lw]; exact p3); replace hx1 := hx1.later bel5; replace lg : g < v5.heap.size := (by omega); replace lw : w.heap.size < v5.heap.size := (by omega); replace G := zaa G bel5; clear bel5 s5) | (go_at_call 56; refine (zao _ _ _ _).mono ?_; rintro e w' ⟨rfl, rfl⟩))
            skip
            go_loop [7, 63] (fun _ i => ∃ k : Nat, i = .int .i64 k ∧ k ≤ n ∧ Hid (xs.all zav = (xs.drop k).all zav)) (fun _ i => n - (intOf i).toNat)
            case atStart => exact ⟨0, rfl, by omega, Lib.hid (by simp)⟩
            case round =>
             obtain ⟨k, rfl, hk, H⟩ := hrel
             by_cases hlt : k < n
             · obtain ⟨ad, x, rfl, hab, X, hc⟩ := hx1.at hlt
               have hd := Lib.hid (M.drop_at X.out)
               cases hs : M.inn x 0 23
               · have R := Lib.hid (show zak (a0, a1, a2, xs) tb = false by rw [HM.out, H.out, hd.out, List.all_cons, zav, hs]; rfl)
                 go_wp2_with (go_at_call 56; refine (zao _ _ _ _).mono ?_; rintro e w' ⟨rfl, rfl⟩)
                 go_ret
                 exact ⟨zab (by rw [R.out]), zaa B0 G⟩
               · have R := Lib.hid (show xs.all zav = (xs.drop (k + 1)).all zav by rw [H.out, hd.out, List.all_cons, zav, hs]; rfl)
                 go_wp2_with (go_at_call 56; refine (zao _ _ _ _).mono ?_; rintro e w' ⟨rfl, rfl⟩)
                 go_round
                 case rel => exact ⟨k + 1, by go_num, by omega, R⟩
                 case measure => simp [intOf]; omega
             · have HF := Lib.hid (show xs.all zav = true by rw [H.out, List.drop_eq_nil_of_le (by rw [hlen.out]; omega)]; rfl)
               clear H
               by_cases c1 : (n : Int) = ki
               · by_cases c2 : a0 = 13
                 · have d1 : decide ((n : Int) = ki) = true := by simpa using c1
                   have d2 : (a0 != 13) = false := by simp [c2]
                   by_cases c3 : a1 < tb
                   · have R := Lib.hid (show zak (a0, a1, a2, xs) tb = true by rw [HM.out, HF.out, hlen.out, c1, c2]; simpa using c3)
                     skip
                     go_wp2_with fail
                     go_quiet (first | (refine zbd (zbn _ _ _ _)))
                     go_wp2
                     go_ret
                     exact ⟨zab (by rw [R.out]; try (simp; omega)), zaa B0 (zac G _)⟩
                   · have R := Lib.hid (show zak (a0, a1, a2, xs) tb = false by rw [HM.out, HF.out, hlen.out, c1, c2]; simpa using c3)
                     skip
                     go_wp2_with fail
                     go_quiet (first | (refine zbd (zbn _ _ _ _)))
                     go_wp2
                     go_ret
                     exact ⟨zab (by rw [R.out]; try (simp; omega)), zaa B0 (zac G _)⟩
                 · have R := Lib.hid (show zak (a0, a1, a2, xs) tb = true by rw [HM.out, HF.out, hlen.out, c1]; simp [c2])
                   have d2 : (a0 != 13) = true := by simpa using c2
                   skip
                   go_wp2_with fail
                   go_quiet (first | (refine zbd (zbn _ _ _ _)))
                   go_wp2
                   go_ret
                   exact ⟨zab (by rw [R.out]; try (simp; omega)), zaa B0 (zac G _)⟩
               · have R := Lib.hid (show zak (a0, a1, a2, xs) tb = false by rw [HM.out, HF.out, hlen.out]; simp [c1])
                 have d1 : ((n : Int) == ki) = false := by simpa using c1
                 skip
                 go_wp2_with fail
                 go_quiet (first | (refine zbd (zbn _ _ _ _)))
                 go_wp2
                 go_ret
                 exact ⟨zab (by rw [R.out]; try (simp; omega)), zaa B0 (zac G _)⟩
      · have HA := Lib.hid (show M.aI (ki, lo, hi, li, hb) a1 = false by rw [M.aI, if_neg hle]; simpa using h1)
        have g1 : (a1 != 0) = true := by simpa using h1
        have R := Lib.hid (show zak (a0, a1, a2, xs) tb = false by rw [HN.out, HA.out]; try rfl)
        go_wp2_with (first | (go_at_call 147; refine (zd8 _ _ _ _ _ _ _).mono ?_; rw [HL.out]; rintro e v5 ⟨rfl, bel5⟩; have s5 := bel5.size; replace e0 : v5.cell? ⟨g, 0, none⟩ = some (.string (M.kn j)) := (by rw [bel5.cell lg]; exact e0); replace e1 : v5.cell? ⟨g, 1, none⟩ = some (.int .i64 ki) := (by rw [bel5.cell lg]; exact e1); replace e2 : v5.cell? ⟨g, 2, none⟩ = some (.int .i64 lo) := (by rw [bel5.cell lg]; exact e2); replace e3 : v5.cell? ⟨g, 3, none⟩ = some (.int .i64 hi) := (by rw [bel5.cell lg]; exact e3); replace e4 : v5.cell? ⟨g, 4, none⟩ = some (.bool li) := (by rw [bel5.cell lg]; exact e4); replace e5 : v5.cell? ⟨g, 5, none⟩ = some (.bool hb) := (by rw [bel5.cell lg]; exact e5); replace p0 : v5.cell? ⟨w.heap.size, 0, none⟩ = some (.int .i64 a0) := (by rw [bel5.cell lw]; exact p0); replace p1 : v5.cell? ⟨w.heap.size, 1, none⟩ = some (.int .i64 a1) := (by rw [bel5.cell lw]; exact p1); replace p2 : v5.cell? ⟨w.heap.size, 2, none⟩ = some (.int .i64 a2) := (by rw [bel5.cell lw]; exact p2); replace p3 : v5.cell? ⟨w.heap.size, 3, none⟩ = some (.slice A n c) := (by rw [bel5.cell lw]; exact p3); replace hx1 := hx1.later bel5; replace lg : g < v5.heap.size := (by omega); replace lw : w.heap.size < v5.heap.size := (by omega); replace G := zaa G bel5; clear bel5 s5) | (go_at_call 56; refine (zao _ _ _ _).mono ?_; rintro e w' ⟨rfl, rfl⟩))
        go_ret
        exact ⟨zab (by rw [R.out]), zaa B0 G⟩
end
end Go.Proofs.YtfkcoiefkjmdeaaGreat
