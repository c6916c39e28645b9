import Derived.Test.YtfkcoiefkjmdeaaGreatFnNullG11
import Derived.StillTailTactics
import Derived.Deep.RegionWith
import Derived.Test.YtfkcoiefkjmdeaaGreatFnNullG4
import Derived.Deep.RegionHeld3
import Derived.Test.YtfkcoiefkjmdeaaGreatFnNullG7
import Derived.Test.YtfkcoiefkjmdeaaGreatFnNullG10
import Derived.Test.YtfkcoiefkjmdeaaGreatFnNullG8
import Derived.Test.YtfkcoiefkjmdeaaGreatFnNullG9
set_option linter.unusedVariables false
set_option linter.unusedSimpArgs false
set_option maxRecDepth 100000
set_option maxHeartbeats 4000000
namespace Go.Proofs.YtfkcoiefkjmdeaaGreat
section
open Go.RowKit
theorem zi4 (A : Option Addr) (n c : Nat) (xs : List zad) (w : World) (hx : tM.R w w.heap.size [.slice A n c] xs) (hok : zas xs = true) :
 Calls Tryz.prog 89 #[.agg #[.slice A n c]] w (Ret1 2 w (zb4 xs)) := by
 have rx := sl_R.1 hx
 have hlx := rx.cap.1
 have hmn := zd0 hok
 have hnb : 1 ≤ n ∧ n ≤ 8 := by omega
 have HLX := Lib.hid hlx
 have HOK := Lib.hid hok
 have B0 : Below w.heap.size w (w.alloc (.cells #[.slice A n c] 30)) := (Below.refl _ _).alloc (Nat.le_refl _) _
 have hself : (w.alloc (.cells #[.slice A n c] 30)).cell? ⟨w.heap.size, 0, none⟩ = some (.slice A n c) := by simp [go_sem]
 have hsz : (w.alloc (.cells #[.slice A n c] 30)).heap.size = w.heap.size + 1 := by simp
 have HSZ := Lib.hid hsz
 clear hsz hlx hmn hok
 go_enter Tryz.func89, Tryz.ntmps89
 go_wp2_with (first | (go_at_call 55; refine (zd5 _ _ _ _).mono ?_; rintro e w' ⟨rfl, rfl⟩) | (go_at_call 57; refine (zcv _ _ (by omega) (by omega)).mono ?_; rintro e w1 ⟨v1, rfl, own1, bel1⟩; have hv1 : w1.cell? ⟨w.heap.size, 0, none⟩ = some (.slice A n c) := (by rw [bel1.cell (by rw [HSZ.out]; simp)]; exact hself)))
 rw [Int.toNat_natCast] at own1
 obtain ⟨A1, c1, rfl, -⟩ := own1.shape
 rw [List.length_replicate] at own1 ⊢
 have own1' : OI 2 (w.heap.size + 1) w1 (.slice A1 n c1) (zca xs 0) := by
  have h1 := own1
  rw [HSZ.out] at h1
  show OI 2 (w.heap.size + 1) w1 (.slice A1 n c1) (List.replicate xs.length 0)
  rw [HLX.out]
  exact h1
 have B1 := zaa B0 bel1
 clear own1 bel1 hself B0 hv1
 go_loopw [4, 5, 15] (fun _ _ i wr => ∃ k : Nat, i = .int .i64 k ∧ k ≤ n ∧ OI 2 (w.heap.size + 1) wr (.slice A1 n c1) (zca xs k) ∧ Below w.heap.size w wr) (fun _ _ i _ => n - (intOf i).toNat)
 case atStart => exact ⟨0, rfl, by omega, own1', B1⟩
 case round =>
  obtain ⟨k, rfl, hk, own, Bw⟩ := hrel
  by_cases hlt : k < n
  · have hX := Lib.hid (List.getElem?_eq_getElem (l := xs) (i := k) (by rw [HLX.out]; exact hlt))
    obtain ⟨b, o1, cc, cs, hv, hab, -, hE, hcc⟩ := (rx.below Bw).atX hX.out
    simp only [Value.slice.injEq] at hv
    obtain ⟨rfl, -, rfl⟩ := hv
    generalize xs[k]'(by rw [HLX.out]; exact hlt) = x at hX hE
    obtain ⟨s, l, us⟩ := x
    obtain ⟨A2, n2, c2, rfl, -, hE⟩ := st_R.1 hE
    have e0 : wr.cell? ⟨b, o1 + k * 3, none⟩ = some (.string s) := hcc 0 _ rfl
    have e1 : wr.cell? ⟨b, o1 + k * 3 + 1, none⟩ = some (.int .i64 l) := hcc 1 _ rfl
    have e2 : wr.cell? ⟨b, o1 + k * 3 + 2, none⟩ = some (.slice A2 n2 c2) := hcc 2 _ rfl
    have hbr : b < wr.heap.size := Nat.lt_of_lt_of_le hab Bw.size
    have rs := (zfk hE).1
    have hn2 := rs.1
    obtain ⟨hlat, hu4, hsb⟩ := zfd HOK.out hX.out
    have HN2 := Lib.hid hn2
    have HSB := Lib.hid hsb
    have HUP := Lib.hid (fun j => zso HOK.out hX.out j)
    obtain ⟨g, rfl, hg1, hg2⟩ := own.form' (by omega)
    have Bu := Bw.alloc Bw.size (.cells #[.string s, .int .i64 l, .slice A2 n2 c2] 100)
    have ownu := own.below ((Below.refl wr.heap.size wr).alloc (Nat.le_refl _) (.cells #[.string s, .int .i64 l, .slice A2 n2 c2] 100))
    have lb : (wr.alloc (.cells #[.string s, .int .i64 l, .slice A2 n2 c2] 100)).cell? ⟨wr.heap.size, 1, none⟩ = some (.int .i64 l) := by rw [cell_of_row _ wr.heap.size 1 _ 100 (0, 0) (heap_alloc_new wr _)]; rfl
    have hlu : (wr.alloc (.cells #[.string s, .int .i64 l, .slice A2 n2 c2] 100)).heap.size = wr.heap.size + 1 := by simp
    have n2b : n2 ≤ 4 := by omega
    clear hcc hE hn2 hu4 hsb
    go_wp2
    obtain ⟨wo, rfl⟩ : ∃ wo : World, wo = wr := ⟨_, rfl⟩
    go_loopw [7, 23] (fun _ i wr => ∃ j : Nat, i = .int .i64 j ∧ j ≤ n2 ∧ OI 2 (w.heap.size + 1) wr (.slice (some ⟨g, 0, none⟩) n c1) (zem xs k l us j) ∧ wr.cell? ⟨wo.heap.size, 1, none⟩ = some (.int .i64 l) ∧ wo.heap.size + 1 ≤ wr.heap.size ∧ Below w.heap.size w wr ∧ Below w.heap.size wo wr) (fun _ i _ => n2 - (intOf i).toNat)
    case atStart => exact ⟨0, rfl, by omega, ownu, lb, by omega, Bu, (Below.refl _ _).alloc Bw.size _⟩
    case round =>
     obtain ⟨j, rfl, hj, ownj, lj, hszj, Bj, Bo⟩ := hrel
     by_cases hlt2 : j < n2
     · obtain ⟨b2, o2, ⟨p0, p1⟩, rfl, hab2, X2, hdd⟩ := (rs.below Bo).at zfj (by decide) hlt2
       have f0 : wr.cell? ⟨b2, o2 + j * 2, none⟩ = some (.int .i64 p0) := hdd 0 _ rfl
       have f1 : wr.cell? ⟨b2, o2 + j * 2 + 1, none⟩ = some (.int .i64 p1) := hdd 1 _ rfl
       obtain ⟨hp1, hp2, -⟩ := zi3 HSB.out X2.out
       obtain ⟨q, rfl⟩ : ∃ q : Nat, p0 = q := ⟨p0.toNat, by omega⟩
       have hqn : q < n := by have := HLX.out; omega
       obtain ⟨x, hxx, cx, fx, -, -⟩ := ownj.at' hqn
       obtain ⟨y, hyy, cy, fy, -, -⟩ := ownj.at' hlt
       have bx := zft (HUP.out j) hxx.out
       have by_ := zft (HUP.out j) hyy.out
       have hgw : g < wr.heap.size := by omega
       have hng : ¬ g = wo.heap.size := by omega
       have hE2 := Lib.hid (zsl (xs := xs) (k := k) (l := l) X2.out)
       have hE3 := Lib.hid (zsp (k := k) (l := l) (g := p1) hxx.out hyy.out)
       have lw : wo.heap.size < wr.heap.size := by omega
       have hb2w : b2 < wr.heap.size := Nat.lt_of_lt_of_le hab2 Bj.size
       clear hdd hp1 hp2
       obtain ⟨U, hU⟩ : ∃ U, U = wr.alloc (.cells #[.int .i64 (q : Int), .int .i64 p1] 68) := ⟨_, rfl⟩
       have G0 : Below wr.heap.size wr U := by rw [hU]; exact (Below.refl _ _).alloc (Nat.le_refl _) _
       have u0 : U.cell? ⟨wr.heap.size, 0, none⟩ = some (.int .i64 (q : Int)) := by rw [hU, cell_of_row _ wr.heap.size 0 _ 68 (0, 0) (heap_alloc_new wr _)]; rfl
       have ux : U.cell? ⟨g, q, none⟩ = some (.int .i64 x) := by rw [G0.cell hgw]; exact cx
       have vx : U.frozen? ⟨g, q, none⟩ = false := by rw [G0.frozen hgw]; exact fx
       have uy : U.cell? ⟨g, k, none⟩ = some (.int .i64 y) := by rw [G0.cell hgw]; exact cy
       have ul : U.cell? ⟨wo.heap.size, 1, none⟩ = some (.int .i64 l) := by rw [G0.cell lw]; exact lj
       have ownU := ownj.below G0
       have HU := Lib.hid hU
       have hqn2 : (q : Int) < (n : Int) := by omega
       have hkn2 : (k : Int) < (n : Int) := by omega
       clear hU
       go_wp2
       rw [← HU.out]
       refine wp_region_still_tail 17 (by kernel_rfl) (by kernel_rfl) ?_
       simp only [List.take_succ_cons, List.take_zero, List.drop_succ_cons, List.drop_zero]
       iterate 17 still_step
       refine wpStill_nil ?_
       change wpList _ _ _ _ _ U.drew
       go_wp2
       go_roundw
       case rel =>
        have h3 := OI.stored' ownU q (if x < y + l then y + l else x)
        have e3 : (zem xs k l us j).set q (if x < y + l then y + l else x) = zem xs k l us (j + 1) := by
         rw [hE2.out, hE3.out]
         congr 1
         split <;> omega
        rw [e3] at h3
        have z0 : w.heap.size ≤ wr.heap.size := by omega
        have z1 := G0.size
        have z2 : (U.setCell ⟨g, q, none⟩ (.int .i64 (if x < y + l then y + l else x))).heap.size = U.heap.size := by simp
        have z3 : (U.setCell ⟨g, q, none⟩ (.int .i64 (if x < y + l then y + l else x))).cell? ⟨wo.heap.size, 1, none⟩ = some (.int .i64 l) := by
         rw [World.cell?_of_block (heap_setCell_other U ⟨g, q, none⟩ wo.heap.size _ (fun e => hng e.symm))]
         exact ul
        exact ⟨j + 1, by go_num, by omega, h3, z3, by show wo.heap.size + 1 ≤ (U.setCell ⟨g, q, none⟩ (.int .i64 (if x < y + l then y + l else x))).heap.size; omega, ((Bj.trans (G0.mono z0)).setCell (Nat.le_trans (Nat.le_succ _) hg1) _).drew, ((Bo.trans (G0.mono z0)).setCell (Nat.le_trans (Nat.le_succ _) hg1) _).drew⟩
       case measure => simp [intOf]; omega
     · obtain rfl : j = n2 := by omega
       have hend := zsm hX.out
       rw [HN2.out] at hend
       have HE := Lib.hid hend
       clear hend
       go_wp2
       go_roundw
       case rel => exact ⟨k + 1, by go_num, by omega, by rw [← HE.out]; exact ownj, Bj⟩
       case measure => simp [intOf]; omega
  · obtain rfl : k = n := by omega
    go_wp2
    go_ret
    exact ⟨_, rfl, by rw [zb4, HLX.out]; exact own.base (by omega), Bw⟩
end
section
open Go.RowKit
end
section
open Go.RowKit
def zdd (xs : List zad) : Int := ((zb4 xs)[xs.length - 1]?).getD 0 + ((xs[xs.length - 1]?).getD M.sz).2.1
theorem zhr (xs : List zad) : (zb4 xs).length = xs.length := zi2 _ _
theorem zl4 {xs : List zad} (h : zas xs = true) : zdz 2000 (zb4 xs) := zhp (zhq h xs.length (Nat.le_refl _)) (by have := zd0 h; omega)
theorem zsq (A : Option Addr) (n c : Nat) (xs : List zad) (w : World) (hx : tM.R w w.heap.size [.slice A n c] xs) (hok : zas xs = true) :
 Calls Tryz.prog 88 #[.agg #[.slice A n c]] w fun e w' => e = .returned (.int .i64 (zdd xs)) ∧ Below w.heap.size w w' := by
 have rx := sl_R.1 hx
 have hlx := rx.cap.1
 have hmn := zd0 hok
 have hnb : 1 ≤ n ∧ n ≤ 8 := by omega
 have HLX := Lib.hid hlx
 have HOK := Lib.hid hok
 obtain ⟨W, hW⟩ : ∃ W, W = w.alloc (.cells #[.slice A n c] 30) := ⟨_, rfl⟩
 have B0 : Below w.heap.size w W := by rw [hW]; exact (Below.refl _ _).alloc (Nat.le_refl _) _
 have hself : W.cell? ⟨w.heap.size, 0, none⟩ = some (.slice A n c) := by rw [hW]; simp [go_sem]
 have lx : w.heap.size < W.heap.size := by rw [hW]; simp
 have HW := Lib.hid hW
 have hX := Lib.hid (List.getElem?_eq_getElem (l := xs) (i := n - 1) (by omega))
 obtain ⟨b, o1, cc, cs, hv, hab, -, hE, hcc⟩ := (rx.below B0).atX hX.out
 simp only [Value.slice.injEq] at hv
 obtain ⟨rfl, -, rfl⟩ := hv
 generalize xs[n - 1]'(by omega) = x at hX hE
 obtain ⟨s, l, us⟩ := x
 obtain ⟨A2, n2, c2, rfl, -, -⟩ := st_R.1 hE
 have e1 : W.cell? ⟨b, o1 + (n - 1) * 3 + 1, none⟩ = some (.int .i64 l) := hcc 1 _ rfl
 obtain ⟨hlat, -, -⟩ := zfd HOK.out hX.out
 have hEl := Lib.hid (List.getElem?_eq_getElem (l := zb4 xs) (i := n - 1) (by rw [zhr]; omega))
 generalize (zb4 xs)[n - 1]'(by rw [zhr]; omega) = t at hEl
 have hbt := zft (zl4 HOK.out) hEl.out
 have HT := Lib.hid (show zdd xs = t + l by rw [zdd, HLX.out, hEl.out, hX.out]; rfl)
 have hkk : IntKind.i64.wrap ((n : Int) - 1) = ((n - 1 : Nat) : Int) := by rw [IntWalk.i64_in _ (by omega)]; omega
 have i0 : (0 : Int) ≤ ((n - 1 : Nat) : Int) := by omega
 have i1 : ((n - 1 : Nat) : Int) < (n : Int) := by omega
 have i2 : n - 1 < n := by omega
 have htl : IntKind.i64.wrap (t + l) = t + l := IntWalk.i64_in _ (by omega)
 have D1 : Below W.heap.size W (W.drewN 1) := zac (Below.refl _ _) 1
 have hxd := tM.later hx (zaa B0 D1)
 have lb : b < W.heap.size := Nat.lt_of_lt_of_le hab B0.size
 clear hcc hE hlx hmn hok hW
 go_enter Tryz.func88, Tryz.ntmps88
 go_wp2
 rw [← HW.out]
 go_region_with
  (first | (go_at_call 89; refine (zi4 _ _ _ _ _ hxd HOK.out).mono ?_; rintro e w2 ⟨v2, rfl, own2, bel2⟩; obtain ⟨A3, c3, rfl, -⟩ := own2.shape; have hl3 := zhr xs; rw [HLX.out] at hl3; rw [hl3] at own2 ⊢; clear hl3; obtain ⟨g, rfl, -, -⟩ := own2.form' (show 0 < n by omega); obtain ⟨t2, hT2, hct, -, -, -⟩ := own2.at' i2; have e9 := hT2.out; rw [hEl.out] at e9; injection e9 with e9; rw [← e9] at hct; clear e9; have G2 := zaa D1 bel2; have hself2 : w2.cell? ⟨w.heap.size, 0, none⟩ = some (.slice (some ⟨b, o1, none⟩) n c) := (by rw [G2.cell lx]; exact hself); have e12 : w2.cell? ⟨b, o1 + (n - 1) * 3 + 1, none⟩ = some (.int .i64 l) := (by rw [G2.cell lb]; exact e1)))
 all_goals
  go_wp2
  go_ret
  exact ⟨zbv (by rw [HT.out]), zaa B0 G2⟩
end
section
open Go.RowKit
def zl5 (es : List Int) (k : Nat) (l : Int) (p : Int × Int) : Int := (es[p.1.toNat]?).getD 0 - (es[k]?).getD 0 - l
def zcn (xs : List zad) (k : Nat) : List Int := ((xs[k]?).getD M.sz).2.2.map (zl5 (zb4 xs) k ((xs[k]?).getD M.sz).2.1)
def zcy (xs : List zad) : List (List Int) := (List.range xs.length).map (zcn xs)
theorem zl6 (xs : List zad) : (zcy xs).length = xs.length := by simp [zcy]
theorem zl8 {xs : List zad} {k : Nat} (h : k < xs.length) : (zcy xs)[k]? = some (zcn xs k) := by simp [zcy, h]
theorem zsr {xs : List zad} {k : Nat} {s : ByteArray} {l : Int} {us : List (Int × Int)} (h : xs[k]? = some (s, l, us)) : (zcn xs k).length = us.length := by simp [zcn, h]
theorem zss {xs : List zad} {k : Nat} {s : ByteArray} {l : Int} {us : List (Int × Int)} (h : xs[k]? = some (s, l, us)) {j q : Nat} {g x y : Int} (hj : us[j]? = some ((q : Int), g)) (hx : (zb4 xs)[q]? = some x) (hy : (zb4 xs)[k]? = some y) : (zcn xs k)[j]? = some (x - y - l) := by
 simp [zcn, h, hj, zl5, hx, hy]
theorem zst (A : Option Addr) (n c : Nat) (xs : List zad) (w : World) (hx : tM.R w w.heap.size [.slice A n c] xs) (hok : zas xs = true) :
 Calls Tryz.prog 90 #[.agg #[.slice A n c]] w fun e w' => ∃ v, e = .returned v ∧ OS tS 26 w' (Iv w.heap.size w'.heap.size) v (zcy xs) ∧ Below w.heap.size w w' := by
 have rx := sl_R.1 hx
 have hlx := rx.cap.1
 have hmn := zd0 hok
 have hnb : 1 ≤ n ∧ n ≤ 8 := by omega
 have HLX := Lib.hid hlx
 have HOK := Lib.hid hok
 have hel := zhr xs
 rw [hlx] at hel
 have HEL := Lib.hid hel
 have HUP := Lib.hid (zl4 hok)
 have hdl : (zcy xs).length = n := by rw [zl6]; exact hlx
 have HDL := Lib.hid hdl
 obtain ⟨W, hW⟩ : ∃ W, W = w.alloc (.cells #[.slice A n c] 30) := ⟨_, rfl⟩
 have B0 : Below w.heap.size w W := by rw [hW]; exact (Below.refl _ _).alloc (Nat.le_refl _) _
 have hself : W.cell? ⟨w.heap.size, 0, none⟩ = some (.slice A n c) := by rw [hW]; simp [go_sem]
 have lx : w.heap.size < W.heap.size := by rw [hW]; simp
 have hxW := tM.later hx B0
 have HW := Lib.hid hW
 clear hlx hmn hok hel hdl hW
 go_enter Tryz.func90, Tryz.ntmps90
 go_wp2_with fail
 rw [← HW.out]
 go_wp2_with (go_at_call 89; refine (zi4 _ _ _ _ _ hxW HOK.out).mono ?_; rintro e w3 ⟨v3, rfl, own3, bel3⟩; obtain ⟨A3, c3, rfl, -⟩ := own3.shape; rw [HEL.out] at own3 ⊢; obtain ⟨g, rfl, hg1, hg2⟩ := own3.form' (show 0 < n by omega); have hs3 : w3.cell? ⟨w.heap.size, 0, none⟩ = some (.slice A n c) := (by rw [bel3.cell lx]; exact hself); have lw3 : w.heap.size < w3.heap.size := Nat.lt_of_lt_of_le lx bel3.size)
 have B03 : Below w.heap.size w w3 := zaa B0 bel3
 have hw3 := B03.size
 clear bel3 hself B0 hxW
 go_loopw [4, 5, 6, 7, 9, 16, 25] (fun v _ _ _ _ i _ wr => ∃ k : Nat, i = .int .i64 k ∧ k ≤ n ∧ OS tS 26 wr (Iv w3.heap.size wr.heap.size) v ((zcy xs).take k) ∧ Below w3.heap.size w3 wr) (fun _ _ _ _ _ i _ _ => n - (intOf i).toNat)
 case atStart => exact ⟨0, rfl, by omega, OS.made0 _ _ _, (Below.refl _ _).alloc (Nat.le_refl _) _⟩
 case round =>
  obtain ⟨k, rfl, hk, own, Bw⟩ := hrel
  have hsb := Bw.size
  have BW := zaa B03 Bw
  have hpl : ((zcy xs).take k).length ≤ 8 := by rw [List.length_take]; omega
  by_cases hlt : k < n
  · have hX := Lib.hid (List.getElem?_eq_getElem (l := xs) (i := k) (by rw [HLX.out]; exact hlt))
    obtain ⟨b, o1, cc, cs, hv, hab, -, hE, hcc⟩ := (rx.below BW).atX hX.out
    simp only [Value.slice.injEq] at hv
    obtain ⟨rfl, -, rfl⟩ := hv
    generalize xs[k]'(by rw [HLX.out]; exact hlt) = x at hX hE
    obtain ⟨s, l, us⟩ := x
    obtain ⟨A2, n2, c2, rfl, -, hE⟩ := st_R.1 hE
    have e0 : wr.cell? ⟨b, o1 + k * 3, none⟩ = some (.string s) := hcc 0 _ rfl
    have e1 : wr.cell? ⟨b, o1 + k * 3 + 1, none⟩ = some (.int .i64 l) := hcc 1 _ rfl
    have e2 : wr.cell? ⟨b, o1 + k * 3 + 2, none⟩ = some (.slice A2 n2 c2) := hcc 2 _ rfl
    have hbr : b < wr.heap.size := Nat.lt_of_lt_of_le hab BW.size
    have rs := (zfk hE).1
    have hn2 := rs.1
    obtain ⟨hlat, hu4, hsb2⟩ := zfd HOK.out hX.out
    have HSB := Lib.hid hsb2
    have n2b : n2 ≤ 4 := by omega
    have hkn2 : (k : Int) < (n : Int) := by omega
    have hrl : (zcn xs k).length = n2 := by rw [zsr hX.out]; exact hn2
    have HRL := Lib.hid hrl
    have hpt := Lib.hid (M.take_at (zl8 (xs := xs) (k := k) (by rw [HLX.out]; exact hlt)))
    clear hcc hE hn2 hu4 hsb2 hrl
    go_wp2
    obtain ⟨wo, rfl⟩ : ∃ wo : World, wo = wr := ⟨_, rfl⟩
    obtain ⟨U, hU⟩ : ∃ U, U = wo.alloc (.cells #[.string s, .int .i64 l, .slice A2 n2 c2] 100) := ⟨_, rfl⟩
    rw [← hU]
    have BUo : Below wo.heap.size wo U := by rw [hU]; exact (Below.refl _ _).alloc (Nat.le_refl _) _
    have HSU : U.heap.size = wo.heap.size + 1 := by rw [hU]; simp
    have lb : U.cell? ⟨wo.heap.size, 1, none⟩ = some (.int .i64 l) := by rw [hU, cell_of_row _ wo.heap.size 1 _ 100 (0, 0) (heap_alloc_new wo _)]; rfl
    have own0 := OI.made 2 U
    have BU0 : Below U.heap.size U (U.alloc (.cells #[] 2)) := (Below.refl _ _).alloc (Nat.le_refl _) _
    rw [HSU] at own0
    go_loopw [7, 9, 25] (fun v _ i wr => ∃ j : Nat, i = .int .i64 j ∧ j ≤ n2 ∧ OI 2 (wo.heap.size + 1) wr v ((zcn xs k).take j) ∧ Below (wo.heap.size + 1) U wr) (fun _ _ i _ => n2 - (intOf i).toNat)
    case atStart => exact ⟨0, rfl, by omega, own0, by rw [← HSU]; exact BU0⟩
    case round =>
     obtain ⟨j, rfl, hj, ownj, BU⟩ := hrel
     have hszj : wo.heap.size + 1 ≤ wr.heap.size := by have := BU.size; omega
     have Bo : Below wo.heap.size wo wr := BUo.trans (BU.mono (Nat.le_succ _))
     have lj : wr.cell? ⟨wo.heap.size, 1, none⟩ = some (.int .i64 l) := by rw [BU.cell (Nat.lt_succ_self _)]; exact lb
     have ownE := own3.below (Bw.trans (Bo.mono hsb))
     have hpj : ((zcn xs k).take j).length ≤ 4 := by rw [List.length_take]; omega
     by_cases hlt2 : j < n2
     · obtain ⟨b2, o2, ⟨p0, p1⟩, rfl, hab2, X2, hdd⟩ := (rs.below (Bo.mono BW.size)).at zfj (by decide) hlt2
       have f0 : wr.cell? ⟨b2, o2 + j * 2, none⟩ = some (.int .i64 p0) := hdd 0 _ rfl
       have f1 : wr.cell? ⟨b2, o2 + j * 2 + 1, none⟩ = some (.int .i64 p1) := hdd 1 _ rfl
       obtain ⟨hp1, hp2, -⟩ := zi3 HSB.out X2.out
       obtain ⟨q, rfl⟩ : ∃ q : Nat, p0 = q := ⟨p0.toNat, by omega⟩
       have hqn : q < n := by have := HLX.out; omega
       have hqn2 : (q : Int) < (n : Int) := by omega
       obtain ⟨x, hxx, cx, -, -, gw⟩ := ownE.at' hqn
       obtain ⟨y, hyy, cy, -, -, -⟩ := ownE.at' hlt
       have bx := zft HUP.out hxx.out
       have by_ := zft HUP.out hyy.out
       have hP := Lib.hid (M.take_at (zss hX.out X2.out hxx.out hyy.out))
       have w1_ : IntKind.i64.wrap (x - y) = x - y := IntWalk.i64_in _ (by omega)
       have w2_ : IntKind.i64.wrap (x - y - l) = x - y - l := IntWalk.i64_in _ (by omega)
       clear hdd hp1 hp2
       obtain ⟨V, hV⟩ : ∃ V, V = wr.alloc (.cells #[.int .i64 (q : Int), .int .i64 p1] 68) := ⟨_, rfl⟩
       have G0 : Below wr.heap.size wr V := by rw [hV]; exact (Below.refl _ _).alloc (Nat.le_refl _) _
       have u0 : V.cell? ⟨wr.heap.size, 0, none⟩ = some (.int .i64 (q : Int)) := by rw [hV, cell_of_row _ wr.heap.size 0 _ 68 (0, 0) (heap_alloc_new wr _)]; rfl
       have ux : V.cell? ⟨g, q, none⟩ = some (.int .i64 x) := by rw [G0.cell gw]; exact cx
       have uy : V.cell? ⟨g, k, none⟩ = some (.int .i64 y) := by rw [G0.cell gw]; exact cy
       have ul : V.cell? ⟨wo.heap.size, 1, none⟩ = some (.int .i64 l) := by rw [G0.cell (show (⟨wo.heap.size, 1, none⟩ : Addr).block < _ from hszj)]; exact lj
       have ownV := ownj.below G0
       have lV : wr.heap.size < V.heap.size := by rw [hV]; simp
       have HV := Lib.hid hV
       have hsV := G0.size
       have BA : ∀ us, Below V.heap.size V (V.alloc (.cells us 2)).drew := fun us => ((Below.refl _ _).alloc (Nat.le_refl _) _).drew
       have gV : g < V.heap.size := by omega
       have oV : wo.heap.size < V.heap.size := by omega
       have gB : g < wo.heap.size + 1 := by omega
       have oB : wo.heap.size < wo.heap.size + 1 := Nat.lt_succ_self _
       have ownV0 : V.ownsRow (wo.heap.size + 1) 2 1 _ ((zcn xs k).take j).length (((zcn xs k).take j).map (.int .i64)) := ownV
       have c1_ : ((zcn xs k).take j).length + 1 ≤ maxLen := by unfold maxLen; omega
       have c2_ : (((zcn xs k).take j).length + 1) * 8 ≤ 140737488355328 := by omega
       have c3_ : wo.heap.size + 1 ≤ V.heap.size := by omega
       clear hV
       go_wp2
       rw [← HV.out]
       have hne : ∀ {v : Value}, OI 2 (wo.heap.size + 1) wr v ((zcn xs k).take j) → v.ownBlock ≠ some wr.heap.size := fun h h2 => Nat.lt_irrefl _ (World.ownsRow.lt h _ h2).2
       go_region_held3 (fun w' => w'.cell? ⟨wr.heap.size, 0, none⟩ = some (.int .i64 (q : Int)) ∧ w'.cell? ⟨g, q, none⟩ = some (.int .i64 x) ∧ w'.cell? ⟨g, k, none⟩ = some (.int .i64 y) ∧ w'.cell? ⟨wo.heap.size, 1, none⟩ = some (.int .i64 l))
        (first | exact ⟨u0, ux, uy, ul⟩ | exact ⟨((BA _).cell lV).trans u0, ((BA _).cell gV).trans ux, ((BA _).cell gV).trans uy, ((BA _).cell oV).trans ul⟩ | exact ⟨z0, z1, z2, z3⟩)
        (first | (refine zm5 (o := ⟨some 44, _, _, _, _, _⟩) zbl rfl (.tmp 29) (.tmp 43) rfl (World.ownsRow.drew (World.ownsRow.alloc ownV0 _)) rfl rfl (zjj _ _ _) rfl c1_ c2_ (zm6 c3_) ?_; intro v1 w1 own1 gr1 bel1; have z0 : w1.cell? ⟨wr.heap.size, 0, none⟩ = some (.int .i64 (q : Int)) := (by rw [World.cell?_of_block (gr1.block wr.heap.size (Nat.lt_of_lt_of_le lV (BA _).size) (hne ownj).symm), (BA _).cell (show (⟨wr.heap.size, 0, none⟩ : Addr).block < _ from lV)]; exact u0); have z1 : w1.cell? ⟨g, q, none⟩ = some (.int .i64 x) := (by rw [bel1.cell (show (⟨g, q, none⟩ : Addr).block < _ from gB), (BA _).cell (show (⟨g, q, none⟩ : Addr).block < _ from gV)]; exact ux); have z2 : w1.cell? ⟨g, k, none⟩ = some (.int .i64 y) := (by rw [bel1.cell (show (⟨g, k, none⟩ : Addr).block < _ from gB), (BA _).cell (show (⟨g, k, none⟩ : Addr).block < _ from gV)]; exact uy); have z3 : w1.cell? ⟨wo.heap.size, 1, none⟩ = some (.int .i64 l) := (by rw [bel1.cell (show (⟨wo.heap.size, 1, none⟩ : Addr).block < _ from oB), (BA _).cell (show (⟨wo.heap.size, 1, none⟩ : Addr).block < _ from oV)]; exact ul)))
       go_wp2
       go_roundw
       case rel => exact ⟨j + 1, by go_num, by omega, by rw [hP.out]; exact OI.push own1, ((BU.trans (G0.mono hszj)).trans ((BA _).mono c3_)).trans bel1⟩
       case measure => simp [intOf]; omega
     · obtain rfl : j = n2 := by omega
       rw [List.take_of_length_le (by rw [HRL.out]; exact Nat.le_refl _)] at ownj
       obtain ⟨A4, c4, rfl, -⟩ := ownj.shape
       have ow := own.below Bo (Nat.le_refl _)
       have os2 := tS_O.2 (OI.os (OI.base ownj (show wo.heap.size ≤ _ by omega)))
       have s2 := Bo.size
       go_wp2_with (at_builtin; refine zaz ei_S #[.slice A4 (zcn xs k).length c4] rfl _ _ rfl ow os2 (Iv.apart (Nat.le_refl _)) rfl rfl (by unfold maxLen; omega) (by omega) ?_; intro v3 w4 own4 ch4)
       go_roundw
       case rel =>
        refine ⟨k + 1, by go_num, by omega, ?_, (Bw.trans (Bo.mono hsb)).trans (ch4.toBelow (fun b hb => hb.1) (by omega))⟩
        rw [hpt.out]
        exact own4.wide (Iv.grow hsb s2 ch4.size)
       case measure => simp [intOf]; omega
  · obtain rfl : k = n := by omega
    go_wp2
    go_ret
    rw [List.take_of_length_le (by rw [HDL.out]; exact Nat.le_refl _)] at own
    exact ⟨_, rfl, own.wide (fun b hb => ⟨Nat.le_trans hw3 hb.1, hb.2⟩), BW⟩
end
section
open Go.RowKit Go.Sort
def M.sl (a : List Int) (f : Int) (n : Nat) : List Int := (List.range n).map fun (i : Nat) => M.at_ a (f + i)
def zbu (a : List Int) (b : Int) (n : Nat) : List Int := (List.range n).map fun (i : Nat) => M.at_ a ((i : Int) - b)
theorem zfe (a : List Int) (f : Int) (n : Nat) : (M.sl a f n).length = n := by simp [M.sl]
theorem zd1 (a : List Int) (b : Int) (n : Nat) : (zbu a b n).length = n := by simp [zbu]
theorem zl9 {a : List Int} {f : Int} {n k : Nat} (h : k < n) : (M.sl a f n)[k]? = some (M.at_ a (f + k)) := by simp [M.sl, h]
theorem zsu {a : List Int} (h : a.all M.smp = true) (f : Int) (n : Nat) : (M.sl a f n).all M.smp = true := by
 rw [M.sl, List.all_map, List.all_eq_true]
 intro i _
 exact zhn h _
theorem zsv {a : List Int} (h : a.all M.smp = true) (b : Int) (n : Nat) : (zbu a b n).all M.smp = true := by
 rw [zbu, List.all_map, List.all_eq_true]
 intro i _
 exact zhn h _
theorem zi5 (a b : List Int) (g : Int) : (zbt a b g).all M.smp = true := by
 rw [zbt, List.all_map, List.all_eq_true]
 intro i _
 exact M.smp_wrap _
theorem zsw (a : List Int) (b : Nat) {i : Int} (h : 0 ≤ i) : M.at_ (List.replicate b 0 ++ a) i = M.at_ a (i - b) := by
 obtain ⟨k, rfl⟩ := Int.eq_ofNat_of_zero_le h
 rw [M.at_, M.at_]
 simp only [List.length_append, List.length_replicate]
 by_cases h1 : k < b
 · rw [if_neg (by omega : ¬ (0 ≤ (k : Int) - b ∧ (k : Int) - b < a.length))]
   split
   · rw [Int.toNat_natCast, List.getElem?_append_left (by simpa using h1)]
     simp [h1]
   · rfl
 · by_cases h2 : k < b + a.length
   · rw [if_pos ⟨by omega, by omega⟩, if_pos ⟨by omega, by omega⟩, Int.toNat_natCast, List.getElem?_append_right (by simp; omega)]
     rw [List.length_replicate, show ((k : Int) - b).toNat = k - b by omega]
   · rw [if_neg (by omega), if_neg (by omega)]
theorem zsx (a : List Int) (m : Nat) (i : Int) : M.at_ (a ++ List.replicate m 0) i = M.at_ a i := by
 rw [M.at_, M.at_]
 simp only [List.length_append, List.length_replicate]
 by_cases h1 : 0 ≤ i ∧ i < a.length
 · rw [if_pos ⟨h1.1, by omega⟩, if_pos h1, List.getElem?_append_left (by omega)]
 · rw [if_neg h1]
   split
   · rename_i h2
     rw [List.getElem?_append_right (by omega), List.getElem?_replicate]
     split <;> rfl
   · rfl
theorem zsy (a : List Int) (b n : Nat) : M.sl (List.replicate b 0 ++ a) 0 n = zbu a b n := by
 rw [M.sl, zbu]
 refine List.map_congr_left fun i _ => ?_
 rw [zsw a b (by omega)]
 congr 1
 omega
theorem zsz (a : List Int) (b : Nat) : (List.replicate b 0 ++ a).take a.length = zbu a b a.length := by
 rw [← zsy]
 apply List.ext_getElem?
 intro k
 by_cases hk : k < a.length
 · rw [zl9 hk, List.getElem?_take, if_pos hk, M.at_, if_pos ⟨by omega, by simp; omega⟩, show ((0 : Int) + (k : Int)).toNat = k by omega, List.getElem?_eq_getElem (by simp; omega)]
   rfl
 · rw [List.getElem?_eq_none (by rw [List.length_take]; omega), List.getElem?_eq_none (by rw [zfe]; omega)]
theorem zs0 (a : List Int) (m n : Nat) (b : Int) : zbu (a ++ List.replicate m 0) b n = zbu a b n := by
 rw [zbu, zbu]
 exact List.map_congr_left fun i _ => zsx a m _
theorem OI.take {e : TypeId} {B : Nat} {w : World} {A : Option Addr} {m n c : Nat} {xs : List Int} (h : OI e B w (.slice A m c) xs) (hn : n ≤ m) : OI e B w (.slice A n c) (xs.take n) := by
 have hl : xs.length = m := by
  rcases h.2 with ⟨h0, h1⟩ | ⟨g, cap, cur, h0, _⟩
  · simp only [Value.slice.injEq] at h0
    rw [h0.2.1]; exact h1
  · simp only [Value.slice.injEq] at h0
    exact h0.2.1.symm
 have hl2 : (xs.take n).length = n := by rw [List.length_take]; omega
 refine ⟨by simp, ?_⟩
 rw [hl2]
 rcases h.2 with ⟨h0, h1⟩ | ⟨g, cap, cur, h0, hb, hg, hnc, hcm, hcs, ht⟩
 · simp only [Value.slice.injEq] at h0
   obtain ⟨rfl, rfl, rfl⟩ := h0
   obtain rfl : n = 0 := by omega
   exact .inl ⟨rfl, rfl⟩
 · simp only [Value.slice.injEq] at h0
   obtain ⟨rfl, -, rfl⟩ := h0
   refine .inr ⟨g, c, cur, rfl, hb, hg, by omega, hcm, hcs, ?_⟩
   rw [List.map_take, ← ht, List.take_take]
   congr 1
   omega
theorem zs1 (A : Option Addr) (n c : Nat) (xs : List Int) (f : Nat) (m : Nat) (w : World) (hx : RI w w.heap.size A n xs) (hn : n ≤ 1000000) (hf : f ≤ 1000000) (hm : m ≤ 1000000) :
 Calls Tryz.prog 61 #[.slice A n c, .int .i64 f, .int .i64 m] w (Ret1 2 w (M.sl xs f m)) := by
 go_enter Tryz.func61, Tryz.ntmps61
 go_wp2_with fail
 refine (zcv m _ (by omega) (by omega)).mono ?_
 rintro e w1 ⟨v1, rfl, own1, bel1⟩
 rw [Int.toNat_natCast] at own1
 obtain ⟨A1, c1, e1, -⟩ := own1.shape
 rw [List.length_replicate] at e1
 subst e1
 have s1 := bel1.size
 go_wp2_with fail
 go_loopw [13] (fun i wr => ∃ k : Nat, i = .int .i64 k ∧ k ≤ m ∧ OI 2 w.heap.size wr (.slice A1 m c1) ((M.sl xs f m).take k ++ List.replicate (m - k) 0) ∧ Below w.heap.size w wr ∧ w1.heap.size ≤ wr.heap.size) (fun i _ => m - (intOf i).toNat)
 case atStart => exact ⟨0, rfl, by omega, by simpa using own1, bel1, Nat.le_refl _⟩
 case round =>
  obtain ⟨k, rfl, hk, own, B, sz⟩ := hrel
  by_cases hlt : k < m
  · obtain ⟨g, rfl, hg1, hg2⟩ := own.form' (by omega)
    obtain ⟨y, hy1, hy2, hy3, -, -⟩ := own.at' (k := k) hlt
    have HT := Lib.hid (show ((M.sl xs f m).take k ++ List.replicate (m - k) 0).set k (M.at_ xs (f + k)) = (M.sl xs f m).take (k + 1) ++ List.replicate (m - (k + 1)) 0 by
     rw [M.take_at (zl9 hlt), List.set_append_right _ _ (by rw [List.length_take]; omega)]
     rw [show k - ((M.sl xs f m).take k).length = 0 by rw [List.length_take, zfe]; omega, show m - k = (m - (k + 1)) + 1 by omega, List.replicate_succ, List.set_cons_zero]
     simp)
    have fk : (0 : Int) ≤ (f : Int) + (k : Int) := by omega
    have k0 : (0 : Int) ≤ (k : Int) := by omega
    have k1 : (k : Int) < (m : Int) := by omega
    have rx := (hx.below B).more B.size
    go_wp2_with fail
    refine (zf2 _ _ _ xs _ _ rx (by omega) (by omega)).mono ?_
    rintro e w' ⟨rfl, rfl⟩
    go_wp2_with fail
    go_roundw
    case rel => exact ⟨k + 1, by go_num, by omega, by rw [← HT.out]; exact own.stored' k _, B.setCell hg1 _, by simp; omega⟩
    case measure => simp [intOf]; omega
  · obtain rfl : k = m := by omega
    rw [List.take_of_length_le (by rw [zfe]; omega), Nat.sub_self, List.replicate_zero, List.append_nil] at own
    go_wp2_with fail
    go_ret
    exact ⟨_, rfl, own, B⟩
theorem zs2 (p x : Int) : wrap32 (p + wrap64 x) = wrap32 (p + x) := by unfold wrap32 wrap64; omega
theorem zhs (A A' : Option Addr) (n c n' c' : Nat) (xs ys : List Int) (g : Int) (w : World) (hx : RI w w.heap.size A n xs) (hy : RI w w.heap.size A' n' ys) (hn : n ≤ 1000000) (hn' : n' ≤ 1000000) :
 Calls Tryz.prog 34 #[.slice A n c, .int .i64 g, .slice A' n' c'] w (Ret1 2 w (zbt xs ys g)) := by
 have hl := Lib.hid hx.len
 have hl' := Lib.hid hy.len
 obtain ⟨m, hm⟩ : ∃ m : Nat, m = max n n' := ⟨_, rfl⟩
 have HM := Lib.hid (show max xs.length ys.length = m by rw [hl.out, hl'.out, hm])
 have hm2 : m ≤ 1000000 := by omega
 have hz := Lib.hid hm
 rcases (show (n' ≤ n ∧ m = n) ∨ (n < n' ∧ m = n') by omega) with ⟨hnn, rfl⟩ | ⟨hnn, rfl⟩
 all_goals
  clear hm hz
  go_enter Tryz.func34, Tryz.ntmps34
  go_wp2_with (first | (go_at_call 62; refine (zbn _ _ _ _).mono ?_; rintro e w' ⟨rfl, rfl⟩))
  refine (zcv m _ (by omega) (by omega)).mono ?_
  rintro e w1 ⟨v1, rfl, own1, bel1⟩
  rw [Int.toNat_natCast] at own1
  obtain ⟨A1, c1, e1, -⟩ := own1.shape
  rw [List.length_replicate] at e1
  subst e1
  have s1 := bel1.size
  go_wp2_with fail
  go_loopw [17] (fun i wr => ∃ k : Nat, i = .int .i64 k ∧ k ≤ m ∧ OI 2 w.heap.size wr (.slice A1 m c1) ((zbt xs ys g).take k ++ List.replicate (m - k) 0) ∧ Below w.heap.size w wr ∧ w1.heap.size ≤ wr.heap.size) (fun i _ => m - (intOf i).toNat)
  case atStart => exact ⟨0, rfl, by omega, by simpa using own1, bel1, Nat.le_refl _⟩
  case round =>
   obtain ⟨k, rfl, hk, own, B, sz⟩ := hrel
   by_cases hlt : k < m
   · obtain ⟨q, rfl, hg1, hg2⟩ := own.form' (by omega)
     obtain ⟨y, hy1, hy2, hy3, -, -⟩ := own.at' (k := k) hlt
     have HT := Lib.hid (show ((zbt xs ys g).take k ++ List.replicate (m - k) 0).set k (wrap32 (M.at_ xs (k : Int) + M.at_ ys (k : Int) * g)) = (zbt xs ys g).take (k + 1) ++ List.replicate (m - (k + 1)) 0 by
      rw [M.take_at (zpc (by rw [HM.out]; exact hlt)), List.set_append_right _ _ (by rw [List.length_take]; omega)]
      rw [show k - ((zbt xs ys g).take k).length = 0 by rw [List.length_take, zdu, HM.out]; omega, show m - k = (m - (k + 1)) + 1 by omega, List.replicate_succ, List.set_cons_zero]
      simp)
     have k0 : (0 : Int) ≤ (k : Int) := by omega
     have k1 : (k : Int) < (m : Int) := by omega
     have rx := (hx.below B).more B.size
     have ry := (hy.below B).more B.size
     obtain ⟨p, hp⟩ : ∃ p, p = M.at_ xs (k : Int) := ⟨_, rfl⟩
     obtain ⟨r, hr⟩ : ∃ r, r = M.at_ ys (k : Int) := ⟨_, rfl⟩
     have HP := Lib.hid hp
     have HR := Lib.hid hr
     clear hp hr
     go_wp2_with fail
     refine (zf2 _ _ _ xs _ _ rx (by omega) (by omega)).mono ?_
     rw [← HP.out]
     rintro e w' ⟨rfl, rfl⟩
     go_wp2_with fail
     refine (zf2 _ _ _ ys _ _ ry (by omega) (by omega)).mono ?_
     rw [← HR.out]
     rintro e w' ⟨rfl, rfl⟩
     go_wp2_with fail
     refine (zc7 _ _).mono ?_
     rintro e w' ⟨rfl, rfl⟩
     go_wp2_with fail
     go_roundw
     case rel =>
      refine ⟨k + 1, by go_num, by omega, ?_, B.setCell hg1 _, by simp; omega⟩
      rw [← HT.out, ← HP.out, ← HR.out]
      have := own.stored' k (wrap32 (p + r * g))
      rw [show wrap32 (p + r * g) = wrap32 (wrap64 (p + wrap64 (g * r))) by rw [M.wrap32_64, zs2, Int.mul_comm]] at this ⊢
      exact this
     case measure => simp [intOf]; omega
   · obtain rfl : k = m := by omega
     rw [List.take_of_length_le (by rw [zdu, HM.out]; omega), Nat.sub_self, List.replicate_zero, List.append_nil] at own
     go_wp2_with fail
     go_ret
     exact ⟨_, rfl, own, B⟩
theorem zi6 (A : Option Addr) (n c : Nat) (xs : List Int) (b : Nat) (w : World) (hx : RI w w.heap.size A n xs) (hn : n ≤ 1000000) (hb : b ≤ 1000000) :
 Calls Tryz.prog 92 #[.slice A n c, .int .i64 b] w (Ret1 2 w (zbu xs b n)) := by
 have hl := Lib.hid hx.len
 go_enter Tryz.func92, Tryz.ntmps92
 go_wp2_with fail
 refine (zcv b _ (by omega) (by omega)).mono ?_
 rintro e w1 ⟨v1, rfl, own1, bel1⟩
 rw [Int.toNat_natCast] at own1
 have hlr := List.length_replicate (n := b) (a := (0 : Int))
 have HLR := Lib.hid hlr
 have rx := hx.below bel1
 have s1 := bel1.size
 have hlb : (List.replicate b (0 : Int)).length ≤ 1000000 := by rw [List.length_replicate]; omega
 clear hlr
 go_wp2_with (at_builtin; refine zcj zbl rfl _ _ rfl own1 rfl rx rfl (ints_oneCell _ _) (by unfold maxLen; omega) (by omega) s1 ?_; intro v2 w2 own2 gr2 bel2; have op2 : OI 2 w.heap.size w2 v2 (List.replicate b 0 ++ xs) := (by unfold OI; rw [List.map_append, List.length_append, hl.out]; exact own2); obtain ⟨A2, c2, e2, -⟩ := op2.shape; obtain ⟨n2, hn2⟩ : ∃ n2, n2 = (List.replicate b 0 ++ xs).length := ⟨_, rfl⟩; rw [← hn2] at e2; subst e2; have hnn : n ≤ n2 := (by rw [hn2, List.length_append, hl.out]; omega); have hcc : n2 ≤ c2 := (by obtain ⟨A3, c3, e3, h3, -⟩ := zbr op2; simp only [Value.slice.injEq] at e3; rw [e3.2.2, e3.2.1]; exact h3); have HN2 := Lib.hid hn2; clear hn2)
 go_ret
 have op3 := op2.take hnn
 have h := zsz xs b
 rw [hl.out] at h
 rw [h] at op3
 exact ⟨_, rfl, op3, bel1.trans bel2⟩
end
section
open Go.RowKit Go.Sort
set_option synthInstance.maxSize 2000
set_option synthInstance.maxHeartbeats 400000
section
variable (L : Nat) (src : List (List Int)) (ts : List (List zah)) (fs : List Int) (ps : List zaf) (ms : List zad)
def M.nT : Nat := L + (zdd ms).toNat
def zcd (t : Nat) : List zah := (ts[t]?).getD []
def zht (i : Nat) : zaf := (ps[i]?).getD M.p0
def zbh (i : Nat) : zad := (ms[i]?).getD M.sz
def zbm (i : Nat) : Int := M.i_ (zb4 ms) i
def zeb (ins : List (List Int)) (k : Nat) (ys : List Int) (g : Int) : List (List Int) := ins.set k (zbt (zag ins k) ys g)
def zb5 : Nat → List (List Int)
 | 0 => List.replicate ms.length (List.replicate (M.nT L ms) 0)
 | t + 1 => zeb (zb5 t) (M.i_ fs t).toNat (zbu (zb0 src (zcd ts t) L) (zbm ms (M.i_ fs t).toNat) (M.nT L ms)) 1
def M.fx (p : zaf) (xs : List Int) (n : Nat) : List Int := if p = M.p0 then xs else zlu p xs n
def zen (i : Nat) (ins : List (List Int)) : List Int := zbu (M.fx (zht ps i) (zag ins i) (M.nT L ms)) (zbh ms i).2.1 (M.nT L ms)
def zcu (i : Nat) (out : List Int) (ins : List (List Int)) : Nat → List (List Int)
 | 0 => ins
 | j + 1 => zeb (zcu i out ins j) (((zbh ms i).2.2[j]?).getD (0, 0)).1.toNat (zbu out (M.i_ (zag (zcy ms) i) j) (M.nT L ms)) (((zbh ms i).2.2[j]?).getD (0, 0)).2
def za6 : Nat → List (List Int) × List (List Int)
 | 0 => (zb5 L src ts fs ms ts.length, [])
 | i + 1 => (zcu L ms i (zen L ps ms i (za6 i).1) (za6 i).1 (zbh ms i).2.2.length, (za6 i).2 ++ [zen L ps ms i (za6 i).1])
def zex : List (List Int) := (za6 L src ts fs ps ms ms.length).2
def zdj : List Int := (List.range ms.length).map fun i => zbm ms i + (zbh ms i).2.1
def zb6 : List Int := M.sl (zag (zex L src ts fs ps ms) (ms.length - 1)) (zdd ms) L
end
structure M.SO (L : Nat) (src : List (List Int)) (ts : List (List zah)) (fs : List Int) (ps : List zaf) (ms : List zad) : Prop where
 l : L ≤ 1000
 so : zc9 src = true
 mix : zas ms = true
 fl : fs.length = ts.length
 tl : ts.length ≤ 6
 fr : ∀ f ∈ fs, 0 ≤ f ∧ f < ms.length
 pl : ps.length = ms.length
 tr : ∀ t ∈ ts, zau t = true ∧ zbe t src.length = true
 ef : ∀ p ∈ ps, zaw p = true
theorem zgq {a0 : Int} {src : List (List Int)} {ts : List (List zah)} {fs : List Int} {ps : List zaf} {ms : List zad} (h : za9 (a0, src, ts, fs, ps, ms) = true) : ∃ L : Nat, a0 = L ∧ M.SO L src ts fs ps ms := by
 rw [za9] at h
 simp only [Bool.and_eq_true, decide_eq_true_eq] at h
 obtain ⟨⟨⟨⟨⟨⟨⟨⟨h1, h2⟩, h3⟩, h4⟩, h5⟩, h6⟩, h7⟩, h8⟩, h9⟩ := h
 have h1' := za2.1 h1
 refine ⟨a0.toNat, by omega, by omega, h2, h4, h5, h3, fun f hf => ?_, h7, fun t ht => ?_, fun p hp => List.all_eq_true.1 h9 p hp⟩
 · have := za2.1 (List.all_eq_true.1 h6 f hf)
   omega
 · have := List.all_eq_true.1 h8 t ht
   rwa [Bool.and_eq_true] at this
structure M.JO (m n : Nat) (ins : List (List Int)) : Prop where
 len : ins.length = m
 at_ : ∀ x ∈ ins, x.length = n ∧ x.all M.smp = true
theorem M.JO.cel {m n : Nat} {ins : List (List Int)} (h : M.JO m n ins) {k : Nat} (hk : k < m) : (zag ins k).length = n ∧ (zag ins k).all M.smp = true := by
 have hk2 : k < ins.length := by rw [h.len]; exact hk
 have e : zag ins k = ins[k] := by rw [zag, List.getElem?_eq_getElem hk2]; rfl
 rw [e]
 exact h.at_ _ (List.getElem_mem hk2)
theorem M.JO.add {m n : Nat} {ins : List (List Int)} (h : M.JO m n ins) {k : Nat} (hk : k < m) {ys : List Int} (hy : ys.length = n) (g : Int) : M.JO m n (zeb ins k ys g) := by
 refine ⟨by rw [zeb, List.length_set]; exact h.len, fun x hx => ?_⟩
 rcases List.mem_or_eq_of_mem_set hx with h1 | rfl
 · exact h.at_ x h1
 · exact ⟨by rw [zdu, (h.cel hk).1, hy, Nat.max_self], zi5 _ _ _⟩
section
variable {L : Nat} {src : List (List Int)} {ts : List (List zah)} {fs : List Int} {ps : List zaf} {ms : List zad}
theorem zhu (h : zas ms = true) : 0 ≤ zdd ms ∧ zdd ms ≤ 1100 := by
 obtain ⟨h1, h2⟩ := zd0 h
 have hx : ms[ms.length - 1]? = some (ms[ms.length - 1]'(by omega)) := List.getElem?_eq_getElem (by omega)
 rw [zdd, hx]
 generalize ms[ms.length - 1]'(by omega) = x at hx
 obtain ⟨s, l, us⟩ := x
 obtain ⟨h3, _, _⟩ := zfd h hx
 have h4 := zho (by omega) (zhq h ms.length (Nat.le_refl _)) (ms.length - 1)
 rw [zb4]
 simp only [Option.getD_some]
 omega
theorem zma (h : M.SO L src ts fs ps ms) : M.nT L ms ≤ 2100 := by
 have h1 := zhu h.mix
 have h2 := h.l
 rw [M.nT]; omega
theorem zs3 (h : M.SO L src ts fs ps ms) : ((M.nT L ms : Nat) : Int) = (L : Int) + zdd ms := by
 have h1 := zhu h.mix
 rw [M.nT]; omega
theorem zgr (h : zas ms = true) (i : Nat) : 0 ≤ zbm ms i ∧ zbm ms i ≤ 1024 := by
 have h1 := zd0 h
 have h4 := zho (by omega) (zhq h ms.length (Nat.le_refl _)) i
 rw [zbm, M.i_, zb4]
 omega
theorem zmb {i : Nat} {x : zad} (h : ms[i]? = some x) : zbh ms i = x := by rw [zbh, h]; rfl
theorem zi7 {i : Nat} {x : zaf} (h : ps[i]? = some x) : zht ps i = x := by rw [zht, h]; rfl
theorem zs4 {i : Nat} {x : List zah} (h : ts[i]? = some x) : zcd ts i = x := by rw [zcd, h]; rfl
theorem zhv (h : zas ms = true) {i : Nat} (hi : i < ms.length) : (0 ≤ (zbh ms i).2.1 ∧ (zbh ms i).2.1 ≤ 32) ∧ (zbh ms i).2.2.length ≤ 4 ∧ ∀ (j : Nat) (p0 p1 : Int), (zbh ms i).2.2[j]? = some (p0, p1) → (i : Int) < p0 ∧ p0 < ms.length ∧ M.smp p1 = true := by
 have hx : ms[i]? = some ms[i] := List.getElem?_eq_getElem hi
 rw [zmb hx]
 generalize ms[i] = x at hx
 obtain ⟨s, l, us⟩ := x
 obtain ⟨h1, h2, h3⟩ := zfd h hx
 refine ⟨h1, h2, fun j p0 p1 hj => ?_⟩
 have := zi3 h3 hj
 exact ⟨this.1, by omega, this.2.2⟩
theorem zi8 {p : zaf} (h : zaw p = true) (hp : p ≠ M.p0) : zcb p = true ∧ p.1 = 1 ∧ p.2.2.2.length = 1 := by
 rw [zaw] at h
 simp only [Bool.or_eq_true, Bool.and_eq_true, decide_eq_true_eq] at h
 rcases h with h | h
 · exact absurd h hp
 · exact ⟨h.1.1, h.1.2, h.2⟩
theorem zs5 {p : zaf} (h : zaw p = true) {xs : List Int} {n : Nat} (hl : xs.length = n) (hs : xs.all M.smp = true) : (M.fx p xs n).length = n ∧ (M.fx p xs n).all M.smp = true := by
 rw [M.fx]
 split
 · exact ⟨hl, hs⟩
 · rename_i hp
   obtain ⟨h1, h2, h3⟩ := zi8 h hp
   exact ⟨by rw [zlu, zdx], zr6 (zi0 h1 h2) hs _ _⟩
theorem zmc (h : M.SO L src ts fs ps ms) : ∀ t, t ≤ ts.length → M.JO ms.length (M.nT L ms) (zb5 L src ts fs ms t) := by
 intro t
 induction t with
 | zero =>
  refine fun _ => ⟨List.length_replicate .., fun x hx => ?_⟩
  rw [List.eq_of_mem_replicate hx]
  refine ⟨List.length_replicate .., ?_⟩
  rw [List.all_eq_true]
  intro z hz
  rw [List.eq_of_mem_replicate hz]
  rfl
 | succ t ih =>
  intro ht
  have hf : fs[t]? = some (M.i_ fs t) := by
   have : t < fs.length := by rw [h.fl]; omega
   rw [M.i_, List.getElem?_eq_getElem this]; rfl
  have hr := h.fr _ (List.mem_of_getElem? hf)
  exact (ih (by omega)).add (by omega) (zd1 _ _ _) 1
theorem zmd (h : zas ms = true) {i : Nat} (hi : i < ms.length) {out : List Int} {ins : List (List Int)} (hins : M.JO ms.length (M.nT L ms) ins) : ∀ j, j ≤ (zbh ms i).2.2.length → M.JO ms.length (M.nT L ms) (zcu L ms i out ins j) := by
 intro j
 induction j with
 | zero => exact fun _ => hins
 | succ j ih =>
  intro hj
  obtain ⟨_, _, h3⟩ := zhv h hi
  have hx : (zbh ms i).2.2[j]? = some ((zbh ms i).2.2[j]'(by omega)) := List.getElem?_eq_getElem (by omega)
  generalize (zbh ms i).2.2[j]'(by omega) = u at hx
  obtain ⟨p0, p1⟩ := u
  have h4 := h3 j p0 p1 hx
  rw [zcu, hx]
  exact (ih (by omega)).add (by show p0.toNat < _; omega) (zd1 _ _ _) _
theorem zhw (h : M.SO L src ts fs ps ms) : ∀ i, i ≤ ms.length → M.JO ms.length (M.nT L ms) (za6 L src ts fs ps ms i).1 ∧ M.JO i (M.nT L ms) (za6 L src ts fs ps ms i).2 := by
 intro i
 induction i with
 | zero => exact fun _ => ⟨zmc h _ (Nat.le_refl _), rfl, fun x hx => by cases hx⟩
 | succ i ih =>
  intro hi
  obtain ⟨h1, h2⟩ := ih (by omega)
  have hp : zaw (zht ps i) = true := by
   have hk : i < ps.length := by rw [h.pl]; omega
   rw [zi7 (List.getElem?_eq_getElem hk)]
   exact h.ef _ (List.getElem_mem hk)
  obtain ⟨c1, c2⟩ := h1.cel (k := i) (by omega)
  obtain ⟨f1, f2⟩ := zs5 hp c1 c2
  refine ⟨zmd h.mix (by omega) h1 _ (Nat.le_refl _), by rw [za6, List.length_append, h2.len]; rfl, fun x hx => ?_⟩
  rw [za6, List.mem_append] at hx
  rcases hx with hx | hx
  · exact h2.at_ x hx
  · obtain rfl : x = _ := List.mem_singleton.1 hx
    exact ⟨zd1 _ _ _, zsv f2 _ _⟩
end
end
section
open Go.RowKit Go.Sort
theorem zme (A A' : Option Addr) (n c n' c' : Nat) (xs ys : List Int) (w : World) (hx : RI w w.heap.size A n xs) (hy : RI w w.heap.size A' n' ys) (hn : n ≤ 1000000000) :
 Calls Tryz.prog 11 #[.slice A n c, .slice A' n' c'] w fun e w' => e = .returned (.bool (decide (xs = ys))) ∧ Below w.heap.size w w' := by
 have hl := Lib.hid hx.len
 have hl' := Lib.hid hy.len
 by_cases hnn : n = n'
 · subst hnn
   go_enter Tryz.func11, Tryz.ntmps11
   go_wp2
   go_loopw [5] (fun i wr => ∃ k : Nat, i = .int .i64 k ∧ k ≤ n ∧ Hid (xs.take k = ys.take k) ∧ Below w.heap.size w wr) (fun i _ => n - (intOf i).toNat)
   case atStart => exact ⟨0, rfl, by omega, Lib.hid (by simp), Below.refl _ _⟩
   case round =>
    obtain ⟨k, rfl, hk, H, hb⟩ := hrel
    by_cases hlt : k < n
    · obtain ⟨ad, x, rfl, hab, X, hc⟩ := (hx.below hb).at hlt
      obtain ⟨ad', y, rfl, hab', Y, hc'⟩ := (hy.below hb).at hlt
      by_cases hxy : x = y
      · subst hxy
        go_wp2
        go_quiet (fail)
        go_wp2
        go_roundw
        case rel => exact ⟨k + 1, by go_num, by omega, Lib.hid (by rw [M.take_at X.out, M.take_at Y.out, H.out]), hb.trans (zac (Below.refl _ _) _)⟩
        case measure => simp [intOf]; omega
      · have hne := Lib.hid (show ¬ xs = ys from fun e => hxy (by have h1 := X.out; have h2 := Y.out; rw [e, h2] at h1; injection h1 with h1; exact h1.symm))
        have hxy' : (x == y) = false := by simpa using hxy
        clear hxy
        go_wp2
        go_quiet (fail)
        go_wp2
        go_ret
        exact ⟨zab (by simp [hne.out]), hb.trans (zac (Below.refl _ _) _)⟩
    · go_wp2
      go_ret
      have h1 : xs = ys := by have := H.out; rwa [List.take_of_length_le (by rw [hl.out]; omega), List.take_of_length_le (by rw [hl'.out]; omega)] at this
      exact ⟨zab (by simp [h1]), hb⟩
 · have hne := Lib.hid (show ¬ xs = ys from fun e => hnn (by rw [← hl.out, ← hl'.out, e]))
   go_enter Tryz.func11, Tryz.ntmps11
   go_wp2
   go_ret
   exact ⟨zab (by simp [hne.out]), Below.refl _ _⟩
theorem Hs.szL_le {α : Type} (h : Hs α) {xs : List α} {B : Nat} (hB : ∀ x ∈ xs, h.sz x ≤ B) : h.szL xs ≤ xs.length * B := by
 induction xs with
 | nil => simp [Hs.szL]
 | cons x xs ih =>
  have h1 := hB x (by simp)
  have h2 := ih (fun y hy => hB y (by simp [hy]))
  rw [Hs.szL, List.length_cons, Nat.add_mul]
  omega
theorem Hs.slsz_le {α : Type} (h : Hs α) {xs : List α} {B C : Nat} (hB : ∀ x ∈ xs, h.sz x ≤ B) (hl : xs.length ≤ C) : h.sl.sz xs ≤ C + C * B := by
 have h1 := Hs.szL_le h hB
 have h2 : xs.length * B ≤ C * B := Nat.mul_le_mul_right B hl
 show xs.length + h.szL xs ≤ _
 omega
structure M.fewZ (x : Sess) : Prop where
 sn : x.2.1.length ≤ 30 ∧ ∀ s ∈ x.2.1, s.length ≤ 30
 tn : x.2.2.1.length ≤ 30 ∧ ∀ t ∈ x.2.2.1, t.length ≤ 30
 fn : x.2.2.2.1.length ≤ 30
 en : x.2.2.2.2.1.length ≤ 30
 e1 : ∀ p ∈ x.2.2.2.2.1, p.2.1.length ≤ 30 ∧ ∀ t ∈ p.2.1, t.length ≤ 30
 e2 : ∀ p ∈ x.2.2.2.2.1, p.2.2.1.length ≤ 30 ∧ ∀ y ∈ p.2.2.1, y.2.2.2.length ≤ 30
 e3 : ∀ p ∈ x.2.2.2.2.1, p.2.2.2.length ≤ 30
 mn : x.2.2.2.2.2.length ≤ 8
 mt : M.tiny 10 x.2.2.2.2.2
theorem M.fewZ.sz {x : Sess} (h : M.fewZ x) : hZ.sz x ≤ 100000000 := by
 obtain ⟨a0, x1, x2, x3, x4, x5⟩ := x
 rw [zeg]
 have iS : ∀ xs : List Int, xs.length ≤ 30 → hS.sz xs ≤ 30 := fun xs hl => by
  have := Hs.slsz_le hI (xs := xs) (B := 0) (fun _ _ => Nat.le_refl _) hl
  simpa using this
 have i1 : hSS.sz x1 ≤ 930 := Hs.slsz_le hS (B := 30) (fun s hs => iS s (h.sn.2 s hs)) h.sn.1
 have i2 : hTS.sz x2 ≤ 930 := Hs.slsz_le hT (B := 30) (fun t ht => by
  have := Hs.slsz_le hCl (xs := t) (B := 0) (fun _ _ => Nat.le_refl _) (h.tn.2 t ht)
  simpa using this) h.tn.1
 have i3 : hS.sz x3 ≤ 30 := iS x3 h.fn
 have i4 : hPS.sz x4 ≤ 30 + 30 * 1890 := Hs.slsz_le hP (B := 1890) (fun p hp => by
  have q1 : hSS.sz p.2.1 ≤ 930 := Hs.slsz_le hS (B := 30) (fun s hs => iS s ((h.e1 p hp).2 s hs)) (h.e1 p hp).1
  have q2 : hNS.sz p.2.2.1 ≤ 930 := Hs.slsz_le hN (B := 30) (fun y hy => by
   have := iS y.2.2.2 ((h.e2 p hp).2 y hy)
   show 0 + (0 + (0 + hS.sz y.2.2.2)) ≤ 30
   omega) (h.e2 p hp).1
  have q3 : hS.sz p.2.2.2 ≤ 30 := iS _ (h.e3 p hp)
  show 0 + (hSS.sz p.2.1 + (hNS.sz p.2.2.1 + hS.sz p.2.2.2)) ≤ 1890
  omega) h.en
 have i5 : hM.sz x5 ≤ 100000 := by
  have hf : zik (List.replicate x5.length (List.replicate 10 0)) x5 := ⟨by simp, fun i x L hx hL => by
   have h1 := h.mt x (List.mem_of_getElem? hx)
   have h2 : L = List.replicate 10 0 := by
    have := List.mem_of_getElem? hL
    exact (List.mem_replicate.1 this).2
   rw [h2, List.length_replicate]; omega⟩
  have := zou hf
  have e : ((List.replicate x5.length (List.replicate 10 (0 : UInt8))).map List.length).sum = x5.length * 10 := by simp
  rw [e, List.length_replicate] at this
  have h8 : x5.length ≤ 8 := h.mn
  omega
 omega
theorem M.tiny.up {m k : Nat} {xs : List zad} (h : M.tiny m xs) (hk : m ≤ k) : M.tiny k xs := fun x hx => ⟨(h x hx).1, Nat.le_trans (h x hx).2 hk⟩
theorem M.zD.few {lin : Bool} {x : Sess} (h : M.zD lin x) : M.fewZ x := by
 have key : ∀ p ∈ x.2.2.2.2.1, (p.2.1.length ≤ 2 ∧ ∀ t ∈ p.2.1, t.length ≤ 8) ∧ (p.2.2.1.length ≤ 10 ∧ ∀ y ∈ p.2.2.1, y.2.2.2.length ≤ 3) ∧ p.2.2.2.length ≤ 1 := fun p hp => by
  rcases h.ef p hp with rfl | q
  · exact ⟨⟨by simp, by simp⟩, ⟨by simp, by simp⟩, by simp⟩
  · exact ⟨q.t, ⟨q.n.2, q.f⟩, by rw [q.o]; exact Nat.le_refl _⟩
 have h1 := h.sn
 have h2 := h.tn
 have h3 := h.fn
 have h4 := h.en
 have h5 := h.mn
 refine ⟨⟨by omega, fun s hs => by have := (h.sl s hs).1; omega⟩, ⟨by omega, fun t ht => by have := (h.tk t ht).1; omega⟩, by omega, by omega, fun p hp => ⟨by have := (key p hp).1.1; omega, fun t ht => by have := (key p hp).1.2 t ht; omega⟩, fun p hp => ⟨by have := (key p hp).2.1.1; omega, fun y hy => by have := (key p hp).2.1.2 y hy; omega⟩, fun p hp => by have := (key p hp).2.2; omega, by omega, h.mt.up (by omega)⟩
theorem M.zD.ok {lin : Bool} {x : Sess} (h : M.zD lin x) {ps : List zaf} (hl : ps.length = x.2.2.2.2.2.length) (hp : ∀ p ∈ ps, zaw p = true) : za9 (x.1, x.2.1, x.2.2.1, x.2.2.2.1, ps, x.2.2.2.2.2) = true := by
 have h1 := h.sn
 have h2 := h.tn
 have h0 := h.len
 rw [za9]
 simp only [Bool.and_eq_true, decide_eq_true_eq, List.all_eq_true]
 refine ⟨⟨⟨⟨⟨⟨⟨⟨za2.2 (by omega), ?_⟩, by omega⟩, h.mx⟩, h.fn⟩, fun f hf => za2.2 (by have := h.fd f hf; omega)⟩, hl⟩, fun t ht => ?_⟩, hp⟩
 · rw [zc9, Bool.and_eq_true, decide_eq_true_eq, List.all_eq_true]
   refine ⟨by omega, fun s hs => ?_⟩
   have := h.sl s hs
   rw [M.sig, Bool.and_eq_true, decide_eq_true_eq, List.all_eq_true]
   exact ⟨by omega, this.2⟩
 · have := h.tk t ht
   exact ⟨zli this.2 (by omega), zq2 this.2⟩
theorem M.pD.eff {lin : Bool} {p : zaf} (h : M.pD 1 1 lin p) : zaw p = true := by
 rw [zaw, Bool.or_eq_true, Bool.and_eq_true, Bool.and_eq_true]
 exact .inr ⟨⟨h.ok, decide_eq_true h.i⟩, decide_eq_true h.o⟩
theorem M.zD.sess {lin : Bool} {x : Sess} (h : M.zD lin x) : za9 x = true := h.ok h.en (fun p hp => by
 rcases h.ef p hp with rfl | q
 · simp [zaw, M.p0]
 · exact q.eff)
def zs6 (P : Sess → Prop) (w : World) (e : Ending) (w' : World) : Prop :=
 ∃ i A1 n1 c1 A2 n2 c2 A3 n3 c3 A4 n4 c4 A5 n5 c5 x, e = .returned (.agg #[.int .i64 i, .slice A1 n1 c1, .slice A2 n2 c2, .slice A3 n3 c3, .slice A4 n4 c4, .slice A5 n5 c5]) ∧ tZ.O w' (Iv w.heap.size w'.heap.size) [.int .i64 i, .slice A1 n1 c1, .slice A2 n2 c2, .slice A3 n3 c3, .slice A4 n4 c4, .slice A5 n5 c5] x ∧ Hid (P x) ∧ Below w.heap.size w w'
theorem zs7 (A : Option Addr) (n c : Nat) (code : List UInt8) (w : World) (hr : RS tU8 w w.heap.size (.slice A n c) code) :
 Calls Tryz.prog 6 #[.slice A n c] w (zs6 (M.zD true) w) := by
 obtain ⟨W, hW, B0, z0, q0, q1, q2, q3, q4, q5, qf⟩ := zb2 w (.int .i64 0) (.slice none 0 0) (.slice none 0 0) (.slice none 0 0) (.slice none 0 0) (.slice none 0 0) 32
 have HW := Lib.hid hW
 clear hW
 have hr0 := hr.later B0
 go_enter Tryz.func6, Tryz.ntmps6
 go_wp2_with fail
 rw [← HW.out]
 refine (zkb A n c code W hr0).mono ?_
 rintro e w1 ⟨b, rfl, hb, s1, b1, z1⟩
 have hbl : w.heap.size + 1 ≤ b := by omega
 have lt1 : b + 1 ≤ w1.heap.size := by omega
 have hb' := Lib.hid hb
 clear z1 hb
 go_wp2_with fail
 refine (zll _ _ A n c code 0 true w1 s1 (by omega)).mono ?_
 rintro e w2 ⟨i, A1, n1, c1, A2, n2, c2, A3, n3, c3, A4, n4, c4, A5, n5, c5, x, rfl, o2, hP, s2, m2⟩
 have lt2 := m2.size
 have ck : ∀ j u, W.cell? ⟨w.heap.size, j, none⟩ = some u → w2.cell? ⟨w.heap.size, j, none⟩ = some u := fun j u hu => m2.cellK (by omega) (.inl (by omega)) (by rw [b1.cell (by show w.heap.size < _; omega)]; exact hu)
 have fk : ∀ j, w2.frozen? ⟨w.heap.size, j, none⟩ = false := fun j => m2.frozK (by omega) (.inl (by omega)) (by rw [b1.frozen (by show w.heap.size < _; omega)]; exact qf j)
 have r0 := ck 0 _ q0
 have r1 := ck 1 _ q1
 have r2 := ck 2 _ q2
 have r3 := ck 3 _ q3
 have r4 := ck 4 _ q4
 have r5 := ck 5 _ q5
 have v0 := fk 0
 have v1 := fk 1
 have v2 := fk 2
 have v3 := fk 3
 have v4 := fk 4
 have v5 := fk 5
 obtain ⟨U_, hU_, y0, y1, y2, y3, y4, y5, yf, ych, ysz⟩ := box6 r0 r1 r2 r3 r4 r5 fk (.int .i64 i) (.slice A1 n1 c1) (.slice A2 n2 c2) (.slice A3 n3 c3) (.slice A4 n4 c4) (.slice A5 n5 c5)
 have HU_ := Lib.hid hU_
 clear hU_ ck fk q0 q1 q2 q3 q4 q5 qf
 go_wp2
 rw [← HU_.out]
 have yf0 := yf 0
 have yf1 := yf 1
 have yf2 := yf 2
 have yf3 := yf 3
 have yf4 := yf 4
 have yf5 := yf 5
 refine bodyPost_ret (v := .agg #[.int .i64 i, .slice A1 n1 c1, .slice A2 n2 c2, .slice A3 n3 c3, .slice A4 n4 c4, .slice A5 n5 c5]) (by simp [results, Tryz.results6, go_sem, y0, y1, y2, y3, y4, y5, yf0, yf1, yf2, yf3, yf4, yf5]) rfl ?_
 have hb1 := hb'.out
 have o3 := tZ.ochg o2 ych (fun z h1 h2 => by have a1 : w1.heap.size ≤ z := h1.1; have a2 : z = w.heap.size := h2; omega)
 have B2 : Below w.heap.size w w2 := (B0.trans (b1.mono (by omega))).trans ((m2.toBelow (by omega)).mono (by omega))
 exact ⟨i, A1, n1, c1, A2, n2, c2, A3, n3, c3, A4, n4, c4, A5, n5, c5, x, rfl, tZ.oiv o3 (by omega) (by omega), hP, B2.trans (ych.toBelow (fun z (h : z = w.heap.size) => by omega) (by omega))⟩
end
section
open Go.RowKit
section
variable {xs : List zad} (ok : zas xs = true)
include ok
end
end
section
open Go.RowKit Go.Sort
set_option maxHeartbeats 40000000
section
variable {w wr w' x4 U : World} {b lo : Nat} {A : Option Addr} {n c : Nat} {code : List UInt8} {g K K' M B : Nat} {i : Int} {v1 v2 v3 v4 v5 : Value} {x1 : List (List Int)} {x2 : List (List zah)} {x3 : List Int} {p4 : List zaf} {x5 : List zad}
theorem DS.of {A1 A2 A3 A4 A5 : Option Addr} {n1 c1 n2 c2 n3 c3 n4 c4 n5 c5 : Nat} {x : Sess} (hb : b < w.heap.size) (m : Mid b (b + 1) w x4) (s : Src x4 b lo A n c code K) (hB : w.heap.size < B) (hB4 : B ≤ x4.heap.size)
 (e : ∀ j, j < 6 → x4.cell? ⟨w.heap.size, j, none⟩ = some (if j = 0 then .int .i64 0 else .slice none 0 0) ∧ x4.frozen? ⟨w.heap.size, j, none⟩ = false)
 (zo : tZ.O x4 (Iv B x4.heap.size) [.int .i64 i, .slice A1 n1 c1, .slice A2 n2 c2, .slice A3 n3 c3, .slice A4 n4 c4, .slice A5 n5 c5] x) (hU : U = x4.alloc (.cells #[.int .i64 i, .slice A1 n1 c1, .slice A2 n2 c2, .slice A3 n3 c3, .slice A4 n4 c4, .slice A5 n5 c5] 32)) :
 DS w b lo A n c code x4.heap.size K U.heap.size i (.slice A1 n1 c1) (.slice A2 n2 c2) (.slice A3 n3 c3) (.slice A4 n4 c4) (.slice A5 n5 c5) x.2.1 x.2.2.1 x.2.2.2.1 x.2.2.2.2.1 x.2.2.2.2.2 U ∧ x.1 = i := by
 obtain ⟨a0, src, ts, fs, ps, ms⟩ := x
 obtain ⟨_, _, _, _, _, _, _, _, _, _, _, _, _, _, _, F1, F2, F3, F4, F5, hcs, g1, g2, g3, g4, g5, q1, q2, q3, q4, q5, r12, r13, r14, r15, r23, r24, r25, r34, r35, r45⟩ := tZ_O.1 zo
 simp only [List.cons.injEq, Value.int.injEq, Value.slice.injEq, and_true, true_and] at hcs
 obtain ⟨rfl, ⟨rfl, rfl, rfl⟩, ⟨rfl, rfl, rfl⟩, ⟨rfl, rfl, rfl⟩, ⟨rfl, rfl, rfl⟩, ⟨rfl, rfl, rfl⟩⟩ := hcs
 have BU : Below x4.heap.size x4 U := by rw [hU]; exact (Below.refl _ _).alloc (Nat.le_refl _) _
 have zU : x4.heap.size < U.heap.size := by rw [hU]; simp
 have eP : ∀ j u, (#[Value.int .i64 i, .slice A1 n1 c1, .slice A2 n2 c2, .slice A3 n3 c3, .slice A4 n4 c4, .slice A5 n5 c5] : Array Value)[j]? = some u → U.cell? ⟨x4.heap.size, j, none⟩ = some u := fun j u hj => by
  rw [hU, cell_of_row _ x4.heap.size j _ 32 (0, 0) (heap_alloc_new x4 _)]
  exact hj
 have hq : ∀ j, j < 6 → U.frozen? ⟨x4.heap.size, j, none⟩ = false := fun j _ => by rw [hU]; simp [go_sem]
 have f : ∀ {F : Nat → Prop}, (∀ z, F z → Iv B x4.heap.size z) → ∀ z, F z → w.heap.size < z ∧ z ≠ x4.heap.size := fun hF z hz => by
  have h1 := hF z hz
  have a1 : B ≤ z := h1.1
  have a2 : z < x4.heap.size := h1.2
  omega
 have CU : Chg (fun _ => False) x4 U := Chg.of_below BU _
 refine ⟨⟨F1, F2, F3, F4, F5, ⟨fun j hj => ?_, eP 0 _ rfl, eP 1 _ rfl, eP 2 _ rfl, eP 3 _ rfl, eP 4 _ rfl, eP 5 _ rfl, hq, (sl_O.1 g1).chg CU (fun _ _ h => h), (sl_O.1 g2).chg CU (fun _ _ h => h), (sl_O.1 g3).chg CU (fun _ _ h => h), (sl_O.1 g4).chg CU (fun _ _ h => h), (sl_O.1 g5).chg CU (fun _ _ h => h), ⟨f q1, f q2, f q3, f q4, f q5, r12, r13, r14, r15, r23, r24, r25, r34, r35, r45⟩, s.below BU s.lt, m.thenB' BU m.size, zU, by omega⟩, fun z hz => ?_, Nat.le_refl _, zU⟩, rfl⟩
 · obtain ⟨h1, h2⟩ := e j hj
   exact ⟨by rw [BU.cell (by show w.heap.size < _; omega)]; exact h1, by rw [BU.frozen (by show w.heap.size < _; omega)]; exact h2⟩
 · rcases hz with hz | hz | hz | hz | hz
   · have a2 : z < x4.heap.size := (q1 z hz).2; omega
   · have a2 : z < x4.heap.size := (q2 z hz).2; omega
   · have a2 : z < x4.heap.size := (q3 z hz).2; omega
   · have a2 : z < x4.heap.size := (q4 z hz).2; omega
   · have a2 : z < x4.heap.size := (q5 z hz).2; omega
theorem DS.set0 (h : DS w b lo A n c code g K M i v1 v2 v3 v4 v5 x1 x2 x3 p4 x5 wr) (hb : b < w.heap.size) (y : Int) : DS w b lo A n c code g K M y v1 v2 v3 v4 v5 x1 x2 x3 p4 x5 (wr.setCell ⟨g, 0, none⟩ (.int .i64 y)) := by
 obtain ⟨F1, F2, F3, F4, F5, h, hB, hM, hg⟩ := h
 have hl := h.lo
 have hz := h.sz
 have CB : Chg (fun z => z = g) wr (wr.setCell ⟨g, 0, none⟩ (.int .i64 y)) := Chg.set wr g 0 _ rfl
 have MB : Below w.heap.size wr (wr.setCell ⟨g, 0, none⟩ (.int .i64 y)) := CB.toBelow (fun z h => by omega) (by omega)
 refine ⟨F1, F2, F3, F4, F5, ⟨fun j hj => ⟨?_, (World.frozen?_setCell _ _ _ _).trans (h.e j hj).2⟩, World.cell?_setCell_same _ _ _ h.p0, (zae wr g _ (by decide)).trans h.p1, (zae wr g _ (by decide)).trans h.p2, (zae wr g _ (by decide)).trans h.p3, (zae wr g _ (by decide)).trans h.p4, (zae wr g _ (by decide)).trans h.p5, fun j hj => (World.frozen?_setCell _ _ _ _).trans (h.q j hj),
  h.r1.chg CB (fun z a b => (h.fd.o1 z a).2 b), h.r2.chg CB (fun z a b => (h.fd.o2 z a).2 b), h.r3.chg CB (fun z a b => (h.fd.o3 z a).2 b), h.r4.chg CB (fun z a b => (h.fd.o4 z a).2 b), h.r5.chg CB (fun z a b => (h.fd.o5 z a).2 b), h.fd, h.src.below MB hb, h.mid.thenB' MB (Nat.le_refl _), by simpa using hz, hl⟩, hB, by simpa using hM, hg⟩
 rw [World.cell?_of_block (heap_setCell_other wr ⟨g, 0, none⟩ w.heap.size _ (by show w.heap.size ≠ g; omega))]; exact (h.e j hj).1
theorem DS.in1 (h : DS w b lo A n c code g K M i v1 v2 v3 v4 v5 x1 x2 x3 p4 x5 wr) (hb : b < w.heap.size) : ∃ F : Nat → Prop, OS tS 26 wr F v1 x1 ∧ (∀ z, F z → w.heap.size < z ∧ z ≠ g ∧ z < M) ∧ ∀ (w4 : World) (F' : Nat → Prop) (x' : List (List Int)), Chg F wr w4 → OS tS 26 w4 F' v1 x' → (∀ z, F' z → F z ∨ M ≤ z) → DS w b lo A n c code g K w4.heap.size i v1 v2 v3 v4 v5 x' x2 x3 p4 x5 w4 := by
 obtain ⟨F1, F2, F3, F4, F5, h, hB, hM, hg⟩ := h
 refine ⟨F1, h.r1, fun z hz => ⟨(h.fd.o1 z hz).1, (h.fd.o1 z hz).2, hB z (by simp [hz])⟩, fun w4 F' x' hc r' hF => ?_⟩
 have hl := h.lo
 have hs := hc.size
 obtain ⟨h1, h2, h3, h4, h5, h6⟩ := h.turn hb h.fd.o1 hc
 have fd : FZ w.heap.size g (fun z => F' z ∧ z < w4.heap.size) F2 F3 F4 F5 := ⟨fun z a => by rcases hF z a.1 with a | a; exact h.fd.o1 z a; omega, h.fd.o2, h.fd.o3, h.fd.o4, h.fd.o5, fun z a b => by rcases hF z a.1 with a | a; exact h.fd.a12 z a b; have := hB z (by simp [b]); omega, fun z a b => by rcases hF z a.1 with a | a; exact h.fd.a13 z a b; have := hB z (by simp [b]); omega, fun z a b => by rcases hF z a.1 with a | a; exact h.fd.a14 z a b; have := hB z (by simp [b]); omega, fun z a b => by rcases hF z a.1 with a | a; exact h.fd.a15 z a b; have := hB z (by simp [b]); omega, h.fd.a23, h.fd.a24, h.fd.a25, h.fd.a34, h.fd.a35, h.fd.a45⟩
 refine ⟨_, F2, F3, F4, F5, ⟨h1, h2 _ _ h.p0, h2 _ _ h.p1, h2 _ _ h.p2, h2 _ _ h.p3, h2 _ _ h.p4, h2 _ _ h.p5, h3, r'.real, h.r2.chg hc (fun z a b => h.fd.a12 z b a), h.r3.chg hc (fun z a b => h.fd.a13 z b a), h.r4.chg hc (fun z a b => h.fd.a14 z b a), h.r5.chg hc (fun z a b => h.fd.a15 z b a), fd, h4, h5, h6, h.lo⟩, fun z hz => ?_, Nat.le_refl _, by omega⟩
 rcases hz with hz | hz | hz | hz | hz
 · exact hz.2
 · have := hB z (by simp [hz]); omega
 · have := hB z (by simp [hz]); omega
 · have := hB z (by simp [hz]); omega
 · have := hB z (by simp [hz]); omega
theorem DS.in4 (h : DS w b lo A n c code g K M i v1 v2 v3 v4 v5 x1 x2 x3 p4 x5 wr) (hb : b < w.heap.size) : ∃ F : Nat → Prop, OS tP 36 wr F v4 p4 ∧ (∀ z, F z → w.heap.size < z ∧ z ≠ g ∧ z < M) ∧ ∀ (w4 : World) (F' : Nat → Prop) (x' : List zaf), Chg F wr w4 → OS tP 36 w4 F' v4 x' → (∀ z, F' z → F z ∨ M ≤ z) → DS w b lo A n c code g K w4.heap.size i v1 v2 v3 v4 v5 x1 x2 x3 x' x5 w4 := by
 obtain ⟨F1, F2, F3, F4, F5, h, hB, hM, hg⟩ := h
 refine ⟨F4, h.r4, fun z hz => ⟨(h.fd.o4 z hz).1, (h.fd.o4 z hz).2, hB z (by simp [hz])⟩, fun w4 F' x' hc r' hF => ?_⟩
 have hl := h.lo
 have hs := hc.size
 obtain ⟨h1, h2, h3, h4, h5, h6⟩ := h.turn hb h.fd.o4 hc
 have fd : FZ w.heap.size g F1 F2 F3 (fun z => F' z ∧ z < w4.heap.size) F5 := ⟨h.fd.o1, h.fd.o2, h.fd.o3, fun z a => by rcases hF z a.1 with a | a; exact h.fd.o4 z a; omega, h.fd.o5, h.fd.a12, h.fd.a13, fun z a b => by rcases hF z b.1 with b | b; exact h.fd.a14 z a b; have := hB z (by simp [a]); omega, h.fd.a15, h.fd.a23, fun z a b => by rcases hF z b.1 with b | b; exact h.fd.a24 z a b; have := hB z (by simp [a]); omega, h.fd.a25, fun z a b => by rcases hF z b.1 with b | b; exact h.fd.a34 z a b; have := hB z (by simp [a]); omega, h.fd.a35, fun z a b => by rcases hF z a.1 with a | a; exact h.fd.a45 z a b; have := hB z (by simp [b]); omega⟩
 refine ⟨F1, F2, F3, _, F5, ⟨h1, h2 _ _ h.p0, h2 _ _ h.p1, h2 _ _ h.p2, h2 _ _ h.p3, h2 _ _ h.p4, h2 _ _ h.p5, h3, h.r1.chg hc (fun z a b => h.fd.a14 z a b), h.r2.chg hc (fun z a b => h.fd.a24 z a b), h.r3.chg hc (fun z a b => h.fd.a34 z a b), r'.real, h.r5.chg hc (fun z a b => h.fd.a45 z b a), fd, h4, h5, h6, h.lo⟩, fun z hz => ?_, Nat.le_refl _, by omega⟩
 rcases hz with hz | hz | hz | hz | hz
 · have := hB z (by simp [hz]); omega
 · have := hB z (by simp [hz]); omega
 · have := hB z (by simp [hz]); omega
 · exact hz.2
 · have := hB z (by simp [hz]); omega
end
def zmf (b : Nat) (w : World) (e : Ending) (w' : World) : Prop :=
 ∃ i A1 n1 c1 A2 n2 c2 A3 n3 c3 A4 n4 c4 A5 n5 c5 x, e = .returned (.agg #[.int .i64 i, .slice A1 n1 c1, .slice A2 n2 c2, .slice A3 n3 c3, .slice A4 n4 c4, .slice A5 n5 c5]) ∧ (∀ w2, Chg (fun z => z < w.heap.size) w' w2 → tZ.R w2 w2.heap.size [.int .i64 i, .slice A1 n1 c1, .slice A2 n2 c2, .slice A3 n3 c3, .slice A4 n4 c4, .slice A5 n5 c5] x) ∧ Hid (M.fewZ x) ∧ Mid b (b + 1) w w'
theorem DrewZ.toR {b lo : Nat} {A : Option Addr} {n c : Nat} {code : List UInt8} {K : Nat} {w w' : World} {e : Ending} (h : DrewZ b lo A n c code K M.fewZ w e w') : zmf b w e w' := by
 obtain ⟨i, A1, n1, c1, A2, n2, c2, A3, n3, c3, A4, n4, c4, A5, n5, c5, x, h1, h2, h3, h4, h5⟩ := h
 exact ⟨i, A1, n1, c1, A2, n2, c2, A3, n3, c3, A4, n4, c4, A5, n5, c5, x, h1, fun w2 hc => tZ.read (tZ.ochg h2 hc (fun z a b => by have a1 : w.heap.size ≤ z := a.1; omega)), h3, h5⟩
end
section
open Go.RowKit Go.Sort
section
variable {α : Type} {t : Ty α} {e : TypeId} {w w' : World} {F F' : Nat → Prop} {B B' : Nat} {v : Value} {xs : List α} {css : List (List Value)} {Fs : Nat → Nat → Prop} {k : Nat}
theorem RS.tail {A : Option Addr} {n c : Nat} (h : RS t w B (.slice A n c) xs) (hn : 1 ≤ n) : RS t w B (.slice (if c = 1 then A else A.map (·.add (1 * t.s))) (n - 1) (c - 1)) (xs.drop 1) := by
 obtain ⟨A', c', css, hv, h1, h2, h3, h4, h5⟩ := h
 simp only [Value.slice.injEq] at hv
 obtain ⟨rfl, rfl, rfl⟩ := hv
 refine ⟨_, _, css.drop 1, by rw [List.length_drop], by rw [List.length_drop]; omega, by omega, by simp [h3], ?_, fun k h h' => ?_⟩
 · have := h4.cut (k := 1) (cap := c) hn h1
   have e : css.flatten.drop (1 * t.s) = (css.drop 1).flatten := by
    cases css with
    | nil => simp
    | cons x l =>
     have hx : x.length = t.s := t.rlen (h5 0 (by omega) (by simp))
     rw [Nat.one_mul, List.flatten_cons, List.drop_append_of_le_length (by omega), ← hx, List.drop_length]
     simp
   rw [e] at this
   rw [List.length_drop]
   exact this
 · rw [List.length_drop] at h h'
   have := h5 (k + 1) (by omega) (by omega)
   simpa [List.getElem_drop] using this
end
theorem DS.reads {w wr w' : World} {b lo : Nat} {A : Option Addr} {n c : Nat} {code : List UInt8} {g K M : Nat} {i : Int} {v1 v2 v3 v4 v5 : Value} {x1 : List (List Int)} {x2 : List (List zah)} {x3 : List Int} {p4 : List zaf} {x5 : List zad}
 (h : DS w b lo A n c code g K M i v1 v2 v3 v4 v5 x1 x2 x3 p4 x5 wr) (hc : Chg (fun z => z ≤ w.heap.size ∨ z = g) wr w') : RS tS w' w'.heap.size v1 x1 ∧ RS tT w' w'.heap.size v2 x2 ∧ RS tI w' w'.heap.size v3 x3 ∧ RS tP w' w'.heap.size v4 p4 ∧ RS tSt w' w'.heap.size v5 x5 := by
 obtain ⟨F1, F2, F3, F4, F5, h, hB, hM, hg⟩ := h
 have f : ∀ {F : Nat → Prop}, (∀ z, F z → w.heap.size < z ∧ z ≠ g) → ∀ z, F z → ¬ (z ≤ w.heap.size ∨ z = g) := fun hF z hz e => by
  have := hF z hz
  rcases e with e | e
  · omega
  · exact this.2 e
 exact ⟨(h.r1.chg hc (f h.fd.o1)).read, (h.r2.chg hc (f h.fd.o2)).read, (h.r3.chg hc (f h.fd.o3)).read, (h.r4.chg hc (f h.fd.o4)).read, (h.r5.chg hc (f h.fd.o5)).read⟩
end
section
open Go.RowKit Go.Sort
structure BE (w : World) (b lo : Nat) (A : Option Addr) (n c : Nat) (code : List UInt8) (X K : Nat) (v : Value) (Y : World) : Prop where
 q0 : Y.cell? ⟨w.heap.size, 0, none⟩ = some (.slice none 0 0)
 f0 : Y.frozen? ⟨w.heap.size, 0, none⟩ = false
 qX : Y.cell? ⟨X, 0, none⟩ = some v
 fX : Y.frozen? ⟨X, 0, none⟩ = false
 src : Src Y b lo A n c code K
 mid : Mid b (b + 1) w Y
 sz : X < Y.heap.size
 lo : w.heap.size < X
theorem BE.step {w Y Y' : World} {b lo : Nat} {A : Option Addr} {n c : Nat} {code : List UInt8} {X K K' : Nat} {v : Value} (h : BE w b lo A n c code X K v Y) (hb : b < w.heap.size) (hs : Src Y' b lo A n c code K') (hm : Mid b (b + 1) Y Y') : BE w b lo A n c code X K' v Y' := by
 have hz := h.sz
 have hl := h.lo
 exact ⟨hm.cellK (by omega) (.inr (by omega)) h.q0, hm.frozK (by omega) (.inr (by omega)) h.f0, hm.cellK (by omega) (.inr (by omega)) h.qX, hm.frozK (by omega) (.inr (by omega)) h.fX, hs, h.mid.trans hm, Nat.lt_of_lt_of_le hz hm.size, hl⟩
theorem BE.chg {w Y Y' : World} {b lo : Nat} {A : Option Addr} {n c : Nat} {code : List UInt8} {X K : Nat} {v : Value} (h : BE w b lo A n c code X K v Y) (hb : b < w.heap.size) {G : Nat → Prop} (hG : ∀ z, G z → w.heap.size < z ∧ z ≠ X) (hc : Chg G Y Y') : BE w b lo A n c code X K v Y' := by
 have hz := h.sz
 have hl := h.lo
 have n0 : ¬ G w.heap.size := fun hg => by have := hG _ hg; omega
 have nX : ¬ G X := fun hg => (hG _ hg).2 rfl
 have MB : Below (w.heap.size + 1) Y Y' := hc.toBelow (fun z h => by have := hG z h; omega) (by omega)
 exact ⟨(hc.cell1 (show w.heap.size < _ by omega) n0).trans h.q0, (hc.frozen1 (show w.heap.size < _ by omega) n0).trans h.f0, (hc.cell1 hz nX).trans h.qX, (hc.frozen1 hz nX).trans h.fX, h.src.below MB (by omega), ⟨MB.os.trans h.mid.os, MB.tape.trans h.mid.tape, MB.output.trans h.mid.output, Nat.le_trans h.mid.size MB.size, fun i hi' hm => (MB.block i (by omega)).trans (h.mid.block i hi' hm)⟩, Nat.lt_of_lt_of_le hz MB.size, hl⟩
def zmg (b : Nat) (w : World) (e : Ending) (w' : World) : Prop :=
 ∃ A1 c1 ms, e = .returned (.agg #[.slice A1 (List.length ms) c1]) ∧ OS tSt 100 w' (fun z => w.heap.size < z) (.slice A1 ms.length c1) ms ∧ ms.length ≤ 6 ∧ Hid (M.tiny 5 ms) ∧ Mid b (b + 1) w w'
theorem BE.fin {w Y : World} {b lo : Nat} {A : Option Addr} {n c : Nat} {code : List UInt8} {X K : Nat} {v : Value} {A1 : Option Addr} {m c1 : Nat} {ms : List zad} {F : Nat → Prop} (h : BE w b lo A n c code X K v Y)
 (own : OS tSt 100 Y F (.slice A1 m c1) ms) (hF : ∀ z, F z → w.heap.size < z) (hl : m ≤ 6) (ht : M.tiny 5 ms) (hm : ms.length = m) :
 zmg b w (.returned (.agg #[.slice A1 m c1])) (Y.setCell ⟨w.heap.size, 0, none⟩ (.slice A1 m c1)) := by
 subst hm
 have CB : Chg (fun b => b = w.heap.size) Y (Y.setCell ⟨w.heap.size, 0, none⟩ (.slice A1 ms.length c1)) := Chg.set Y w.heap.size 0 _ rfl
 exact ⟨A1, c1, ms, rfl, (own.chg CB (fun z h1 (h2 : z = w.heap.size) => by have := hF z h1; omega)).wide hF, hl, Lib.hid ht, h.mid.thenB' ((Below.refl w.heap.size _).setCell (Nat.le_refl _) _) (Nat.le_refl _)⟩
section
variable {Y : World} {F : Nat → Prop} {g m c k : Nat} {ms : List zad} {s0 : ByteArray} {l0 : Int} {us : List (Int × Int)}
theorem zs8 (own : OS tSt 100 Y F (.slice (some ⟨g, 0, none⟩) m c) ms) (hx : ms[k]? = some (s0, l0, us)) (s : ByteArray) (hs : s.size ≤ maxLen) :
 OS tSt 100 (Y.setCell ⟨g, k * 3, none⟩ (.string s)) F (.slice (some ⟨g, 0, none⟩) m c) (ms.set k (s, l0, us)) := by
 obtain ⟨css, Fs, hole, cs, hcs, hE⟩ := own.openAt hx
 obtain ⟨A0, n0, c0, rfl, -, hE⟩ := st_O.1 hE
 obtain ⟨g', e, hFg, hFn, -, -⟩ := hole.form (List.getElem?_eq_some_iff.1 hx).1
 injection e with e; injection e with e _ _
 have h1 := hole.set hcs 0 (by decide) (.string s)
 exact h1.1.fill h1.2 (y := (s, l0, us)) (st_O.2 ⟨A0, n0, c0, rfl, hs, tSdS.okeep (fun b hb => heap_setCell_other Y ⟨g, k * 3, none⟩ b _ (fun e2 => hFn (by simp only at e2; rw [← e, ← e2]; exact hb))) hE⟩)
theorem zs9 (own : OS tSt 100 Y F (.slice (some ⟨g, 0, none⟩) m c) ms) (hx : ms[k]? = some (s0, l0, us)) (l : Int) :
 OS tSt 100 (Y.setCell ⟨g, k * 3 + 1, none⟩ (.int .i64 l)) F (.slice (some ⟨g, 0, none⟩) m c) (ms.set k (s0, l, us)) := by
 obtain ⟨css, Fs, hole, cs, hcs, hE⟩ := own.openAt hx
 obtain ⟨A0, n0, c0, rfl, hs, hE⟩ := st_O.1 hE
 obtain ⟨g', e, hFg, hFn, -, -⟩ := hole.form (List.getElem?_eq_some_iff.1 hx).1
 injection e with e; injection e with e _ _
 have h1 := hole.set hcs 1 (by decide) (.int .i64 l)
 exact h1.1.fill h1.2 (y := (s0, l, us)) (st_O.2 ⟨A0, n0, c0, rfl, hs, tSdS.okeep (fun b hb => heap_setCell_other Y ⟨g, k * 3 + 1, none⟩ b _ (fun e2 => hFn (by simp only at e2; rw [← e, ← e2]; exact hb))) hE⟩)
theorem zta (own : OS tSt 100 Y F (.slice (some ⟨g, 0, none⟩) m c) ms) (hx : ms[k]? = some (s0, l0, us)) :
 OS tSt 100 (Y.setCell ⟨g, k * 3 + 2, none⟩ (.slice none 0 0)) F (.slice (some ⟨g, 0, none⟩) m c) (ms.set k (s0, l0, [])) := by
 obtain ⟨css, Fs, hole, cs, hcs, hE⟩ := own.openAt hx
 obtain ⟨A0, n0, c0, rfl, hs, hE⟩ := st_O.1 hE
 have h1 := hole.set hcs 2 (by decide) (.slice none 0 0)
 exact h1.1.fill h1.2 (y := (s0, l0, [])) (st_O.2 ⟨none, 0, 0, rfl, hs, sl_O.2 (OS.nil _ _ _ _)⟩)
theorem zhx {A : Option Addr} (own : OS tSt 100 Y F (.slice A m c) ms) (hx : ms[k]? = some (s0, l0, us)) :
 ∃ g A0 c0, A = some ⟨g, 0, none⟩ ∧ F g ∧ g < Y.heap.size ∧ (Y.cell? ⟨g, k * 3, none⟩ = some (.string s0) ∧ Y.frozen? ⟨g, k * 3, none⟩ = false) ∧ (Y.cell? ⟨g, k * 3 + 1, none⟩ = some (.int .i64 l0) ∧ Y.frozen? ⟨g, k * 3 + 1, none⟩ = false) ∧ (Y.cell? ⟨g, k * 3 + 2, none⟩ = some (.slice A0 us.length c0) ∧ Y.frozen? ⟨g, k * 3 + 2, none⟩ = false) ∧
  ∃ css Fs, OH tSt 100 Y F (.slice A m c) ms css Fs k ∧ css[k]? = some [.string s0, .int .i64 l0, .slice A0 us.length c0] ∧ OS tSd 68 Y (Fs k) (.slice A0 us.length c0) us ∧ ¬ Fs k g ∧ s0.size ≤ maxLen := by
 obtain ⟨css, Fs, hole, cs, hcs, hE⟩ := own.openAt hx
 obtain ⟨A0, n0, c0, rfl, hs, hE⟩ := st_O.1 hE
 have ow := sl_O.1 hE
 obtain rfl : us.length = n0 := ow.read.cap.1
 obtain ⟨g, rfl, hFg, hFn, hgw, -⟩ := hole.form (List.getElem?_eq_some_iff.1 hx).1
 exact ⟨g, A0, c0, rfl, hFg, hgw, hole.cell hcs (j := 0) rfl, hole.cell hcs (j := 1) rfl, hole.cell hcs (j := 2) rfl, css, Fs, hole, hcs, ow, hFn, hs⟩
end
theorem ztb (b lo : Nat) (A : Option Addr) (n c : Nat) (code : List UInt8) (K : Nat) (w : World) (h : Src w b lo A n c code K) (hK : K ≤ 1000000000) :
 Calls Tryz.prog 39 #[.pointer (some ⟨b, 0, none⟩), .slice (some ⟨w.heap.size, 0, none⟩) 3 3] (w.alloc (.cells #[.int .i64 (-1), .int .i64 32, .int .i64 33] 2)) (Drew b lo A n c code (K + 2) (fun v => True) w) := by
 have hB : Below w.heap.size w (w.alloc (.cells #[.int .i64 (-1), .int .i64 32, .int .i64 33] 2)) := (Below.refl _ _).alloc (Nat.le_refl _) _
 have hb := h.lt
 refine (ze8 b lo A n c code K w.heap.size 3 3 [-1, 32, 33] _ (h.below hB hb) (by omega) rfl (by omega) (by omega) (by simp) ?_).mono ?_
 · intro j x hx
   rw [cell_of_row _ w.heap.size j _ 2 (0, 0) (heap_alloc_new w _)]
   match j, hx with
   | 0, hx => simp at hx; subst hx; rfl
   | 1, hx => simp at hx; subst hx; rfl
   | 2, hx => simp at hx; subst hx; rfl
   | j + 3, hx => simp at hx
 · rintro e w2 ⟨x, rfl, -, s3, m3⟩
   exact ⟨x, rfl, trivial, s3, (Mid.of_below hB _ _).trans m3⟩
theorem ztc (b lo : Nat) (A : Option Addr) (n c : Nat) (code : List UInt8) (K : Nat) (w : World) (h : Src w b lo A n c code K) (hK : K ≤ 1000000000) :
 Calls Tryz.prog 95 #[.pointer (some ⟨b, 0, none⟩), .slice (some ⟨w.heap.size, 0, none⟩) 4 4] (w.alloc (.cells #[.string ⟨#[]⟩, .string ⟨#[100, 114, 117, 109, 115]⟩, .string ⟨#[77, 97, 115, 116, 101, 114]⟩, .string ⟨#[97]⟩] 9)) fun e w' => ∃ s : ByteArray, e = .returned (.string s) ∧ s.size ≤ 6 ∧ Src w' b lo A n c code (K + 2) ∧ Mid b (b + 1) w w' := by
 have hB : Below w.heap.size w (w.alloc (.cells #[.string ⟨#[]⟩, .string ⟨#[100, 114, 117, 109, 115]⟩, .string ⟨#[77, 97, 115, 116, 101, 114]⟩, .string ⟨#[97]⟩] 9)) := (Below.refl _ _).alloc (Nat.le_refl _) _
 have hb := h.lt
 refine (zov b lo A n c code K w.heap.size 4 4 _ (h.below hB hb) (by omega) (by omega) (by omega) (by simp) (zo3 w _ _ 4 ?_)).mono ?_
 · intro j hj
   match j, hj with
   | 0, _ => exact ⟨_, by decide, rfl⟩
   | 1, _ => exact ⟨_, by decide, rfl⟩
   | 2, _ => exact ⟨_, by decide, rfl⟩
   | 3, _ => exact ⟨_, by decide, rfl⟩
   | j + 4, hj => omega
 · rintro e w2 ⟨x, rfl, h1, s3, m3⟩
   exact ⟨x, rfl, h1, s3, (Mid.of_below hB _ _).trans m3⟩
end
section
open Go.RowKit Go.Sort
theorem OS.made00 {α : Type} (t : Ty α) (e : TypeId) (w : World) : OS t e (w.alloc (.cells #[] e)) (Iv w.heap.size (w.alloc (.cells #[] e)).heap.size) (.slice (some ⟨w.heap.size, 0, none⟩) 0 0) [] :=
 ⟨[], fun _ _ => False, World.ownsRow_made _ _ _ (Nat.zero_le _) (by simp [maxLen]) (by simp), rfl, fun g hg => by simp only [Value.ownBlock, Option.some.injEq] at hg; subst hg; exact ⟨Nat.le_refl _, by simp⟩, fun _ _ h => h.elim, fun _ _ _ _ h => h.elim, fun k h => by simp at h⟩
theorem ztd (b lo : Nat) (A : Option Addr) (n c : Nat) (code : List UInt8) (K : Nat) (w : World) (h : Src w b lo A n c code K) (hK : K ≤ 100000) :
 Calls Tryz.prog 64 #[.pointer (some ⟨b, 0, none⟩)] w (zmg b w) := by
 have hbw := h.lt
 obtain ⟨U0, hU0⟩ : ∃ W, W = w.alloc (.cells #[.slice none 0 0] 30) := ⟨_, rfl⟩
 have B0 : Below w.heap.size w U0 := by rw [hU0]; exact (Below.refl _ _).alloc (Nat.le_refl _) _
 have z0 : U0.heap.size = w.heap.size + 1 := by rw [hU0]; simp
 have c0 : U0.cell? ⟨w.heap.size, 0, none⟩ = some (.slice none 0 0) := by rw [hU0]; simp [go_sem]
 have f0 : U0.frozen? ⟨w.heap.size, 0, none⟩ = false := by rw [hU0]; simp [go_sem]
 have s0 := h.below B0 hbw
 have HU0 := Lib.hid hU0
 have lU : U0.heap.size ≤ w.heap.size + 1 ∧ w.heap.size + 1 ≤ U0.heap.size := by omega
 clear hU0 z0
 go_enter Tryz.func64, Tryz.ntmps64
 go_wp2_with fail
 rw [← HU0.out]
 refine (zlk b lo A n c code K U0 s0 (by omega)).mono ?_
 rintro e w1 ⟨A1, c1, ms, rfl, own1, hl6, hl1, tiny, -, s1, m1⟩
 have t1 := m1.size
 obtain ⟨W2, hW2⟩ : ∃ W, W = w1.alloc (.cells #[.slice A1 ms.length c1] 30) := ⟨_, rfl⟩
 have B2 : Below w1.heap.size w1 W2 := by rw [hW2]; exact (Below.refl _ _).alloc (Nat.le_refl _) _
 have E0 : BE w b lo A n c code w1.heap.size (K + 200) (.slice A1 ms.length c1) W2 := by
  have M2 : Mid b (b + 1) U0 W2 := m1.thenB' B2 m1.size
  exact ⟨M2.cellK (by omega) (.inr (by omega)) c0, M2.frozK (by omega) (.inr (by omega)) f0, by rw [hW2]; simp [go_sem], by rw [hW2]; simp [go_sem], s1.below B2 (by omega), (Mid.of_below B0 _ _).trans M2, by rw [hW2]; simp, by omega⟩
 have O0 : OS tSt 100 W2 (Iv U0.heap.size w1.heap.size) (.slice A1 ms.length c1) ms := own1.below B2 (Nat.le_refl _)
 have HW2 := Lib.hid hW2
 obtain ⟨X, hX⟩ : ∃ q, q = w1.heap.size := ⟨_, rfl⟩
 have HX := Lib.hid hX
 rw [← hX] at E0 O0 t1
 clear hW2 own1 s1 m1 c0 f0 s0 B2 hX
 have q1 := E0.qX
 have lX0 := E0.sz
 go_wp2_with fail
 rw [← HW2.out, ← HX.out]
 refine (za4 b lo A n c code (K + 200) (ms.length : Int) W2 E0.src (by omega) (by omega)).mono ?_
 rintro e y1 ⟨k0, rfl, ⟨hk0, hk1⟩, s2, m2⟩
 obtain ⟨k, rfl⟩ : ∃ q : Nat, k0 = q := ⟨k0.toNat, by omega⟩
 have hk : k < ms.length := by omega
 have E1 := E0.step hbw s2 m2
 have O1 := O0.mid m2 (.inr (by omega)) (by omega)
 have lX := E1.sz
 have hx := Lib.hid (List.getElem?_eq_getElem hk)
 generalize ms[k] = x at hx
 obtain ⟨n0, l0, us⟩ := x
 have ht0 := tiny.out _ (List.mem_of_getElem? hx.out)
 obtain ⟨g, -, -, rfl, hFg, -⟩ := zhx O1 hx.out
 have gU : U0.heap.size ≤ g := hFg.1
 have gX : g < X := hFg.2
 have q2 := E1.qX
 clear E0 O0 hk0 hk1 s2 m2 q1
 go_wp2_with fail
 refine (za4 b lo A n c code _ 20 y1 E1.src (by omega) (by omega)).mono ?_
 rintro e y2 ⟨vv, rfl, -, s3, m3⟩
 have E2 := E1.step hbw s3 m3
 have O2 := O1.mid m3 (.inr (by omega)) (by omega)
 clear E1 O1 q2 s3 m3
 have ltY := E2.sz
 obtain ⟨g', Au, cu, eg, -, -, C0, C1, C2, css, Fs, hole, hcs, oU, hFn, hsz0⟩ := zhx O2 hx.out
 obtain rfl : g = g' := by injection eg with eg; injection eg
 clear eg
 have k1 := E2.qX
 have k2 := E2.fX
 have k3 := E2.q0
 have k4 := E2.f0
 by_cases v0 : vv = 0
 · subst v0
   have HT := Lib.hid (ztc b lo A n c code _ y2 E2.src (by omega))
   go_wp2_with fail
   refine HT.out.mono ?_
   rintro e y3 ⟨s, rfl, hs6, s4, m4⟩
   have E3 := E2.step hbw s4 m4
   have O3 := O2.mid m4 (.inr (by omega)) (by omega)
   obtain ⟨g', Au3, cu3, eg, -, -, ⟨D0, D0f⟩, -, -, -⟩ := zhx O3 hx.out
   obtain rfl : g = g' := by injection eg with eg; injection eg
   clear eg
   have EY := E3.chg hbw (G := fun z => z = g) (fun z h => by omega) (Chg.set y3 g (k * 3) (.string s) rfl)
   have OY := zs8 O3 hx.out s (by unfold maxLen; omega)
   obtain ⟨Y, hY⟩ : ∃ u, u = y3.setCell ⟨g, k * 3, none⟩ (.string s) := ⟨_, rfl⟩
   rw [← hY] at EY OY
   have HY := Lib.hid hY
   clear hY
   have z0 := EY.q0
   have z1 := EY.f0
   have z2 := EY.qX
   have hfin := Lib.hid (EY.fin OY (fun z h => by have h1 : U0.heap.size ≤ z := h.1; omega) hl6 (zge (fun x hx => ⟨(tiny.out x hx).1, Nat.le_succ_of_le (tiny.out x hx).2⟩) ⟨hs6, by have := ht0.2; simp only at this ⊢; omega⟩) (by simp))
   clear EY OY
   go_upto_region 18 with fail
   rw [← HY.out]
   go_wp2
   refine bodyPost_ret (v := .agg #[.slice (some ⟨g, 0, none⟩) ms.length c1]) (by simp [results, Tryz.results64, go_sem, z0, z1]) rfl ?_
   exact hfin.out
 by_cases v1 : vv = 1
 · subst v1
   have HT := Lib.hid (ztb b lo A n c code _ y2 E2.src (by omega))
   go_wp2_with fail
   refine HT.out.mono ?_
   rintro e y3 ⟨lz, rfl, -, s4, m4⟩
   have E3 := E2.step hbw s4 m4
   have O3 := O2.mid m4 (.inr (by omega)) (by omega)
   obtain ⟨g', Au3, cu3, eg, -, -, -, ⟨D0, D0f⟩, -, -⟩ := zhx O3 hx.out
   obtain rfl : g = g' := by injection eg with eg; injection eg
   clear eg
   have EY := E3.chg hbw (G := fun z => z = g) (fun z h => by omega) (Chg.set y3 g (k * 3 + 1) (.int .i64 lz) rfl)
   have OY := zs9 O3 hx.out lz
   obtain ⟨Y, hY⟩ : ∃ u, u = y3.setCell ⟨g, k * 3 + 1, none⟩ (.int .i64 lz) := ⟨_, rfl⟩
   rw [← hY] at EY OY
   have HY := Lib.hid hY
   clear hY
   have z0 := EY.q0
   have z1 := EY.f0
   have z2 := EY.qX
   have hfin := Lib.hid (EY.fin OY (fun z h => by have h1 : U0.heap.size ≤ z := h.1; omega) hl6 (zge (fun x hx => ⟨(tiny.out x hx).1, Nat.le_succ_of_le (tiny.out x hx).2⟩) ⟨ht0.1, by have := ht0.2; simp only at this ⊢; omega⟩) (by simp))
   clear EY OY
   go_upto_region 18 with fail
   rw [← HY.out]
   go_wp2
   refine bodyPost_ret (v := .agg #[.slice (some ⟨g, 0, none⟩) ms.length c1]) (by simp [results, Tryz.results64, go_sem, z0, z1]) rfl ?_
   exact hfin.out
 by_cases v2 : vv = 2
 · subst v2
   obtain ⟨D2, D2f⟩ := C2
   have HE2 := Lib.hid E2
   have ghx : Hid (∀ z, Fs k z → z < X ∧ U0.heap.size ≤ z ∧ z ≠ g) := Lib.hid (fun z h => by
    have := hole.fits z h
    exact ⟨this.2, this.1, fun e => hFn (e ▸ h)⟩)
   obtain ⟨G, hG⟩ : ∃ G : Nat → Prop, G = fun z => z = b ∨ Fs k z := ⟨_, rfl⟩
   have HG := Lib.hid hG
   have GN := Lib.hid (show ¬ G g from fun h => by
    rw [hG] at h
    rcases h with h | h
    · omega
    · exact hFn h)
   have w2c := ChgTo.cell (F := G) D2 (fun h => GN.out h)
   have SP := Lib.hid (za4 b lo A n c code _ 8 y2.drew (E2.src.below (zac (Below.refl y2.heap.size _) 1) (by omega)) (by omega) (by omega))
   clear hG E2 v0 v1
   go_wp2_with fail
   (refine zcl G [0, 1, 2, 3, 5] [4] 6 (.one 6 (.one 7 (.one 8 (.one 9 (.first 10 (.first 11 .rest)))))) [12] [12] (by kernel_rfl) (by kernel_rfl) ?_; simp only [zaj]; simp only [List.filterMap, List.getElem?_cons_succ, List.getElem?_cons_zero]; (repeat (go_big_quiet_step (fail))); refine wpQuiet_nil ?_; (repeat (go_big_quiet_step (fail))); refine wpQuiet_nil ?_)
   refine zai rfl ?_
   go_wp2_with fail
   refine SP.out.mono ?_
   rintro e y3 ⟨tz, rfl, -, s5, m5⟩
   have m5' : Mid b (b + 1) y2 y3 := (Mid.of_below (zac (Below.refl y2.heap.size _) 1) b (b + 1)).trans m5
   have E3 := HE2.out.step hbw s5 m5'
   have lt5 := m5'.size
   have KP : ∀ z, Iv U0.heap.size X z → y3.heap[z]? = y2.heap[z]? := fun z h => m5'.block z (by have h1 : z < X := h.2; omega) (.inr (by have h1 : U0.heap.size ≤ z := h.1; omega))
   have C5 : Chg G y2 y3 := ⟨m5'.os, m5'.tape, m5'.output, m5'.size, fun i hi hn => m5'.block i hi (by
    rw [HG.out] at hn
    rcases Nat.lt_or_ge i b with h | h
    · exact .inl h
    · exact .inr (by rcases Nat.lt_or_ge b i with h2 | h2; exact h2; exact absurd (.inl (by omega)) hn))⟩
   have hole3 := hole.keep KP
   have oU3 := oU.keep (fun z h => KP z (hole.fits z h))
   have D3 := (hole3.cell hcs (j := 2) rfl).1
   have D3f := (hole3.cell hcs (j := 2) rfl).2
   change y3.cell? ⟨g, k * 3 + 2, none⟩ = _ at D3
   change y3.frozen? ⟨g, k * 3 + 2, none⟩ = _ at D3f
   have HKP := Lib.hid KP
   clear KP
   go_wp2_with fail
   refine ⟨⟨⟨y3, C5⟩, rfl⟩, zai rfl ?_⟩
   go_wp2_with fail
   refine ⟨⟨⟨y3, C5⟩, rfl⟩, zai rfl ?_⟩
   go_wp2_with fail
   refine ⟨⟨⟨_, C5.trans (Chg.of_below ((Below.refl _ _).alloc (Nat.le_refl _) _) _)⟩, rfl⟩, zai rfl ?_⟩
   have oU4 := oU3.real
   go_wp2_with (at_builtin; refine zaz zfi #[.int .i64 tz, .int .i64 1] rfl _ _ rfl oU3.real (Fe := fun _ => False) (y := (tz, 1)) rfl (fun _ _ h => h) rfl rfl (by unfold maxLen; omega) (by omega) ?_; intro v6 w6 own6 ch6; obtain ⟨A6, c6, e6⟩ := own6.shape; rw [List.length_append, List.length_singleton] at e6; subst e6; have q6 : w6.cell? ⟨g, k * 3 + 2, none⟩ = some (.slice Au us.length cu) := (by rw [ch6.cell1 (show g < y3.heap.size by omega) (fun h => hFn h.1)]; exact D3); have r6 : w6.frozen? ⟨g, k * 3 + 2, none⟩ = false := (by rw [ch6.frozen1 (show g < y3.heap.size by omega) (fun h => hFn h.1)]; exact D3f))
   have CG6 : Chg G y2 w6 := C5.trans (ch6.wide (fun z h => by rw [HG.out]; exact .inr h.1))
   refine ⟨⟨⟨w6, CG6⟩, rfl⟩, ?_⟩
   (refine zbf rfl ?_; (repeat (go_big_quiet_step (fail))); refine wpQuiet_nil ?_)
   (refine zbf rfl ?_; (repeat (go_big_quiet_step (fail))); refine wpQuiet_nil ?_)
   refine zbg ?_
   have hs6 := (hole3.chg (ch6.wide (fun z h => h.1))).set hcs 2 (by decide) (.slice A6 (us.length + 1) c6)
   rw [show k * tSt.s + 2 = k * 3 + 2 from rfl] at hs6
   have CS : Chg (fun z => z = g) w6 (w6.setCell ⟨g, k * 3 + 2, none⟩ (.slice A6 (us.length + 1) c6)) := Chg.set w6 g (k * 3 + 2) _ rfl
   have e95 : (w6.setCell ⟨g, k * 3 + 2, none⟩ (.slice A6 (us.length + 1) c6)).heap.size = w6.heap.size := by simp
   have own7 := own6.chg CS (fun z h1 (h2 : z = g) => by
    rcases h1 with h1 | h1 | h1
    · exact hFn (h2 ▸ h1.1)
    · exact h1
    · omega)
   have st7 := hs6.1.fill2 hs6.2 (y := (n0, l0, us ++ [(tz, 1)])) (Fe := fun z => Fs k z ∨ y3.heap.size < z) (st_O.2 ⟨A6, us.length + 1, c6, rfl, hsz0, sl_O.2 (own7.wide (fun z h1 => by
    rcases h1 with h1 | h1 | h1
    · exact .inl h1.1
    · exact h1.elim
    · exact .inr h1.1))⟩) (fun z h1 => by
      rcases h1 with h1 | h1
      · exact .inl h1
      · exact .inr (fun h2 => by have h3 : z < X := h2.2; omega))
   have EY := (E3.chg hbw (G := fun z => Fs k z) (fun z h => by have := ghx.out z h; omega) (ch6.wide (fun z h => h.1))).chg hbw (G := fun z => z = g) (fun z h => by omega) CS
   have OY := st7
   clear st7 hs6
   obtain ⟨Y, hY⟩ : ∃ u, u = w6.setCell ⟨g, k * 3 + 2, none⟩ (.slice A6 (us.length + 1) c6) := ⟨_, rfl⟩
   rw [← hY] at EY OY
   have HY := Lib.hid hY
   clear hY
   have z0 := EY.q0
   have z1 := EY.f0
   have z2 := EY.qX
   have hfin := Lib.hid (EY.fin OY (fun z h => by have h1 : U0.heap.size ≤ z := (by rcases h with h | h | h; exact h.1; exact (ghx.out z h).2.1; omega); omega) hl6 (zge (fun x hx => ⟨(tiny.out x hx).1, Nat.le_succ_of_le (tiny.out x hx).2⟩) ⟨ht0.1, by have := ht0.2; simp only at this ⊢; rw [List.length_append, List.length_singleton]; omega⟩) (by simp))
   clear EY OY
   go_upto_region 18 with fail
   rw [← HY.out]
   go_wp2
   refine bodyPost_ret (v := .agg #[.slice (some ⟨g, 0, none⟩) ms.length c1]) (by simp [results, Tryz.results64, go_sem, z0, z1]) rfl ?_
   exact hfin.out
 by_cases v3 : vv = 3
 · subst v3
   obtain ⟨D2, D2f⟩ := C2
   have EY := E2.chg hbw (G := fun z => z = g) (fun z h => by omega) (Chg.set y2 g (k * 3 + 2) (.slice none 0 0) rfl)
   have OY := zta O2 hx.out
   obtain ⟨Y, hY⟩ : ∃ u, u = y2.setCell ⟨g, k * 3 + 2, none⟩ (.slice none 0 0) := ⟨_, rfl⟩
   rw [← hY] at EY OY
   have HY := Lib.hid hY
   clear hY
   have z0 := EY.q0
   have z1 := EY.f0
   have z2 := EY.qX
   have hfin := Lib.hid (EY.fin OY (fun z h => by have h1 : U0.heap.size ≤ z := h.1; omega) hl6 (zge (fun x hx => ⟨(tiny.out x hx).1, Nat.le_succ_of_le (tiny.out x hx).2⟩) ⟨ht0.1, by simp⟩) (by simp))
   clear EY OY
   go_upto_region 18 with fail
   rw [← HY.out]
   go_wp2
   refine bodyPost_ret (v := .agg #[.slice (some ⟨g, 0, none⟩) ms.length c1]) (by simp [results, Tryz.results64, go_sem, z0, z1]) rfl ?_
   exact hfin.out
 by_cases v4 : vv = 4
 · subst v4
   obtain ⟨D2, D2f⟩ := C2
   by_cases hu : us.length = 0
   · have hu2 : ¬ (0 : Int) < (us.length : Int) := by omega
     have EY := E2
     have OY := O2
     clear E2 O2
     obtain ⟨Y, hY⟩ : ∃ u, u = y2 := ⟨_, rfl⟩
     rw [← hY] at EY OY
     have HY := Lib.hid hY
     clear hY
     have z0 := EY.q0
     have z1 := EY.f0
     have z2 := EY.qX
     have hfin := Lib.hid (EY.fin OY (fun z h => by have h1 : U0.heap.size ≤ z := h.1; omega) hl6 (fun x hx => ⟨(tiny.out x hx).1, Nat.le_succ_of_le (tiny.out x hx).2⟩) (by simp))
     clear EY OY
     go_upto_region 18 with fail
     rw [← HY.out]
     go_wp2
     refine bodyPost_ret (v := .agg #[.slice (some ⟨g, 0, none⟩) ms.length c1]) (by simp [results, Tryz.results64, go_sem, z0, z1]) rfl ?_
     exact hfin.out
   · have hup : 0 < us.length := by omega
     have hu2 : (0 : Int) < (us.length : Int) := by omega
     have hY0 := Lib.hid (List.getElem?_eq_getElem hup)
     generalize us[0] = y0 at hY0
     obtain ⟨cs2, Fs2, hole2, cz, hcz, hz⟩ := oU.openAt hY0.out
     obtain ⟨p0, p1⟩ := y0
     obtain rfl : cz = [.int .i64 p0, .int .i64 p1] := hz
     obtain ⟨g2, rfl, hFg2, -, hgw2, -⟩ := hole2.form hup
     have D5 := (hole2.cell hcz (j := 1) rfl).1
     have D5f := (hole2.cell hcz (j := 1) rfl).2
     change y2.cell? ⟨g2, 1, none⟩ = _ at D5
     change y2.frozen? ⟨g2, 1, none⟩ = _ at D5f
     have g2n : g2 ≠ g := fun e => hFn (e ▸ hFg2)
     have g2b := hole.fits g2 hFg2
     have g2U : U0.heap.size ≤ g2 := g2b.1
     have g2X : g2 < X := g2b.2
     have CS : Chg (Fs k) y2 (y2.setCell ⟨g2, 1, none⟩ (.int .i64 2147483648)) := Chg.set y2 g2 1 _ hFg2
     have h2s := hole2.set hcz 1 (by decide) (.int .i64 2147483648)
     have own5 := h2s.1.fill h2s.2 (y := (p0, 2147483648)) rfl
     have EY := E2.chg hbw (G := fun z => z = g2) (fun z h => by omega) (Chg.set y2 g2 1 (.int .i64 2147483648) rfl)
     have OY := (hole.chg CS).fill hcs (y := (n0, l0, us.set 0 (p0, 2147483648))) (st_O.2 ⟨_, us.length, cu, rfl, hsz0, sl_O.2 own5⟩)
     clear E2 O2 h2s own5
     obtain ⟨Y, hY⟩ : ∃ u, u = y2.setCell ⟨g2, 1, none⟩ (.int .i64 2147483648) := ⟨_, rfl⟩
     rw [← hY] at EY OY
     have HY := Lib.hid hY
     clear hY
     have z0 := EY.q0
     have z1 := EY.f0
     have z2 := EY.qX
     have hfin := Lib.hid (EY.fin OY (fun z h => by have h1 : U0.heap.size ≤ z := h.1; omega) hl6 (zge (fun x hx => ⟨(tiny.out x hx).1, Nat.le_succ_of_le (tiny.out x hx).2⟩) ⟨ht0.1, by have := ht0.2; simp only at this ⊢; rw [List.length_set]; omega⟩) (by simp))
     clear EY OY
     go_upto_region 18 with fail
     rw [← HY.out]
     go_wp2
     refine bodyPost_ret (v := .agg #[.slice (some ⟨g, 0, none⟩) ms.length c1]) (by simp [results, Tryz.results64, go_sem, z0, z1]) rfl ?_
     exact hfin.out
 by_cases v5 : vv = 5
 · subst v5
   obtain ⟨V, hV⟩ : ∃ u : Value, u = .slice (some ⟨y2.heap.size, 0, none⟩) 0 0 := ⟨_, rfl⟩
   obtain ⟨Y0, hY0⟩ : ∃ u, u = y2.setCell ⟨X, 0, none⟩ V := ⟨_, rfl⟩
   have MX : Mid X (X + 1) y2 Y0 := by rw [hY0]; exact Mid.cell _ X 0 _
   have eS : Y0.heap.size = y2.heap.size := by rw [hY0]; simp
   have E6 : BE w b lo A n c code X _ V Y0 :=
    ⟨MX.cellK (by omega) (.inl (by omega)) E2.q0, MX.frozK (by omega) (.inl (by omega)) E2.f0, by rw [hY0]; exact World.cell?_setCell_same _ _ _ k1, by rw [hY0]; exact (World.frozen?_setCell _ _ _ _).trans k2, E2.src.mid MX (by omega), E2.mid.thenB' (by rw [hY0]; exact (Below.refl w.heap.size _).setCell (p := ⟨X, 0, none⟩) (by show w.heap.size ≤ X; omega) _) (by have := E2.mid.size; omega), by omega, by omega⟩
   have B5 : Below Y0.heap.size Y0 (Y0.alloc (.cells #[] 100)) := (Below.refl _ _).alloc (Nat.le_refl _) _
   have OZ := OS.made00 tSt 100 Y0
   have lY := E6.sz
   have E7 := E6.step hbw (E6.src.below B5 (by omega)) (Mid.of_below B5 _ _)
   rw [eS] at OZ
   obtain ⟨Y, hY⟩ : ∃ u, u = Y0.alloc (.cells #[] 100) := ⟨_, rfl⟩
   rw [← hY] at E7 OZ
   have HY := Lib.hid (show Y = (y2.setCell ⟨X, 0, none⟩ (.slice (some ⟨y2.heap.size, 0, none⟩) 0 0)).alloc (.cells #[] 100) by rw [hY, hY0, hV])
   have z9 := E7.q0
   have z8 := E7.f0
   have z7 := E7.qX
   rw [hV] at z7
   have hfin := Lib.hid (E7.fin OZ (fun z h => by have h1 : y2.heap.size ≤ z := h.1; omega) (by omega) (fun x hx => by simp at hx) rfl)
   clear hY hY0 hV E7 E6 OZ B5 MX eS lY E2 O2
   go_upto_region 18 with fail
   rw [← HY.out]
   go_wp2
   refine bodyPost_ret (v := .agg #[.slice (some ⟨y2.heap.size, 0, none⟩) 0 0]) (by simp [results, Tryz.results64, go_sem, z9, z8]) rfl ?_
   exact hfin.out
 · have EY := E2
   have OY := O2
   clear E2 O2
   obtain ⟨Y, hY⟩ : ∃ u, u = y2 := ⟨_, rfl⟩
   rw [← hY] at EY OY
   have HY := Lib.hid hY
   clear hY
   have z0 := EY.q0
   have z1 := EY.f0
   have z2 := EY.qX
   have hfin := Lib.hid (EY.fin OY (fun z h => by have h1 : U0.heap.size ≤ z := h.1; omega) hl6 (fun x hx => ⟨(tiny.out x hx).1, Nat.le_succ_of_le (tiny.out x hx).2⟩) (by simp))
   clear EY OY
   go_upto_region 18 with fail
   rw [← HY.out]
   go_wp2
   refine bodyPost_ret (v := .agg #[.slice (some ⟨g, 0, none⟩) ms.length c1]) (by simp [results, Tryz.results64, go_sem, z0, z1]) rfl ?_
   exact hfin.out
end
end Go.Proofs.YtfkcoiefkjmdeaaGreat
