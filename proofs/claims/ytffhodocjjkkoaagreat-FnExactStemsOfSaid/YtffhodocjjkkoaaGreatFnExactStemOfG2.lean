import Derived.Test.YtffhodocjjkkoaaGreatFnExactStemOfG1
import Derived.Test.YtffhodocjjkkoaaGreatProg
import Derived.Lib.QuietBelow
import Derived.BigQuiet
import Derived.Deep.RegionLaw
import Derived.Lib.SliceRun
import Derived.Laws.IdiomStrings
import Derived.Lib.Strings
set_option linter.unusedVariables false
set_option linter.unusedSimpArgs false
set_option maxRecDepth 100000
set_option maxHeartbeats 4000000
namespace Go.Proofs.YtffhodocjjkkoaaGreat
section
open Go.RowKit
theorem zig : EI Tryz.prog 87 156 (.agg #[.int .i64 0, .int .i64 0, .int .i64 0, .int .i64 0, .int .i64 0]) 5 40 := ⟨Tryz.underlying87, by kernel_rfl, rfl, by decide⟩
def cl (p : (Int × Int × Int × Int × Int)) : List Value := [.int .i64 p.1, .int .i64 p.2.1, .int .i64 p.2.2.1, .int .i64 p.2.2.2.1, .int .i64 p.2.2.2.2]
theorem zeg (p : (Int × Int × Int × Int × Int)) : (cl p).length = 5 := rfl
abbrev tCl : Ty (Int × Int × Int × Int × Int) := Ty.flat 5 (by decide) (0, 0, 0, 0, 0) cl zeg (by simp [cl, Value.oneCell'])
abbrev hCl : Hs (Int × Int × Int × Int × Int) := hI.prod (hI.prod (hI.prod (hI.prod hI)))
abbrev tT : Ty (List (Int × Int × Int × Int × Int)) := tCl.sl 156
abbrev hT : Hs (List (Int × Int × Int × Int × Int)) := hCl.sl
theorem zoj (xs : List (Int × Int × Int × Int × Int)) : hCl.szL xs = 0 := by
 induction xs with
 | nil => rfl
 | cons x xs ih => rw [Hs.szL, ih]; rfl
theorem zkj (xs : List (Int × Int × Int × Int × Int)) : hCl.cntL xs = 5 * xs.length := by
 induction xs with
 | nil => rfl
 | cons x xs ih =>
  rw [Hs.cntL, ih, List.length_cons]
  show (1 + (1 + (1 + (1 + 1)))) + _ = _
  omega
theorem zha (xs : List (Int × Int × Int × Int × Int)) : hT.sz xs = xs.length := by show xs.length + hCl.szL xs = _; rw [zoj]; rfl
theorem zkk (xs : List (Int × Int × Int × Int × Int)) : hT.cnt xs = 5 * xs.length := zkj xs
theorem cl_T (x : List (Int × Int × Int × Int × Int)) : hT.cnt x ≤ 10 * hT.sz x + 10 := by rw [zha, zkk]; omega
theorem zok (k : Int) (x : (Int × Int × Int × Int × Int)) : hCl.mark k x = (k, k + 1, k + 2, k + 3, k + 4) := by
 simp [Hs.prod, hI]
 try omega
theorem zol (p0 p1 p2 p3 p4 : Int) (w : World) :
 Calls Tryz.prog 154 #[.agg #[.int .i64 p0, .int .i64 p1, .int .i64 p2, .int .i64 p3, .int .i64 p4]] w fun e w' => e = .returned (.agg #[.int .i64 p0, .int .i64 p1, .int .i64 p2, .int .i64 p3, .int .i64 p4]) ∧ Below w.heap.size w w' := by
 go_enter Tryz.func154, Tryz.ntmps154
 go_wp2
 exact bodyPost_ret (v := .agg #[.int .i64 p0, .int .i64 p1, .int .i64 p2, .int .i64 p3, .int .i64 p4]) (by simp [results, Tryz.results154, go_sem]) rfl ⟨rfl, (((Below.refl _ _).alloc (Nat.le_refl _) _).alloc (by simp) _).alloc (by simp; omega) _⟩
theorem zom (p0 p1 p2 p3 p4 : Int) (w : World) :
 Calls Tryz.prog 163 #[.agg #[.int .i64 p0, .int .i64 p1, .int .i64 p2, .int .i64 p3, .int .i64 p4], .agg #[.int .i64 p0, .int .i64 p1, .int .i64 p2, .int .i64 p3, .int .i64 p4]] w fun e w' => e = .returned (.bool true) ∧ Below w.heap.size w w' := by
 go_enter Tryz.func163, Tryz.ntmps163
 go_wp2
 go_ret
 exact ⟨rfl, ((Below.refl _ _).alloc (Nat.le_refl _) _).alloc (by simp) _⟩
theorem zon (A : Option Addr) (n c : Nat) (xs : List (Int × Int × Int × Int × Int)) (w : World) (hx : tT.R w w.heap.size [.slice A n c] xs) (hn : hT.sz xs ≤ 100000000) :
 Calls Tryz.prog 118 #[.slice A n c] w fun e w' => ∃ A' n' c', e = .returned (.slice A' n' c') ∧ tT.O w' (Iv w.heap.size w'.heap.size) [.slice A' n' c'] xs ∧ Below w.heap.size w w' := by
 have hr := sl_R.1 hx
 obtain rfl : xs.length = n := hr.cap.1
 rw [zha] at hn
 clear hx
 go_enter Tryz.func118, Tryz.ntmps118
 go_wp2_with (at_make; refine zda zig rfl _ _ rfl xs.length _ _ rfl rfl rfl rfl (by omega) (by unfold maxLen; omega) ?_; intro w1 own1 bel1)
 have hs1 : w.heap.size + 1 ≤ w1.heap.size := (World.ownsRow.lt own1 _ rfl).2
 have own2 : OS tCl 156 w1 (Iv w.heap.size (w.heap.size + 1)) (.slice (some ⟨w.heap.size, 0, none⟩) xs.length xs.length) (List.replicate xs.length (0, 0, 0, 0, 0)) :=
  OS.made (zc := [.int .i64 0, .int .i64 0, .int .i64 0, .int .i64 0, .int .i64 0]) (fun _ _ => rfl) rfl ⟨Nat.le_refl _, by omega⟩ own1
 clear own1
 go_loopw [4] (fun i wr => ∃ k : Nat, i = .int .i64 k ∧ k ≤ xs.length ∧ OS tCl 156 wr (Iv w.heap.size (w.heap.size + 1)) (.slice (some ⟨w.heap.size, 0, none⟩) xs.length xs.length) (xs.take k ++ (List.replicate xs.length (0, 0, 0, 0, 0)).drop k) ∧ w.heap.size + 1 ≤ wr.heap.size ∧ Below w.heap.size w wr)
  (fun i _ => xs.length - (intOf i).toNat)
 case atStart => exact ⟨0, rfl, by omega, by simpa using own2, hs1, bel1⟩
 case round =>
  obtain ⟨k, rfl, hk, own, hsz, hb⟩ := hrel
  by_cases hlt : k < xs.length
  · have hX := Lib.hid (List.getElem?_eq_getElem hlt)
    obtain ⟨b, o, c1, cs, hv, hab, -, hE, hc⟩ := (hr.below hb).atX hX.out
    simp only [Value.slice.injEq] at hv
    obtain ⟨rfl, -, rfl⟩ := hv
    generalize xs[k] = x at hX hE
    obtain ⟨p0, p1, p2, p3, p4⟩ := x
    obtain rfl : cs = [.int .i64 p0, .int .i64 p1, .int .i64 p2, .int .i64 p3, .int .i64 p4] := hE
    have hc0 : wr.cell? ⟨b, o + k * 5, none⟩ = some (.int .i64 p0) := hc 0 _ rfl
    have hc1 : wr.cell? ⟨b, o + k * 5 + 1, none⟩ = some (.int .i64 p1) := hc 1 _ rfl
    have hc2 : wr.cell? ⟨b, o + k * 5 + 2, none⟩ = some (.int .i64 p2) := hc 2 _ rfl
    have hc3 : wr.cell? ⟨b, o + k * 5 + 3, none⟩ = some (.int .i64 p3) := hc 3 _ rfl
    have hc4 : wr.cell? ⟨b, o + k * 5 + 4, none⟩ = some (.int .i64 p4) := hc 4 _ rfl
    have hD := Lib.hid (show (xs.take k ++ (List.replicate xs.length ((0, 0, 0, 0, 0) : (Int × Int × Int × Int × Int))).drop k)[k]? = some (0, 0, 0, 0, 0) by rw [M.mid_at (by rw [List.length_replicate])]; simp [hlt])
    clear hc
    go_wp2_with (go_at_call 154; refine (zol _ _ _ _ _ _).mono ?_; rintro e w2 ⟨rfl, bel2⟩; have own' := own.below bel2 hsz; obtain ⟨css, Fs, hole, cs, hcs, hE⟩ := own'.openAt hD.out; obtain rfl : cs = [.int .i64 0, .int .i64 0, .int .i64 0, .int .i64 0, .int .i64 0] := hE; have q0 : w2.cell? ⟨w.heap.size, k * 5, none⟩ = some (.int .i64 0) := (hole.cell hcs (j := 0) rfl).1; have r0 : w2.frozen? ⟨w.heap.size, k * 5, none⟩ = false := (hole.cell hcs (j := 0) rfl).2; have q1 : w2.cell? ⟨w.heap.size, k * 5 + 1, none⟩ = some (.int .i64 0) := (hole.cell hcs (j := 1) rfl).1; have r1 : w2.frozen? ⟨w.heap.size, k * 5 + 1, none⟩ = false := (hole.cell hcs (j := 1) rfl).2; have q2 : w2.cell? ⟨w.heap.size, k * 5 + 2, none⟩ = some (.int .i64 0) := (hole.cell hcs (j := 2) rfl).1; have r2 : w2.frozen? ⟨w.heap.size, k * 5 + 2, none⟩ = false := (hole.cell hcs (j := 2) rfl).2; have q3 : w2.cell? ⟨w.heap.size, k * 5 + 3, none⟩ = some (.int .i64 0) := (hole.cell hcs (j := 3) rfl).1; have r3 : w2.frozen? ⟨w.heap.size, k * 5 + 3, none⟩ = false := (hole.cell hcs (j := 3) rfl).2; have q4 : w2.cell? ⟨w.heap.size, k * 5 + 4, none⟩ = some (.int .i64 0) := (hole.cell hcs (j := 4) rfl).1; have r4 : w2.frozen? ⟨w.heap.size, k * 5 + 4, none⟩ = false := (hole.cell hcs (j := 4) rfl).2)
    go_roundw
    case rel =>
     have s0 := hole.set hcs 0 (by decide) (.int .i64 p0)
     have s1 := s0.1.set s0.2 1 (by decide) (.int .i64 p1)
     have s2 := s1.1.set s1.2 2 (by decide) (.int .i64 p2)
     have s3 := s2.1.set s2.2 3 (by decide) (.int .i64 p3)
     have s4 := s3.1.set s3.2 4 (by decide) (.int .i64 p4)
     have h3 := s4.1.fill s4.2 (y := (p0, p1, p2, p3, p4)) rfl
     rw [M.set_mid (by rw [List.length_replicate]) hX.out] at h3
     have hb2 := hb.trans (bel2.mono hb.size)
     exact ⟨k + 1, by go_num, by omega, h3, by simpa using Nat.le_trans hsz bel2.size, ((((hb2.setCell (Nat.le_refl _) _).setCell (Nat.le_refl _) _).setCell (Nat.le_refl _) _).setCell (Nat.le_refl _) _).setCell (Nat.le_refl _) _⟩
    case measure => simp [intOf]; omega
  · go_wp2
    go_ret
    rw [List.take_of_length_le (by omega), List.drop_eq_nil_of_le (by simp; omega), List.append_nil] at own
    exact ⟨_, _, _, rfl, sl_O.2 (own.iv (Nat.le_refl _) hsz), hb⟩
theorem zoo (A A' : Option Addr) (n c n' c' : Nat) (xs : List (Int × Int × Int × Int × Int)) (w : World) (hx : tT.R w w.heap.size [.slice A n c] xs) (hy : tT.R w w.heap.size [.slice A' n' c'] xs) (hn : hT.sz xs ≤ 100000000) :
 Calls Tryz.prog 128 #[.slice A n c, .slice A' n' c'] w fun e w' => e = .returned (.bool true) ∧ Below w.heap.size w w' := by
 have hr := sl_R.1 hx
 have hr' := sl_R.1 hy
 obtain rfl : xs.length = n := hr.cap.1
 obtain rfl : xs.length = n' := hr'.cap.1
 rw [zha] at hn
 clear hx hy
 go_enter Tryz.func128, Tryz.ntmps128
 go_wp2
 go_loopw [5] (fun i wr => ∃ k : Nat, i = .int .i64 k ∧ k ≤ xs.length ∧ Below w.heap.size w wr) (fun i _ => xs.length - (intOf i).toNat)
 case atStart => exact ⟨0, rfl, by omega, Below.refl _ _⟩
 case round =>
  obtain ⟨k, rfl, hk, hb⟩ := hrel
  by_cases hlt : k < xs.length
  · have hX := Lib.hid (List.getElem?_eq_getElem hlt)
    obtain ⟨b, o, c1, cs, hv, hab, -, hE, hc⟩ := (hr.below hb).atX hX.out
    obtain ⟨b', o', c1', cs', hv', hab', -, hE', hc'⟩ := (hr'.below hb).atX hX.out
    simp only [Value.slice.injEq] at hv hv'
    obtain ⟨rfl, -, rfl⟩ := hv
    obtain ⟨rfl, -, rfl⟩ := hv'
    generalize xs[k] = x at hX hE hE'
    obtain ⟨p0, p1, p2, p3, p4⟩ := x
    obtain rfl : cs = [.int .i64 p0, .int .i64 p1, .int .i64 p2, .int .i64 p3, .int .i64 p4] := hE
    obtain rfl : cs' = [.int .i64 p0, .int .i64 p1, .int .i64 p2, .int .i64 p3, .int .i64 p4] := hE'
    have hc0 : wr.cell? ⟨b, o + k * 5, none⟩ = some (.int .i64 p0) := hc 0 _ rfl
    have hc1 : wr.cell? ⟨b, o + k * 5 + 1, none⟩ = some (.int .i64 p1) := hc 1 _ rfl
    have hc2 : wr.cell? ⟨b, o + k * 5 + 2, none⟩ = some (.int .i64 p2) := hc 2 _ rfl
    have hc3 : wr.cell? ⟨b, o + k * 5 + 3, none⟩ = some (.int .i64 p3) := hc 3 _ rfl
    have hc4 : wr.cell? ⟨b, o + k * 5 + 4, none⟩ = some (.int .i64 p4) := hc 4 _ rfl
    have hd0 : wr.cell? ⟨b', o' + k * 5, none⟩ = some (.int .i64 p0) := hc' 0 _ rfl
    have hd1 : wr.cell? ⟨b', o' + k * 5 + 1, none⟩ = some (.int .i64 p1) := hc' 1 _ rfl
    have hd2 : wr.cell? ⟨b', o' + k * 5 + 2, none⟩ = some (.int .i64 p2) := hc' 2 _ rfl
    have hd3 : wr.cell? ⟨b', o' + k * 5 + 3, none⟩ = some (.int .i64 p3) := hc' 3 _ rfl
    have hd4 : wr.cell? ⟨b', o' + k * 5 + 4, none⟩ = some (.int .i64 p4) := hc' 4 _ rfl
    have hbr : b < wr.heap.size := Nat.lt_of_lt_of_le hab hb.size
    have hbr' : b' < wr.heap.size := Nat.lt_of_lt_of_le hab' hb.size
    clear hc hc'
    go_wp2
    go_region_held3 (fun w' => Below wr.heap.size wr w' ∧ w'.cell? ⟨b, o + k * 5, none⟩ = some (.int .i64 p0) ∧ w'.cell? ⟨b, o + k * 5 + 1, none⟩ = some (.int .i64 p1) ∧ w'.cell? ⟨b, o + k * 5 + 2, none⟩ = some (.int .i64 p2) ∧ w'.cell? ⟨b, o + k * 5 + 3, none⟩ = some (.int .i64 p3) ∧ w'.cell? ⟨b, o + k * 5 + 4, none⟩ = some (.int .i64 p4) ∧ w'.cell? ⟨b', o' + k * 5, none⟩ = some (.int .i64 p0) ∧ w'.cell? ⟨b', o' + k * 5 + 1, none⟩ = some (.int .i64 p1) ∧ w'.cell? ⟨b', o' + k * 5 + 2, none⟩ = some (.int .i64 p2) ∧ w'.cell? ⟨b', o' + k * 5 + 3, none⟩ = some (.int .i64 p3) ∧ w'.cell? ⟨b', o' + k * 5 + 4, none⟩ = some (.int .i64 p4))
     (first
      | exact ⟨zac (Below.refl _ _) _, hc0, hc1, hc2, hc3, hc4, hd0, hd1, hd2, hd3, hd4⟩
      | exact ⟨zdb bel2 rfl (And.left (by assumption)), za9 bel2 rfl (And.left (by assumption)) hc0 hbr, za9 bel2 rfl (And.left (by assumption)) hc1 hbr, za9 bel2 rfl (And.left (by assumption)) hc2 hbr, za9 bel2 rfl (And.left (by assumption)) hc3 hbr, za9 bel2 rfl (And.left (by assumption)) hc4 hbr, za9 bel2 rfl (And.left (by assumption)) hd0 hbr', za9 bel2 rfl (And.left (by assumption)) hd1 hbr', za9 bel2 rfl (And.left (by assumption)) hd2 hbr', za9 bel2 rfl (And.left (by assumption)) hd3 hbr', za9 bel2 rfl (And.left (by assumption)) hd4 hbr'⟩)
     (first | (go_at_call 163; refine (zom _ _ _ _ _ _).mono ?_; rintro e w2 ⟨rfl, bel2⟩))
    go_wp2
    go_roundw
    case rel => exact ⟨k + 1, by go_num, by omega, hb.trans ((zdb bel2 rfl (zac (Below.refl _ _) _)).mono hb.size)⟩
    case measure => simp [intOf]; omega
  · go_wp2
    go_ret
    exact ⟨rfl, hb⟩
theorem zop (A : Option Addr) (n c : Nat) (k : Int) (xs : List (Int × Int × Int × Int × Int)) (w : World) (F : Nat → Prop) (hx : tT.O w F [.slice A n c] xs) (hk : 0 ≤ k ∧ k + (hT.cnt xs : Int) ≤ 1000000000) :
 Calls Tryz.prog 85 #[.slice A n c, .int .i64 k] w fun e w' => e = .returned (.int .i64 (k + hT.cnt xs)) ∧ tT.O w' F [.slice A n c] (hT.mark k xs) ∧ Chg F w w' := by
 have ow := sl_O.1 hx
 obtain rfl : xs.length = n := ow.read.cap.1
 rw [zkk] at *
 clear hx
 go_enter Tryz.func85, Tryz.ntmps85
 go_wp2
 go_loopw [1, 5] (fun q i wr => ∃ j : Nat, i = .int .i64 j ∧ j ≤ xs.length ∧ q = .int .i64 (k + 5 * (j : Int)) ∧ OS tCl 156 wr F (.slice A xs.length c) ((hCl.mkL k xs).take j ++ xs.drop j) ∧ Chg F w wr)
  (fun _ i _ => xs.length - (intOf i).toNat)
 case atStart => exact ⟨0, rfl, by omega, by go_num, by simpa using ow, Chg.refl _ _⟩
 case round =>
  obtain ⟨j, rfl, hj, rfl, own, hg⟩ := hrel
  by_cases hlt : j < xs.length
  · have hml := Lib.hid (hCl.mkL_len k xs)
    have hX := Lib.hid (List.getElem?_eq_getElem hlt)
    generalize xs[j] = x at hX
    obtain ⟨p0, p1, p2, p3, p4⟩ := x
    have hyj := Lib.hid (show ((hCl.mkL k xs).take j ++ xs.drop j)[j]? = some (p0, p1, p2, p3, p4) by rw [M.mid_at hml.out]; exact hX.out)
    obtain ⟨css, Fs, hole, cs, hcs, hE⟩ := own.openAt hyj.out
    obtain rfl : cs = [.int .i64 p0, .int .i64 p1, .int .i64 p2, .int .i64 p3, .int .i64 p4] := hE
    obtain ⟨g, rfl, hFg, hFn, hgl, -⟩ := hole.form (List.getElem?_eq_some_iff.1 hyj.out).1
    have hmk := Lib.hid (show (hCl.mkL k xs)[j]? = some (k + 5 * (j : Int), k + 5 * (j : Int) + 1, k + 5 * (j : Int) + 1 + 1, k + 5 * (j : Int) + 1 + 1 + 1, k + 5 * (j : Int) + 1 + 1 + 1 + 1) by rw [hCl.mkL_at k hX.out, zok, zkj, List.length_take, Nat.min_eq_left hj]; simp only [Option.some.injEq, Prod.mk.injEq]; omega)
    have q0 : wr.cell? ⟨g, j * 5, none⟩ = some (.int .i64 p0) := (hole.cell hcs (j := 0) rfl).1
    have r0 : wr.frozen? ⟨g, j * 5, none⟩ = false := (hole.cell hcs (j := 0) rfl).2
    have q1 : wr.cell? ⟨g, j * 5 + 1, none⟩ = some (.int .i64 p1) := (hole.cell hcs (j := 1) rfl).1
    have r1 : wr.frozen? ⟨g, j * 5 + 1, none⟩ = false := (hole.cell hcs (j := 1) rfl).2
    have q2 : wr.cell? ⟨g, j * 5 + 2, none⟩ = some (.int .i64 p2) := (hole.cell hcs (j := 2) rfl).1
    have r2 : wr.frozen? ⟨g, j * 5 + 2, none⟩ = false := (hole.cell hcs (j := 2) rfl).2
    have q3 : wr.cell? ⟨g, j * 5 + 3, none⟩ = some (.int .i64 p3) := (hole.cell hcs (j := 3) rfl).1
    have r3 : wr.frozen? ⟨g, j * 5 + 3, none⟩ = false := (hole.cell hcs (j := 3) rfl).2
    have q4 : wr.cell? ⟨g, j * 5 + 4, none⟩ = some (.int .i64 p4) := (hole.cell hcs (j := 4) rfl).1
    have r4 : wr.frozen? ⟨g, j * 5 + 4, none⟩ = false := (hole.cell hcs (j := 4) rfl).2
    go_wp2
    go_roundw
    case rel =>
     have s0 := hole.set hcs 0 (by decide) (.int .i64 (k + 5 * (j : Int)))
     have c0 := hg.trans (Chg.set wr g (j * 5 + 0) (.int .i64 (k + 5 * (j : Int))) hFg)
     have s1 := s0.1.set s0.2 1 (by decide) (.int .i64 (k + 5 * (j : Int) + 1))
     have c1 := c0.trans (Chg.set _ g (j * 5 + 1) (.int .i64 (k + 5 * (j : Int) + 1)) hFg)
     have s2 := s1.1.set s1.2 2 (by decide) (.int .i64 (k + 5 * (j : Int) + 1 + 1))
     have c2 := c1.trans (Chg.set _ g (j * 5 + 2) (.int .i64 (k + 5 * (j : Int) + 1 + 1)) hFg)
     have s3 := s2.1.set s2.2 3 (by decide) (.int .i64 (k + 5 * (j : Int) + 1 + 1 + 1))
     have c3 := c2.trans (Chg.set _ g (j * 5 + 3) (.int .i64 (k + 5 * (j : Int) + 1 + 1 + 1)) hFg)
     have s4 := s3.1.set s3.2 4 (by decide) (.int .i64 (k + 5 * (j : Int) + 1 + 1 + 1 + 1))
     have c4 := c3.trans (Chg.set _ g (j * 5 + 4) (.int .i64 (k + 5 * (j : Int) + 1 + 1 + 1 + 1)) hFg)
     have h3 := s4.1.fill s4.2 (y := (k + 5 * (j : Int), k + 5 * (j : Int) + 1, k + 5 * (j : Int) + 1 + 1, k + 5 * (j : Int) + 1 + 1 + 1, k + 5 * (j : Int) + 1 + 1 + 1 + 1)) rfl
     rw [M.set_mid hml.out hmk.out] at h3
     exact ⟨j + 1, by go_num, by omega, by go_num, h3, c4⟩
    case measure => simp [intOf]; omega
  · obtain rfl : xs.length = j := by omega
    go_wp2
    go_ret
    rw [List.take_of_length_le (by rw [Hs.mkL_len]; omega), List.drop_eq_nil_of_le (by omega), List.append_nil] at own
    exact ⟨by go_num, sl_O.2 own, hg⟩
theorem zkl (A : Option Addr) (n c : Nat) (xs : List (Int × Int × Int × Int × Int)) (l : Int) (w : World) (hx : tT.R w w.heap.size [.slice A n c] xs) (hl : 0 ≤ l ∧ l ≤ 1000000000) :
 Calls Tryz.prog 110 #[.slice A n c, .int .i64 l] w fun e w' => e = .returned (.int .i64 (if (hT.sz xs : Int) ≤ l then l - hT.sz xs else -1)) ∧ Below w.heap.size w w' := by
 obtain ⟨h1, h2, h3⟩ := (sl_R.1 hx).cap
 have hn : n ≤ 9223372036854775807 := by unfold maxLen at h3; omega
 rw [zha, h1]
 clear h1 h2 h3 hx
 by_cases h : (n : Int) ≤ l
 all_goals
  go_enter Tryz.func110, Tryz.ntmps110
  go_wp2
  go_ret
  exact ⟨rfl, Below.refl _ _⟩
theorem zkm (A : Option Addr) (n c : Nat) (xs : List (Int × Int × Int × Int × Int)) (l : Int) (w : World) (hx : tT.R w w.heap.size [.slice A n c] xs) (hl : 0 ≤ l ∧ l ≤ 1000000000) :
 Calls Tryz.prog 60 #[.agg #[.slice A n c], .int .i64 l] w fun e w' => e = .returned (.int .i64 (if (hT.sz xs : Int) ≤ l then l - hT.sz xs else -1)) ∧ Below w.heap.size w w' := by
 have hb : Below w.heap.size w (w.alloc (.cells #[.slice A n c] 94)) := (Below.refl _ _).alloc (Nat.le_refl _) _
 have hx2 := tT.later hx hb
 by_cases h : (hT.sz xs : Int) ≤ l
 · have hi := Lib.hid (show (if (hT.sz xs : Int) ≤ l then l - hT.sz xs else -1) = l - hT.sz xs by rw [if_pos h])
   go_enter Tryz.func60, Tryz.ntmps60
   go_wp2_with (go_at_call 110; refine (zkl _ _ _ _ _ _ hx2 hl).mono ?_; rw [hi.out]; rintro e w2 ⟨rfl, bel2⟩)
   go_ret
   exact ⟨hi.out ▸ rfl, hb.trans (bel2.mono hb.size)⟩
 · have hi := Lib.hid (show (if (hT.sz xs : Int) ≤ l then l - hT.sz xs else -1) = -1 by rw [if_neg h])
   go_enter Tryz.func60, Tryz.ntmps60
   go_wp2_with (go_at_call 110; refine (zkl _ _ _ _ _ _ hx2 hl).mono ?_; rw [hi.out]; rintro e w2 ⟨rfl, bel2⟩)
   go_ret
   exact ⟨hi.out ▸ rfl, hb.trans (bel2.mono hb.size)⟩
theorem zoq (A : Option Addr) (n c : Nat) (xs : List (Int × Int × Int × Int × Int)) (w : World) (hx : tT.R w w.heap.size [.slice A n c] xs) (hn : hT.sz xs ≤ 100000000) :
 Calls Tryz.prog 69 #[.agg #[.slice A n c]] w fun e w' => ∃ A' n' c', e = .returned (.agg #[.slice A' n' c']) ∧ tT.O w' (Iv w.heap.size w'.heap.size) [.slice A' n' c'] xs ∧ Below w.heap.size w w' := by
 have hb : Below w.heap.size w (((w.alloc (.cells #[.slice A n c] 94)).alloc (.cells #[.slice none 0 0] 89)).alloc (.cells #[.slice none 0 0] 89)) := (((Below.refl _ _).alloc (Nat.le_refl _) _).alloc (by simp) _).alloc (by simp; omega) _
 have hx2 := tT.later hx hb
 go_enter Tryz.func69, Tryz.ntmps69
 go_wp2_with (go_at_call 118; refine (zon _ _ _ _ _ hx2 hn).mono ?_; rintro e w2 ⟨A2, n2, c2, rfl, own2, bel2⟩; have q1 : w2.cell? ⟨w.heap.size + 1, 0, none⟩ = some (.slice none 0 0) := (by rw [bel2.cell (by first | omega | (simp; done) | (simp; omega))]; simp [go_sem]); have r1 : w2.frozen? ⟨w.heap.size + 1, 0, none⟩ = false := (by rw [bel2.frozen (by first | omega | (simp; done) | (simp; omega))]; simp [go_sem]); have q2 : w2.cell? ⟨w.heap.size + 1 + 1, 0, none⟩ = some (.slice none 0 0) := (by rw [bel2.cell (by simp)]; simp [go_sem]); have r2 : w2.frozen? ⟨w.heap.size + 1 + 1, 0, none⟩ = false := (by rw [bel2.frozen (by simp)]; simp [go_sem]); have hs : w.heap.size + 1 + 1 + 1 ≤ w2.heap.size := (by have := bel2.size; simpa using this))
 have m1 : Mid (w.heap.size + 1) (w.heap.size + 1 + 1 + 1) w2 ((w2.setCell ⟨w.heap.size + 1 + 1, 0, none⟩ (Value.slice A2 n2 c2)).setCell ⟨w.heap.size + 1, 0, none⟩ (Value.slice A2 n2 c2)) :=
  (Mid.of_grown (zav w2 (w.heap.size + 1 + 1) 0 _) fun k hk => by injection hk with hk; omega).trans (Mid.of_grown (zav _ (w.heap.size + 1) 0 _) fun k hk => by injection hk with hk; omega)
 refine bodyPost_ret (v := .agg #[.slice A2 n2 c2]) (by simp [results, Tryz.results69, go_sem, q1, r1, q2, r2]) rfl ?_
 refine ⟨_, _, _, rfl, ?_, ?_⟩
 · exact tT.oiv (tT.omid own2 m1 (.inr (by simp)) (Nat.le_refl _)) (by simp; omega) m1.size
 · exact (hb.trans (bel2.mono hb.size)).trans ((m1.toBelow (by omega)).mono (by omega))
theorem zor (A A' : Option Addr) (n c n' c' : Nat) (xs : List (Int × Int × Int × Int × Int)) (w : World) (hx : tT.R w w.heap.size [.slice A n c] xs) (hy : tT.R w w.heap.size [.slice A' n' c'] xs) (hn : hT.sz xs ≤ 100000000) :
 Calls Tryz.prog 82 #[.agg #[.slice A n c], .agg #[.slice A' n' c']] w fun e w' => e = .returned (.bool true) ∧ Below w.heap.size w w' := by
 have hb : Below w.heap.size w ((w.alloc (.cells #[.slice A n c] 89)).alloc (.cells #[.slice A' n' c'] 89)) := ((Below.refl _ _).alloc (Nat.le_refl _) _).alloc (by simp) _
 have hx2 := tT.later hx hb
 have hy2 := tT.later hy hb
 go_enter Tryz.func82, Tryz.ntmps82
 go_wp2_with (go_at_call 128; refine (zoo _ _ _ _ _ _ _ _ hx2 hy2 hn).mono ?_; rintro e w2 ⟨rfl, bel2⟩)
 go_ret
 exact ⟨rfl, hb.trans (bel2.mono hb.size)⟩
end
section
open Go.RowKit
theorem zkn (w : World) (u : Value) (e : TypeId) : (w.alloc (.cells #[u] e)).cell? ⟨w.heap.size, 0, none⟩ = some u := by
 rw [cell_of_row _ w.heap.size 0 #[u] e (0, 0) (heap_alloc_new w _)]
 rfl
theorem Mid.cell (w : World) (b o : Nat) (u : Value) : Mid b (b + 1) w (w.setCell ⟨b, o, none⟩ u) :=
 Mid.of_grown (zav w b o u) fun k hk => by
  injection hk with hk
  omega
end
section
open Go.RowKit
end
section
open Go.RowKit
end
section
open Go.RowKit
def zv4 (xs : List (Int × Int)) (k : Nat) : Bool := k == 0 || decide (((xs[k - 1]?).getD (0, 0)).1 < ((xs[k]?).getD (0, 0)).1)
end
section
open Go.RowKit Go.Sort
theorem zko {n : Nat} {f : Nat → Bool} (h : ∀ j, j < n → f j = true) : (List.range n).all f = true := by
 rw [List.all_eq_true]
 intro j hj
 exact h j (List.mem_range.1 hj)
theorem zhb {n k : Nat} {f : Nat → Bool} (hk : k < n) (h : f k = false) : (List.range n).all f = false := by
 rw [List.all_eq_false]
 exact ⟨k, List.mem_range.2 hk, by simp [h]⟩
end
section
open Go.RowKit Go.Sort
end
section
open Go.RowKit Go.Sort
theorem zby {n a b : Int} : M.inn n a b = true ↔ a ≤ n ∧ n ≤ b := by simp [M.inn]
end
section
open Go.RowKit Go.Sort
abbrev Clip := Int × Int × Int × Int × Int
def zcn (p : Clip) : Bool := M.inn p.1 0 5 && M.inn p.2.2.1 1 4000 && M.inn p.2.1 0 (4000 - p.2.2.1) && M.inn p.2.2.2.1 0 (4000 - p.2.2.1) && M.smp p.2.2.2.2
def M.cz : Clip := (0, 0, 0, 0, 0)
def zfd (xs : List Clip) (k : Nat) : Bool := k == 0 || decide (((xs[k - 1]?).getD M.cz).2.2.2.1 ≤ ((xs[k]?).getD M.cz).2.2.2.1)
def zct (xs : List Clip) (k : Nat) : Bool := zcn ((xs[k]?).getD M.cz) && zfd xs k
def za4 (xs : List Clip) : Bool := (List.range xs.length).all (zct xs) && decide (xs.length ≤ 12)
theorem zkp {l : Int} (h : M.inn l 1 4000 = true) : IntKind.i64.wrap (4000 - l) = 4000 - l ∧ 1 ≤ l ∧ l ≤ 4000 := by
 have := zby.1 h
 exact ⟨IntWalk.i64_in _ (by omega), this⟩
theorem zhc (a b c d e : Int) (w : World) : Calls Tryz.prog 124 #[.agg #[.int .i64 a, .int .i64 b, .int .i64 c, .int .i64 d, .int .i64 e]] w fun en w' => en = .returned (.bool (zcn (a, b, c, d, e))) ∧ Below w.heap.size w w' := by
 cases h1 : M.inn a 0 5
 · go_enter Tryz.func124, Tryz.ntmps124
   go_wp2_with (first | (go_at_call 73; refine (zat _ _ _ _).mono ?_; rintro e w' ⟨rfl, rfl⟩) | (go_at_call 158; refine (zer _ _).mono ?_; rintro e w' ⟨rfl, rfl⟩))
   go_ret
   exact ⟨zab (by simp [zcn, h1]), (Below.refl _ _).alloc (Nat.le_refl _) _⟩
 · cases h2 : M.inn c 1 4000
   · go_enter Tryz.func124, Tryz.ntmps124
     go_wp2_with (first | (go_at_call 73; refine (zat _ _ _ _).mono ?_; rintro e w' ⟨rfl, rfl⟩) | (go_at_call 158; refine (zer _ _).mono ?_; rintro e w' ⟨rfl, rfl⟩))
     go_ret
     exact ⟨zab (by simp [zcn, h1, h2]), (Below.refl _ _).alloc (Nat.le_refl _) _⟩
   · obtain ⟨hw, hl1, hl2⟩ := zkp h2
     clear hw
     cases h3 : M.inn b 0 (4000 - c)
     · go_enter Tryz.func124, Tryz.ntmps124
       go_wp2_with (first | (go_at_call 73; refine (zat _ _ _ _).mono ?_; rintro e w' ⟨rfl, rfl⟩) | (go_at_call 158; refine (zer _ _).mono ?_; rintro e w' ⟨rfl, rfl⟩))
       go_ret
       exact ⟨zab (by simp [zcn, h1, h2, h3]), (Below.refl _ _).alloc (Nat.le_refl _) _⟩
     · cases h4 : M.inn d 0 (4000 - c)
       · go_enter Tryz.func124, Tryz.ntmps124
         go_wp2_with (first | (go_at_call 73; refine (zat _ _ _ _).mono ?_; rintro e w' ⟨rfl, rfl⟩) | (go_at_call 158; refine (zer _ _).mono ?_; rintro e w' ⟨rfl, rfl⟩))
         go_ret
         exact ⟨zab (by simp [zcn, h1, h2, h3, h4]), (Below.refl _ _).alloc (Nat.le_refl _) _⟩
       · cases h5 : M.smp e
         all_goals
          go_enter Tryz.func124, Tryz.ntmps124
          go_wp2_with (first | (go_at_call 73; refine (zat _ _ _ _).mono ?_; rintro e w' ⟨rfl, rfl⟩) | (go_at_call 158; refine (zer _ _).mono ?_; rintro e w' ⟨rfl, rfl⟩))
          go_ret
          exact ⟨zab (by simp [zcn, h1, h2, h3, h4, h5]), (Below.refl _ _).alloc (Nat.le_refl _) _⟩
theorem zhd (b o : Nat) (p : Clip) (w : World) (g0 : w.cell? ⟨b, o, none⟩ = some (.int .i64 p.1)) (g1 : w.cell? ⟨b, o + 1, none⟩ = some (.int .i64 p.2.1)) (g2 : w.cell? ⟨b, o + 2, none⟩ = some (.int .i64 p.2.2.1)) (g3 : w.cell? ⟨b, o + 3, none⟩ = some (.int .i64 p.2.2.2.1)) (g4 : w.cell? ⟨b, o + 4, none⟩ = some (.int .i64 p.2.2.2.2)) :
 Calls Tryz.prog 166 #[.pointer (some ⟨b, o, none⟩)] w fun en w' => en = .returned (.bool (zcn p)) ∧ ∃ m, w' = w.drewN m := by
 obtain ⟨a, f, l, t, q⟩ := p
 simp only at g0 g1 g2 g3 g4
 cases h1 : M.inn a 0 5
 · go_enter Tryz.func166, Tryz.ntmps166
   go_wp2_with (first | (go_at_call 53; refine (zas _ _ _ _).mono ?_; rintro e w' ⟨rfl, rfl⟩) | (go_at_call 114; refine (zd0 _ _).mono ?_; rintro e w' ⟨rfl, rfl⟩))
   go_ret
   exact ⟨zab (by simp [zcn, h1]), 0, rfl⟩
 · cases h2 : M.inn l 1 4000
   · go_enter Tryz.func166, Tryz.ntmps166
     go_wp2_with (first | (go_at_call 53; refine (zas _ _ _ _).mono ?_; rintro e w' ⟨rfl, rfl⟩) | (go_at_call 114; refine (zd0 _ _).mono ?_; rintro e w' ⟨rfl, rfl⟩))
     go_ret
     exact ⟨zab (by simp [zcn, h1, h2]), 0, rfl⟩
   · cases h5 : M.smp q
     · go_enter Tryz.func166, Tryz.ntmps166
       go_wp2_with (first | (go_at_call 53; refine (zas _ _ _ _).mono ?_; rintro e w' ⟨rfl, rfl⟩) | (go_at_call 114; refine (zd0 _ _).mono ?_; rintro e w' ⟨rfl, rfl⟩))
       go_ret
       exact ⟨zab (by simp [zcn, h1, h2, h5]), 0, rfl⟩
     · obtain ⟨hw, hl1, hl2⟩ := zkp h2
       have hw0 : (0 : Int) ≤ 4000 - l := by omega
       cases h3 : M.inn f 0 (4000 - l)
       · have c1 : ∀ m, Calls Tryz.prog 53 #[.int .i64 f, .int .i64 0, .int .i64 (4000 - l)] (w.drewN m) fun e w'' => e = .returned (.bool false) ∧ ∃ m', w'' = w.drewN m' := fun m => zaz (by have h := zas f 0 (4000 - l) (w.drewN m); rw [h3] at h; exact h)
         go_enter Tryz.func166, Tryz.ntmps166
         go_wp2_with (first | (go_at_call 53; refine (zas _ _ _ _).mono ?_; rintro e w' ⟨rfl, rfl⟩) | (go_at_call 114; refine (zd0 _ _).mono ?_; rintro e w' ⟨rfl, rfl⟩))
         go_quiet (first | (go_at_call_of 53 (Value.int .i64 f); exact c1 _))
         go_wp2
         go_ret
         exact ⟨zab (by simp [zcn, h1, h2, h3, h5]), _, rfl⟩
       · cases h4 : M.inn t 0 (4000 - l)
         · have c1 : ∀ m, Calls Tryz.prog 53 #[.int .i64 f, .int .i64 0, .int .i64 (4000 - l)] (w.drewN m) fun e w'' => e = .returned (.bool true) ∧ ∃ m', w'' = w.drewN m' := fun m => zaz (by have h := zas f 0 (4000 - l) (w.drewN m); rw [h3] at h; exact h)
           have c2 : ∀ m, Calls Tryz.prog 53 #[.int .i64 t, .int .i64 0, .int .i64 (4000 - l)] (w.drewN m) fun e w'' => e = .returned (.bool false) ∧ ∃ m', w'' = w.drewN m' := fun m => zaz (by have h := zas t 0 (4000 - l) (w.drewN m); rw [h4] at h; exact h)
           go_enter Tryz.func166, Tryz.ntmps166
           go_wp2_with (first | (go_at_call 53; refine (zas _ _ _ _).mono ?_; rintro e w' ⟨rfl, rfl⟩) | (go_at_call 114; refine (zd0 _ _).mono ?_; rintro e w' ⟨rfl, rfl⟩))
           go_quiet (first | (go_at_call_of 53 (Value.int .i64 f); exact c1 _) | (go_at_call_of 53 (Value.int .i64 t); exact c2 _))
           go_wp2
           go_ret
           exact ⟨zab (by simp [zcn, h1, h2, h3, h4, h5]), _, rfl⟩
         · have c1 : ∀ m, Calls Tryz.prog 53 #[.int .i64 f, .int .i64 0, .int .i64 (4000 - l)] (w.drewN m) fun e w'' => e = .returned (.bool true) ∧ ∃ m', w'' = w.drewN m' := fun m => zaz (by have h := zas f 0 (4000 - l) (w.drewN m); rw [h3] at h; exact h)
           have c2 : ∀ m, Calls Tryz.prog 53 #[.int .i64 t, .int .i64 0, .int .i64 (4000 - l)] (w.drewN m) fun e w'' => e = .returned (.bool true) ∧ ∃ m', w'' = w.drewN m' := fun m => zaz (by have h := zas t 0 (4000 - l) (w.drewN m); rw [h4] at h; exact h)
           go_enter Tryz.func166, Tryz.ntmps166
           go_wp2_with (first | (go_at_call 53; refine (zas _ _ _ _).mono ?_; rintro e w' ⟨rfl, rfl⟩) | (go_at_call 114; refine (zd0 _ _).mono ?_; rintro e w' ⟨rfl, rfl⟩))
           go_quiet (first | (go_at_call_of 53 (Value.int .i64 f); exact c1 _) | (go_at_call_of 53 (Value.int .i64 t); exact c2 _))
           go_wp2
           go_ret
           exact ⟨zab (by simp [zcn, h1, h2, h3, h4, h5]), _, rfl⟩
theorem zos (A : Option Addr) (n c : Nat) (xs : List Clip) (w : World) (hx : RA cl 5 w w.heap.size A n xs) (hn : n ≤ 1000000000) :
 Calls Tryz.prog 78 #[.agg #[.slice A n c]] w fun e w' => e = .returned (.bool (za4 xs)) ∧ Below w.heap.size w w' := by
 have hl := Lib.hid hx.len
 have hbw : Below w.heap.size w (w.alloc (.cells #[.slice A n c] 89)) := (Below.refl _ _).alloc (Nat.le_refl _) _
 have hself := zkn w (.slice A n c) 89
 have hsize : (w.alloc (.cells #[.slice A n c] 89)).heap.size = w.heap.size + 1 := by simp
 go_enter Tryz.func78, Tryz.ntmps78
 go_wp2
 go_loopw [3, 4, 8] (fun _ _ i wr => ∃ k : Nat, i = .int .i64 k ∧ k ≤ n ∧ Hid (∀ j, j < k → zct xs j = true) ∧ Below (w.heap.size + 1) (w.alloc (.cells #[.slice A n c] 89)) wr) (fun _ _ i _ => n - (intOf i).toNat)
 case atStart => exact ⟨0, rfl, by omega, Lib.hid (by omega), Below.refl _ _⟩
 case round =>
  obtain ⟨k, rfl, hk, H, hb⟩ := hrel
  have hbb : Below w.heap.size w wr := hbw.trans (hb.mono (by omega))
  have hsz : w.heap.size + 1 ≤ wr.heap.size := by rw [← hsize]; exact hb.size
  have hv : wr.cell? ⟨w.heap.size, 0, none⟩ = some (.slice A n c) := by rw [hb.cell (by simp)]; exact hself
  by_cases hlt : k < n
  · obtain ⟨b, o, ⟨p0, p1, p2, p3, p4⟩, rfl, hab, X, hc⟩ := (hx.below hbb).at zeg (by decide) hlt
    have hc0 : wr.cell? ⟨b, o + k * 5, none⟩ = some (.int .i64 p0) := hc 0 _ rfl
    have hc1 : wr.cell? ⟨b, o + k * 5 + 1, none⟩ = some (.int .i64 p1) := hc 1 _ rfl
    have hc2 : wr.cell? ⟨b, o + k * 5 + 2, none⟩ = some (.int .i64 p2) := hc 2 _ rfl
    have hc3 : wr.cell? ⟨b, o + k * 5 + 3, none⟩ = some (.int .i64 p3) := hc 3 _ rfl
    have hc4 : wr.cell? ⟨b, o + k * 5 + 4, none⟩ = some (.int .i64 p4) := hc 4 _ rfl
    clear hc
    obtain ⟨⟨r0, r1, r2, r3, r4⟩, Z, hr⟩ := (hx.below hbb).cells zeg (by decide) (k := k - 1) (by omega)
    have hr0 : wr.cell? ⟨b, o + (k - 1) * 5 + 3, none⟩ = some (.int .i64 r3) := hr 3 _ rfl
    clear hr
    have hs4 : (wr.alloc (.cells #[.int .i64 p0, .int .i64 p1, .int .i64 p2, .int .i64 p3, .int .i64 p4] 156)).heap.size = wr.heap.size + 1 := by simp
    have hbr : b < (wr.alloc (.cells #[.int .i64 p0, .int .i64 p1, .int .i64 p2, .int .i64 p3, .int .i64 p4] 156)).heap.size := by omega
    have hbv : w.heap.size < (wr.alloc (.cells #[.int .i64 p0, .int .i64 p1, .int .i64 p2, .int .i64 p3, .int .i64 p4] 156)).heap.size := by omega
    have hbn : wr.heap.size < (wr.alloc (.cells #[.int .i64 p0, .int .i64 p1, .int .i64 p2, .int .i64 p3, .int .i64 p4] 156)).heap.size := by omega
    have qa0 : (wr.alloc (.cells #[.int .i64 p0, .int .i64 p1, .int .i64 p2, .int .i64 p3, .int .i64 p4] 156)).cell? ⟨wr.heap.size, 0, none⟩ = some (.int .i64 p0) := by rw [cell_of_row _ wr.heap.size 0 _ 156 (0, 0) (heap_alloc_new wr _)]; rfl
    have qa1 : (wr.alloc (.cells #[.int .i64 p0, .int .i64 p1, .int .i64 p2, .int .i64 p3, .int .i64 p4] 156)).cell? ⟨wr.heap.size, 1, none⟩ = some (.int .i64 p1) := by rw [cell_of_row _ wr.heap.size 1 _ 156 (0, 0) (heap_alloc_new wr _)]; rfl
    have qa2 : (wr.alloc (.cells #[.int .i64 p0, .int .i64 p1, .int .i64 p2, .int .i64 p3, .int .i64 p4] 156)).cell? ⟨wr.heap.size, 2, none⟩ = some (.int .i64 p2) := by rw [cell_of_row _ wr.heap.size 2 _ 156 (0, 0) (heap_alloc_new wr _)]; rfl
    have qa3 : (wr.alloc (.cells #[.int .i64 p0, .int .i64 p1, .int .i64 p2, .int .i64 p3, .int .i64 p4] 156)).cell? ⟨wr.heap.size, 3, none⟩ = some (.int .i64 p3) := by rw [cell_of_row _ wr.heap.size 3 _ 156 (0, 0) (heap_alloc_new wr _)]; rfl
    have qa4 : (wr.alloc (.cells #[.int .i64 p0, .int .i64 p1, .int .i64 p2, .int .i64 p3, .int .i64 p4] 156)).cell? ⟨wr.heap.size, 4, none⟩ = some (.int .i64 p4) := by rw [cell_of_row _ wr.heap.size 4 _ 156 (0, 0) (heap_alloc_new wr _)]; rfl
    have q2 : (wr.alloc (.cells #[.int .i64 p0, .int .i64 p1, .int .i64 p2, .int .i64 p3, .int .i64 p4] 156)).cell? ⟨w.heap.size, 0, none⟩ = some (.slice (some ⟨b, o, none⟩) n c) := by rw [World.cell?_alloc_lt _ _ _ (by simp; omega)]; exact hv
    have q3 : (wr.alloc (.cells #[.int .i64 p0, .int .i64 p1, .int .i64 p2, .int .i64 p3, .int .i64 p4] 156)).cell? ⟨b, o + (k - 1) * 5 + 3, none⟩ = some (.int .i64 r3) := by rw [World.cell?_alloc_lt _ _ _ (by simp; omega)]; exact hr0
    have hb4 : Below (w.heap.size + 1) (w.alloc (.cells #[.slice (some ⟨b, o, none⟩) n c] 89)) (wr.alloc (.cells #[.int .i64 p0, .int .i64 p1, .int .i64 p2, .int .i64 p3, .int .i64 p4] 156)) := hb.alloc (by omega) _
    have hp0 := Lib.hid (show (xs[k]?).getD M.cz = (p0, p1, p2, p3, p4) by rw [X.out]; rfl)
    have hz0 := Lib.hid (show (xs[k - 1]?).getD M.cz = (r0, r1, r2, r3, r4) by rw [Z.out]; rfl)
    cases hp : zcn (p0, p1, p2, p3, p4)
    · have hno := Lib.hid (show za4 xs = false by rw [za4, zhb (k := k) (by rw [hl.out]; exact hlt) (by rw [zct, hp0.out, hp, Bool.false_and]), Bool.false_and])
      go_wp2
      generalize hw4 : wr.alloc (.cells #[.int .i64 p0, .int .i64 p1, .int .i64 p2, .int .i64 p3, .int .i64 p4] 156) = w4 at qa0 qa1 qa2 qa3 qa4 q2 q3 hbr hbv hbn hb4 ⊢
      clear hw4 hs4
      have cP : ∀ d os, Calls Tryz.prog 124 #[.agg #[.int .i64 p0, .int .i64 p1, .int .i64 p2, .int .i64 p3, .int .i64 p4]] (grow (redrawn w4 d) os) fun e w'' => e = .returned (.bool false) ∧ ∃ p : Regrown, w'' = grow (redrawn w4 p.d) p.os := fun d os => Calls.regrown_of (by have h := zhc p0 p1 p2 p3 p4 (grow (redrawn w4 d) os); rw [hp] at h; exact h)
      have ka0 := cell_regrown qa0
      have ka1 := cell_regrown qa1
      have ka2 := cell_regrown qa2
      have ka3 := cell_regrown qa3
      have ka4 := cell_regrown qa4
      have k2' := cell_regrown q2
      have k3' := cell_regrown q3
      clear qa0 qa1 qa2 qa3 qa4 q2 q3
      (refine wp_region_quiet_below (by kernel_rfl) (by kernel_rfl) ?_; (repeat (go_big_quiet_step (exact cP _ _))); refine wpQuiet_nil ?_; intro _ hw'; obtain ⟨⟨dq, osq⟩, hw''⟩ := hw'; subst hw'')
      go_wp2
      go_ret
      exact ⟨zab (by rw [hno.out]), hbw.trans ((hb4.trans ((below_regrown w4 dq osq).mono (by rw [← hsize]; exact hb4.size))).mono (by omega))⟩
    · by_cases hk0 : k = 0
      · have hyes := Lib.hid (show zct xs k = true by rw [zct, hp0.out, hp, zfd, hk0]; rfl)
        have hd : decide (0 < k) = false := by rw [hk0]; rfl
        have hd2 : ¬ 0 < k := by omega
        clear hk0
        go_wp2
        generalize hw4 : wr.alloc (.cells #[.int .i64 p0, .int .i64 p1, .int .i64 p2, .int .i64 p3, .int .i64 p4] 156) = w4 at qa0 qa1 qa2 qa3 qa4 q2 q3 hbr hbv hbn hb4 ⊢
        clear hw4 hs4
        have cP : ∀ d os, Calls Tryz.prog 124 #[.agg #[.int .i64 p0, .int .i64 p1, .int .i64 p2, .int .i64 p3, .int .i64 p4]] (grow (redrawn w4 d) os) fun e w'' => e = .returned (.bool true) ∧ ∃ p : Regrown, w'' = grow (redrawn w4 p.d) p.os := fun d os => Calls.regrown_of (by have h := zhc p0 p1 p2 p3 p4 (grow (redrawn w4 d) os); rw [hp] at h; exact h)
        have ka0 := cell_regrown qa0
        have ka1 := cell_regrown qa1
        have ka2 := cell_regrown qa2
        have ka3 := cell_regrown qa3
        have ka4 := cell_regrown qa4
        have k2' := cell_regrown q2
        have k3' := cell_regrown q3
        clear qa0 qa1 qa2 qa3 qa4 q2 q3
        (refine wp_region_quiet_below (by kernel_rfl) (by kernel_rfl) ?_; (repeat (go_big_quiet_step (exact cP _ _))); refine wpQuiet_nil ?_; intro _ hw'; obtain ⟨⟨dq, osq⟩, hw''⟩ := hw'; subst hw'')
        go_wp2
        go_roundw
        case rel => exact ⟨k + 1, by go_num, by omega, Lib.hid (fun j hj => by rcases Nat.lt_succ_iff_lt_or_eq.1 hj with h | h; exact H.out j h; rw [h]; exact hyes.out), hb4.trans ((below_regrown w4 dq osq).mono (by rw [← hsize]; exact hb4.size))⟩
        case measure => simp [intOf]; omega
      · have hkk : IntKind.i64.wrap ((k : Int) - 1) = ((k - 1 : Nat) : Int) := by rw [IntWalk.i64_in _ (by omega)]; omega
        have hk1n : ((k - 1 : Nat) : Int) < (n : Int) := by omega
        have hd : decide (0 < k) = true := decide_eq_true (by omega)
        by_cases hge : p3 < r3
        · have hno := Lib.hid (show za4 xs = false by rw [za4, zhb (k := k) (by rw [hl.out]; exact hlt) (by rw [zct, hp0.out, hp, zfd, hp0.out, hz0.out]; simp [hk0]; omega), Bool.false_and])
          go_wp2
          generalize hw4 : wr.alloc (.cells #[.int .i64 p0, .int .i64 p1, .int .i64 p2, .int .i64 p3, .int .i64 p4] 156) = w4 at qa0 qa1 qa2 qa3 qa4 q2 q3 hbr hbv hbn hb4 ⊢
          clear hw4 hs4
          have cP : ∀ d os, Calls Tryz.prog 124 #[.agg #[.int .i64 p0, .int .i64 p1, .int .i64 p2, .int .i64 p3, .int .i64 p4]] (grow (redrawn w4 d) os) fun e w'' => e = .returned (.bool true) ∧ ∃ p : Regrown, w'' = grow (redrawn w4 p.d) p.os := fun d os => Calls.regrown_of (by have h := zhc p0 p1 p2 p3 p4 (grow (redrawn w4 d) os); rw [hp] at h; exact h)
          have ka0 := cell_regrown qa0
          have ka1 := cell_regrown qa1
          have ka2 := cell_regrown qa2
          have ka3 := cell_regrown qa3
          have ka4 := cell_regrown qa4
          have k2' := cell_regrown q2
          have k3' := cell_regrown q3
          clear qa0 qa1 qa2 qa3 qa4 q2 q3
          (refine wp_region_quiet_below (by kernel_rfl) (by kernel_rfl) ?_; (repeat (go_big_quiet_step (exact cP _ _))); refine wpQuiet_nil ?_; intro _ hw'; obtain ⟨⟨dq, osq⟩, hw''⟩ := hw'; subst hw'')
          go_wp2
          go_ret
          exact ⟨zab (by rw [hno.out]), hbw.trans ((hb4.trans ((below_regrown w4 dq osq).mono (by rw [← hsize]; exact hb4.size))).mono (by omega))⟩
        · have hyes := Lib.hid (show zct xs k = true by rw [zct, hp0.out, hp, zfd, hp0.out, hz0.out]; simp; omega)
          go_wp2
          generalize hw4 : wr.alloc (.cells #[.int .i64 p0, .int .i64 p1, .int .i64 p2, .int .i64 p3, .int .i64 p4] 156) = w4 at qa0 qa1 qa2 qa3 qa4 q2 q3 hbr hbv hbn hb4 ⊢
          clear hw4 hs4
          have cP : ∀ d os, Calls Tryz.prog 124 #[.agg #[.int .i64 p0, .int .i64 p1, .int .i64 p2, .int .i64 p3, .int .i64 p4]] (grow (redrawn w4 d) os) fun e w'' => e = .returned (.bool true) ∧ ∃ p : Regrown, w'' = grow (redrawn w4 p.d) p.os := fun d os => Calls.regrown_of (by have h := zhc p0 p1 p2 p3 p4 (grow (redrawn w4 d) os); rw [hp] at h; exact h)
          have ka0 := cell_regrown qa0
          have ka1 := cell_regrown qa1
          have ka2 := cell_regrown qa2
          have ka3 := cell_regrown qa3
          have ka4 := cell_regrown qa4
          have k2' := cell_regrown q2
          have k3' := cell_regrown q3
          clear qa0 qa1 qa2 qa3 qa4 q2 q3
          (refine wp_region_quiet_below (by kernel_rfl) (by kernel_rfl) ?_; (repeat (go_big_quiet_step (exact cP _ _))); refine wpQuiet_nil ?_; intro _ hw'; obtain ⟨⟨dq, osq⟩, hw''⟩ := hw'; subst hw'')
          go_wp2
          go_roundw
          case rel => exact ⟨k + 1, by go_num, by omega, Lib.hid (fun j hj => by rcases Nat.lt_succ_iff_lt_or_eq.1 hj with h | h; exact H.out j h; rw [h]; exact hyes.out), hb4.trans ((below_regrown w4 dq osq).mono (by rw [← hsize]; exact hb4.size))⟩
          case measure => simp [intOf]; omega
  · have hyes := Lib.hid (zko (n := xs.length) (f := zct xs) (fun j hj => H.out j (by rw [hl.out] at hj; omega)))
    have hres := Lib.hid (show decide (n ≤ 12) = za4 xs by rw [za4, hyes.out, hl.out, Bool.true_and])
    go_wp2
    go_ret
    exact ⟨zab (by rw [← hres.out]; exact decide_eq_decide.2 (by omega)), hbb⟩
theorem zhe (vb : Nat) (A : Option Addr) (n c : Nat) (xs : List Clip) (w : World) (hv0 : w.cell? ⟨vb, 0, none⟩ = some (.slice A n c)) (hx : RA cl 5 w w.heap.size A n xs) (hn : n ≤ 1000000000) :
 Calls Tryz.prog 134 #[.pointer (some ⟨vb, 0, none⟩)] w fun e w' => e = .returned (.bool (za4 xs)) ∧ Below w.heap.size w w' := by
 have hl := Lib.hid hx.len
 have hvb : vb < w.heap.size := World.block_lt_of_cell? w _ hv0
 go_enter Tryz.func134, Tryz.ntmps134
 go_wp2
 go_loopw [3] (fun i wr => ∃ k : Nat, i = .int .i64 k ∧ k ≤ n ∧ Hid (∀ j, j < k → zct xs j = true) ∧ Below w.heap.size w wr) (fun i _ => n - (intOf i).toNat)
 case atStart => exact ⟨0, rfl, by omega, Lib.hid (by omega), Below.refl _ _⟩
 case round =>
  obtain ⟨k, rfl, hk, H, hb⟩ := hrel
  have hv : wr.cell? ⟨vb, 0, none⟩ = some (.slice A n c) := by rw [hb.cell (by simpa using hvb)]; exact hv0
  by_cases hlt : k < n
  · obtain ⟨b, o, ⟨p0, p1, p2, p3, p4⟩, rfl, hab, X, hc⟩ := (hx.below hb).at zeg (by decide) hlt
    have hc0 : wr.cell? ⟨b, o + k * 5, none⟩ = some (.int .i64 p0) := hc 0 _ rfl
    have hc1 : wr.cell? ⟨b, o + k * 5 + 1, none⟩ = some (.int .i64 p1) := hc 1 _ rfl
    have hc2 : wr.cell? ⟨b, o + k * 5 + 2, none⟩ = some (.int .i64 p2) := hc 2 _ rfl
    have hc3 : wr.cell? ⟨b, o + k * 5 + 3, none⟩ = some (.int .i64 p3) := hc 3 _ rfl
    have hc4 : wr.cell? ⟨b, o + k * 5 + 4, none⟩ = some (.int .i64 p4) := hc 4 _ rfl
    clear hc
    obtain ⟨⟨r0, r1, r2, r3, r4⟩, Z, hr⟩ := (hx.below hb).cells zeg (by decide) (k := k - 1) (by omega)
    have hr0 : wr.cell? ⟨b, o + (k - 1) * 5 + 3, none⟩ = some (.int .i64 r3) := hr 3 _ rfl
    clear hr
    have hp0 := Lib.hid (show (xs[k]?).getD M.cz = (p0, p1, p2, p3, p4) by rw [X.out]; rfl)
    have hz0 := Lib.hid (show (xs[k - 1]?).getD M.cz = (r0, r1, r2, r3, r4) by rw [Z.out]; rfl)
    cases hp : zcn (p0, p1, p2, p3, p4)
    · have hno := Lib.hid (show za4 xs = false by rw [za4, zhb (k := k) (by rw [hl.out]; exact hlt) (by rw [zct, hp0.out, hp, Bool.false_and]), Bool.false_and])
      have cP : ∀ m, Calls Tryz.prog 166 #[.pointer (some ⟨b, o + k * 5, none⟩)] (wr.drewN m) fun e w'' => e = .returned (.bool false) ∧ ∃ m', w'' = wr.drewN m' := fun m => by have h := zhd b (o + k * 5) (p0, p1, p2, p3, p4) (wr.drewN m) hc0 hc1 hc2 hc3 hc4; rw [hp] at h; exact h.mono fun _ _ ⟨he, q, hq⟩ => ⟨he, m + q, by rw [hq, World.drewN_drewN]⟩
      go_wp2
      go_quiet (exact cP _)
      go_wp2
      go_ret
      exact ⟨zab (by rw [hno.out]), hb.trans (zac (Below.refl _ _) _)⟩
    · by_cases hk0 : k = 0
      · have hyes := Lib.hid (show zct xs k = true by rw [zct, hp0.out, hp, zfd, hk0]; rfl)
        have hd : decide (0 < k) = false := by rw [hk0]; rfl
        have hd2 : ¬ 0 < k := by omega
        clear hk0
        have cP : ∀ m, Calls Tryz.prog 166 #[.pointer (some ⟨b, o + k * 5, none⟩)] (wr.drewN m) fun e w'' => e = .returned (.bool true) ∧ ∃ m', w'' = wr.drewN m' := fun m => by have h := zhd b (o + k * 5) (p0, p1, p2, p3, p4) (wr.drewN m) hc0 hc1 hc2 hc3 hc4; rw [hp] at h; exact h.mono fun _ _ ⟨he, q, hq⟩ => ⟨he, m + q, by rw [hq, World.drewN_drewN]⟩
        go_wp2
        go_quiet (exact cP _)
        go_wp2
        go_roundw
        case rel => exact ⟨k + 1, by go_num, by omega, Lib.hid (fun j hj => by rcases Nat.lt_succ_iff_lt_or_eq.1 hj with h | h; exact H.out j h; rw [h]; exact hyes.out), hb.trans (zac (Below.refl _ _) _)⟩
        case measure => simp [intOf]; omega
      · have hkk : IntKind.i64.wrap ((k : Int) - 1) = ((k - 1 : Nat) : Int) := by rw [IntWalk.i64_in _ (by omega)]; omega
        have hk1n : ((k - 1 : Nat) : Int) < (n : Int) := by omega
        have hd : decide (0 < k) = true := decide_eq_true (by omega)
        by_cases hge : p3 < r3
        · have hno := Lib.hid (show za4 xs = false by rw [za4, zhb (k := k) (by rw [hl.out]; exact hlt) (by rw [zct, hp0.out, hp, zfd, hp0.out, hz0.out]; simp [hk0]; omega), Bool.false_and])
          have cP : ∀ m, Calls Tryz.prog 166 #[.pointer (some ⟨b, o + k * 5, none⟩)] (wr.drewN m) fun e w'' => e = .returned (.bool true) ∧ ∃ m', w'' = wr.drewN m' := fun m => by have h := zhd b (o + k * 5) (p0, p1, p2, p3, p4) (wr.drewN m) hc0 hc1 hc2 hc3 hc4; rw [hp] at h; exact h.mono fun _ _ ⟨he, q, hq⟩ => ⟨he, m + q, by rw [hq, World.drewN_drewN]⟩
          go_wp2
          go_quiet (exact cP _)
          go_wp2
          go_ret
          exact ⟨zab (by rw [hno.out]), hb.trans (zac (Below.refl _ _) _)⟩
        · have hyes := Lib.hid (show zct xs k = true by rw [zct, hp0.out, hp, zfd, hp0.out, hz0.out]; simp; omega)
          have cP : ∀ m, Calls Tryz.prog 166 #[.pointer (some ⟨b, o + k * 5, none⟩)] (wr.drewN m) fun e w'' => e = .returned (.bool true) ∧ ∃ m', w'' = wr.drewN m' := fun m => by have h := zhd b (o + k * 5) (p0, p1, p2, p3, p4) (wr.drewN m) hc0 hc1 hc2 hc3 hc4; rw [hp] at h; exact h.mono fun _ _ ⟨he, q, hq⟩ => ⟨he, m + q, by rw [hq, World.drewN_drewN]⟩
          go_wp2
          go_quiet (exact cP _)
          go_wp2
          go_roundw
          case rel => exact ⟨k + 1, by go_num, by omega, Lib.hid (fun j hj => by rcases Nat.lt_succ_iff_lt_or_eq.1 hj with h | h; exact H.out j h; rw [h]; exact hyes.out), hb.trans (zac (Below.refl _ _) _)⟩
          case measure => simp [intOf]; omega
  · have hyes := Lib.hid (zko (n := xs.length) (f := zct xs) (fun j hj => H.out j (by rw [hl.out] at hj; omega)))
    have hres := Lib.hid (show decide (n ≤ 12) = za4 xs by rw [za4, hyes.out, hl.out, Bool.true_and])
    go_wp2
    go_ret
    exact ⟨zab (by rw [← hres.out]; exact decide_eq_decide.2 (by omega)), hb⟩
end
section
open Go.RowKit Go.Sort
end
section
open Go.RowKit Go.Sort
end
section
open Go.RowKit Go.Sort
end
section
open Go.RowKit Go.Sort
end
section
open Go.RowKit Go.Sort
theorem OA.made0 {α : Type} {enc : α → List Value} {e : TypeId} {s : Nat} (w : World) : OA enc e s w.heap.size (w.alloc (.cells #[] e)).heap.size (w.alloc (.cells #[] e)) (.slice (some ⟨w.heap.size, 0, none⟩) 0 0) [] :=
 OX.of_own (World.ownsRow_made _ _ _ (Nat.le_refl _) (by simp [maxLen]) (by simp))
end
section
open Go.RowKit
section
variable {base s n cap g : Nat} {e : TypeId} {cs : List Value} {w : World}
end
section
variable {α : Type} {enc : α → List Value} {s : Nat}
theorem zot (henc : ∀ x, (enc x).length = s) (xs : List α) (k : Nat) : (xs.flatMap enc).take (k * s) = (xs.take k).flatMap enc := by
 induction xs generalizing k with
 | nil => simp
 | cons y ys ih =>
  cases k with
  | zero => simp
  | succ k => rw [List.take_succ_cons, List.flatMap_cons, List.flatMap_cons, ← ih, Nat.succ_mul, Nat.add_comm, List.take_append, henc, List.take_of_length_le (by rw [henc]; omega)]; congr 2; omega
theorem zou (henc : ∀ x, (enc x).length = s) (xs : List α) (k : Nat) : (xs.flatMap enc).drop (k * s) = (xs.drop k).flatMap enc := by
 induction xs generalizing k with
 | nil => simp
 | cons y ys ih =>
  cases k with
  | zero => simp
  | succ k => rw [List.drop_succ_cons, List.flatMap_cons, ← ih, Nat.succ_mul, Nat.add_comm, List.drop_append, henc, List.drop_of_length_le (by rw [henc]; omega), List.nil_append]; congr 1; omega
end
theorem RA.reads {α : Type} {enc : α → List Value} {s : Nat} {w : World} {B n : Nat} {A : Option Addr} {xs : List α} (h : RA enc s w B A n xs) : Reads w B s A n (xs.flatMap enc) := h.2
end
section
open Go.RowKit
theorem RA.cut {α : Type} {enc : α → List Value} {s B n c k : Nat} {w : World} {A : Option Addr} {xs : List α} (henc : ∀ x, (enc x).length = s) (h : RA enc s w B A n xs) (hk : k ≤ n) (hc : n ≤ c) :
 RA enc s w B (if c = k then A else A.map (·.add (k * s))) (n - k) (xs.drop k) := by
 refine ⟨by rw [List.length_drop, h.1], ?_⟩
 rw [← zou henc]
 exact Reads.cut h.2 hk hc
theorem RA.head {α : Type} {enc : α → List Value} {s B n k : Nat} {w : World} {A : Option Addr} {xs : List α} (henc : ∀ x, (enc x).length = s) (h : RA enc s w B A n xs) (hk : k ≤ n) : RA enc s w B A k (xs.take k) := by
 refine ⟨by rw [List.length_take, h.1]; omega, by rw [zid henc, List.length_take, h.1, Nat.min_eq_left hk], fun h0 => ?_⟩
 obtain ⟨ad, e, hb, hc⟩ := h.2.2 (by omega)
 refine ⟨ad, e, hb, fun j u hu => hc j u ?_⟩
 rw [← zot henc, List.getElem?_take] at hu
 split at hu
 · exact hu
 · simp at hu
end
section
open Go.RowKit
end
section
open Go.RowKit
end
section
open Go.RowKit
theorem zov {α : Type} {p : α → Bool} {xs : List α} {k : Nat} {x : α} (hx : xs[k]? = some x) (hp : p x = true) (h : ∀ j, j < k → ∀ y, xs[j]? = some y → p y = false) : xs.findIdx? p = some k := by
 obtain ⟨hk, rfl⟩ := List.getElem?_eq_some_iff.1 hx
 rw [List.findIdx?_eq_some_iff_getElem]
 exact ⟨hk, hp, fun j hj => by rw [h j hj _ (List.getElem?_eq_getElem (by omega))]; exact Bool.false_ne_true⟩
theorem zow {α : Type} {p : α → Bool} {xs : List α} (h : ∀ j, j < xs.length → ∀ y, xs[j]? = some y → p y = false) : xs.findIdx? p = none := by
 rw [List.findIdx?_eq_none_iff]
 intro x hx
 obtain ⟨i, hi, rfl⟩ := List.getElem_of_mem hx
 exact h i hi _ (List.getElem?_eq_getElem hi)
def zv5 (c : Clip) (l : Int) : Clip := (c.1, c.2.1, c.2.2.1 + l, c.2.2.2.1, c.2.2.2.2)
theorem zkq {xs : List Clip} (h : za4 xs = true) : xs.length ≤ 12 := by
 rw [za4, Bool.and_eq_true, decide_eq_true_iff] at h
 exact h.2
theorem zih {xs : List Clip} (h : za4 xs = true) {k : Nat} {p : Clip} (hk : xs[k]? = some p) : zcn p = true := by
 rw [za4, Bool.and_eq_true, List.all_eq_true] at h
 have := h.1 k (List.mem_range.2 (List.getElem?_eq_some_iff.1 hk).1)
 rw [zct, Bool.and_eq_true, hk] at this
 exact this.1
theorem zii {p : Clip} (h : zcn p = true) : (0 ≤ p.1 ∧ p.1 ≤ 5) ∧ (1 ≤ p.2.2.1 ∧ p.2.2.1 ≤ 4000) ∧ (0 ≤ p.2.1 ∧ p.2.1 ≤ 4000 - p.2.2.1) ∧ (0 ≤ p.2.2.2.1 ∧ p.2.2.2.1 ≤ 4000 - p.2.2.1) ∧ (-2147483648 ≤ p.2.2.2.2 ∧ p.2.2.2.2 ≤ 2147483647) := by
 simp only [zcn, Bool.and_eq_true, zby] at h
 exact ⟨h.1.1.1.1, h.1.1.1.2, h.1.1.2, h.1.2, M.smp_bd h.2⟩
def zge : Option Nat → Int
 | some i => i
 | none => -1
end
section
open Go.RowKit
def zfr (src : List (List Int)) (c : Clip) (i : Int) : Int :=
 if c.2.2.2.1 ≤ i ∧ i < c.2.2.2.1 + c.2.2.1 then c.2.2.2.2 * M.at_ ((src[c.1.toNat]?).getD []) (c.2.1 + (i - c.2.2.2.1)) else 0
def zcx (src : List (List Int)) : List Clip → Int → Int
 | [], _ => 0
 | c :: cs, i => zfr src c i + zcx src cs i
def zcy (src : List (List Int)) (xs : List Clip) (n : Nat) : List Int := (List.range n).map fun (i : Nat) => wrap32 (zcx src xs (i : Int))
def zdq (src : List (List Int)) (xs : List Clip) (c : Clip) (m : Nat) (n : Nat) : List Int := (List.range n).map fun (i : Nat) => wrap32 (zcx src xs (i : Int) + if (i : Int) < c.2.2.2.1 + m then zfr src c (i : Int) else 0)
theorem zgf (src : List (List Int)) (xs : List Clip) (n : Nat) : (zcy src xs n).length = n := by simp [zcy]
theorem zij (src : List (List Int)) (xs : List Clip) (c : Clip) (m n : Nat) : (zdq src xs c m n).length = n := by simp [zdq]
theorem zox {src : List (List Int)} {xs : List Clip} {n i : Nat} (h : i < n) : (zcy src xs n)[i]? = some (wrap32 (zcx src xs (i : Int))) := by simp [zcy, h]
theorem zoy (src : List (List Int)) (xs ys : List Clip) (i : Int) : zcx src (xs ++ ys) i = zcx src xs i + zcx src ys i := by
 induction xs with
 | nil => simp [zcx]
 | cons x xs ih => rw [List.cons_append, zcx, zcx, ih]; omega
theorem zoz (src : List (List Int)) (c : Clip) (i : Int) : zcx src [c] i = zfr src c i := by simp [zcx]
theorem zkr (src : List (List Int)) (n : Nat) : zcy src [] n = List.replicate n 0 := by
 apply List.ext_getElem?
 intro i
 by_cases h : i < n
 · rw [zox h, zcx]
   simp [h]
   unfold wrap32
   omega
 · rw [List.getElem?_eq_none (by rw [zgf]; omega), List.getElem?_eq_none (by simp; omega)]
theorem zks (src : List (List Int)) (xs : List Clip) (c : Clip) (n : Nat) : zdq src xs c 0 n = zcy src xs n := by
 refine List.map_congr_left fun i _ => ?_
 congr 1
 unfold zfr
 split
 · rw [if_neg (by omega)]; omega
 · omega
theorem zhf (src : List (List Int)) (xs : List Clip) (c : Clip) (m n : Nat) (h : c.2.2.1 ≤ m ∨ (n : Int) ≤ c.2.2.2.1 + m) : zdq src xs c m n = zcy src (xs ++ [c]) n := by
 refine List.map_congr_left fun i hi => ?_
 have hi := List.mem_range.1 hi
 rw [zoy, zoz]
 congr 1
 split
 · rfl
 · unfold zfr
   rw [if_neg (by omega)]
theorem zkt {src : List (List Int)} {xs : List Clip} {c : Clip} {m n p : Nat} (hp : p < n) (e : (p : Int) = c.2.2.2.1 + m) : (zdq src xs c m n)[p]? = some (wrap32 (zcx src xs (p : Int))) := by
 simp only [zdq, List.getElem?_map, List.getElem?_range hp, Option.map_some]
 rw [if_neg (by omega), Int.add_zero]
theorem zku {src : List (List Int)} {xs : List Clip} {c : Clip} {m n p : Nat} (hp : p < n) (e : (p : Int) = c.2.2.2.1 + m) (hm : (m : Int) < c.2.2.1) :
 (zdq src xs c m n).set p (wrap32 (wrap32 (zcx src xs (p : Int)) + c.2.2.2.2 * M.at_ ((src[c.1.toNat]?).getD []) (c.2.1 + m))) = zdq src xs c (m + 1) n := by
 apply List.ext_getElem?
 intro i
 rw [List.getElem?_set]
 by_cases hi : p = i
 · subst hi
   rw [if_pos rfl, if_pos (by rw [zij]; exact hp)]
   simp only [zdq, List.getElem?_map, List.getElem?_range hp, Option.map_some]
   rw [if_pos (by omega), zfr, if_pos (by omega), M.wrap32_addl, show (p : Int) - c.2.2.2.1 = m by omega]
 · rw [if_neg hi]
   by_cases hn : i < n
   · simp only [zdq, List.getElem?_map, List.getElem?_range hn, Option.map_some]
     congr 3
     by_cases h1 : (i : Int) < c.2.2.2.1 + m
     · rw [if_pos h1, if_pos (by omega)]
     · rw [if_neg h1, if_neg (by omega)]
   · rw [List.getElem?_eq_none (by rw [zij]; omega), List.getElem?_eq_none (by rw [zij]; omega)]
def zcb (src : List (List Int)) : Bool := decide (src.length ≤ 6) && src.all M.sig
def zbb (xs : List Clip) (m : Int) : Bool := xs.all fun c => decide (c.1 < m)
def zd2 (src : List (List Int)) (xs : List Clip) (t : Int) : List Int × Int :=
 if zcb src && za4 xs then (if M.inn t 0 4000 then (if zbb xs src.length then (zcy src xs t.toNat, 0) else ([], 3)) else ([], 2)) else ([], 1)
end
section
open Go.RowKit
theorem zik : EI Tryz.prog 76 130 (.agg #[.int .i64 0, .int .i64 0]) 2 16 := ⟨Tryz.underlying76, by kernel_rfl, rfl, by decide⟩
def sd (p : (Int × Int)) : List Value := [.int .i64 p.1, .int .i64 p.2]
theorem zes (p : (Int × Int)) : (sd p).length = 2 := rfl
abbrev tSd : Ty (Int × Int) := Ty.flat 2 (by decide) (0, 0) sd zes (by simp [sd, Value.oneCell'])
abbrev hSd : Hs (Int × Int) := hI.prod hI
abbrev tSdS : Ty (List (Int × Int)) := tSd.sl 130
abbrev hSdS : Hs (List (Int × Int)) := hSd.sl
theorem zo0 (xs : List (Int × Int)) : hSd.szL xs = 0 := by
 induction xs with
 | nil => rfl
 | cons x xs ih => rw [Hs.szL, ih]; rfl
theorem zkv (xs : List (Int × Int)) : hSd.cntL xs = 2 * xs.length := by
 induction xs with
 | nil => rfl
 | cons x xs ih =>
  rw [Hs.cntL, ih, List.length_cons]
  show (1 + 1) + _ = _
  omega
theorem zfe (xs : List (Int × Int)) : hSdS.sz xs = xs.length := by show xs.length + hSd.szL xs = _; rw [zo0]; rfl
theorem zil (xs : List (Int × Int)) : hSdS.cnt xs = 2 * xs.length := zkv xs
theorem zo1 (k : Int) (x : (Int × Int)) : hSd.mark k x = (k, k + 1) := by
 simp [Hs.prod, hI]
 try omega
theorem zo2 (p0 p1 : Int) (w : World) :
 Calls Tryz.prog 187 #[.agg #[.int .i64 p0, .int .i64 p1]] w fun e w' => e = .returned (.agg #[.int .i64 p0, .int .i64 p1]) ∧ Below w.heap.size w w' := by
 go_enter Tryz.func187, Tryz.ntmps187
 go_wp2
 exact bodyPost_ret (v := .agg #[.int .i64 p0, .int .i64 p1]) (by simp [results, Tryz.results187, go_sem]) rfl ⟨rfl, (((Below.refl _ _).alloc (Nat.le_refl _) _).alloc (by simp) _).alloc (by simp; omega) _⟩
theorem zo3 (p0 p1 : Int) (w : World) :
 Calls Tryz.prog 192 #[.agg #[.int .i64 p0, .int .i64 p1], .agg #[.int .i64 p0, .int .i64 p1]] w fun e w' => e = .returned (.bool true) ∧ Below w.heap.size w w' := by
 go_enter Tryz.func192, Tryz.ntmps192
 go_wp2
 go_ret
 exact ⟨rfl, ((Below.refl _ _).alloc (Nat.le_refl _) _).alloc (by simp) _⟩
theorem zo4 (A : Option Addr) (n c : Nat) (xs : List (Int × Int)) (w : World) (hx : tSdS.R w w.heap.size [.slice A n c] xs) (hn : hSdS.sz xs ≤ 100000000) :
 Calls Tryz.prog 156 #[.slice A n c] w fun e w' => ∃ A' n' c', e = .returned (.slice A' n' c') ∧ tSdS.O w' (Iv w.heap.size w'.heap.size) [.slice A' n' c'] xs ∧ Below w.heap.size w w' := by
 have hr := sl_R.1 hx
 obtain rfl : xs.length = n := hr.cap.1
 rw [zfe] at hn
 clear hx
 go_enter Tryz.func156, Tryz.ntmps156
 go_wp2_with (at_make; refine zda zik rfl _ _ rfl xs.length _ _ rfl rfl rfl rfl (by omega) (by unfold maxLen; omega) ?_; intro w1 own1 bel1)
 have hs1 : w.heap.size + 1 ≤ w1.heap.size := (World.ownsRow.lt own1 _ rfl).2
 have own2 : OS tSd 130 w1 (Iv w.heap.size (w.heap.size + 1)) (.slice (some ⟨w.heap.size, 0, none⟩) xs.length xs.length) (List.replicate xs.length (0, 0)) :=
  OS.made (zc := [.int .i64 0, .int .i64 0]) (fun _ _ => rfl) rfl ⟨Nat.le_refl _, by omega⟩ own1
 clear own1
 go_loopw [4] (fun i wr => ∃ k : Nat, i = .int .i64 k ∧ k ≤ xs.length ∧ OS tSd 130 wr (Iv w.heap.size (w.heap.size + 1)) (.slice (some ⟨w.heap.size, 0, none⟩) xs.length xs.length) (xs.take k ++ (List.replicate xs.length (0, 0)).drop k) ∧ w.heap.size + 1 ≤ wr.heap.size ∧ Below w.heap.size w wr)
  (fun i _ => xs.length - (intOf i).toNat)
 case atStart => exact ⟨0, rfl, by omega, by simpa using own2, hs1, bel1⟩
 case round =>
  obtain ⟨k, rfl, hk, own, hsz, hb⟩ := hrel
  by_cases hlt : k < xs.length
  · have hX := Lib.hid (List.getElem?_eq_getElem hlt)
    obtain ⟨b, o, c1, cs, hv, hab, -, hE, hc⟩ := (hr.below hb).atX hX.out
    simp only [Value.slice.injEq] at hv
    obtain ⟨rfl, -, rfl⟩ := hv
    generalize xs[k] = x at hX hE
    obtain ⟨p0, p1⟩ := x
    obtain rfl : cs = [.int .i64 p0, .int .i64 p1] := hE
    have hc0 : wr.cell? ⟨b, o + k * 2, none⟩ = some (.int .i64 p0) := hc 0 _ rfl
    have hc1 : wr.cell? ⟨b, o + k * 2 + 1, none⟩ = some (.int .i64 p1) := hc 1 _ rfl
    have hD := Lib.hid (show (xs.take k ++ (List.replicate xs.length ((0, 0) : (Int × Int))).drop k)[k]? = some (0, 0) by rw [M.mid_at (by rw [List.length_replicate])]; simp [hlt])
    clear hc
    go_wp2_with (go_at_call 187; refine (zo2 _ _ _).mono ?_; rintro e w2 ⟨rfl, bel2⟩; have own' := own.below bel2 hsz; obtain ⟨css, Fs, hole, cs, hcs, hE⟩ := own'.openAt hD.out; obtain rfl : cs = [.int .i64 0, .int .i64 0] := hE; have q0 : w2.cell? ⟨w.heap.size, k * 2, none⟩ = some (.int .i64 0) := (hole.cell hcs (j := 0) rfl).1; have r0 : w2.frozen? ⟨w.heap.size, k * 2, none⟩ = false := (hole.cell hcs (j := 0) rfl).2; have q1 : w2.cell? ⟨w.heap.size, k * 2 + 1, none⟩ = some (.int .i64 0) := (hole.cell hcs (j := 1) rfl).1; have r1 : w2.frozen? ⟨w.heap.size, k * 2 + 1, none⟩ = false := (hole.cell hcs (j := 1) rfl).2)
    go_roundw
    case rel =>
     have s0 := hole.set hcs 0 (by decide) (.int .i64 p0)
     have s1 := s0.1.set s0.2 1 (by decide) (.int .i64 p1)
     have h3 := s1.1.fill s1.2 (y := (p0, p1)) rfl
     rw [M.set_mid (by rw [List.length_replicate]) hX.out] at h3
     have hb2 := hb.trans (bel2.mono hb.size)
     exact ⟨k + 1, by go_num, by omega, h3, by simpa using Nat.le_trans hsz bel2.size, (hb2.setCell (Nat.le_refl _) _).setCell (Nat.le_refl _) _⟩
    case measure => simp [intOf]; omega
  · go_wp2
    go_ret
    rw [List.take_of_length_le (by omega), List.drop_eq_nil_of_le (by simp; omega), List.append_nil] at own
    exact ⟨_, _, _, rfl, sl_O.2 (own.iv (Nat.le_refl _) hsz), hb⟩
theorem zo5 (A A' : Option Addr) (n c n' c' : Nat) (xs : List (Int × Int)) (w : World) (hx : tSdS.R w w.heap.size [.slice A n c] xs) (hy : tSdS.R w w.heap.size [.slice A' n' c'] xs) (hn : hSdS.sz xs ≤ 100000000) :
 Calls Tryz.prog 165 #[.slice A n c, .slice A' n' c'] w fun e w' => e = .returned (.bool true) ∧ Below w.heap.size w w' := by
 have hr := sl_R.1 hx
 have hr' := sl_R.1 hy
 obtain rfl : xs.length = n := hr.cap.1
 obtain rfl : xs.length = n' := hr'.cap.1
 rw [zfe] at hn
 clear hx hy
 go_enter Tryz.func165, Tryz.ntmps165
 go_wp2
 go_loopw [5] (fun i wr => ∃ k : Nat, i = .int .i64 k ∧ k ≤ xs.length ∧ Below w.heap.size w wr) (fun i _ => xs.length - (intOf i).toNat)
 case atStart => exact ⟨0, rfl, by omega, Below.refl _ _⟩
 case round =>
  obtain ⟨k, rfl, hk, hb⟩ := hrel
  by_cases hlt : k < xs.length
  · have hX := Lib.hid (List.getElem?_eq_getElem hlt)
    obtain ⟨b, o, c1, cs, hv, hab, -, hE, hc⟩ := (hr.below hb).atX hX.out
    obtain ⟨b', o', c1', cs', hv', hab', -, hE', hc'⟩ := (hr'.below hb).atX hX.out
    simp only [Value.slice.injEq] at hv hv'
    obtain ⟨rfl, -, rfl⟩ := hv
    obtain ⟨rfl, -, rfl⟩ := hv'
    generalize xs[k] = x at hX hE hE'
    obtain ⟨p0, p1⟩ := x
    obtain rfl : cs = [.int .i64 p0, .int .i64 p1] := hE
    obtain rfl : cs' = [.int .i64 p0, .int .i64 p1] := hE'
    have hc0 : wr.cell? ⟨b, o + k * 2, none⟩ = some (.int .i64 p0) := hc 0 _ rfl
    have hc1 : wr.cell? ⟨b, o + k * 2 + 1, none⟩ = some (.int .i64 p1) := hc 1 _ rfl
    have hd0 : wr.cell? ⟨b', o' + k * 2, none⟩ = some (.int .i64 p0) := hc' 0 _ rfl
    have hd1 : wr.cell? ⟨b', o' + k * 2 + 1, none⟩ = some (.int .i64 p1) := hc' 1 _ rfl
    have hbr : b < wr.heap.size := Nat.lt_of_lt_of_le hab hb.size
    have hbr' : b' < wr.heap.size := Nat.lt_of_lt_of_le hab' hb.size
    clear hc hc'
    go_wp2
    go_region_held3 (fun w' => Below wr.heap.size wr w' ∧ w'.cell? ⟨b, o + k * 2, none⟩ = some (.int .i64 p0) ∧ w'.cell? ⟨b, o + k * 2 + 1, none⟩ = some (.int .i64 p1) ∧ w'.cell? ⟨b', o' + k * 2, none⟩ = some (.int .i64 p0) ∧ w'.cell? ⟨b', o' + k * 2 + 1, none⟩ = some (.int .i64 p1))
     (first
      | exact ⟨zac (Below.refl _ _) _, hc0, hc1, hd0, hd1⟩
      | exact ⟨zdb bel2 rfl (And.left (by assumption)), za9 bel2 rfl (And.left (by assumption)) hc0 hbr, za9 bel2 rfl (And.left (by assumption)) hc1 hbr, za9 bel2 rfl (And.left (by assumption)) hd0 hbr', za9 bel2 rfl (And.left (by assumption)) hd1 hbr'⟩)
     (first | (go_at_call 192; refine (zo3 _ _ _).mono ?_; rintro e w2 ⟨rfl, bel2⟩))
    go_wp2
    go_roundw
    case rel => exact ⟨k + 1, by go_num, by omega, hb.trans ((zdb bel2 rfl (zac (Below.refl _ _) _)).mono hb.size)⟩
    case measure => simp [intOf]; omega
  · go_wp2
    go_ret
    exact ⟨rfl, hb⟩
theorem zo6 (A : Option Addr) (n c : Nat) (k : Int) (xs : List (Int × Int)) (w : World) (F : Nat → Prop) (hx : tSdS.O w F [.slice A n c] xs) (hk : 0 ≤ k ∧ k + (hSdS.cnt xs : Int) ≤ 1000000000) :
 Calls Tryz.prog 132 #[.slice A n c, .int .i64 k] w fun e w' => e = .returned (.int .i64 (k + hSdS.cnt xs)) ∧ tSdS.O w' F [.slice A n c] (hSdS.mark k xs) ∧ Chg F w w' := by
 have ow := sl_O.1 hx
 obtain rfl : xs.length = n := ow.read.cap.1
 rw [zil] at *
 clear hx
 go_enter Tryz.func132, Tryz.ntmps132
 go_wp2
 go_loopw [1, 5] (fun q i wr => ∃ j : Nat, i = .int .i64 j ∧ j ≤ xs.length ∧ q = .int .i64 (k + 2 * (j : Int)) ∧ OS tSd 130 wr F (.slice A xs.length c) ((hSd.mkL k xs).take j ++ xs.drop j) ∧ Chg F w wr)
  (fun _ i _ => xs.length - (intOf i).toNat)
 case atStart => exact ⟨0, rfl, by omega, by go_num, by simpa using ow, Chg.refl _ _⟩
 case round =>
  obtain ⟨j, rfl, hj, rfl, own, hg⟩ := hrel
  by_cases hlt : j < xs.length
  · have hml := Lib.hid (hSd.mkL_len k xs)
    have hX := Lib.hid (List.getElem?_eq_getElem hlt)
    generalize xs[j] = x at hX
    obtain ⟨p0, p1⟩ := x
    have hyj := Lib.hid (show ((hSd.mkL k xs).take j ++ xs.drop j)[j]? = some (p0, p1) by rw [M.mid_at hml.out]; exact hX.out)
    obtain ⟨css, Fs, hole, cs, hcs, hE⟩ := own.openAt hyj.out
    obtain rfl : cs = [.int .i64 p0, .int .i64 p1] := hE
    obtain ⟨g, rfl, hFg, hFn, hgl, -⟩ := hole.form (List.getElem?_eq_some_iff.1 hyj.out).1
    have hmk := Lib.hid (show (hSd.mkL k xs)[j]? = some (k + 2 * (j : Int), k + 2 * (j : Int) + 1) by rw [hSd.mkL_at k hX.out, zo1, zkv, List.length_take, Nat.min_eq_left hj]; simp only [Option.some.injEq, Prod.mk.injEq]; omega)
    have q0 : wr.cell? ⟨g, j * 2, none⟩ = some (.int .i64 p0) := (hole.cell hcs (j := 0) rfl).1
    have r0 : wr.frozen? ⟨g, j * 2, none⟩ = false := (hole.cell hcs (j := 0) rfl).2
    have q1 : wr.cell? ⟨g, j * 2 + 1, none⟩ = some (.int .i64 p1) := (hole.cell hcs (j := 1) rfl).1
    have r1 : wr.frozen? ⟨g, j * 2 + 1, none⟩ = false := (hole.cell hcs (j := 1) rfl).2
    go_wp2
    go_roundw
    case rel =>
     have s0 := hole.set hcs 0 (by decide) (.int .i64 (k + 2 * (j : Int)))
     have c0 := hg.trans (Chg.set wr g (j * 2 + 0) (.int .i64 (k + 2 * (j : Int))) hFg)
     have s1 := s0.1.set s0.2 1 (by decide) (.int .i64 (k + 2 * (j : Int) + 1))
     have c1 := c0.trans (Chg.set _ g (j * 2 + 1) (.int .i64 (k + 2 * (j : Int) + 1)) hFg)
     have h3 := s1.1.fill s1.2 (y := (k + 2 * (j : Int), k + 2 * (j : Int) + 1)) rfl
     rw [M.set_mid hml.out hmk.out] at h3
     exact ⟨j + 1, by go_num, by omega, by go_num, h3, c1⟩
    case measure => simp [intOf]; omega
  · obtain rfl : xs.length = j := by omega
    go_wp2
    go_ret
    rw [List.take_of_length_le (by rw [Hs.mkL_len]; omega), List.drop_eq_nil_of_le (by omega), List.append_nil] at own
    exact ⟨by go_num, sl_O.2 own, hg⟩
theorem zkw (A : Option Addr) (n c : Nat) (xs : List (Int × Int)) (l : Int) (w : World) (hx : tSdS.R w w.heap.size [.slice A n c] xs) (hl : 0 ≤ l ∧ l ≤ 1000000000) :
 Calls Tryz.prog 148 #[.slice A n c, .int .i64 l] w fun e w' => e = .returned (.int .i64 (if (hSdS.sz xs : Int) ≤ l then l - hSdS.sz xs else -1)) ∧ Below w.heap.size w w' := by
 obtain ⟨h1, h2, h3⟩ := (sl_R.1 hx).cap
 have hn : n ≤ 9223372036854775807 := by unfold maxLen at h3; omega
 rw [zfe, h1]
 clear h1 h2 h3 hx
 by_cases h : (n : Int) ≤ l
 all_goals
  go_enter Tryz.func148, Tryz.ntmps148
  go_wp2
  go_ret
  exact ⟨rfl, Below.refl _ _⟩
end
section
open Go.RowKit
def tStr : Ty ByteArray where
 s := 1
 pos := Nat.one_pos
 zero := ⟨#[]⟩
 R _ _ cs x := cs = [.string x] ∧ x.size ≤ maxLen
 O _ _ cs x := cs = [.string x] ∧ x.size ≤ maxLen
 rlen := by rintro w B cs x ⟨rfl, _⟩; rfl
 keep := fun _ h => h
 more := fun _ h => h
 read := fun h => h
 okeep := fun _ h => h
 owide := fun _ h => h
 ocells := by rintro w F cs x ⟨rfl, _⟩ u hu; simp only [List.mem_singleton] at hu; subst hu; rfl
 oreal := fun h => h
def zco (k : Nat) : List UInt8 := if k = 0 then [] else zco (k / 10) ++ [UInt8.ofNat (48 + k % 10)]
theorem zkx (k : Nat) : (zco k).length ≤ k := by
 induction k using Nat.strongRecOn with
 | _ k ih =>
  rw [zco]
  split
  · simp
  · have := ih (k / 10) (by omega)
    simp only [List.length_append, List.length_singleton]
    omega
def zet (k : Int) : ByteArray := if k ≤ 0 then ⟨#[109, 48]⟩ else ⟨(109 :: zco k.toNat).toArray⟩
theorem zo7 (k : Int) : (zet k).size ≤ k.toNat + 2 := by
 unfold zet
 split
 · show 2 ≤ _; omega
 · have := zkx k.toNat
   show ((109 :: zco k.toNat).toArray).size ≤ _
   simp only [List.size_toArray, List.length_cons]
   omega
def hStr : Hs ByteArray := ⟨fun s => s.size, fun k _ => zet k, fun _ => 1⟩
abbrev zae := ByteArray × Int × List (Int × Int)
abbrev tSt : Ty zae := tStr.prod (tI.prod tSdS)
abbrev hSt : Hs zae := hStr.prod (hI.prod hSdS)
abbrev tM : Ty (List zae) := tSt.sl 78
abbrev hM : Hs (List zae) := hSt.sl
section
variable {w : World} {B : Nat} {F : Nat → Prop} {cs : List Value} {s : ByteArray} {l : Int} {xs : List (Int × Int)}
theorem zim {cs : List Value} (h : tSdS.R w B cs xs) : ∃ A n c, cs = [.slice A n c] := by
 obtain ⟨v, rfl, hr⟩ := h
 obtain ⟨A, c, rfl⟩ := hr.shape
 exact ⟨_, _, _, rfl⟩
theorem st_R : tSt.R w B cs (s, l, xs) ↔ ∃ A n c, cs = [.string s, .int .i64 l, .slice A n c] ∧ s.size ≤ maxLen ∧ tSdS.R w B [.slice A n c] xs := by
 constructor
 · rintro ⟨c1, c2, rfl, ⟨rfl, h1⟩, c3, c4, rfl, h2, h3⟩
   obtain rfl : c3 = [.int .i64 l] := h2
   obtain ⟨A, n, c, rfl⟩ := zim h3
   exact ⟨A, n, c, rfl, h1, h3⟩
 · rintro ⟨A, n, c, rfl, h1, h3⟩
   exact ⟨[.string s], _, rfl, ⟨rfl, h1⟩, [.int .i64 l], _, rfl, rfl, h3⟩
theorem st_O : tSt.O w F cs (s, l, xs) ↔ ∃ A n c, cs = [.string s, .int .i64 l, .slice A n c] ∧ s.size ≤ maxLen ∧ tSdS.O w F [.slice A n c] xs := by
 constructor
 · rintro ⟨c1, c2, F1, F2, rfl, ⟨rfl, h1⟩, ⟨c3, c4, F3, F4, rfl, h2, h3, f3, f4, _⟩, f1, f2, _⟩
   obtain rfl : c3 = [.int .i64 l] := h2
   obtain ⟨A, n, c, rfl⟩ := zim (tSdS.read h3)
   exact ⟨A, n, c, rfl, h1, tSdS.owide (fun b hb => f2 b (f4 b hb)) h3⟩
 · rintro ⟨A, n, c, rfl, h1, h3⟩
   exact ⟨[.string s], _, fun _ => False, F, rfl, ⟨rfl, h1⟩, ⟨[.int .i64 l], _, fun _ => False, F, rfl, rfl, h3, fun _ h => h.elim, fun _ h => h, fun _ h => h.elim⟩, fun _ h => h.elim, fun _ h => h, fun _ h => h.elim⟩
theorem zfs (s : ByteArray) (l : Int) (xs : List (Int × Int)) : hSt.sz (s, l, xs) = s.size + xs.length := by
 show s.size + (0 + hSdS.sz xs) = _
 rw [zfe, Nat.zero_add]
theorem zin (s : ByteArray) (l : Int) (xs : List (Int × Int)) : hSt.cnt (s, l, xs) = 2 + 2 * xs.length := by
 show 1 + (1 + hSdS.cnt xs) = _
 rw [zil]
 omega
end
theorem zky (s : ByteArray) (l0 : Int) (A : Option Addr) (n c : Nat) (xs : List (Int × Int)) (l : Int) (w : World) (hs : s.size ≤ maxLen) (hx : tSdS.R w w.heap.size [.slice A n c] xs) (hl : 0 ≤ l ∧ l ≤ 1000000000) :
 Calls Tryz.prog 112 #[.agg #[.string s, .int .i64 l0, .slice A n c], .int .i64 l] w fun e w' => e = .returned (.int .i64 (if (hSt.sz (s, l0, xs) : Int) ≤ l then l - hSt.sz (s, l0, xs) else -1)) ∧ Below w.heap.size w w' := by
 have hb : Below w.heap.size w (w.alloc (.cells #[.string s, .int .i64 l0, .slice A n c] 152)) := (Below.refl _ _).alloc (Nat.le_refl _) _
 have hx2 := tSdS.later hx hb
 unfold maxLen at hs
 rw [zfs]
 have hz := zfe xs
 by_cases h1 : (s.size : Int) ≤ l
 · by_cases h2 : (xs.length : Int) ≤ l - s.size
   · have hi := Lib.hid (show (if (hSdS.sz xs : Int) ≤ l - s.size then l - s.size - hSdS.sz xs else -1) = l - s.size - xs.length by rw [hz, if_pos h2])
     have hj := Lib.hid (show (if ((s.size + xs.length : Nat) : Int) ≤ l then l - ((s.size + xs.length : Nat) : Int) else -1) = l - s.size - xs.length by rw [if_pos (by omega)]; omega)
     rw [hj.out]
     clear hz
     go_enter Tryz.func112, Tryz.ntmps112
     go_wp2_with (go_at_call 148; refine (zkw _ _ _ _ _ _ hx2 (by omega)).mono ?_; rw [hi.out]; rintro e w2 ⟨rfl, bel2⟩)
     go_ret
     exact ⟨rfl, hb.trans (bel2.mono hb.size)⟩
   · have hi := Lib.hid (show (if (hSdS.sz xs : Int) ≤ l - s.size then l - s.size - hSdS.sz xs else -1) = -1 by rw [hz, if_neg h2])
     have hj := Lib.hid (show (if ((s.size + xs.length : Nat) : Int) ≤ l then l - ((s.size + xs.length : Nat) : Int) else -1) = -1 by rw [if_neg (by omega)])
     rw [hj.out]
     clear hz
     go_enter Tryz.func112, Tryz.ntmps112
     go_wp2_with (go_at_call 148; refine (zkw _ _ _ _ _ _ hx2 (by omega)).mono ?_; rw [hi.out]; rintro e w2 ⟨rfl, bel2⟩)
     go_ret
     exact ⟨rfl, hb.trans (bel2.mono hb.size)⟩
 · have hj := Lib.hid (show (if ((s.size + xs.length : Nat) : Int) ≤ l then l - ((s.size + xs.length : Nat) : Int) else -1) = -1 by rw [if_neg (by omega)])
   rw [hj.out]
   clear hz
   go_enter Tryz.func112, Tryz.ntmps112
   go_wp2
   go_ret
   exact ⟨rfl, hb⟩
theorem zkz (A : Option Addr) (n c : Nat) (xs : List zae) (l : Int) (w : World) (hx : tM.R w w.heap.size [.slice A n c] xs) (hl : 0 ≤ l ∧ l ≤ 1000000000) :
 Calls Tryz.prog 62 #[.slice A n c, .int .i64 l] w fun e w' => e = .returned (.int .i64 (if (hM.sz xs : Int) ≤ l then l - hM.sz xs else -1)) ∧ Below w.heap.size w w' := by
 have hr := sl_R.1 hx
 obtain ⟨h1, h2, h3⟩ := hr.cap
 have hn : n ≤ 9223372036854775807 := by unfold maxLen at h3; omega
 obtain rfl : xs.length = n := h1
 have hzz : hM.sz xs = xs.length + hSt.szL xs := rfl
 have HZ := Lib.hid hzz
 clear h2 h3 hx hzz
 generalize hR : (if (hM.sz xs : Int) ≤ l then l - (hM.sz xs : Int) else -1) = R
 have HR := Lib.hid hR
 clear hR
 by_cases h : (xs.length : Int) ≤ l
 · go_enter Tryz.func62, Tryz.ntmps62
   go_wp2
   go_loopw [1, 5] (fun q i wr => ∃ k : Nat, i = .int .i64 k ∧ k ≤ xs.length ∧ (hSt.szL (xs.take k) : Int) ≤ l - xs.length ∧ q = .int .i64 (l - xs.length - hSt.szL (xs.take k)) ∧ Below w.heap.size w wr) (fun _ i _ => xs.length - (intOf i).toNat)
   case atStart => exact ⟨0, rfl, by omega, by simp [Hs.szL]; omega, by simp [Hs.szL], Below.refl _ _⟩
   case round =>
    obtain ⟨k, rfl, hk, hz, rfl, hb⟩ := hrel
    by_cases hlt : k < xs.length
    · have hX := Lib.hid (List.getElem?_eq_getElem hlt)
      obtain ⟨b, o, c1, cs, hv, hab, -, hE, hc⟩ := (hr.below hb).atX hX.out
      simp only [Value.slice.injEq] at hv
      obtain ⟨rfl, -, rfl⟩ := hv
      have hT := Lib.hid (hSt.szL_take hX.out)
      have hU := hSt.szL_at hX.out
      generalize xs[k] = x at hX hE hT hU
      obtain ⟨s, l0, ys⟩ := x
      obtain ⟨A1, n1, c1, rfl, hs, hE⟩ := st_R.1 hE
      have hc0 : wr.cell? ⟨b, o + k * 3, none⟩ = some (.string s) := hc 0 _ rfl
      have hc1 : wr.cell? ⟨b, o + k * 3 + 1, none⟩ = some (.int .i64 l0) := hc 1 _ rfl
      have hc2 : wr.cell? ⟨b, o + k * 3 + 2, none⟩ = some (.slice A1 n1 c1) := hc 2 _ rfl
      have hF := tSdS.more hb.size hE
      clear hc
      by_cases hle : (hSt.sz (s, l0, ys) : Int) ≤ l - xs.length - hSt.szL (xs.take k)
      · have hi := Lib.hid (show (if (hSt.sz (s, l0, ys) : Int) ≤ l - xs.length - hSt.szL (xs.take k) then l - xs.length - hSt.szL (xs.take k) - hSt.sz (s, l0, ys) else -1) = l - xs.length - hSt.szL (xs.take k) - hSt.sz (s, l0, ys) by rw [if_pos hle])
        go_wp2_with (go_at_call 112; refine (zky _ _ _ _ _ _ _ _ hs hF (by omega)).mono ?_; rw [hi.out]; rintro e w2 ⟨rfl, bel2⟩)
        go_roundw
        case rel => exact ⟨k + 1, by go_num, by omega, by rw [hT.out]; omega, by rw [hT.out]; go_num, hb.trans (bel2.mono hb.size)⟩
        case measure => simp [intOf]; omega
      · have hi := Lib.hid (show (if (hSt.sz (s, l0, ys) : Int) ≤ l - xs.length - hSt.szL (xs.take k) then l - xs.length - hSt.szL (xs.take k) - hSt.sz (s, l0, ys) else -1) = -1 by rw [if_neg hle])
        have hj := Lib.hid (show (if (hM.sz xs : Int) ≤ l then l - hM.sz xs else -1) = -1 by rw [HZ.out, if_neg (by omega)])
        go_wp2_with (go_at_call 112; refine (zky _ _ _ _ _ _ _ _ hs hF (by omega)).mono ?_; rw [hi.out]; rintro e w2 ⟨rfl, bel2⟩)
        go_ret
        exact ⟨zar (hj.out.symm.trans HR.out), hb.trans (bel2.mono hb.size)⟩
    · obtain rfl : xs.length = k := by omega
      rw [List.take_of_length_le (Nat.le_refl _)] at hz ⊢
      have hj := Lib.hid (show (if (hM.sz xs : Int) ≤ l then l - hM.sz xs else -1) = l - xs.length - hSt.szL xs by rw [HZ.out, if_pos (by omega)]; omega)
      go_wp2
      go_ret
      exact ⟨zar (hj.out.symm.trans HR.out), hb⟩
 · have hj := Lib.hid (show (if (hM.sz xs : Int) ≤ l then l - hM.sz xs else -1) = -1 by rw [HZ.out, if_neg (by omega)])
   go_enter Tryz.func62, Tryz.ntmps62
   go_wp2
   go_ret
   exact ⟨zar (hj.out.symm.trans HR.out), Below.refl _ _⟩
end
section
open Go.RowKit
theorem Ty.oset {α : Type} (t : Ty α) {w : World} {lo hi g o : Nat} {cs : List Value} {x : α} {u : Value} (h : t.O w (Iv lo hi) cs x) (hg : g < lo ∨ hi ≤ g) : t.O (w.setCell ⟨g, o, none⟩ u) (Iv lo hi) cs x :=
 t.okeep (fun b ⟨h1, h2⟩ => heap_setCell_other w ⟨g, o, none⟩ b u (fun e => by simp only at e; omega)) h
end
section
open Go.RowKit
theorem zio : EI Tryz.prog 36 78 (.agg #[.string ⟨#[]⟩, .int .i64 0, .slice none 0 0]) 3 48 := ⟨Tryz.underlying36, by kernel_rfl, rfl, by decide⟩
theorem zo8 (w : World) (F : Nat → Prop) : tSt.O w F [.string ⟨#[]⟩, .int .i64 0, .slice none 0 0] (⟨#[]⟩, 0, []) := st_O.2 ⟨none, 0, 0, rfl, Nat.zero_le _, _, rfl, OS.nil _ _ _ _⟩
theorem zo9 (s : ByteArray) (l0 : Int) (A : Option Addr) (n c : Nat) (xs : List (Int × Int)) (w : World) (hx : tSdS.R w w.heap.size [.slice A n c] xs) (hn : hSdS.sz xs ≤ 100000000) :
 Calls Tryz.prog 120 #[.agg #[.string s, .int .i64 l0, .slice A n c]] w fun e w' => ∃ A' n' c', e = .returned (.agg #[.string s, .int .i64 l0, .slice A' n' c']) ∧ tSdS.O w' (Iv w.heap.size w'.heap.size) [.slice A' n' c'] xs ∧ Below w.heap.size w w' := by
 have hb : Below w.heap.size w (((w.alloc (.cells #[.string s, .int .i64 l0, .slice A n c] 152)).alloc (.cells #[.string ⟨#[]⟩, .int .i64 0, .slice none 0 0] 78)).alloc (.cells #[.string s, .int .i64 l0, .slice none 0 0] 78)) := (((Below.refl _ _).alloc (Nat.le_refl _) _).alloc (by simp) _).alloc (by simp; omega) _
 have hx2 := tSdS.later hx hb
 go_enter Tryz.func120, Tryz.ntmps120
 go_wp2_with (go_at_call 156; refine (zo4 _ _ _ _ _ hx2 hn).mono ?_; rintro e w2 ⟨A2, n2, c2, rfl, own2, bel2⟩; have q10 : w2.cell? ⟨w.heap.size + 1, 0, none⟩ = some (.string ⟨#[]⟩) := (by rw [bel2.cell (by first | omega | (simp; done) | (simp; omega))]; simp [go_sem]); have r10 : w2.frozen? ⟨w.heap.size + 1, 0, none⟩ = false := (by rw [bel2.frozen (by first | omega | (simp; done) | (simp; omega))]; simp [go_sem]); have q20 : w2.cell? ⟨w.heap.size + 1 + 1, 0, none⟩ = some (.string s) := (by rw [bel2.cell (by first | omega | (simp; done) | (simp; omega))]; simp [go_sem]); have r20 : w2.frozen? ⟨w.heap.size + 1 + 1, 0, none⟩ = false := (by rw [bel2.frozen (by first | omega | (simp; done) | (simp; omega))]; simp [go_sem]); have q11 : w2.cell? ⟨w.heap.size + 1, 1, none⟩ = some (.int .i64 0) := (by rw [bel2.cell (by first | omega | (simp; done) | (simp; omega))]; simp [go_sem]); have r11 : w2.frozen? ⟨w.heap.size + 1, 1, none⟩ = false := (by rw [bel2.frozen (by first | omega | (simp; done) | (simp; omega))]; simp [go_sem]); have q21 : w2.cell? ⟨w.heap.size + 1 + 1, 1, none⟩ = some (.int .i64 l0) := (by rw [bel2.cell (by first | omega | (simp; done) | (simp; omega))]; simp [go_sem]); have r21 : w2.frozen? ⟨w.heap.size + 1 + 1, 1, none⟩ = false := (by rw [bel2.frozen (by first | omega | (simp; done) | (simp; omega))]; simp [go_sem]); have q12 : w2.cell? ⟨w.heap.size + 1, 2, none⟩ = some (.slice none 0 0) := (by rw [bel2.cell (by first | omega | (simp; done) | (simp; omega))]; simp [go_sem]); have r12 : w2.frozen? ⟨w.heap.size + 1, 2, none⟩ = false := (by rw [bel2.frozen (by first | omega | (simp; done) | (simp; omega))]; simp [go_sem]); have q22 : w2.cell? ⟨w.heap.size + 1 + 1, 2, none⟩ = some (.slice none 0 0) := (by rw [bel2.cell (by first | omega | (simp; done) | (simp; omega))]; simp [go_sem]); have r22 : w2.frozen? ⟨w.heap.size + 1 + 1, 2, none⟩ = false := (by rw [bel2.frozen (by first | omega | (simp; done) | (simp; omega))]; simp [go_sem]); have hs2 : w.heap.size + 1 + 1 + 1 ≤ w2.heap.size := (by have := bel2.size; simpa using this))
 have m1 : Mid (w.heap.size + 1) (w.heap.size + 1 + 1 + 1) w2 ((((w2.setCell ⟨w.heap.size + 1 + 1, 2, none⟩ (Value.slice A2 n2 c2)).setCell ⟨w.heap.size + 1, 0, none⟩ (.string s)).setCell ⟨w.heap.size + 1, 1, none⟩ (.int .i64 l0)).setCell ⟨w.heap.size + 1, 2, none⟩ (Value.slice A2 n2 c2)) :=
  (((Mid.of_grown (zav w2 (w.heap.size + 1 + 1) 2 _) fun k hk => by injection hk with hk; omega).trans (Mid.of_grown (zav _ (w.heap.size + 1) 0 _) fun k hk => by injection hk with hk; omega)).trans (Mid.of_grown (zav _ (w.heap.size + 1) 1 _) fun k hk => by injection hk with hk; omega)).trans (Mid.of_grown (zav _ (w.heap.size + 1) 2 _) fun k hk => by injection hk with hk; omega)
 refine bodyPost_ret (v := .agg #[.string s, .int .i64 l0, .slice A2 n2 c2]) (by simp [results, Tryz.results120, go_sem, q10, r10, q20, r20, q11, r11, q21, r21, q12, r12, q22, r22]) rfl ?_
 refine ⟨_, _, _, rfl, ?_, ?_⟩
 · exact tSdS.oiv (tSdS.omid own2 m1 (.inr (by simp)) (Nat.le_refl _)) (by simp; omega) m1.size
 · exact (hb.trans (bel2.mono hb.size)).trans ((m1.toBelow (by omega)).mono (by omega))
theorem zpa (A : Option Addr) (n c : Nat) (xs : List zae) (w : World) (hx : tM.R w w.heap.size [.slice A n c] xs) (hn : hM.sz xs ≤ 100000000) :
 Calls Tryz.prog 71 #[.slice A n c] w fun e w' => ∃ A' n' c', e = .returned (.slice A' n' c') ∧ tM.O w' (Iv w.heap.size w'.heap.size) [.slice A' n' c'] xs ∧ Below w.heap.size w w' := by
 have hr := sl_R.1 hx
 obtain rfl : xs.length = n := hr.cap.1
 have hn1 : xs.length + hSt.szL xs ≤ 100000000 := hn
 clear hx hn
 go_enter Tryz.func71, Tryz.ntmps71
 go_wp2_with (at_make; refine zda zio rfl _ _ rfl xs.length _ _ rfl rfl rfl rfl (by omega) (by unfold maxLen; omega) ?_; intro w1 own1 bel1)
 have hs1 : w.heap.size + 1 ≤ w1.heap.size := (World.ownsRow.lt own1 _ rfl).2
 have own2 : OS tSt 78 w1 (Iv w.heap.size w1.heap.size) (.slice (some ⟨w.heap.size, 0, none⟩) xs.length xs.length) (List.replicate xs.length (⟨#[]⟩, 0, [])) :=
  OS.made (t := tSt) (zc := [.string ⟨#[]⟩, .int .i64 0, .slice none 0 0]) zo8 rfl ⟨Nat.le_refl _, by omega⟩ own1
 clear own1
 go_loopw [4] (fun i wr => ∃ k : Nat, i = .int .i64 k ∧ k ≤ xs.length ∧ OS tSt 78 wr (Iv w.heap.size wr.heap.size) (.slice (some ⟨w.heap.size, 0, none⟩) xs.length xs.length) (xs.take k ++ (List.replicate xs.length (⟨#[]⟩, 0, [])).drop k) ∧ w.heap.size + 1 ≤ wr.heap.size ∧ Below w.heap.size w wr)
  (fun i _ => xs.length - (intOf i).toNat)
 case atStart => exact ⟨0, rfl, by omega, by simpa using own2, hs1, bel1⟩
 case round =>
  obtain ⟨k, rfl, hk, own, hsz, hb⟩ := hrel
  by_cases hlt : k < xs.length
  · have hX := Lib.hid (List.getElem?_eq_getElem hlt)
    obtain ⟨b, o, c1, cs, hv, hab, -, hE, hc⟩ := (hr.below hb).atX hX.out
    simp only [Value.slice.injEq] at hv
    obtain ⟨rfl, -, rfl⟩ := hv
    have hU := hSt.szL_at hX.out
    generalize xs[k] = x at hX hE hU
    obtain ⟨s, l0, ys⟩ := x
    rw [zfs] at hU
    obtain ⟨A1, n1, c1, rfl, hs, hE⟩ := st_R.1 hE
    have hc0 : wr.cell? ⟨b, o + k * 3, none⟩ = some (.string s) := hc 0 _ rfl
    have hc1 : wr.cell? ⟨b, o + k * 3 + 1, none⟩ = some (.int .i64 l0) := hc 1 _ rfl
    have hc2 : wr.cell? ⟨b, o + k * 3 + 2, none⟩ = some (.slice A1 n1 c1) := hc 2 _ rfl
    have hF := tSdS.more hb.size hE
    have hz := zfe ys
    have hz2 : hSdS.sz ys ≤ 100000000 := by omega
    clear hc hz
    have hD := Lib.hid (show (xs.take k ++ (List.replicate xs.length ((⟨#[]⟩, 0, []) : zae)).drop k)[k]? = some (⟨#[]⟩, 0, []) by rw [M.mid_at (by rw [List.length_replicate])]; simp [hlt])
    go_wp2_with (go_at_call 120; refine (zo9 _ _ _ _ _ _ _ hF hz2).mono ?_; rintro e w2 ⟨A2, n2, c2, rfl, o2, bel2⟩; have own' := own.below bel2 (Nat.le_refl _); obtain ⟨css, Fs, hole, cs, hcs, hE⟩ := own'.openAt hD.out; obtain ⟨A0, n0, c0, rfl, -, -⟩ := st_O.1 hE; have q0 := (hole.cell hcs (j := 0) rfl).1; have r0 := (hole.cell hcs (j := 0) rfl).2; have q1 := (hole.cell hcs (j := 1) rfl).1; have r1 := (hole.cell hcs (j := 1) rfl).2; have q2 := (hole.cell hcs (j := 2) rfl).1; have r2 := (hole.cell hcs (j := 2) rfl).2; have z2 := bel2.size; change w2.cell? ⟨w.heap.size, k * 3 + 0, none⟩ = _ at q0; change w2.frozen? ⟨w.heap.size, k * 3 + 0, none⟩ = _ at r0; change w2.cell? ⟨w.heap.size, k * 3 + 1, none⟩ = _ at q1; change w2.frozen? ⟨w.heap.size, k * 3 + 1, none⟩ = _ at r1; change w2.cell? ⟨w.heap.size, k * 3 + 2, none⟩ = _ at q2; change w2.frozen? ⟨w.heap.size, k * 3 + 2, none⟩ = _ at r2; rw [Nat.add_zero] at q0 r0)
    go_roundw
    case rel =>
     have s0 := hole.set hcs 0 (by decide) (.string s)
     have s1 := s0.1.set s0.2 1 (by decide) (.int .i64 l0)
     have s2 := s1.1.set s1.2 2 (by decide) (.slice A2 n2 c2)
     have o3 := tSdS.oset (g := w.heap.size) (o := k * 3 + 2) (u := .slice A2 n2 c2) (tSdS.oset (g := w.heap.size) (o := k * 3 + 1) (u := .int .i64 l0) (tSdS.oset (g := w.heap.size) (o := k * 3 + 0) (u := .string s) o2 (.inl (by omega))) (.inl (by omega))) (.inl (by omega))
     have h3 := s2.1.fill' s2.2 (y := (s, l0, ys)) (Fe := Iv wr.heap.size w2.heap.size) (st_O.2 ⟨A2, n2, c2, rfl, hs, o3⟩) (fun b h1 h2 => by have := h1.1; have := h2.2; omega)
     rw [M.set_mid (by rw [List.length_replicate]) hX.out] at h3
     have hb2 := hb.trans (bel2.mono hb.size)
     exact ⟨k + 1, by go_num, by omega, h3.wide (fun b hb => ⟨by unfold Iv at hb; omega, by simp; unfold Iv at hb; omega⟩), by simp; omega, ((hb2.setCell (Nat.le_refl _) _).setCell (Nat.le_refl _) _).setCell (Nat.le_refl _) _⟩
    case measure => simp [intOf]; omega
  · go_wp2
    go_ret
    rw [List.take_of_length_le (by omega), List.drop_eq_nil_of_le (by simp; omega), List.append_nil] at own
    exact ⟨_, _, _, rfl, sl_O.2 own, hb⟩
theorem zpb (s : ByteArray) (l0 : Int) (A A' : Option Addr) (n c n' c' : Nat) (xs : List (Int × Int)) (w : World) (hx : tSdS.R w w.heap.size [.slice A n c] xs) (hy : tSdS.R w w.heap.size [.slice A' n' c'] xs) (hn : hSdS.sz xs ≤ 100000000) :
 Calls Tryz.prog 130 #[.agg #[.string s, .int .i64 l0, .slice A n c], .agg #[.string s, .int .i64 l0, .slice A' n' c']] w fun e w' => e = .returned (.bool true) ∧ Below w.heap.size w w' := by
 have hb : Below w.heap.size w ((w.alloc (.cells #[.string s, .int .i64 l0, .slice A n c] 78)).alloc (.cells #[.string s, .int .i64 l0, .slice A' n' c'] 78)) := ((Below.refl _ _).alloc (Nat.le_refl _) _).alloc (by simp) _
 have hx2 := tSdS.later hx hb
 have hy2 := tSdS.later hy hb
 go_enter Tryz.func130, Tryz.ntmps130
 go_wp2_with (go_at_call 165; refine (zo5 _ _ _ _ _ _ _ _ hx2 hy2 hn).mono ?_; rintro e w2 ⟨rfl, bel2⟩)
 go_ret
 exact ⟨rfl, hb.trans (bel2.mono hb.size)⟩
theorem zpc (A A' : Option Addr) (n c n' c' : Nat) (xs : List zae) (w : World) (hx : tM.R w w.heap.size [.slice A n c] xs) (hy : tM.R w w.heap.size [.slice A' n' c'] xs) (hn : hM.sz xs ≤ 100000000) :
 Calls Tryz.prog 84 #[.slice A n c, .slice A' n' c'] w fun e w' => e = .returned (.bool true) ∧ Below w.heap.size w w' := by
 have hr := sl_R.1 hx
 have hr' := sl_R.1 hy
 obtain rfl : xs.length = n := hr.cap.1
 obtain rfl : xs.length = n' := hr'.cap.1
 have hn1 : xs.length + hSt.szL xs ≤ 100000000 := hn
 clear hx hy hn
 go_enter Tryz.func84, Tryz.ntmps84
 go_wp2
 go_loopw [5] (fun i wr => ∃ k : Nat, i = .int .i64 k ∧ k ≤ xs.length ∧ Below w.heap.size w wr) (fun i _ => xs.length - (intOf i).toNat)
 case atStart => exact ⟨0, rfl, by omega, Below.refl _ _⟩
 case round =>
  obtain ⟨k, rfl, hk, hb⟩ := hrel
  by_cases hlt : k < xs.length
  · have hX := Lib.hid (List.getElem?_eq_getElem hlt)
    obtain ⟨b, o, c1, cs, hv, hab, -, hE, hc⟩ := (hr.below hb).atX hX.out
    obtain ⟨b', o', c1', cs', hv', hab', -, hE', hc'⟩ := (hr'.below hb).atX hX.out
    simp only [Value.slice.injEq] at hv hv'
    obtain ⟨rfl, -, rfl⟩ := hv
    obtain ⟨rfl, -, rfl⟩ := hv'
    have hU := hSt.szL_at hX.out
    generalize xs[k] = x at hX hE hE' hU
    obtain ⟨s, l0, ys⟩ := x
    rw [zfs] at hU
    obtain ⟨A1, n1, c1, rfl, hs, hE⟩ := st_R.1 hE
    obtain ⟨A2, n2, c2, rfl, -, hE'⟩ := st_R.1 hE'
    have hc0 : wr.cell? ⟨b, o + k * 3, none⟩ = some (.string s) := hc 0 _ rfl
    have hc1 : wr.cell? ⟨b, o + k * 3 + 1, none⟩ = some (.int .i64 l0) := hc 1 _ rfl
    have hc2 : wr.cell? ⟨b, o + k * 3 + 2, none⟩ = some (.slice A1 n1 c1) := hc 2 _ rfl
    have hd0 : wr.cell? ⟨b', o' + k * 3, none⟩ = some (.string s) := hc' 0 _ rfl
    have hd1 : wr.cell? ⟨b', o' + k * 3 + 1, none⟩ = some (.int .i64 l0) := hc' 1 _ rfl
    have hd2 : wr.cell? ⟨b', o' + k * 3 + 2, none⟩ = some (.slice A2 n2 c2) := hc' 2 _ rfl
    have hbr : b < wr.heap.size := Nat.lt_of_lt_of_le hab hb.size
    have hbr' : b' < wr.heap.size := Nat.lt_of_lt_of_le hab' hb.size
    have hz := zfe ys
    have hz2 : hSdS.sz ys ≤ 100000000 := by omega
    have hF := tSdS.later (tSdS.more hb.size hE) (zac (Below.refl _ _) 1)
    have hF' := tSdS.later (tSdS.more hb.size hE') (zac (Below.refl _ _) 1)
    clear hc hc' hE hE' hz
    go_wp2
    go_region_held3 (fun w' => Below wr.heap.size wr w' ∧ w'.cell? ⟨b, o + k * 3, none⟩ = some (.string s) ∧ w'.cell? ⟨b, o + k * 3 + 1, none⟩ = some (.int .i64 l0) ∧ w'.cell? ⟨b, o + k * 3 + 2, none⟩ = some (.slice A1 n1 c1) ∧ w'.cell? ⟨b', o' + k * 3, none⟩ = some (.string s) ∧ w'.cell? ⟨b', o' + k * 3 + 1, none⟩ = some (.int .i64 l0) ∧ w'.cell? ⟨b', o' + k * 3 + 2, none⟩ = some (.slice A2 n2 c2))
     (first
      | exact ⟨zac (Below.refl _ _) _, hc0, hc1, hc2, hd0, hd1, hd2⟩
      | exact ⟨zdb bel2 rfl (And.left (by assumption)), za9 bel2 rfl (And.left (by assumption)) hc0 hbr, za9 bel2 rfl (And.left (by assumption)) hc1 hbr, za9 bel2 rfl (And.left (by assumption)) hc2 hbr, za9 bel2 rfl (And.left (by assumption)) hd0 hbr', za9 bel2 rfl (And.left (by assumption)) hd1 hbr', za9 bel2 rfl (And.left (by assumption)) hd2 hbr'⟩)
     (first | (go_at_call 130; refine (zpb _ _ _ _ _ _ _ _ _ _ hF hF' hz2).mono ?_; rintro e w2 ⟨rfl, bel2⟩))
    go_wp2
    go_roundw
    case rel => exact ⟨k + 1, by go_num, by omega, hb.trans ((zdb bel2 rfl (zac (Below.refl _ _) _)).mono hb.size)⟩
    case measure => simp [intOf]; omega
  · go_wp2
    go_ret
    exact ⟨rfl, hb⟩
end
section
open Go.RowKit
theorem zk0 (A : Option Addr) (n c : Nat) (xs : List zae) (l : Int) (w : World) (hx : tM.R w w.heap.size [.slice A n c] xs) (hl : 0 ≤ l ∧ l ≤ 1000000000) :
 Calls Tryz.prog 32 #[.agg #[.slice A n c], .int .i64 l] w fun e w' => e = .returned (.int .i64 (if (hM.sz xs : Int) ≤ l then l - hM.sz xs else -1)) ∧ Below w.heap.size w w' := by
 have hb : Below w.heap.size w (w.alloc (.cells #[.slice A n c] 28)) := (Below.refl _ _).alloc (Nat.le_refl _) _
 have hx2 := tM.later hx hb
 by_cases h : (hM.sz xs : Int) ≤ l
 · have hi := Lib.hid (show (if (hM.sz xs : Int) ≤ l then l - hM.sz xs else -1) = l - hM.sz xs by rw [if_pos h])
   go_enter Tryz.func32, Tryz.ntmps32
   go_wp2_with (go_at_call 62; refine (zkz _ _ _ _ _ _ hx2 hl).mono ?_; rw [hi.out]; rintro e w2 ⟨rfl, bel2⟩)
   go_ret
   exact ⟨hi.out ▸ rfl, hb.trans (bel2.mono hb.size)⟩
 · have hi := Lib.hid (show (if (hM.sz xs : Int) ≤ l then l - hM.sz xs else -1) = -1 by rw [if_neg h])
   go_enter Tryz.func32, Tryz.ntmps32
   go_wp2_with (go_at_call 62; refine (zkz _ _ _ _ _ _ hx2 hl).mono ?_; rw [hi.out]; rintro e w2 ⟨rfl, bel2⟩)
   go_ret
   exact ⟨hi.out ▸ rfl, hb.trans (bel2.mono hb.size)⟩
theorem zpd (A : Option Addr) (n c : Nat) (xs : List zae) (w : World) (hx : tM.R w w.heap.size [.slice A n c] xs) (hn : hM.sz xs ≤ 100000000) :
 Calls Tryz.prog 39 #[.agg #[.slice A n c]] w fun e w' => ∃ A' n' c', e = .returned (.agg #[.slice A' n' c']) ∧ tM.O w' (Iv w.heap.size w'.heap.size) [.slice A' n' c'] xs ∧ Below w.heap.size w w' := by
 have hb : Below w.heap.size w (((w.alloc (.cells #[.slice A n c] 28)).alloc (.cells #[.slice none 0 0] 38)).alloc (.cells #[.slice none 0 0] 38)) := (((Below.refl _ _).alloc (Nat.le_refl _) _).alloc (by simp) _).alloc (by simp; omega) _
 have hx2 := tM.later hx hb
 go_enter Tryz.func39, Tryz.ntmps39
 go_wp2_with (go_at_call 71; refine (zpa _ _ _ _ _ hx2 hn).mono ?_; rintro e w2 ⟨A2, n2, c2, rfl, own2, bel2⟩; have q1 : w2.cell? ⟨w.heap.size + 1, 0, none⟩ = some (.slice none 0 0) := (by rw [bel2.cell (by first | omega | (simp; done) | (simp; omega))]; simp [go_sem]); have r1 : w2.frozen? ⟨w.heap.size + 1, 0, none⟩ = false := (by rw [bel2.frozen (by first | omega | (simp; done) | (simp; omega))]; simp [go_sem]); have q2 : w2.cell? ⟨w.heap.size + 1 + 1, 0, none⟩ = some (.slice none 0 0) := (by rw [bel2.cell (by simp)]; simp [go_sem]); have r2 : w2.frozen? ⟨w.heap.size + 1 + 1, 0, none⟩ = false := (by rw [bel2.frozen (by simp)]; simp [go_sem]); have hs : w.heap.size + 1 + 1 + 1 ≤ w2.heap.size := (by have := bel2.size; simpa using this))
 have m1 : Mid (w.heap.size + 1) (w.heap.size + 1 + 1 + 1) w2 ((w2.setCell ⟨w.heap.size + 1 + 1, 0, none⟩ (Value.slice A2 n2 c2)).setCell ⟨w.heap.size + 1, 0, none⟩ (Value.slice A2 n2 c2)) :=
  (Mid.of_grown (zav w2 (w.heap.size + 1 + 1) 0 _) fun k hk => by injection hk with hk; omega).trans (Mid.of_grown (zav _ (w.heap.size + 1) 0 _) fun k hk => by injection hk with hk; omega)
 refine bodyPost_ret (v := .agg #[.slice A2 n2 c2]) (by simp [results, Tryz.results39, go_sem, q1, r1, q2, r2]) rfl ?_
 refine ⟨_, _, _, rfl, ?_, ?_⟩
 · exact tM.oiv (tM.omid own2 m1 (.inr (by simp)) (Nat.le_refl _)) (by simp; omega) m1.size
 · exact (hb.trans (bel2.mono hb.size)).trans ((m1.toBelow (by omega)).mono (by omega))
theorem zpe (A A' : Option Addr) (n c n' c' : Nat) (xs : List zae) (w : World) (hx : tM.R w w.heap.size [.slice A n c] xs) (hy : tM.R w w.heap.size [.slice A' n' c'] xs) (hn : hM.sz xs ≤ 100000000) :
 Calls Tryz.prog 44 #[.agg #[.slice A n c], .agg #[.slice A' n' c']] w fun e w' => e = .returned (.bool true) ∧ Below w.heap.size w w' := by
 have hb : Below w.heap.size w ((w.alloc (.cells #[.slice A n c] 38)).alloc (.cells #[.slice A' n' c'] 38)) := ((Below.refl _ _).alloc (Nat.le_refl _) _).alloc (by simp) _
 have hx2 := tM.later hx hb
 have hy2 := tM.later hy hb
 go_enter Tryz.func44, Tryz.ntmps44
 go_wp2_with (go_at_call 84; refine (zpc _ _ _ _ _ _ _ _ hx2 hy2 hn).mono ?_; rintro e w2 ⟨rfl, bel2⟩)
 go_ret
 exact ⟨rfl, hb.trans (bel2.mono hb.size)⟩
theorem cl_M (x : List zae) : hM.cnt x ≤ 10 * hM.sz x + 10 := by
 have key : hSt.cntL x ≤ 2 * (x.length + hSt.szL x) := by
  induction x with
  | nil => simp [Hs.cntL]
  | cons y ys ih =>
   obtain ⟨s, l, zs⟩ := y
   rw [Hs.cntL, Hs.szL, zin, zfs, List.length_cons]
   omega
 show hSt.cntL x ≤ 10 * (x.length + hSt.szL x) + 10
 omega
theorem zpf {j : Nat} (h : 0 < j) : zco j = zco (j / 10) ++ [UInt8.ofNat (48 + j % 10)] := by rw [zco, if_neg (by omega)]
theorem zpg (j : Nat) (wr : World) : (convert 203 9 (.slice (some ⟨wr.heap.size, 0, none⟩) 1 1)).run Tryz.prog (wr.alloc (.cells #[.int .u8 (48 + (j : Int) % 10)] 5)) = .ok (.string ⟨[UInt8.ofNat (48 + j % 10)].toArray⟩) (wr.alloc (.cells #[.int .u8 (48 + (j : Int) % 10)] 5)) := by
 refine run_convert_bytes_back _ _ _ 5 ⟨wr.heap.size, 0, none⟩ 1 [UInt8.ofNat (48 + j % 10)] Tryz.underlying203 Tryz.underlying5 Tryz.underlying9 ?_
 intro i hi
 obtain rfl : i = 0 := by simpa using hi
 have e0 : (⟨wr.heap.size, 0, none⟩ : Addr).add 0 = ⟨wr.heap.size, 0, none⟩ := rfl
 rw [e0, cell_of_row _ wr.heap.size 0 _ 5 (0, 0) (heap_alloc_new wr _)]
 simp
 omega
theorem zk1 (a b : ByteArray) : (a ++ b).data.toList = a.data.toList ++ b.data.toList := by simp
theorem zph {j : Nat} {s : ByteArray} {D : List UInt8} (h : 0 < j) (H : zco j ++ s.data.toList = D) : zco (j / 10) ++ ((⟨#[48 + UInt8.ofNat (j % 10)]⟩ : ByteArray) ++ s).data.toList = D := by
 rw [zpf h, List.append_assoc] at H
 rw [zk1, ← H, UInt8.ofNat_add]
 rfl
theorem zpi {k : Nat} {s : ByteArray} (H : zco 0 ++ s.data.toList = zco k) : (⟨#[109]⟩ ++ s : ByteArray) = ⟨(109 :: zco k).toArray⟩ := by
 rw [← H]
 apply ByteArray.ext
 apply Array.toList_inj.1
 rw [zk1, show zco 0 = [] by rw [zco]; rfl]
 rfl
theorem zpj (k : Nat) (w : World) (hk : k ≤ 1000000000) :
 Calls Tryz.prog 131 #[.int .i64 k] w fun e w' => e = .returned (.string (zet k)) ∧ Below w.heap.size w w' := by
 by_cases h0 : k = 0
 · subst h0
   go_enter Tryz.func131, Tryz.ntmps131
   go_wp2
   go_ret
   exact ⟨rfl, Below.refl _ _⟩
 have hR := Lib.hid (show zet (k : Int) = ⟨(109 :: zco k).toArray⟩ by rw [zet, if_neg (by omega), Int.toNat_natCast])
 have hL := zkx k
 have HL := Lib.hid (show (zco k).length ≤ 1000000000 by omega)
 clear hL
 go_enter Tryz.func131, Tryz.ntmps131
 go_wp2
 go_loopw [0, 3] (fun i v wr => ∃ (j : Nat) (s : ByteArray), i = .int .i64 j ∧ j ≤ k ∧ v = .string s ∧ Hid (zco j ++ s.data.toList = zco k) ∧ s.size ≤ 1000000000 ∧ Below w.heap.size w wr) (fun i _ _ => (intOf i).toNat)
 case atStart => exact ⟨k, ⟨#[]⟩, rfl, by omega, rfl, Lib.hid (by simp), Nat.zero_le _, Below.refl _ _⟩
 case round =>
  obtain ⟨j, s, rfl, hj, rfl, H, hs, hb⟩ := hrel
  by_cases hlt : 0 < j
  · have hconv := zpg j wr
    go_wp2
    go_roundw
    case rel =>
     have h2 := zph hlt H.out
     have h3 := congrArg List.length h2
     have h4 := HL.out
     rw [List.length_append] at h3
     exact ⟨j / 10, _, by go_num, by omega, rfl, Lib.hid h2, by show ((⟨#[48 + UInt8.ofNat (j % 10)]⟩ : ByteArray) ++ s).data.size ≤ _; rw [← Array.length_toList]; omega, hb.alloc hb.size _⟩
    case measure => simp [intOf]; omega
  · obtain rfl : j = 0 := by omega
    go_wp2
    go_ret
    exact ⟨by rw [hR.out, ← zpi H.out]; rfl, hb⟩
theorem zpk (A : Option Addr) (n c : Nat) (k : Int) (xs : List zae) (w : World) (F : Nat → Prop) (hx : tM.O w F [.slice A n c] xs) (hk : 0 ≤ k ∧ k + (hM.cnt xs : Int) ≤ 1000000000) :
 Calls Tryz.prog 87 #[.slice A n c, .int .i64 k] w fun e w' => e = .returned (.int .i64 (k + hM.cnt xs)) ∧ tM.O w' F [.slice A n c] (hM.mark k xs) ∧ Chg F w w' := by
 have ow := sl_O.1 hx
 have hcap := ow.read.cap
 obtain rfl : xs.length = n := hcap.1
 have hl : xs.length ≤ 9223372036854775807 := by have h1 := hcap.2; unfold maxLen at h1; omega
 clear hcap
 have hcn : k + (hSt.cntL xs : Int) ≤ 1000000000 := hk.2
 obtain ⟨k, rfl⟩ : ∃ q : Nat, k = q := ⟨k.toNat, by omega⟩
 clear hx
 go_enter Tryz.func87, Tryz.ntmps87
 go_wp2
 go_loopw [1, 5] (fun q i wr => ∃ j : Nat, i = .int .i64 j ∧ j ≤ xs.length ∧ q = .int .i64 ((k : Int) + (hSt.cntL (xs.take j) : Int)) ∧ OS tSt 78 wr F (.slice A xs.length c) ((hSt.mkL k xs).take j ++ xs.drop j) ∧ Chg F w wr)
  (fun _ i _ => xs.length - (intOf i).toNat)
 case atStart => exact ⟨0, rfl, by omega, by simp [Hs.cntL], by simpa using ow, Chg.refl _ _⟩
 case round =>
  obtain ⟨j, rfl, hj, rfl, own, hg⟩ := hrel
  by_cases hlt : j < xs.length
  · have hml := Lib.hid (hSt.mkL_len k xs)
    have hX := Lib.hid (List.getElem?_eq_getElem hlt)
    have hc1 := hSt.cntL_at hX.out
    have hct2 := Lib.hid (hSt.cntL_take hX.out)
    have hmk := Lib.hid (hSt.mkL_at k hX.out)
    generalize xs[j] = x at hX hc1 hct2 hmk
    obtain ⟨s, l0, ys⟩ := x
    rw [zin] at hc1
    have hyj := Lib.hid (show ((hSt.mkL k xs).take j ++ xs.drop j)[j]? = some (s, l0, ys) by rw [M.mid_at hml.out]; exact hX.out)
    have hz := zil ys
    have hmt := zpj (k + hSt.cntL (xs.take j)) wr (by omega)
    rw [Int.natCast_add] at hmt
    have hms := Lib.hid (zo7 ((k : Int) + (hSt.cntL (xs.take j) : Int)))
    go_wp2_with (first | (go_at_call 131; refine hmt.mono ?_; clear hmt; rintro e w2 ⟨rfl, bel2⟩; have own2 := (own.real.keep (fun b hb => bel2.block b hb.2)).wide (F' := F) (fun b hb => hb.1); obtain ⟨css, Fs, hole, cs, hcs, hE⟩ := own2.openAt hyj.out; obtain ⟨A0, n0, c0, rfl, -, hE⟩ := st_O.1 hE; obtain ⟨g, rfl, hFg, hFn, hgl, -⟩ := hole.form (List.getElem?_eq_some_iff.1 hyj.out).1; have q0 := (hole.cell hcs (j := 0) rfl).1; have r0 := (hole.cell hcs (j := 0) rfl).2; have q1 := (hole.cell hcs (j := 1) rfl).1; have r1 := (hole.cell hcs (j := 1) rfl).2; have q2 := (hole.cell hcs (j := 2) rfl).1; change w2.cell? ⟨g, j * 3 + 0, none⟩ = _ at q0; change w2.frozen? ⟨g, j * 3 + 0, none⟩ = _ at r0; change w2.cell? ⟨g, j * 3 + 1, none⟩ = _ at q1; change w2.frozen? ⟨g, j * 3 + 1, none⟩ = _ at r1; change w2.cell? ⟨g, j * 3 + 2, none⟩ = _ at q2; rw [Nat.add_zero] at q0 r0) | (go_at_call 132; refine (zo6 _ _ _ _ _ _ (Fs j) (tSdS.okeep (fun b hb => (heap_setCell_other _ ⟨g, j * 3 + 1, none⟩ b _ (fun e => hFn (by simp only at e; rw [← e]; exact hb))).trans (heap_setCell_other w2 ⟨g, j * 3, none⟩ b _ (fun e => hFn (by simp only at e; rw [← e]; exact hb)))) hE) (by omega)).mono ?_; rintro e w3 ⟨rfl, o3, ch3⟩))
    go_roundw
    case rel =>
     have s0 := hole.set hcs 0 (by decide) (.string (zet ((k : Int) + (hSt.cntL (xs.take j) : Int))))
     have s1 := s0.1.set s0.2 1 (by decide) (.int .i64 ((k : Int) + (hSt.cntL (xs.take j) : Int) + 1))
     have h3 := (s1.1.chg ch3).fill s1.2 (y := (zet ((k : Int) + (hSt.cntL (xs.take j) : Int)), (k : Int) + (hSt.cntL (xs.take j) : Int) + 1, hSdS.mark ((k : Int) + (hSt.cntL (xs.take j) : Int) + 1 + 1) ys)) (st_O.2 ⟨A0, n0, c0, rfl, by have := hms.out; unfold maxLen; omega, o3⟩)
     have hmk2 : (hSt.mkL k xs)[j]? = some (zet ((k : Int) + (hSt.cntL (xs.take j) : Int)), (k : Int) + (hSt.cntL (xs.take j) : Int) + 1, hSdS.mark ((k : Int) + (hSt.cntL (xs.take j) : Int) + 1 + 1) ys) := hmk.out
     rw [M.set_mid hml.out hmk2] at h3
     exact ⟨j + 1, by go_num, by omega, by rw [hct2.out, zin]; go_num, h3, ((hg.trans (Chg.of_below bel2 F)).trans ((Chg.set w2 g (j * 3) _ hFg).trans (Chg.set _ g (j * 3 + 1) _ hFg))).trans (ch3.wide hole.fits)⟩
    case measure => simp [intOf]; omega
  · obtain rfl : xs.length = j := by omega
    go_wp2
    go_ret
    rw [List.take_of_length_le (by rw [Hs.mkL_len]; omega), List.drop_eq_nil_of_le (by omega), List.append_nil] at own
    exact ⟨by rw [List.take_of_length_le (Nat.le_refl _)]; rfl, sl_O.2 own, hg⟩
theorem zpl (A : Option Addr) (n c : Nat) (k : Int) (xs : List zae) (w : World) (F : Nat → Prop) (hx : tM.O w F [.slice A n c] xs) (hF : ∀ b, F b → b < w.heap.size) (hk : 0 ≤ k ∧ k + (hM.cnt xs : Int) ≤ 1000000000) :
 Calls Tryz.prog 47 #[.agg #[.slice A n c], .int .i64 k] w fun e w' => e = .returned (.int .i64 (k + hM.cnt xs)) ∧ tM.O w' F [.slice A n c] (hM.mark k xs) ∧ Chg F w w' := by
 have hb : Below w.heap.size w (w.alloc (.cells #[.slice A n c] 38)) := (Below.refl _ _).alloc (Nat.le_refl _) _
 have hx2 : tM.O (w.alloc (.cells #[.slice A n c] 38)) F [.slice A n c] xs := tM.okeep (fun b h => hb.block b (hF b h)) hx
 go_enter Tryz.func47, Tryz.ntmps47
 go_wp2_with (go_at_call 87; refine (zpk _ _ _ _ _ _ _ hx2 hk).mono ?_; rintro e w2 ⟨rfl, own2, m2⟩)
 go_ret
 exact ⟨rfl, own2, (Chg.of_below hb _).trans m2⟩
end
section
open Go.RowKit
theorem ze1 {w : World} {B : Nat} {A : Option Addr} {n c : Nat} {xs : List (Int × Int)} (h : tSdS.R w B [.slice A n c] xs) : RA sd 2 w B A n xs ∧ n ≤ c ∧ c ≤ maxLen := (sl_R.1 h).flat
theorem zpm {s t : ByteArray} (h : ¬ s = t) : ¬ s.toList = t.toList := fun e => h (by
 rw [Lib.toList_data, Lib.toList_data] at e
 exact ByteArray.ext (Array.toList_inj.1 e))
end
end Go.Proofs.YtffhodocjjkkoaaGreat
