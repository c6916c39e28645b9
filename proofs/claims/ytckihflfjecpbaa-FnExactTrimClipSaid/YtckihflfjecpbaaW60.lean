import Derived.Test.YtckihflfjecpbaaW50
namespace Go.Proofs.Ytckihflfjecpbaa
open Go.RowKit
set_option maxHeartbeats 1000000
set_option maxRecDepth 100000
theorem ei_cl : EI Try.prog 63 78 (.agg #[.int .i64 0, .int .i64 0, .int .i64 0, .int .i64 0, .int .i64 0]) 5 40 := ⟨Try.underlying63, by kernel_rfl, rfl, by decide⟩
def cl (p : (Int × Int × Int × Int × Int)) : List Value := [.int .i64 p.1, .int .i64 p.2.1, .int .i64 p.2.2.1, .int .i64 p.2.2.2.1, .int .i64 p.2.2.2.2]
theorem cl_len (p : (Int × Int × Int × Int × Int)) : (cl p).length = 5 := rfl
abbrev tCl : Ty (Int × Int × Int × Int × Int) := Ty.flat 5 (by decide) (0, 0, 0, 0, 0) cl cl_len (by simp [cl, Value.oneCell'])
abbrev hCl : Hs (Int × Int × Int × Int × Int) := hI.prod (hI.prod (hI.prod (hI.prod hI)))
abbrev tT : Ty (List (Int × Int × Int × Int × Int)) := tCl.sl 78
abbrev hT : Hs (List (Int × Int × Int × Int × Int)) := hCl.sl
theorem hCl_szL (xs : List (Int × Int × Int × Int × Int)) : hCl.szL xs = 0 := by
  induction xs with
  | nil => rfl
  | cons x xs ih => rw [Hs.szL, ih]; rfl
theorem hCl_cntL (xs : List (Int × Int × Int × Int × Int)) : hCl.cntL xs = 5 * xs.length := by
  induction xs with
  | nil => rfl
  | cons x xs ih =>
    rw [Hs.cntL, ih, List.length_cons]
    show (1 + (1 + (1 + (1 + 1)))) + _ = _
    omega
theorem hT_sz (xs : List (Int × Int × Int × Int × Int)) : hT.sz xs = xs.length := by show xs.length + hCl.szL xs = _; rw [hCl_szL]; rfl
theorem hT_cnt (xs : List (Int × Int × Int × Int × Int)) : hT.cnt xs = 5 * xs.length := hCl_cntL xs
theorem cl_T (x : List (Int × Int × Int × Int × Int)) : hT.cnt x ≤ 10 * hT.sz x + 10 := by rw [hT_sz, hT_cnt]; omega
theorem mark_cl (k : Int) (x : (Int × Int × Int × Int × Int)) : hCl.mark k x = (k, k + 1, k + 2, k + 3, k + 4) := by
  simp [Hs.prod, hI]
  try omega
theorem laws_toClip (p0 p1 p2 p3 p4 : Int) (w : World) :
    Calls Try.prog 138 #[.agg #[.int .i64 p0, .int .i64 p1, .int .i64 p2, .int .i64 p3, .int .i64 p4]] w fun e w' => e = .returned (.agg #[.int .i64 p0, .int .i64 p1, .int .i64 p2, .int .i64 p3, .int .i64 p4]) ∧ Below w.heap.size w w' := by
  go_enter Try.func138, Try.ntmps138
  go_wp2
  exact bodyPost_ret (v := .agg #[.int .i64 p0, .int .i64 p1, .int .i64 p2, .int .i64 p3, .int .i64 p4]) (by simp [results, Try.results138, go_sem]) rfl ⟨rfl, (((Below.refl _ _).alloc (Nat.le_refl _) _).alloc (by simp) _).alloc (by simp; omega) _⟩
theorem nf_eq_Clip (p0 p1 p2 p3 p4 : Int) (w : World) :
    Calls Try.prog 141 #[.agg #[.int .i64 p0, .int .i64 p1, .int .i64 p2, .int .i64 p3, .int .i64 p4], .agg #[.int .i64 p0, .int .i64 p1, .int .i64 p2, .int .i64 p3, .int .i64 p4]] w fun e w' => e = .returned (.bool true) ∧ Below w.heap.size w w' := by
  go_enter Try.func141, Try.ntmps141
  go_wp2
  go_ret
  exact ⟨rfl, ((Below.refl _ _).alloc (Nat.le_refl _) _).alloc (by simp) _⟩
theorem nf_to_T_ (A : Option Addr) (n c : Nat) (xs : List (Int × Int × Int × Int × Int)) (w : World) (hx : tT.R w w.heap.size [.slice A n c] xs) (hn : hT.sz xs ≤ 100000000) :
    Calls Try.prog 105 #[.slice A n c] w fun e w' => ∃ A' n' c', e = .returned (.slice A' n' c') ∧ tT.O w' (Iv w.heap.size w'.heap.size) [.slice A' n' c'] xs ∧ Below w.heap.size w w' := by
  have hr := sl_R.1 hx
  obtain rfl : xs.length = n := hr.cap.1
  rw [hT_sz] at hn
  clear hx
  go_enter Try.func105, Try.ntmps105
  go_wp2_with (at_make; refine wpList_mk ei_cl rfl _ _ rfl xs.length _ _ rfl rfl rfl rfl (by omega) (by unfold maxLen; omega) ?_; intro w1 own1 bel1)
  have hs1 : w.heap.size + 1 ≤ w1.heap.size := (World.ownsRow.lt own1 _ rfl).2
  have own2 : OS tCl 78 w1 (Iv w.heap.size (w.heap.size + 1)) (.slice (some ⟨w.heap.size, 0, none⟩) xs.length xs.length) (List.replicate xs.length (0, 0, 0, 0, 0)) :=
    OS.made (zc := [.int .i64 0, .int .i64 0, .int .i64 0, .int .i64 0, .int .i64 0]) (fun _ _ => rfl) rfl ⟨Nat.le_refl _, by omega⟩ own1
  clear own1
  go_loopw [4] (fun i wr => ∃ k : Nat, i = .int .i64 k ∧ k ≤ xs.length ∧ OS tCl 78 wr (Iv w.heap.size (w.heap.size + 1)) (.slice (some ⟨w.heap.size, 0, none⟩) xs.length xs.length) (xs.take k ++ (List.replicate xs.length (0, 0, 0, 0, 0)).drop k) ∧ w.heap.size + 1 ≤ wr.heap.size ∧ Below w.heap.size w wr)
    (fun i _ => xs.length - (intOf i).toNat)
  case atStart => exact ⟨0, rfl, by omega, by simpa using own2, hs1, bel1⟩
  case round =>
    obtain ⟨k, rfl, hk, own, hsz, hb⟩ := hrel
    by_cases hlt : k < xs.length
    · have hX := Lib.hid (List.getElem?_eq_getElem hlt)
      obtain ⟨b, o, c1, cs, hv, hab, -, hE, hc⟩ := (hr.below hb).atX hX.out
      simp only [Value.slice.injEq] at hv
      obtain ⟨rfl, -, rfl⟩ := hv
      generalize xs[k] = x at hX hE
      obtain ⟨p0, p1, p2, p3, p4⟩ := x
      obtain rfl : cs = [.int .i64 p0, .int .i64 p1, .int .i64 p2, .int .i64 p3, .int .i64 p4] := hE
      have hc0 : wr.cell? ⟨b, o + k * 5, none⟩ = some (.int .i64 p0) := hc 0 _ rfl
      have hc1 : wr.cell? ⟨b, o + k * 5 + 1, none⟩ = some (.int .i64 p1) := hc 1 _ rfl
      have hc2 : wr.cell? ⟨b, o + k * 5 + 2, none⟩ = some (.int .i64 p2) := hc 2 _ rfl
      have hc3 : wr.cell? ⟨b, o + k * 5 + 3, none⟩ = some (.int .i64 p3) := hc 3 _ rfl
      have hc4 : wr.cell? ⟨b, o + k * 5 + 4, none⟩ = some (.int .i64 p4) := hc 4 _ rfl
      have hD := Lib.hid (show (xs.take k ++ (List.replicate xs.length ((0, 0, 0, 0, 0) : (Int × Int × Int × Int × Int))).drop k)[k]? = some (0, 0, 0, 0, 0) by rw [M.mid_at (by rw [List.length_replicate])]; simp [hlt])
      clear hc
      go_wp2_with (go_at_call 138; refine (laws_toClip _ _ _ _ _ _).mono ?_; rintro e w2 ⟨rfl, bel2⟩; have own' := own.below bel2 hsz; obtain ⟨css, Fs, hole, cs, hcs, hE⟩ := own'.openAt hD.out; obtain rfl : cs = [.int .i64 0, .int .i64 0, .int .i64 0, .int .i64 0, .int .i64 0] := hE; have q0 : w2.cell? ⟨w.heap.size, k * 5, none⟩ = some (.int .i64 0) := (hole.cell hcs (j := 0) rfl).1; have r0 : w2.frozen? ⟨w.heap.size, k * 5, none⟩ = false := (hole.cell hcs (j := 0) rfl).2; have q1 : w2.cell? ⟨w.heap.size, k * 5 + 1, none⟩ = some (.int .i64 0) := (hole.cell hcs (j := 1) rfl).1; have r1 : w2.frozen? ⟨w.heap.size, k * 5 + 1, none⟩ = false := (hole.cell hcs (j := 1) rfl).2; have q2 : w2.cell? ⟨w.heap.size, k * 5 + 2, none⟩ = some (.int .i64 0) := (hole.cell hcs (j := 2) rfl).1; have r2 : w2.frozen? ⟨w.heap.size, k * 5 + 2, none⟩ = false := (hole.cell hcs (j := 2) rfl).2; have q3 : w2.cell? ⟨w.heap.size, k * 5 + 3, none⟩ = some (.int .i64 0) := (hole.cell hcs (j := 3) rfl).1; have r3 : w2.frozen? ⟨w.heap.size, k * 5 + 3, none⟩ = false := (hole.cell hcs (j := 3) rfl).2; have q4 : w2.cell? ⟨w.heap.size, k * 5 + 4, none⟩ = some (.int .i64 0) := (hole.cell hcs (j := 4) rfl).1; have r4 : w2.frozen? ⟨w.heap.size, k * 5 + 4, none⟩ = false := (hole.cell hcs (j := 4) rfl).2)
      go_roundw
      case rel =>
        have s0 := hole.set hcs 0 (by decide) (.int .i64 p0)
        have s1 := s0.1.set s0.2 1 (by decide) (.int .i64 p1)
        have s2 := s1.1.set s1.2 2 (by decide) (.int .i64 p2)
        have s3 := s2.1.set s2.2 3 (by decide) (.int .i64 p3)
        have s4 := s3.1.set s3.2 4 (by decide) (.int .i64 p4)
        have h3 := s4.1.fill s4.2 (y := (p0, p1, p2, p3, p4)) rfl
        rw [M.set_mid (by rw [List.length_replicate]) hX.out] at h3
        have hb2 := hb.trans (bel2.mono hb.size)
        exact ⟨k + 1, by go_num, by omega, h3, by simpa using Nat.le_trans hsz bel2.size, ((((hb2.setCell (Nat.le_refl _) _).setCell (Nat.le_refl _) _).setCell (Nat.le_refl _) _).setCell (Nat.le_refl _) _).setCell (Nat.le_refl _) _⟩
      case measure => simp [intOf]; omega
    · go_wp2
      go_ret
      rw [List.take_of_length_le (by omega), List.drop_eq_nil_of_le (by simp; omega), List.append_nil] at own
      exact ⟨_, _, _, rfl, sl_O.2 (own.iv (Nat.le_refl _) hsz), hb⟩
theorem nf_eq_T_ (A A' : Option Addr) (n c n' c' : Nat) (xs : List (Int × Int × Int × Int × Int)) (w : World) (hx : tT.R w w.heap.size [.slice A n c] xs) (hy : tT.R w w.heap.size [.slice A' n' c'] xs) (hn : hT.sz xs ≤ 100000000) :
    Calls Try.prog 108 #[.slice A n c, .slice A' n' c'] w fun e w' => e = .returned (.bool true) ∧ Below w.heap.size w w' := by
  have hr := sl_R.1 hx
  have hr' := sl_R.1 hy
  obtain rfl : xs.length = n := hr.cap.1
  obtain rfl : xs.length = n' := hr'.cap.1
  rw [hT_sz] at hn
  clear hx hy
  go_enter Try.func108, Try.ntmps108
  go_wp2
  go_loopw [5] (fun i wr => ∃ k : Nat, i = .int .i64 k ∧ k ≤ xs.length ∧ Below w.heap.size w wr) (fun i _ => xs.length - (intOf i).toNat)
  case atStart => exact ⟨0, rfl, by omega, Below.refl _ _⟩
  case round =>
    obtain ⟨k, rfl, hk, hb⟩ := hrel
    by_cases hlt : k < xs.length
    · have hX := Lib.hid (List.getElem?_eq_getElem hlt)
      obtain ⟨b, o, c1, cs, hv, hab, -, hE, hc⟩ := (hr.below hb).atX hX.out
      obtain ⟨b', o', c1', cs', hv', hab', -, hE', hc'⟩ := (hr'.below hb).atX hX.out
      simp only [Value.slice.injEq] at hv hv'
      obtain ⟨rfl, -, rfl⟩ := hv
      obtain ⟨rfl, -, rfl⟩ := hv'
      generalize xs[k] = x at hX hE hE'
      obtain ⟨p0, p1, p2, p3, p4⟩ := x
      obtain rfl : cs = [.int .i64 p0, .int .i64 p1, .int .i64 p2, .int .i64 p3, .int .i64 p4] := hE
      obtain rfl : cs' = [.int .i64 p0, .int .i64 p1, .int .i64 p2, .int .i64 p3, .int .i64 p4] := hE'
      have hc0 : wr.cell? ⟨b, o + k * 5, none⟩ = some (.int .i64 p0) := hc 0 _ rfl
      have hc1 : wr.cell? ⟨b, o + k * 5 + 1, none⟩ = some (.int .i64 p1) := hc 1 _ rfl
      have hc2 : wr.cell? ⟨b, o + k * 5 + 2, none⟩ = some (.int .i64 p2) := hc 2 _ rfl
      have hc3 : wr.cell? ⟨b, o + k * 5 + 3, none⟩ = some (.int .i64 p3) := hc 3 _ rfl
      have hc4 : wr.cell? ⟨b, o + k * 5 + 4, none⟩ = some (.int .i64 p4) := hc 4 _ rfl
      have hd0 : wr.cell? ⟨b', o' + k * 5, none⟩ = some (.int .i64 p0) := hc' 0 _ rfl
      have hd1 : wr.cell? ⟨b', o' + k * 5 + 1, none⟩ = some (.int .i64 p1) := hc' 1 _ rfl
      have hd2 : wr.cell? ⟨b', o' + k * 5 + 2, none⟩ = some (.int .i64 p2) := hc' 2 _ rfl
      have hd3 : wr.cell? ⟨b', o' + k * 5 + 3, none⟩ = some (.int .i64 p3) := hc' 3 _ rfl
      have hd4 : wr.cell? ⟨b', o' + k * 5 + 4, none⟩ = some (.int .i64 p4) := hc' 4 _ rfl
      have hbr : b < wr.heap.size := Nat.lt_of_lt_of_le hab hb.size
      have hbr' : b' < wr.heap.size := Nat.lt_of_lt_of_le hab' hb.size
      clear hc hc'
      go_wp2
      go_region_held3 (fun w' => Below wr.heap.size wr w' ∧ w'.cell? ⟨b, o + k * 5, none⟩ = some (.int .i64 p0) ∧ w'.cell? ⟨b, o + k * 5 + 1, none⟩ = some (.int .i64 p1) ∧ w'.cell? ⟨b, o + k * 5 + 2, none⟩ = some (.int .i64 p2) ∧ w'.cell? ⟨b, o + k * 5 + 3, none⟩ = some (.int .i64 p3) ∧ w'.cell? ⟨b, o + k * 5 + 4, none⟩ = some (.int .i64 p4) ∧ w'.cell? ⟨b', o' + k * 5, none⟩ = some (.int .i64 p0) ∧ w'.cell? ⟨b', o' + k * 5 + 1, none⟩ = some (.int .i64 p1) ∧ w'.cell? ⟨b', o' + k * 5 + 2, none⟩ = some (.int .i64 p2) ∧ w'.cell? ⟨b', o' + k * 5 + 3, none⟩ = some (.int .i64 p3) ∧ w'.cell? ⟨b', o' + k * 5 + 4, none⟩ = some (.int .i64 p4))
        (first
          | exact ⟨below_drewN (Below.refl _ _) _, hc0, hc1, hc2, hc3, hc4, hd0, hd1, hd2, hd3, hd4⟩
          | exact ⟨keptB_all bel2 rfl (And.left (by assumption)), keptB bel2 rfl (And.left (by assumption)) hc0 hbr, keptB bel2 rfl (And.left (by assumption)) hc1 hbr, keptB bel2 rfl (And.left (by assumption)) hc2 hbr, keptB bel2 rfl (And.left (by assumption)) hc3 hbr, keptB bel2 rfl (And.left (by assumption)) hc4 hbr, keptB bel2 rfl (And.left (by assumption)) hd0 hbr', keptB bel2 rfl (And.left (by assumption)) hd1 hbr', keptB bel2 rfl (And.left (by assumption)) hd2 hbr', keptB bel2 rfl (And.left (by assumption)) hd3 hbr', keptB bel2 rfl (And.left (by assumption)) hd4 hbr'⟩)
        (first | (go_at_call 141; refine (nf_eq_Clip _ _ _ _ _ _).mono ?_; rintro e w2 ⟨rfl, bel2⟩))
      go_wp2
      go_roundw
      case rel => exact ⟨k + 1, by go_num, by omega, hb.trans ((keptB_all bel2 rfl (below_drewN (Below.refl _ _) _)).mono hb.size)⟩
      case measure => simp [intOf]; omega
    · go_wp2
      go_ret
      exact ⟨rfl, hb⟩
theorem nf_mark_T_ (A : Option Addr) (n c : Nat) (k : Int) (xs : List (Int × Int × Int × Int × Int)) (w : World) (F : Nat → Prop) (hx : tT.O w F [.slice A n c] xs) (hk : 0 ≤ k ∧ k + (hT.cnt xs : Int) ≤ 1000000000) :
    Calls Try.prog 109 #[.slice A n c, .int .i64 k] w fun e w' => e = .returned (.int .i64 (k + hT.cnt xs)) ∧ tT.O w' F [.slice A n c] (hT.mark k xs) ∧ Chg F w w' := by
  have ow := sl_O.1 hx
  obtain rfl : xs.length = n := ow.read.cap.1
  rw [hT_cnt] at *
  clear hx
  go_enter Try.func109, Try.ntmps109
  go_wp2
  go_loopw [1, 5] (fun q i wr => ∃ j : Nat, i = .int .i64 j ∧ j ≤ xs.length ∧ q = .int .i64 (k + 5 * (j : Int)) ∧ OS tCl 78 wr F (.slice A xs.length c) ((hCl.mkL k xs).take j ++ xs.drop j) ∧ Chg F w wr)
    (fun _ i _ => xs.length - (intOf i).toNat)
  case atStart => exact ⟨0, rfl, by omega, by go_num, by simpa using ow, Chg.refl _ _⟩
  case round =>
    obtain ⟨j, rfl, hj, rfl, own, hg⟩ := hrel
    by_cases hlt : j < xs.length
    · have hml := Lib.hid (hCl.mkL_len k xs)
      have hX := Lib.hid (List.getElem?_eq_getElem hlt)
      generalize xs[j] = x at hX
      obtain ⟨p0, p1, p2, p3, p4⟩ := x
      have hyj := Lib.hid (show ((hCl.mkL k xs).take j ++ xs.drop j)[j]? = some (p0, p1, p2, p3, p4) by rw [M.mid_at hml.out]; exact hX.out)
      obtain ⟨css, Fs, hole, cs, hcs, hE⟩ := own.openAt hyj.out
      obtain rfl : cs = [.int .i64 p0, .int .i64 p1, .int .i64 p2, .int .i64 p3, .int .i64 p4] := hE
      obtain ⟨g, rfl, hFg, hFn, hgl, -⟩ := hole.form (List.getElem?_eq_some_iff.1 hyj.out).1
      have hmk := Lib.hid (show (hCl.mkL k xs)[j]? = some (k + 5 * (j : Int), k + 5 * (j : Int) + 1, k + 5 * (j : Int) + 1 + 1, k + 5 * (j : Int) + 1 + 1 + 1, k + 5 * (j : Int) + 1 + 1 + 1 + 1) by rw [hCl.mkL_at k hX.out, mark_cl, hCl_cntL, List.length_take, Nat.min_eq_left hj]; simp only [Option.some.injEq, Prod.mk.injEq]; omega)
      have q0 : wr.cell? ⟨g, j * 5, none⟩ = some (.int .i64 p0) := (hole.cell hcs (j := 0) rfl).1
      have r0 : wr.frozen? ⟨g, j * 5, none⟩ = false := (hole.cell hcs (j := 0) rfl).2
      have q1 : wr.cell? ⟨g, j * 5 + 1, none⟩ = some (.int .i64 p1) := (hole.cell hcs (j := 1) rfl).1
      have r1 : wr.frozen? ⟨g, j * 5 + 1, none⟩ = false := (hole.cell hcs (j := 1) rfl).2
      have q2 : wr.cell? ⟨g, j * 5 + 2, none⟩ = some (.int .i64 p2) := (hole.cell hcs (j := 2) rfl).1
      have r2 : wr.frozen? ⟨g, j * 5 + 2, none⟩ = false := (hole.cell hcs (j := 2) rfl).2
      have q3 : wr.cell? ⟨g, j * 5 + 3, none⟩ = some (.int .i64 p3) := (hole.cell hcs (j := 3) rfl).1
      have r3 : wr.frozen? ⟨g, j * 5 + 3, none⟩ = false := (hole.cell hcs (j := 3) rfl).2
      have q4 : wr.cell? ⟨g, j * 5 + 4, none⟩ = some (.int .i64 p4) := (hole.cell hcs (j := 4) rfl).1
      have r4 : wr.frozen? ⟨g, j * 5 + 4, none⟩ = false := (hole.cell hcs (j := 4) rfl).2
      go_wp2
      go_roundw
      case rel =>
        have s0 := hole.set hcs 0 (by decide) (.int .i64 (k + 5 * (j : Int)))
        have c0 := hg.trans (Chg.set wr g (j * 5 + 0) (.int .i64 (k + 5 * (j : Int))) hFg)
        have s1 := s0.1.set s0.2 1 (by decide) (.int .i64 (k + 5 * (j : Int) + 1))
        have c1 := c0.trans (Chg.set _ g (j * 5 + 1) (.int .i64 (k + 5 * (j : Int) + 1)) hFg)
        have s2 := s1.1.set s1.2 2 (by decide) (.int .i64 (k + 5 * (j : Int) + 1 + 1))
        have c2 := c1.trans (Chg.set _ g (j * 5 + 2) (.int .i64 (k + 5 * (j : Int) + 1 + 1)) hFg)
        have s3 := s2.1.set s2.2 3 (by decide) (.int .i64 (k + 5 * (j : Int) + 1 + 1 + 1))
        have c3 := c2.trans (Chg.set _ g (j * 5 + 3) (.int .i64 (k + 5 * (j : Int) + 1 + 1 + 1)) hFg)
        have s4 := s3.1.set s3.2 4 (by decide) (.int .i64 (k + 5 * (j : Int) + 1 + 1 + 1 + 1))
        have c4 := c3.trans (Chg.set _ g (j * 5 + 4) (.int .i64 (k + 5 * (j : Int) + 1 + 1 + 1 + 1)) hFg)
        have h3 := s4.1.fill s4.2 (y := (k + 5 * (j : Int), k + 5 * (j : Int) + 1, k + 5 * (j : Int) + 1 + 1, k + 5 * (j : Int) + 1 + 1 + 1, k + 5 * (j : Int) + 1 + 1 + 1 + 1)) rfl
        rw [M.set_mid hml.out hmk.out] at h3
        exact ⟨j + 1, by go_num, by omega, by go_num, h3, c4⟩
      case measure => simp [intOf]; omega
    · obtain rfl : xs.length = j := by omega
      go_wp2
      go_ret
      rw [List.take_of_length_le (by rw [Hs.mkL_len]; omega), List.drop_eq_nil_of_le (by omega), List.append_nil] at own
      exact ⟨by go_num, sl_O.2 own, hg⟩
theorem nf_held_T_ (A : Option Addr) (n c : Nat) (k : Int) (xs : List (Int × Int × Int × Int × Int)) (w : World) (hx : tT.R w w.heap.size [.slice A n c] (hT.mark k xs)) (hk : 0 ≤ k ∧ k + (hT.cnt xs : Int) ≤ 1000000000) :
    Calls Try.prog 110 #[.slice A n c, .int .i64 k] w fun e w' => e = .returned (.int .i64 (k + hT.cnt xs)) ∧ Below w.heap.size w w' := by
  have hr : RS tCl w w.heap.size (.slice A n c) (hCl.mkL k xs) := sl_R.1 hx
  obtain rfl : xs.length = n := by rw [← hr.cap.1, Hs.mkL_len]
  have hml := Lib.hid (hCl.mkL_len k xs)
  rw [hT_cnt] at *
  clear hx
  go_enter Try.func110, Try.ntmps110
  go_wp2
  go_loop [1, 5] (fun q i => ∃ j : Nat, i = .int .i64 j ∧ j ≤ xs.length ∧ q = .int .i64 (k + 5 * (j : Int))) (fun _ i => xs.length - (intOf i).toNat)
  case atStart => exact ⟨0, rfl, by omega, by go_num⟩
  case round =>
    obtain ⟨j, rfl, hj, rfl⟩ := hrel
    by_cases hlt : j < xs.length
    · have hX := Lib.hid (List.getElem?_eq_getElem hlt)
      generalize xs[j] = x at hX
      have hmk := Lib.hid (show (hCl.mkL k xs)[j]? = some (k + 5 * (j : Int), k + 5 * (j : Int) + 1, k + 5 * (j : Int) + 1 + 1, k + 5 * (j : Int) + 1 + 1 + 1, k + 5 * (j : Int) + 1 + 1 + 1 + 1) by rw [hCl.mkL_at k hX.out, mark_cl, hCl_cntL, List.length_take, Nat.min_eq_left hj]; simp only [Option.some.injEq, Prod.mk.injEq]; omega)
      obtain ⟨b, o, c1, cs, hv, hab, -, hE, hc⟩ := hr.atX hmk.out
      simp only [Value.slice.injEq] at hv
      obtain ⟨rfl, -, rfl⟩ := hv
      obtain rfl : cs = [.int .i64 (k + 5 * (j : Int)), .int .i64 (k + 5 * (j : Int) + 1), .int .i64 (k + 5 * (j : Int) + 1 + 1), .int .i64 (k + 5 * (j : Int) + 1 + 1 + 1), .int .i64 (k + 5 * (j : Int) + 1 + 1 + 1 + 1)] := hE
      have hc0 : w.cell? ⟨b, o + j * 5, none⟩ = some (.int .i64 (k + 5 * (j : Int))) := hc 0 _ rfl
      have hc1 : w.cell? ⟨b, o + j * 5 + 1, none⟩ = some (.int .i64 (k + 5 * (j : Int) + 1)) := hc 1 _ rfl
      have hc2 : w.cell? ⟨b, o + j * 5 + 2, none⟩ = some (.int .i64 (k + 5 * (j : Int) + 1 + 1)) := hc 2 _ rfl
      have hc3 : w.cell? ⟨b, o + j * 5 + 3, none⟩ = some (.int .i64 (k + 5 * (j : Int) + 1 + 1 + 1)) := hc 3 _ rfl
      have hc4 : w.cell? ⟨b, o + j * 5 + 4, none⟩ = some (.int .i64 (k + 5 * (j : Int) + 1 + 1 + 1 + 1)) := hc 4 _ rfl
      clear hc
      go_wp2
      go_round
      case rel => exact ⟨j + 1, by go_num, by omega, by go_num⟩
      case measure => simp [intOf]; omega
    · obtain rfl : xs.length = j := by omega
      go_wp2
      go_ret
      exact ⟨by go_num, Below.refl _ _⟩
theorem nf_sz_T_ (A : Option Addr) (n c : Nat) (xs : List (Int × Int × Int × Int × Int)) (l : Int) (w : World) (hx : tT.R w w.heap.size [.slice A n c] xs) (hl : 0 ≤ l ∧ l ≤ 1000000000) :
    Calls Try.prog 102 #[.slice A n c, .int .i64 l] w fun e w' => e = .returned (.int .i64 (if (hT.sz xs : Int) ≤ l then l - hT.sz xs else -1)) ∧ Below w.heap.size w w' := by
  obtain ⟨h1, h2, h3⟩ := (sl_R.1 hx).cap
  have hn : n ≤ 9223372036854775807 := by unfold maxLen at h3; omega
  rw [hT_sz, h1]
  clear h1 h2 h3 hx
  by_cases h : (n : Int) ≤ l
  all_goals
    go_enter Try.func102, Try.ntmps102
    go_wp2
    go_ret
    exact ⟨rfl, Below.refl _ _⟩
theorem nf_sz_T (A : Option Addr) (n c : Nat) (xs : List (Int × Int × Int × Int × Int)) (l : Int) (w : World) (hx : tT.R w w.heap.size [.slice A n c] xs) (hl : 0 ≤ l ∧ l ≤ 1000000000) :
    Calls Try.prog 45 #[.agg #[.slice A n c], .int .i64 l] w fun e w' => e = .returned (.int .i64 (if (hT.sz xs : Int) ≤ l then l - hT.sz xs else -1)) ∧ Below w.heap.size w w' := by
  have hb : Below w.heap.size w (w.alloc (.cells #[.slice A n c] 61)) := (Below.refl _ _).alloc (Nat.le_refl _) _
  have hx2 := tT.later hx hb
  by_cases h : (hT.sz xs : Int) ≤ l
  · have hi := Lib.hid (show (if (hT.sz xs : Int) ≤ l then l - hT.sz xs else -1) = l - hT.sz xs by rw [if_pos h])
    go_enter Try.func45, Try.ntmps45
    go_wp2_with (go_at_call 102; refine (nf_sz_T_ _ _ _ _ _ _ hx2 hl).mono ?_; rw [hi.out]; rintro e w2 ⟨rfl, bel2⟩)
    go_ret
    exact ⟨hi.out ▸ rfl, hb.trans (bel2.mono hb.size)⟩
  · have hi := Lib.hid (show (if (hT.sz xs : Int) ≤ l then l - hT.sz xs else -1) = -1 by rw [if_neg h])
    go_enter Try.func45, Try.ntmps45
    go_wp2_with (go_at_call 102; refine (nf_sz_T_ _ _ _ _ _ _ hx2 hl).mono ?_; rw [hi.out]; rintro e w2 ⟨rfl, bel2⟩)
    go_ret
    exact ⟨hi.out ▸ rfl, hb.trans (bel2.mono hb.size)⟩
theorem nf_to_T (A : Option Addr) (n c : Nat) (xs : List (Int × Int × Int × Int × Int)) (w : World) (hx : tT.R w w.heap.size [.slice A n c] xs) (hn : hT.sz xs ≤ 100000000) :
    Calls Try.prog 47 #[.agg #[.slice A n c]] w fun e w' => ∃ A' n' c', e = .returned (.agg #[.slice A' n' c']) ∧ tT.O w' (Iv w.heap.size w'.heap.size) [.slice A' n' c'] xs ∧ Below w.heap.size w w' := by
  have hb : Below w.heap.size w (((w.alloc (.cells #[.slice A n c] 61)).alloc (.cells #[.slice none 0 0] 65)).alloc (.cells #[.slice none 0 0] 65)) := (((Below.refl _ _).alloc (Nat.le_refl _) _).alloc (by simp) _).alloc (by simp; omega) _
  have hx2 := tT.later hx hb
  go_enter Try.func47, Try.ntmps47
  go_wp2_with (go_at_call 105; refine (nf_to_T_ _ _ _ _ _ hx2 hn).mono ?_; rintro e w2 ⟨A2, n2, c2, rfl, own2, bel2⟩; have q1 : w2.cell? ⟨w.heap.size + 1, 0, none⟩ = some (.slice none 0 0) := (by rw [bel2.cell (by first | omega | (simp; done) | (simp; omega))]; simp [go_sem]); have r1 : w2.frozen? ⟨w.heap.size + 1, 0, none⟩ = false := (by rw [bel2.frozen (by first | omega | (simp; done) | (simp; omega))]; simp [go_sem]); have q2 : w2.cell? ⟨w.heap.size + 1 + 1, 0, none⟩ = some (.slice none 0 0) := (by rw [bel2.cell (by simp)]; simp [go_sem]); have r2 : w2.frozen? ⟨w.heap.size + 1 + 1, 0, none⟩ = false := (by rw [bel2.frozen (by simp)]; simp [go_sem]); have hs : w.heap.size + 1 + 1 + 1 ≤ w2.heap.size := (by have := bel2.size; simpa using this))
  have m1 : Mid (w.heap.size + 1) (w.heap.size + 1 + 1 + 1) w2 ((w2.setCell ⟨w.heap.size + 1 + 1, 0, none⟩ (Value.slice A2 n2 c2)).setCell ⟨w.heap.size + 1, 0, none⟩ (Value.slice A2 n2 c2)) :=
    (Mid.of_grown (grown_setCell w2 (w.heap.size + 1 + 1) 0 _) fun k hk => by injection hk with hk; omega).trans (Mid.of_grown (grown_setCell _ (w.heap.size + 1) 0 _) fun k hk => by injection hk with hk; omega)
  refine bodyPost_ret (v := .agg #[.slice A2 n2 c2]) (by simp [results, Try.results47, go_sem, q1, r1, q2, r2]) rfl ?_
  refine ⟨_, _, _, rfl, ?_, ?_⟩
  · exact tT.oiv (tT.omid own2 m1 (.inr (by simp)) (Nat.le_refl _)) (by simp; omega) m1.size
  · exact (hb.trans (bel2.mono hb.size)).trans ((m1.toBelow (by omega)).mono (by omega))
theorem nf_eq_T (A A' : Option Addr) (n c n' c' : Nat) (xs : List (Int × Int × Int × Int × Int)) (w : World) (hx : tT.R w w.heap.size [.slice A n c] xs) (hy : tT.R w w.heap.size [.slice A' n' c'] xs) (hn : hT.sz xs ≤ 100000000) :
    Calls Try.prog 49 #[.agg #[.slice A n c], .agg #[.slice A' n' c']] w fun e w' => e = .returned (.bool true) ∧ Below w.heap.size w w' := by
  have hb : Below w.heap.size w ((w.alloc (.cells #[.slice A n c] 65)).alloc (.cells #[.slice A' n' c'] 65)) := ((Below.refl _ _).alloc (Nat.le_refl _) _).alloc (by simp) _
  have hx2 := tT.later hx hb
  have hy2 := tT.later hy hb
  go_enter Try.func49, Try.ntmps49
  go_wp2_with (go_at_call 108; refine (nf_eq_T_ _ _ _ _ _ _ _ _ hx2 hy2 hn).mono ?_; rintro e w2 ⟨rfl, bel2⟩)
  go_ret
  exact ⟨rfl, hb.trans (bel2.mono hb.size)⟩
theorem nf_mark_T (A : Option Addr) (n c : Nat) (k : Int) (xs : List (Int × Int × Int × Int × Int)) (w : World) (F : Nat → Prop) (hx : tT.O w F [.slice A n c] xs) (hF : ∀ b, F b → b < w.heap.size) (hk : 0 ≤ k ∧ k + (hT.cnt xs : Int) ≤ 1000000000) :
    Calls Try.prog 50 #[.agg #[.slice A n c], .int .i64 k] w fun e w' => e = .returned (.int .i64 (k + hT.cnt xs)) ∧ tT.O w' F [.slice A n c] (hT.mark k xs) ∧ Chg F w w' := by
  have hb : Below w.heap.size w (w.alloc (.cells #[.slice A n c] 65)) := (Below.refl _ _).alloc (Nat.le_refl _) _
  have hx2 : tT.O (w.alloc (.cells #[.slice A n c] 65)) F [.slice A n c] xs := tT.okeep (fun b h => hb.block b (hF b h)) hx
  go_enter Try.func50, Try.ntmps50
  go_wp2_with (go_at_call 109; refine (nf_mark_T_ _ _ _ _ _ _ _ hx2 hk).mono ?_; rintro e w2 ⟨rfl, own2, m2⟩)
  go_ret
  exact ⟨rfl, own2, (Chg.of_below hb _).trans m2⟩
theorem nf_held_T (A : Option Addr) (n c : Nat) (k : Int) (xs : List (Int × Int × Int × Int × Int)) (w : World) (hx : tT.R w w.heap.size [.slice A n c] (hT.mark k xs)) (hk : 0 ≤ k ∧ k + (hT.cnt xs : Int) ≤ 1000000000) :
    Calls Try.prog 51 #[.agg #[.slice A n c], .int .i64 k] w fun e w' => e = .returned (.int .i64 (k + hT.cnt xs)) ∧ Below w.heap.size w w' := by
  have hb : Below w.heap.size w (w.alloc (.cells #[.slice A n c] 65)) := (Below.refl _ _).alloc (Nat.le_refl _) _
  have hx2 := tT.later hx hb
  go_enter Try.func51, Try.ntmps51
  go_wp2_with (go_at_call 110; refine (nf_held_T_ _ _ _ _ _ _ hx2 hk).mono ?_; rintro e w2 ⟨rfl, bel2⟩)
  go_ret
  exact ⟨rfl, hb.trans (bel2.mono hb.size)⟩
end Go.Proofs.Ytckihflfjecpbaa
