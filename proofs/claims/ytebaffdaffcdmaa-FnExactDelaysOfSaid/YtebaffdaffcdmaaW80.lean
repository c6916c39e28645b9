import Derived.Test.YtebaffdaffcdmaaW50
namespace Go.Proofs.Ytebaffdaffcdmaa
open Go.RowKit
set_option maxHeartbeats 1000000
set_option maxRecDepth 100000
theorem ei_sd : EI Try.prog 55 71 (.agg #[.int .i64 0, .int .i64 0]) 2 16 := ⟨Try.underlying55, by kernel_rfl, rfl, by decide⟩
def sd (p : (Int × Int)) : List Value := [.int .i64 p.1, .int .i64 p.2]
theorem sd_len (p : (Int × Int)) : (sd p).length = 2 := rfl
abbrev tSd : Ty (Int × Int) := Ty.flat 2 (by decide) (0, 0) sd sd_len (by simp [sd, Value.oneCell'])
abbrev hSd : Hs (Int × Int) := hI.prod hI
abbrev tSdS : Ty (List (Int × Int)) := tSd.sl 71
abbrev hSdS : Hs (List (Int × Int)) := hSd.sl
theorem hSd_szL (xs : List (Int × Int)) : hSd.szL xs = 0 := by
  induction xs with
  | nil => rfl
  | cons x xs ih => rw [Hs.szL, ih]; rfl
theorem hSd_cntL (xs : List (Int × Int)) : hSd.cntL xs = 2 * xs.length := by
  induction xs with
  | nil => rfl
  | cons x xs ih =>
    rw [Hs.cntL, ih, List.length_cons]
    show (1 + 1) + _ = _
    omega
theorem hSdS_sz (xs : List (Int × Int)) : hSdS.sz xs = xs.length := by show xs.length + hSd.szL xs = _; rw [hSd_szL]; rfl
theorem hSdS_cnt (xs : List (Int × Int)) : hSdS.cnt xs = 2 * xs.length := hSd_cntL xs
theorem cl_SdS (x : List (Int × Int)) : hSdS.cnt x ≤ 10 * hSdS.sz x + 10 := by rw [hSdS_sz, hSdS_cnt]; omega
theorem mark_sd (k : Int) (x : (Int × Int)) : hSd.mark k x = (k, k + 1) := by
  simp [Hs.prod, hI]
  try omega
theorem laws_toSend (p0 p1 : Int) (w : World) :
    Calls Try.prog 82 #[.agg #[.int .i64 p0, .int .i64 p1]] w fun e w' => e = .returned (.agg #[.int .i64 p0, .int .i64 p1]) ∧ Below w.heap.size w w' := by
  go_enter Try.func82, Try.ntmps82
  go_wp2
  exact bodyPost_ret (v := .agg #[.int .i64 p0, .int .i64 p1]) (by simp [results, Try.results82, go_sem]) rfl ⟨rfl, (((Below.refl _ _).alloc (Nat.le_refl _) _).alloc (by simp) _).alloc (by simp; omega) _⟩
theorem nf_eq_Send (p0 p1 : Int) (w : World) :
    Calls Try.prog 83 #[.agg #[.int .i64 p0, .int .i64 p1], .agg #[.int .i64 p0, .int .i64 p1]] w fun e w' => e = .returned (.bool true) ∧ Below w.heap.size w w' := by
  go_enter Try.func83, Try.ntmps83
  go_wp2
  go_ret
  exact ⟨rfl, ((Below.refl _ _).alloc (Nat.le_refl _) _).alloc (by simp) _⟩
theorem nf_to_SdS_ (A : Option Addr) (n c : Nat) (xs : List (Int × Int)) (w : World) (hx : tSdS.R w w.heap.size [.slice A n c] xs) (hn : hSdS.sz xs ≤ 100000000) :
    Calls Try.prog 75 #[.slice A n c] w fun e w' => ∃ A' n' c', e = .returned (.slice A' n' c') ∧ tSdS.O w' (Iv w.heap.size w'.heap.size) [.slice A' n' c'] xs ∧ Below w.heap.size w w' := by
  have hr := sl_R.1 hx
  obtain rfl : xs.length = n := hr.cap.1
  rw [hSdS_sz] at hn
  clear hx
  go_enter Try.func75, Try.ntmps75
  go_wp2_with (at_make; refine wpList_mk ei_sd rfl _ _ rfl xs.length _ _ rfl rfl rfl rfl (by omega) (by unfold maxLen; omega) ?_; intro w1 own1 bel1)
  have hs1 : w.heap.size + 1 ≤ w1.heap.size := (World.ownsRow.lt own1 _ rfl).2
  have own2 : OS tSd 71 w1 (Iv w.heap.size (w.heap.size + 1)) (.slice (some ⟨w.heap.size, 0, none⟩) xs.length xs.length) (List.replicate xs.length (0, 0)) :=
    OS.made (zc := [.int .i64 0, .int .i64 0]) (fun _ _ => rfl) rfl ⟨Nat.le_refl _, by omega⟩ own1
  clear own1
  go_loopw [4] (fun i wr => ∃ k : Nat, i = .int .i64 k ∧ k ≤ xs.length ∧ OS tSd 71 wr (Iv w.heap.size (w.heap.size + 1)) (.slice (some ⟨w.heap.size, 0, none⟩) xs.length xs.length) (xs.take k ++ (List.replicate xs.length (0, 0)).drop k) ∧ w.heap.size + 1 ≤ wr.heap.size ∧ Below w.heap.size w wr)
    (fun i _ => xs.length - (intOf i).toNat)
  case atStart => exact ⟨0, rfl, by omega, by simpa using own2, hs1, bel1⟩
  case round =>
    obtain ⟨k, rfl, hk, own, hsz, hb⟩ := hrel
    by_cases hlt : k < xs.length
    · have hX := Lib.hid (List.getElem?_eq_getElem hlt)
      obtain ⟨b, o, c1, cs, hv, hab, -, hE, hc⟩ := (hr.below hb).atX hX.out
      simp only [Value.slice.injEq] at hv
      obtain ⟨rfl, -, rfl⟩ := hv
      generalize xs[k] = x at hX hE
      obtain ⟨p0, p1⟩ := x
      obtain rfl : cs = [.int .i64 p0, .int .i64 p1] := hE
      have hc0 : wr.cell? ⟨b, o + k * 2, none⟩ = some (.int .i64 p0) := hc 0 _ rfl
      have hc1 : wr.cell? ⟨b, o + k * 2 + 1, none⟩ = some (.int .i64 p1) := hc 1 _ rfl
      have hD := Lib.hid (show (xs.take k ++ (List.replicate xs.length ((0, 0) : (Int × Int))).drop k)[k]? = some (0, 0) by rw [M.mid_at (by rw [List.length_replicate])]; simp [hlt])
      clear hc
      go_wp2_with (go_at_call 82; refine (laws_toSend _ _ _).mono ?_; rintro e w2 ⟨rfl, bel2⟩; have own' := own.below bel2 hsz; obtain ⟨css, Fs, hole, cs, hcs, hE⟩ := own'.openAt hD.out; obtain rfl : cs = [.int .i64 0, .int .i64 0] := hE; have q0 : w2.cell? ⟨w.heap.size, k * 2, none⟩ = some (.int .i64 0) := (hole.cell hcs (j := 0) rfl).1; have r0 : w2.frozen? ⟨w.heap.size, k * 2, none⟩ = false := (hole.cell hcs (j := 0) rfl).2; have q1 : w2.cell? ⟨w.heap.size, k * 2 + 1, none⟩ = some (.int .i64 0) := (hole.cell hcs (j := 1) rfl).1; have r1 : w2.frozen? ⟨w.heap.size, k * 2 + 1, none⟩ = false := (hole.cell hcs (j := 1) rfl).2)
      go_roundw
      case rel =>
        have s0 := hole.set hcs 0 (by decide) (.int .i64 p0)
        have s1 := s0.1.set s0.2 1 (by decide) (.int .i64 p1)
        have h3 := s1.1.fill s1.2 (y := (p0, p1)) rfl
        rw [M.set_mid (by rw [List.length_replicate]) hX.out] at h3
        have hb2 := hb.trans (bel2.mono hb.size)
        exact ⟨k + 1, by go_num, by omega, h3, by simpa using Nat.le_trans hsz bel2.size, (hb2.setCell (Nat.le_refl _) _).setCell (Nat.le_refl _) _⟩
      case measure => simp [intOf]; omega
    · go_wp2
      go_ret
      rw [List.take_of_length_le (by omega), List.drop_eq_nil_of_le (by simp; omega), List.append_nil] at own
      exact ⟨_, _, _, rfl, sl_O.2 (own.iv (Nat.le_refl _) hsz), hb⟩
theorem nf_eq_SdS_ (A A' : Option Addr) (n c n' c' : Nat) (xs : List (Int × Int)) (w : World) (hx : tSdS.R w w.heap.size [.slice A n c] xs) (hy : tSdS.R w w.heap.size [.slice A' n' c'] xs) (hn : hSdS.sz xs ≤ 100000000) :
    Calls Try.prog 76 #[.slice A n c, .slice A' n' c'] w fun e w' => e = .returned (.bool true) ∧ Below w.heap.size w w' := by
  have hr := sl_R.1 hx
  have hr' := sl_R.1 hy
  obtain rfl : xs.length = n := hr.cap.1
  obtain rfl : xs.length = n' := hr'.cap.1
  rw [hSdS_sz] at hn
  clear hx hy
  go_enter Try.func76, Try.ntmps76
  go_wp2
  go_loopw [5] (fun i wr => ∃ k : Nat, i = .int .i64 k ∧ k ≤ xs.length ∧ Below w.heap.size w wr) (fun i _ => xs.length - (intOf i).toNat)
  case atStart => exact ⟨0, rfl, by omega, Below.refl _ _⟩
  case round =>
    obtain ⟨k, rfl, hk, hb⟩ := hrel
    by_cases hlt : k < xs.length
    · have hX := Lib.hid (List.getElem?_eq_getElem hlt)
      obtain ⟨b, o, c1, cs, hv, hab, -, hE, hc⟩ := (hr.below hb).atX hX.out
      obtain ⟨b', o', c1', cs', hv', hab', -, hE', hc'⟩ := (hr'.below hb).atX hX.out
      simp only [Value.slice.injEq] at hv hv'
      obtain ⟨rfl, -, rfl⟩ := hv
      obtain ⟨rfl, -, rfl⟩ := hv'
      generalize xs[k] = x at hX hE hE'
      obtain ⟨p0, p1⟩ := x
      obtain rfl : cs = [.int .i64 p0, .int .i64 p1] := hE
      obtain rfl : cs' = [.int .i64 p0, .int .i64 p1] := hE'
      have hc0 : wr.cell? ⟨b, o + k * 2, none⟩ = some (.int .i64 p0) := hc 0 _ rfl
      have hc1 : wr.cell? ⟨b, o + k * 2 + 1, none⟩ = some (.int .i64 p1) := hc 1 _ rfl
      have hd0 : wr.cell? ⟨b', o' + k * 2, none⟩ = some (.int .i64 p0) := hc' 0 _ rfl
      have hd1 : wr.cell? ⟨b', o' + k * 2 + 1, none⟩ = some (.int .i64 p1) := hc' 1 _ rfl
      have hbr : b < wr.heap.size := Nat.lt_of_lt_of_le hab hb.size
      have hbr' : b' < wr.heap.size := Nat.lt_of_lt_of_le hab' hb.size
      clear hc hc'
      go_wp2
      go_region_held3 (fun w' => Below wr.heap.size wr w' ∧ w'.cell? ⟨b, o + k * 2, none⟩ = some (.int .i64 p0) ∧ w'.cell? ⟨b, o + k * 2 + 1, none⟩ = some (.int .i64 p1) ∧ w'.cell? ⟨b', o' + k * 2, none⟩ = some (.int .i64 p0) ∧ w'.cell? ⟨b', o' + k * 2 + 1, none⟩ = some (.int .i64 p1))
        (first
          | exact ⟨below_drewN (Below.refl _ _) _, hc0, hc1, hd0, hd1⟩
          | exact ⟨keptB_all bel2 rfl (And.left (by assumption)), keptB bel2 rfl (And.left (by assumption)) hc0 hbr, keptB bel2 rfl (And.left (by assumption)) hc1 hbr, keptB bel2 rfl (And.left (by assumption)) hd0 hbr', keptB bel2 rfl (And.left (by assumption)) hd1 hbr'⟩)
        (first | (go_at_call 83; refine (nf_eq_Send _ _ _).mono ?_; rintro e w2 ⟨rfl, bel2⟩))
      go_wp2
      go_roundw
      case rel => exact ⟨k + 1, by go_num, by omega, hb.trans ((keptB_all bel2 rfl (below_drewN (Below.refl _ _) _)).mono hb.size)⟩
      case measure => simp [intOf]; omega
    · go_wp2
      go_ret
      exact ⟨rfl, hb⟩
theorem nf_mark_SdS_ (A : Option Addr) (n c : Nat) (k : Int) (xs : List (Int × Int)) (w : World) (F : Nat → Prop) (hx : tSdS.O w F [.slice A n c] xs) (hk : 0 ≤ k ∧ k + (hSdS.cnt xs : Int) ≤ 1000000000) :
    Calls Try.prog 73 #[.slice A n c, .int .i64 k] w fun e w' => e = .returned (.int .i64 (k + hSdS.cnt xs)) ∧ tSdS.O w' F [.slice A n c] (hSdS.mark k xs) ∧ Chg F w w' := by
  have ow := sl_O.1 hx
  obtain rfl : xs.length = n := ow.read.cap.1
  rw [hSdS_cnt] at *
  clear hx
  go_enter Try.func73, Try.ntmps73
  go_wp2
  go_loopw [1, 5] (fun q i wr => ∃ j : Nat, i = .int .i64 j ∧ j ≤ xs.length ∧ q = .int .i64 (k + 2 * (j : Int)) ∧ OS tSd 71 wr F (.slice A xs.length c) ((hSd.mkL k xs).take j ++ xs.drop j) ∧ Chg F w wr)
    (fun _ i _ => xs.length - (intOf i).toNat)
  case atStart => exact ⟨0, rfl, by omega, by go_num, by simpa using ow, Chg.refl _ _⟩
  case round =>
    obtain ⟨j, rfl, hj, rfl, own, hg⟩ := hrel
    by_cases hlt : j < xs.length
    · have hml := Lib.hid (hSd.mkL_len k xs)
      have hX := Lib.hid (List.getElem?_eq_getElem hlt)
      generalize xs[j] = x at hX
      obtain ⟨p0, p1⟩ := x
      have hyj := Lib.hid (show ((hSd.mkL k xs).take j ++ xs.drop j)[j]? = some (p0, p1) by rw [M.mid_at hml.out]; exact hX.out)
      obtain ⟨css, Fs, hole, cs, hcs, hE⟩ := own.openAt hyj.out
      obtain rfl : cs = [.int .i64 p0, .int .i64 p1] := hE
      obtain ⟨g, rfl, hFg, hFn, hgl, -⟩ := hole.form (List.getElem?_eq_some_iff.1 hyj.out).1
      have hmk := Lib.hid (show (hSd.mkL k xs)[j]? = some (k + 2 * (j : Int), k + 2 * (j : Int) + 1) by rw [hSd.mkL_at k hX.out, mark_sd, hSd_cntL, List.length_take, Nat.min_eq_left hj]; simp only [Option.some.injEq, Prod.mk.injEq]; omega)
      have q0 : wr.cell? ⟨g, j * 2, none⟩ = some (.int .i64 p0) := (hole.cell hcs (j := 0) rfl).1
      have r0 : wr.frozen? ⟨g, j * 2, none⟩ = false := (hole.cell hcs (j := 0) rfl).2
      have q1 : wr.cell? ⟨g, j * 2 + 1, none⟩ = some (.int .i64 p1) := (hole.cell hcs (j := 1) rfl).1
      have r1 : wr.frozen? ⟨g, j * 2 + 1, none⟩ = false := (hole.cell hcs (j := 1) rfl).2
      go_wp2
      go_roundw
      case rel =>
        have s0 := hole.set hcs 0 (by decide) (.int .i64 (k + 2 * (j : Int)))
        have c0 := hg.trans (Chg.set wr g (j * 2 + 0) (.int .i64 (k + 2 * (j : Int))) hFg)
        have s1 := s0.1.set s0.2 1 (by decide) (.int .i64 (k + 2 * (j : Int) + 1))
        have c1 := c0.trans (Chg.set _ g (j * 2 + 1) (.int .i64 (k + 2 * (j : Int) + 1)) hFg)
        have h3 := s1.1.fill s1.2 (y := (k + 2 * (j : Int), k + 2 * (j : Int) + 1)) rfl
        rw [M.set_mid hml.out hmk.out] at h3
        exact ⟨j + 1, by go_num, by omega, by go_num, h3, c1⟩
      case measure => simp [intOf]; omega
    · obtain rfl : xs.length = j := by omega
      go_wp2
      go_ret
      rw [List.take_of_length_le (by rw [Hs.mkL_len]; omega), List.drop_eq_nil_of_le (by omega), List.append_nil] at own
      exact ⟨by go_num, sl_O.2 own, hg⟩
theorem nf_sz_SdS_ (A : Option Addr) (n c : Nat) (xs : List (Int × Int)) (l : Int) (w : World) (hx : tSdS.R w w.heap.size [.slice A n c] xs) (hl : 0 ≤ l ∧ l ≤ 1000000000) :
    Calls Try.prog 74 #[.slice A n c, .int .i64 l] w fun e w' => e = .returned (.int .i64 (if (hSdS.sz xs : Int) ≤ l then l - hSdS.sz xs else -1)) ∧ Below w.heap.size w w' := by
  obtain ⟨h1, h2, h3⟩ := (sl_R.1 hx).cap
  have hn : n ≤ 9223372036854775807 := by unfold maxLen at h3; omega
  rw [hSdS_sz, h1]
  clear h1 h2 h3 hx
  by_cases h : (n : Int) ≤ l
  all_goals
    go_enter Try.func74, Try.ntmps74
    go_wp2
    go_ret
    exact ⟨rfl, Below.refl _ _⟩
end Go.Proofs.Ytebaffdaffcdmaa
