import Derived.Test.YtffhodocjjkkoaaGreatFnExactStripsOfG2
import Derived.Lib.Strings
import Derived.Maps.OwnOps
import Derived.Maps.OwnSet
import Derived.StringKeys
import Derived.Lib.QuietBelow
set_option linter.unusedVariables false
set_option linter.unusedSimpArgs false
namespace Go.Proofs.YtffhodocjjkkoaaGreat
open Go.RowKit
set_option maxHeartbeats 2000000
set_option maxRecDepth 100000
theorem ei_st : EI Tryz.prog 36 78 (.agg #[.string ⟨#[]⟩, .int .i64 0, .slice none 0 0]) 3 48 := ⟨Tryz.underlying36, by kernel_rfl, rfl, by decide⟩
theorem st_zero (w : World) (F : Nat → Prop) : tSt.O w F [.string ⟨#[]⟩, .int .i64 0, .slice none 0 0] (⟨#[]⟩, 0, []) := st_O.2 ⟨none, 0, 0, rfl, Nat.zero_le _, _, rfl, OS.nil _ _ _ _⟩
theorem nf_to_St (s : ByteArray) (l0 : Int) (A : Option Addr) (n c : Nat) (xs : List (Int × Int)) (w : World) (hx : tSdS.R w w.heap.size [.slice A n c] xs) (hn : hSdS.sz xs ≤ 100000000) :
    Calls Tryz.prog 120 #[.agg #[.string s, .int .i64 l0, .slice A n c]] w fun e w' => ∃ A' n' c', e = .returned (.agg #[.string s, .int .i64 l0, .slice A' n' c']) ∧ tSdS.O w' (Iv w.heap.size w'.heap.size) [.slice A' n' c'] xs ∧ Below w.heap.size w w' := by
  have hb : Below w.heap.size w (((w.alloc (.cells #[.string s, .int .i64 l0, .slice A n c] 152)).alloc (.cells #[.string ⟨#[]⟩, .int .i64 0, .slice none 0 0] 78)).alloc (.cells #[.string s, .int .i64 l0, .slice none 0 0] 78)) := (((Below.refl _ _).alloc (Nat.le_refl _) _).alloc (by simp) _).alloc (by simp; omega) _
  have hx2 := tSdS.later hx hb
  go_enter Tryz.func120, Tryz.ntmps120
  go_wp2_with (go_at_call 156; refine (nf_to_SdS_ _ _ _ _ _ hx2 hn).mono ?_; rintro e w2 ⟨A2, n2, c2, rfl, own2, bel2⟩; have q10 : w2.cell? ⟨w.heap.size + 1, 0, none⟩ = some (.string ⟨#[]⟩) := (by rw [bel2.cell (by first | omega | (simp; done) | (simp; omega))]; simp [go_sem]); have r10 : w2.frozen? ⟨w.heap.size + 1, 0, none⟩ = false := (by rw [bel2.frozen (by first | omega | (simp; done) | (simp; omega))]; simp [go_sem]); have q20 : w2.cell? ⟨w.heap.size + 1 + 1, 0, none⟩ = some (.string s) := (by rw [bel2.cell (by first | omega | (simp; done) | (simp; omega))]; simp [go_sem]); have r20 : w2.frozen? ⟨w.heap.size + 1 + 1, 0, none⟩ = false := (by rw [bel2.frozen (by first | omega | (simp; done) | (simp; omega))]; simp [go_sem]); have q11 : w2.cell? ⟨w.heap.size + 1, 1, none⟩ = some (.int .i64 0) := (by rw [bel2.cell (by first | omega | (simp; done) | (simp; omega))]; simp [go_sem]); have r11 : w2.frozen? ⟨w.heap.size + 1, 1, none⟩ = false := (by rw [bel2.frozen (by first | omega | (simp; done) | (simp; omega))]; simp [go_sem]); have q21 : w2.cell? ⟨w.heap.size + 1 + 1, 1, none⟩ = some (.int .i64 l0) := (by rw [bel2.cell (by first | omega | (simp; done) | (simp; omega))]; simp [go_sem]); have r21 : w2.frozen? ⟨w.heap.size + 1 + 1, 1, none⟩ = false := (by rw [bel2.frozen (by first | omega | (simp; done) | (simp; omega))]; simp [go_sem]); have q12 : w2.cell? ⟨w.heap.size + 1, 2, none⟩ = some (.slice none 0 0) := (by rw [bel2.cell (by first | omega | (simp; done) | (simp; omega))]; simp [go_sem]); have r12 : w2.frozen? ⟨w.heap.size + 1, 2, none⟩ = false := (by rw [bel2.frozen (by first | omega | (simp; done) | (simp; omega))]; simp [go_sem]); have q22 : w2.cell? ⟨w.heap.size + 1 + 1, 2, none⟩ = some (.slice none 0 0) := (by rw [bel2.cell (by first | omega | (simp; done) | (simp; omega))]; simp [go_sem]); have r22 : w2.frozen? ⟨w.heap.size + 1 + 1, 2, none⟩ = false := (by rw [bel2.frozen (by first | omega | (simp; done) | (simp; omega))]; simp [go_sem]); have hs2 : w.heap.size + 1 + 1 + 1 ≤ w2.heap.size := (by have := bel2.size; simpa using this))
  have m1 : Mid (w.heap.size + 1) (w.heap.size + 1 + 1 + 1) w2 ((((w2.setCell ⟨w.heap.size + 1 + 1, 2, none⟩ (Value.slice A2 n2 c2)).setCell ⟨w.heap.size + 1, 0, none⟩ (.string s)).setCell ⟨w.heap.size + 1, 1, none⟩ (.int .i64 l0)).setCell ⟨w.heap.size + 1, 2, none⟩ (Value.slice A2 n2 c2)) :=
    (((Mid.of_grown (grown_setCell w2 (w.heap.size + 1 + 1) 2 _) fun k hk => by injection hk with hk; omega).trans (Mid.of_grown (grown_setCell _ (w.heap.size + 1) 0 _) fun k hk => by injection hk with hk; omega)).trans (Mid.of_grown (grown_setCell _ (w.heap.size + 1) 1 _) fun k hk => by injection hk with hk; omega)).trans (Mid.of_grown (grown_setCell _ (w.heap.size + 1) 2 _) fun k hk => by injection hk with hk; omega)
  refine bodyPost_ret (v := .agg #[.string s, .int .i64 l0, .slice A2 n2 c2]) (by simp [results, Tryz.results120, go_sem, q10, r10, q20, r20, q11, r11, q21, r21, q12, r12, q22, r22]) rfl ?_
  refine ⟨_, _, _, rfl, ?_, ?_⟩
  · exact tSdS.oiv (tSdS.omid own2 m1 (.inr (by simp)) (Nat.le_refl _)) (by simp; omega) m1.size
  · exact (hb.trans (bel2.mono hb.size)).trans ((m1.toBelow (by omega)).mono (by omega))
theorem nf_to_M_ (A : Option Addr) (n c : Nat) (xs : List Strip) (w : World) (hx : tM.R w w.heap.size [.slice A n c] xs) (hn : hM.sz xs ≤ 100000000) :
    Calls Tryz.prog 71 #[.slice A n c] w fun e w' => ∃ A' n' c', e = .returned (.slice A' n' c') ∧ tM.O w' (Iv w.heap.size w'.heap.size) [.slice A' n' c'] xs ∧ Below w.heap.size w w' := by
  have hr := sl_R.1 hx
  obtain rfl : xs.length = n := hr.cap.1
  have hn1 : xs.length + hSt.szL xs ≤ 100000000 := hn
  clear hx hn
  go_enter Tryz.func71, Tryz.ntmps71
  go_wp2_with (at_make; refine wpList_mk ei_st rfl _ _ rfl xs.length _ _ rfl rfl rfl rfl (by omega) (by unfold maxLen; omega) ?_; intro w1 own1 bel1)
  have hs1 : w.heap.size + 1 ≤ w1.heap.size := (World.ownsRow.lt own1 _ rfl).2
  have own2 : OS tSt 78 w1 (Iv w.heap.size w1.heap.size) (.slice (some ⟨w.heap.size, 0, none⟩) xs.length xs.length) (List.replicate xs.length (⟨#[]⟩, 0, [])) :=
    OS.made (t := tSt) (zc := [.string ⟨#[]⟩, .int .i64 0, .slice none 0 0]) st_zero rfl ⟨Nat.le_refl _, by omega⟩ own1
  clear own1
  go_loopw [4] (fun i wr => ∃ k : Nat, i = .int .i64 k ∧ k ≤ xs.length ∧ OS tSt 78 wr (Iv w.heap.size wr.heap.size) (.slice (some ⟨w.heap.size, 0, none⟩) xs.length xs.length) (xs.take k ++ (List.replicate xs.length (⟨#[]⟩, 0, [])).drop k) ∧ w.heap.size + 1 ≤ wr.heap.size ∧ Below w.heap.size w wr)
    (fun i _ => xs.length - (intOf i).toNat)
  case atStart => exact ⟨0, rfl, by omega, by simpa using own2, hs1, bel1⟩
  case round =>
    obtain ⟨k, rfl, hk, own, hsz, hb⟩ := hrel
    by_cases hlt : k < xs.length
    · have hX := Lib.hid (List.getElem?_eq_getElem hlt)
      obtain ⟨b, o, c1, cs, hv, hab, -, hE, hc⟩ := (hr.below hb).atX hX.out
      simp only [Value.slice.injEq] at hv
      obtain ⟨rfl, -, rfl⟩ := hv
      have hU := hSt.szL_at hX.out
      generalize xs[k] = x at hX hE hU
      obtain ⟨s, l0, ys⟩ := x
      rw [hSt_sz] at hU
      obtain ⟨A1, n1, c1, rfl, hs, hE⟩ := st_R.1 hE
      have hc0 : wr.cell? ⟨b, o + k * 3, none⟩ = some (.string s) := hc 0 _ rfl
      have hc1 : wr.cell? ⟨b, o + k * 3 + 1, none⟩ = some (.int .i64 l0) := hc 1 _ rfl
      have hc2 : wr.cell? ⟨b, o + k * 3 + 2, none⟩ = some (.slice A1 n1 c1) := hc 2 _ rfl
      have hF := tSdS.more hb.size hE
      have hz := hSdS_sz ys
      have hz2 : hSdS.sz ys ≤ 100000000 := by omega
      clear hc hz
      have hD := Lib.hid (show (xs.take k ++ (List.replicate xs.length ((⟨#[]⟩, 0, []) : Strip)).drop k)[k]? = some (⟨#[]⟩, 0, []) by rw [M.mid_at (by rw [List.length_replicate])]; simp [hlt])
      go_wp2_with (go_at_call 120; refine (nf_to_St _ _ _ _ _ _ _ hF hz2).mono ?_; rintro e w2 ⟨A2, n2, c2, rfl, o2, bel2⟩; have own' := own.below bel2 (Nat.le_refl _); obtain ⟨css, Fs, hole, cs, hcs, hE⟩ := own'.openAt hD.out; obtain ⟨A0, n0, c0, rfl, -, -⟩ := st_O.1 hE; have q0 := (hole.cell hcs (j := 0) rfl).1; have r0 := (hole.cell hcs (j := 0) rfl).2; have q1 := (hole.cell hcs (j := 1) rfl).1; have r1 := (hole.cell hcs (j := 1) rfl).2; have q2 := (hole.cell hcs (j := 2) rfl).1; have r2 := (hole.cell hcs (j := 2) rfl).2; have z2 := bel2.size; change w2.cell? ⟨w.heap.size, k * 3 + 0, none⟩ = _ at q0; change w2.frozen? ⟨w.heap.size, k * 3 + 0, none⟩ = _ at r0; change w2.cell? ⟨w.heap.size, k * 3 + 1, none⟩ = _ at q1; change w2.frozen? ⟨w.heap.size, k * 3 + 1, none⟩ = _ at r1; change w2.cell? ⟨w.heap.size, k * 3 + 2, none⟩ = _ at q2; change w2.frozen? ⟨w.heap.size, k * 3 + 2, none⟩ = _ at r2; rw [Nat.add_zero] at q0 r0)
      go_roundw
      case rel =>
        have s0 := hole.set hcs 0 (by decide) (.string s)
        have s1 := s0.1.set s0.2 1 (by decide) (.int .i64 l0)
        have s2 := s1.1.set s1.2 2 (by decide) (.slice A2 n2 c2)
        have o3 := tSdS.oset (g := w.heap.size) (o := k * 3 + 2) (u := .slice A2 n2 c2) (tSdS.oset (g := w.heap.size) (o := k * 3 + 1) (u := .int .i64 l0) (tSdS.oset (g := w.heap.size) (o := k * 3 + 0) (u := .string s) o2 (.inl (by omega))) (.inl (by omega))) (.inl (by omega))
        have h3 := s2.1.fill' s2.2 (y := (s, l0, ys)) (Fe := Iv wr.heap.size w2.heap.size) (st_O.2 ⟨A2, n2, c2, rfl, hs, o3⟩) (fun b h1 h2 => by have := h1.1; have := h2.2; omega)
        rw [M.set_mid (by rw [List.length_replicate]) hX.out] at h3
        have hb2 := hb.trans (bel2.mono hb.size)
        exact ⟨k + 1, by go_num, by omega, h3.wide (fun b hb => ⟨by unfold Iv at hb; omega, by simp; unfold Iv at hb; omega⟩), by simp; omega, ((hb2.setCell (Nat.le_refl _) _).setCell (Nat.le_refl _) _).setCell (Nat.le_refl _) _⟩
      case measure => simp [intOf]; omega
    · go_wp2
      go_ret
      rw [List.take_of_length_le (by omega), List.drop_eq_nil_of_le (by simp; omega), List.append_nil] at own
      exact ⟨_, _, _, rfl, sl_O.2 own, hb⟩
theorem nf_eq_St (s : ByteArray) (l0 : Int) (A A' : Option Addr) (n c n' c' : Nat) (xs : List (Int × Int)) (w : World) (hx : tSdS.R w w.heap.size [.slice A n c] xs) (hy : tSdS.R w w.heap.size [.slice A' n' c'] xs) (hn : hSdS.sz xs ≤ 100000000) :
    Calls Tryz.prog 130 #[.agg #[.string s, .int .i64 l0, .slice A n c], .agg #[.string s, .int .i64 l0, .slice A' n' c']] w fun e w' => e = .returned (.bool true) ∧ Below w.heap.size w w' := by
  have hb : Below w.heap.size w ((w.alloc (.cells #[.string s, .int .i64 l0, .slice A n c] 78)).alloc (.cells #[.string s, .int .i64 l0, .slice A' n' c'] 78)) := ((Below.refl _ _).alloc (Nat.le_refl _) _).alloc (by simp) _
  have hx2 := tSdS.later hx hb
  have hy2 := tSdS.later hy hb
  go_enter Tryz.func130, Tryz.ntmps130
  go_wp2_with (go_at_call 165; refine (nf_eq_SdS_ _ _ _ _ _ _ _ _ hx2 hy2 hn).mono ?_; rintro e w2 ⟨rfl, bel2⟩)
  go_ret
  exact ⟨rfl, hb.trans (bel2.mono hb.size)⟩
theorem nf_eq_M_ (A A' : Option Addr) (n c n' c' : Nat) (xs : List Strip) (w : World) (hx : tM.R w w.heap.size [.slice A n c] xs) (hy : tM.R w w.heap.size [.slice A' n' c'] xs) (hn : hM.sz xs ≤ 100000000) :
    Calls Tryz.prog 84 #[.slice A n c, .slice A' n' c'] w fun e w' => e = .returned (.bool true) ∧ Below w.heap.size w w' := by
  have hr := sl_R.1 hx
  have hr' := sl_R.1 hy
  obtain rfl : xs.length = n := hr.cap.1
  obtain rfl : xs.length = n' := hr'.cap.1
  have hn1 : xs.length + hSt.szL xs ≤ 100000000 := hn
  clear hx hy hn
  go_enter Tryz.func84, Tryz.ntmps84
  go_wp2
  go_loopw [5] (fun i wr => ∃ k : Nat, i = .int .i64 k ∧ k ≤ xs.length ∧ Below w.heap.size w wr) (fun i _ => xs.length - (intOf i).toNat)
  case atStart => exact ⟨0, rfl, by omega, Below.refl _ _⟩
  case round =>
    obtain ⟨k, rfl, hk, hb⟩ := hrel
    by_cases hlt : k < xs.length
    · have hX := Lib.hid (List.getElem?_eq_getElem hlt)
      obtain ⟨b, o, c1, cs, hv, hab, -, hE, hc⟩ := (hr.below hb).atX hX.out
      obtain ⟨b', o', c1', cs', hv', hab', -, hE', hc'⟩ := (hr'.below hb).atX hX.out
      simp only [Value.slice.injEq] at hv hv'
      obtain ⟨rfl, -, rfl⟩ := hv
      obtain ⟨rfl, -, rfl⟩ := hv'
      have hU := hSt.szL_at hX.out
      generalize xs[k] = x at hX hE hE' hU
      obtain ⟨s, l0, ys⟩ := x
      rw [hSt_sz] at hU
      obtain ⟨A1, n1, c1, rfl, hs, hE⟩ := st_R.1 hE
      obtain ⟨A2, n2, c2, rfl, -, hE'⟩ := st_R.1 hE'
      have hc0 : wr.cell? ⟨b, o + k * 3, none⟩ = some (.string s) := hc 0 _ rfl
      have hc1 : wr.cell? ⟨b, o + k * 3 + 1, none⟩ = some (.int .i64 l0) := hc 1 _ rfl
      have hc2 : wr.cell? ⟨b, o + k * 3 + 2, none⟩ = some (.slice A1 n1 c1) := hc 2 _ rfl
      have hd0 : wr.cell? ⟨b', o' + k * 3, none⟩ = some (.string s) := hc' 0 _ rfl
      have hd1 : wr.cell? ⟨b', o' + k * 3 + 1, none⟩ = some (.int .i64 l0) := hc' 1 _ rfl
      have hd2 : wr.cell? ⟨b', o' + k * 3 + 2, none⟩ = some (.slice A2 n2 c2) := hc' 2 _ rfl
      have hbr : b < wr.heap.size := Nat.lt_of_lt_of_le hab hb.size
      have hbr' : b' < wr.heap.size := Nat.lt_of_lt_of_le hab' hb.size
      have hz := hSdS_sz ys
      have hz2 : hSdS.sz ys ≤ 100000000 := by omega
      have hF := tSdS.later (tSdS.more hb.size hE) (below_drewN (Below.refl _ _) 1)
      have hF' := tSdS.later (tSdS.more hb.size hE') (below_drewN (Below.refl _ _) 1)
      clear hc hc' hE hE' hz
      go_wp2
      go_region_held3 (fun w' => Below wr.heap.size wr w' ∧ w'.cell? ⟨b, o + k * 3, none⟩ = some (.string s) ∧ w'.cell? ⟨b, o + k * 3 + 1, none⟩ = some (.int .i64 l0) ∧ w'.cell? ⟨b, o + k * 3 + 2, none⟩ = some (.slice A1 n1 c1) ∧ w'.cell? ⟨b', o' + k * 3, none⟩ = some (.string s) ∧ w'.cell? ⟨b', o' + k * 3 + 1, none⟩ = some (.int .i64 l0) ∧ w'.cell? ⟨b', o' + k * 3 + 2, none⟩ = some (.slice A2 n2 c2))
        (first
          | exact ⟨below_drewN (Below.refl _ _) _, hc0, hc1, hc2, hd0, hd1, hd2⟩
          | exact ⟨keptB_all bel2 rfl (And.left (by assumption)), keptB bel2 rfl (And.left (by assumption)) hc0 hbr, keptB bel2 rfl (And.left (by assumption)) hc1 hbr, keptB bel2 rfl (And.left (by assumption)) hc2 hbr, keptB bel2 rfl (And.left (by assumption)) hd0 hbr', keptB bel2 rfl (And.left (by assumption)) hd1 hbr', keptB bel2 rfl (And.left (by assumption)) hd2 hbr'⟩)
        (first | (go_at_call 130; refine (nf_eq_St _ _ _ _ _ _ _ _ _ _ hF hF' hz2).mono ?_; rintro e w2 ⟨rfl, bel2⟩))
      go_wp2
      go_roundw
      case rel => exact ⟨k + 1, by go_num, by omega, hb.trans ((keptB_all bel2 rfl (below_drewN (Below.refl _ _) _)).mono hb.size)⟩
      case measure => simp [intOf]; omega
    · go_wp2
      go_ret
      exact ⟨rfl, hb⟩
end Go.Proofs.YtffhodocjjkkoaaGreat
namespace Go.Proofs.YtffhodocjjkkoaaGreat
open Go.RowKit
set_option maxHeartbeats 2000000
set_option maxRecDepth 100000
theorem nf_sz_M (A : Option Addr) (n c : Nat) (xs : List Strip) (l : Int) (w : World) (hx : tM.R w w.heap.size [.slice A n c] xs) (hl : 0 ≤ l ∧ l ≤ 1000000000) :
    Calls Tryz.prog 32 #[.agg #[.slice A n c], .int .i64 l] w fun e w' => e = .returned (.int .i64 (if (hM.sz xs : Int) ≤ l then l - hM.sz xs else -1)) ∧ Below w.heap.size w w' := by
  have hb : Below w.heap.size w (w.alloc (.cells #[.slice A n c] 28)) := (Below.refl _ _).alloc (Nat.le_refl _) _
  have hx2 := tM.later hx hb
  by_cases h : (hM.sz xs : Int) ≤ l
  · have hi := Lib.hid (show (if (hM.sz xs : Int) ≤ l then l - hM.sz xs else -1) = l - hM.sz xs by rw [if_pos h])
    go_enter Tryz.func32, Tryz.ntmps32
    go_wp2_with (go_at_call 62; refine (nf_sz_M_ _ _ _ _ _ _ hx2 hl).mono ?_; rw [hi.out]; rintro e w2 ⟨rfl, bel2⟩)
    go_ret
    exact ⟨hi.out ▸ rfl, hb.trans (bel2.mono hb.size)⟩
  · have hi := Lib.hid (show (if (hM.sz xs : Int) ≤ l then l - hM.sz xs else -1) = -1 by rw [if_neg h])
    go_enter Tryz.func32, Tryz.ntmps32
    go_wp2_with (go_at_call 62; refine (nf_sz_M_ _ _ _ _ _ _ hx2 hl).mono ?_; rw [hi.out]; rintro e w2 ⟨rfl, bel2⟩)
    go_ret
    exact ⟨hi.out ▸ rfl, hb.trans (bel2.mono hb.size)⟩
theorem nf_to_M (A : Option Addr) (n c : Nat) (xs : List Strip) (w : World) (hx : tM.R w w.heap.size [.slice A n c] xs) (hn : hM.sz xs ≤ 100000000) :
    Calls Tryz.prog 39 #[.agg #[.slice A n c]] w fun e w' => ∃ A' n' c', e = .returned (.agg #[.slice A' n' c']) ∧ tM.O w' (Iv w.heap.size w'.heap.size) [.slice A' n' c'] xs ∧ Below w.heap.size w w' := by
  have hb : Below w.heap.size w (((w.alloc (.cells #[.slice A n c] 28)).alloc (.cells #[.slice none 0 0] 38)).alloc (.cells #[.slice none 0 0] 38)) := (((Below.refl _ _).alloc (Nat.le_refl _) _).alloc (by simp) _).alloc (by simp; omega) _
  have hx2 := tM.later hx hb
  go_enter Tryz.func39, Tryz.ntmps39
  go_wp2_with (go_at_call 71; refine (nf_to_M_ _ _ _ _ _ hx2 hn).mono ?_; rintro e w2 ⟨A2, n2, c2, rfl, own2, bel2⟩; have q1 : w2.cell? ⟨w.heap.size + 1, 0, none⟩ = some (.slice none 0 0) := (by rw [bel2.cell (by first | omega | (simp; done) | (simp; omega))]; simp [go_sem]); have r1 : w2.frozen? ⟨w.heap.size + 1, 0, none⟩ = false := (by rw [bel2.frozen (by first | omega | (simp; done) | (simp; omega))]; simp [go_sem]); have q2 : w2.cell? ⟨w.heap.size + 1 + 1, 0, none⟩ = some (.slice none 0 0) := (by rw [bel2.cell (by simp)]; simp [go_sem]); have r2 : w2.frozen? ⟨w.heap.size + 1 + 1, 0, none⟩ = false := (by rw [bel2.frozen (by simp)]; simp [go_sem]); have hs : w.heap.size + 1 + 1 + 1 ≤ w2.heap.size := (by have := bel2.size; simpa using this))
  have m1 : Mid (w.heap.size + 1) (w.heap.size + 1 + 1 + 1) w2 ((w2.setCell ⟨w.heap.size + 1 + 1, 0, none⟩ (Value.slice A2 n2 c2)).setCell ⟨w.heap.size + 1, 0, none⟩ (Value.slice A2 n2 c2)) :=
    (Mid.of_grown (grown_setCell w2 (w.heap.size + 1 + 1) 0 _) fun k hk => by injection hk with hk; omega).trans (Mid.of_grown (grown_setCell _ (w.heap.size + 1) 0 _) fun k hk => by injection hk with hk; omega)
  refine bodyPost_ret (v := .agg #[.slice A2 n2 c2]) (by simp [results, Tryz.results39, go_sem, q1, r1, q2, r2]) rfl ?_
  refine ⟨_, _, _, rfl, ?_, ?_⟩
  · exact tM.oiv (tM.omid own2 m1 (.inr (by simp)) (Nat.le_refl _)) (by simp; omega) m1.size
  · exact (hb.trans (bel2.mono hb.size)).trans ((m1.toBelow (by omega)).mono (by omega))
theorem nf_eq_M (A A' : Option Addr) (n c n' c' : Nat) (xs : List Strip) (w : World) (hx : tM.R w w.heap.size [.slice A n c] xs) (hy : tM.R w w.heap.size [.slice A' n' c'] xs) (hn : hM.sz xs ≤ 100000000) :
    Calls Tryz.prog 44 #[.agg #[.slice A n c], .agg #[.slice A' n' c']] w fun e w' => e = .returned (.bool true) ∧ Below w.heap.size w w' := by
  have hb : Below w.heap.size w ((w.alloc (.cells #[.slice A n c] 38)).alloc (.cells #[.slice A' n' c'] 38)) := ((Below.refl _ _).alloc (Nat.le_refl _) _).alloc (by simp) _
  have hx2 := tM.later hx hb
  have hy2 := tM.later hy hb
  go_enter Tryz.func44, Tryz.ntmps44
  go_wp2_with (go_at_call 84; refine (nf_eq_M_ _ _ _ _ _ _ _ _ hx2 hy2 hn).mono ?_; rintro e w2 ⟨rfl, bel2⟩)
  go_ret
  exact ⟨rfl, hb.trans (bel2.mono hb.size)⟩
theorem cl_M (x : List Strip) : hM.cnt x ≤ 10 * hM.sz x + 10 := by
  have key : hSt.cntL x ≤ 2 * (x.length + hSt.szL x) := by
    induction x with
    | nil => simp [Hs.cntL]
    | cons y ys ih =>
      obtain ⟨s, l, zs⟩ := y
      rw [Hs.cntL, Hs.szL, hSt_cnt, hSt_sz, List.length_cons]
      omega
  show hSt.cntL x ≤ 10 * (x.length + hSt.szL x) + 10
  omega
theorem M.digs_step {j : Nat} (h : 0 < j) : M.digs j = M.digs (j / 10) ++ [UInt8.ofNat (48 + j % 10)] := by rw [M.digs, if_neg (by omega)]
theorem conv_one (j : Nat) (wr : World) : (convert 203 9 (.slice (some ⟨wr.heap.size, 0, none⟩) 1 1)).run Tryz.prog (wr.alloc (.cells #[.int .u8 (48 + (j : Int) % 10)] 5)) = .ok (.string ⟨[UInt8.ofNat (48 + j % 10)].toArray⟩) (wr.alloc (.cells #[.int .u8 (48 + (j : Int) % 10)] 5)) := by
  refine run_convert_bytes_back _ _ _ 5 ⟨wr.heap.size, 0, none⟩ 1 [UInt8.ofNat (48 + j % 10)] Tryz.underlying203 Tryz.underlying5 Tryz.underlying9 ?_
  intro i hi
  obtain rfl : i = 0 := by simpa using hi
  have e0 : (⟨wr.heap.size, 0, none⟩ : Addr).add 0 = ⟨wr.heap.size, 0, none⟩ := rfl
  rw [e0, cell_of_row _ wr.heap.size 0 _ 5 (0, 0) (heap_alloc_new wr _)]
  simp
  omega
theorem bytes_app (a b : ByteArray) : (a ++ b).data.toList = a.data.toList ++ b.data.toList := by simp
theorem M.digs_next {j : Nat} {s : ByteArray} {D : List UInt8} (h : 0 < j) (H : M.digs j ++ s.data.toList = D) : M.digs (j / 10) ++ ((⟨#[48 + UInt8.ofNat (j % 10)]⟩ : ByteArray) ++ s).data.toList = D := by
  rw [M.digs_step h, List.append_assoc] at H
  rw [bytes_app, ← H, UInt8.ofNat_add]
  rfl
theorem M.mark_end {k : Nat} {s : ByteArray} (H : M.digs 0 ++ s.data.toList = M.digs k) : (⟨#[109]⟩ ++ s : ByteArray) = ⟨(109 :: M.digs k).toArray⟩ := by
  rw [← H]
  apply ByteArray.ext
  apply Array.toList_inj.1
  rw [bytes_app, show M.digs 0 = [] by rw [M.digs]; rfl]
  rfl
theorem laws_markText (k : Nat) (w : World) (hk : k ≤ 1000000000) :
    Calls Tryz.prog 131 #[.int .i64 k] w fun e w' => e = .returned (.string (M.markT k)) ∧ Below w.heap.size w w' := by
  by_cases h0 : k = 0
  · subst h0
    go_enter Tryz.func131, Tryz.ntmps131
    go_wp2
    go_ret
    exact ⟨rfl, Below.refl _ _⟩
  have hR := Lib.hid (show M.markT (k : Int) = ⟨(109 :: M.digs k).toArray⟩ by rw [M.markT, if_neg (by omega), Int.toNat_natCast])
  have hL := M.digs_len k
  have HL := Lib.hid (show (M.digs k).length ≤ 1000000000 by omega)
  clear hL
  go_enter Tryz.func131, Tryz.ntmps131
  go_wp2
  go_loopw [0, 3] (fun i v wr => ∃ (j : Nat) (s : ByteArray), i = .int .i64 j ∧ j ≤ k ∧ v = .string s ∧ Hid (M.digs j ++ s.data.toList = M.digs k) ∧ s.size ≤ 1000000000 ∧ Below w.heap.size w wr) (fun i _ _ => (intOf i).toNat)
  case atStart => exact ⟨k, ⟨#[]⟩, rfl, by omega, rfl, Lib.hid (by simp), Nat.zero_le _, Below.refl _ _⟩
  case round =>
    obtain ⟨j, s, rfl, hj, rfl, H, hs, hb⟩ := hrel
    by_cases hlt : 0 < j
    · have hconv := conv_one j wr
      go_wp2
      go_roundw
      case rel =>
        have h2 := M.digs_next hlt H.out
        have h3 := congrArg List.length h2
        have h4 := HL.out
        rw [List.length_append] at h3
        exact ⟨j / 10, _, by go_num, by omega, rfl, Lib.hid h2, by show ((⟨#[48 + UInt8.ofNat (j % 10)]⟩ : ByteArray) ++ s).data.size ≤ _; rw [← Array.length_toList]; omega, hb.alloc hb.size _⟩
      case measure => simp [intOf]; omega
    · obtain rfl : j = 0 := by omega
      go_wp2
      go_ret
      exact ⟨by rw [hR.out, ← M.mark_end H.out]; rfl, hb⟩
theorem nf_mark_M_ (A : Option Addr) (n c : Nat) (k : Int) (xs : List Strip) (w : World) (F : Nat → Prop) (hx : tM.O w F [.slice A n c] xs) (hk : 0 ≤ k ∧ k + (hM.cnt xs : Int) ≤ 1000000000) :
    Calls Tryz.prog 87 #[.slice A n c, .int .i64 k] w fun e w' => e = .returned (.int .i64 (k + hM.cnt xs)) ∧ tM.O w' F [.slice A n c] (hM.mark k xs) ∧ Chg F w w' := by
  have ow := sl_O.1 hx
  have hcap := ow.read.cap
  obtain rfl : xs.length = n := hcap.1
  have hl : xs.length ≤ 9223372036854775807 := by have h1 := hcap.2; unfold maxLen at h1; omega
  clear hcap
  have hcn : k + (hSt.cntL xs : Int) ≤ 1000000000 := hk.2
  obtain ⟨k, rfl⟩ : ∃ q : Nat, k = q := ⟨k.toNat, by omega⟩
  clear hx
  go_enter Tryz.func87, Tryz.ntmps87
  go_wp2
  go_loopw [1, 5] (fun q i wr => ∃ j : Nat, i = .int .i64 j ∧ j ≤ xs.length ∧ q = .int .i64 ((k : Int) + (hSt.cntL (xs.take j) : Int)) ∧ OS tSt 78 wr F (.slice A xs.length c) ((hSt.mkL k xs).take j ++ xs.drop j) ∧ Chg F w wr)
    (fun _ i _ => xs.length - (intOf i).toNat)
  case atStart => exact ⟨0, rfl, by omega, by simp [Hs.cntL], by simpa using ow, Chg.refl _ _⟩
  case round =>
    obtain ⟨j, rfl, hj, rfl, own, hg⟩ := hrel
    by_cases hlt : j < xs.length
    · have hml := Lib.hid (hSt.mkL_len k xs)
      have hX := Lib.hid (List.getElem?_eq_getElem hlt)
      have hc1 := hSt.cntL_at hX.out
      have hct2 := Lib.hid (hSt.cntL_take hX.out)
      have hmk := Lib.hid (hSt.mkL_at k hX.out)
      generalize xs[j] = x at hX hc1 hct2 hmk
      obtain ⟨s, l0, ys⟩ := x
      rw [hSt_cnt] at hc1
      have hyj := Lib.hid (show ((hSt.mkL k xs).take j ++ xs.drop j)[j]? = some (s, l0, ys) by rw [M.mid_at hml.out]; exact hX.out)
      have hz := hSdS_cnt ys
      have hmt := laws_markText (k + hSt.cntL (xs.take j)) wr (by omega)
      rw [Int.natCast_add] at hmt
      have hms := Lib.hid (M.markT_size ((k : Int) + (hSt.cntL (xs.take j) : Int)))
      go_wp2_with (first | (go_at_call 131; refine hmt.mono ?_; clear hmt; rintro e w2 ⟨rfl, bel2⟩; have own2 := (own.real.keep (fun b hb => bel2.block b hb.2)).wide (F' := F) (fun b hb => hb.1); obtain ⟨css, Fs, hole, cs, hcs, hE⟩ := own2.openAt hyj.out; obtain ⟨A0, n0, c0, rfl, -, hE⟩ := st_O.1 hE; obtain ⟨g, rfl, hFg, hFn, hgl, -⟩ := hole.form (List.getElem?_eq_some_iff.1 hyj.out).1; have q0 := (hole.cell hcs (j := 0) rfl).1; have r0 := (hole.cell hcs (j := 0) rfl).2; have q1 := (hole.cell hcs (j := 1) rfl).1; have r1 := (hole.cell hcs (j := 1) rfl).2; have q2 := (hole.cell hcs (j := 2) rfl).1; change w2.cell? ⟨g, j * 3 + 0, none⟩ = _ at q0; change w2.frozen? ⟨g, j * 3 + 0, none⟩ = _ at r0; change w2.cell? ⟨g, j * 3 + 1, none⟩ = _ at q1; change w2.frozen? ⟨g, j * 3 + 1, none⟩ = _ at r1; change w2.cell? ⟨g, j * 3 + 2, none⟩ = _ at q2; rw [Nat.add_zero] at q0 r0) | (go_at_call 132; refine (nf_mark_SdS_ _ _ _ _ _ _ (Fs j) (tSdS.okeep (fun b hb => (heap_setCell_other _ ⟨g, j * 3 + 1, none⟩ b _ (fun e => hFn (by simp only at e; rw [← e]; exact hb))).trans (heap_setCell_other w2 ⟨g, j * 3, none⟩ b _ (fun e => hFn (by simp only at e; rw [← e]; exact hb)))) hE) (by omega)).mono ?_; rintro e w3 ⟨rfl, o3, ch3⟩))
      go_roundw
      case rel =>
        have s0 := hole.set hcs 0 (by decide) (.string (M.markT ((k : Int) + (hSt.cntL (xs.take j) : Int))))
        have s1 := s0.1.set s0.2 1 (by decide) (.int .i64 ((k : Int) + (hSt.cntL (xs.take j) : Int) + 1))
        have h3 := (s1.1.chg ch3).fill s1.2 (y := (M.markT ((k : Int) + (hSt.cntL (xs.take j) : Int)), (k : Int) + (hSt.cntL (xs.take j) : Int) + 1, hSdS.mark ((k : Int) + (hSt.cntL (xs.take j) : Int) + 1 + 1) ys)) (st_O.2 ⟨A0, n0, c0, rfl, by have := hms.out; unfold maxLen; omega, o3⟩)
        have hmk2 : (hSt.mkL k xs)[j]? = some (M.markT ((k : Int) + (hSt.cntL (xs.take j) : Int)), (k : Int) + (hSt.cntL (xs.take j) : Int) + 1, hSdS.mark ((k : Int) + (hSt.cntL (xs.take j) : Int) + 1 + 1) ys) := hmk.out
        rw [M.set_mid hml.out hmk2] at h3
        exact ⟨j + 1, by go_num, by omega, by rw [hct2.out, hSt_cnt]; go_num, h3, ((hg.trans (Chg.of_below bel2 F)).trans ((Chg.set w2 g (j * 3) _ hFg).trans (Chg.set _ g (j * 3 + 1) _ hFg))).trans (ch3.wide hole.fits)⟩
      case measure => simp [intOf]; omega
    · obtain rfl : xs.length = j := by omega
      go_wp2
      go_ret
      rw [List.take_of_length_le (by rw [Hs.mkL_len]; omega), List.drop_eq_nil_of_le (by omega), List.append_nil] at own
      exact ⟨by rw [List.take_of_length_le (Nat.le_refl _)]; rfl, sl_O.2 own, hg⟩
theorem nf_mark_M (A : Option Addr) (n c : Nat) (k : Int) (xs : List Strip) (w : World) (F : Nat → Prop) (hx : tM.O w F [.slice A n c] xs) (hF : ∀ b, F b → b < w.heap.size) (hk : 0 ≤ k ∧ k + (hM.cnt xs : Int) ≤ 1000000000) :
    Calls Tryz.prog 47 #[.agg #[.slice A n c], .int .i64 k] w fun e w' => e = .returned (.int .i64 (k + hM.cnt xs)) ∧ tM.O w' F [.slice A n c] (hM.mark k xs) ∧ Chg F w w' := by
  have hb : Below w.heap.size w (w.alloc (.cells #[.slice A n c] 38)) := (Below.refl _ _).alloc (Nat.le_refl _) _
  have hx2 : tM.O (w.alloc (.cells #[.slice A n c] 38)) F [.slice A n c] xs := tM.okeep (fun b h => hb.block b (hF b h)) hx
  go_enter Tryz.func47, Tryz.ntmps47
  go_wp2_with (go_at_call 87; refine (nf_mark_M_ _ _ _ _ _ _ _ hx2 hk).mono ?_; rintro e w2 ⟨rfl, own2, m2⟩)
  go_ret
  exact ⟨rfl, own2, (Chg.of_below hb _).trans m2⟩
end Go.Proofs.YtffhodocjjkkoaaGreat
namespace Go.Proofs.YtffhodocjjkkoaaGreat
open Go.RowKit
set_option maxHeartbeats 4000000
set_option maxRecDepth 100000
theorem tSdS_ra {w : World} {B : Nat} {A : Option Addr} {n c : Nat} {xs : List (Int × Int)} (h : tSdS.R w B [.slice A n c] xs) : RA sd 2 w B A n xs ∧ n ≤ c ∧ c ≤ maxLen := (sl_R.1 h).flat
theorem str_ne {s t : ByteArray} (h : ¬ s = t) : ¬ s.toList = t.toList := fun e => h (by
  rw [Lib.toList_data, Lib.toList_data] at e
  exact ByteArray.ext (Array.toList_inj.1 e))
end Go.Proofs.YtffhodocjjkkoaaGreat
namespace Go.Proofs.YtffhodocjjkkoaaGreat
open Go.RowKit
set_option maxHeartbeats 4000000
set_option maxRecDepth 100000
end Go.Proofs.YtffhodocjjkkoaaGreat
namespace Go.Proofs.YtffhodocjjkkoaaGreat
open Go.RowKit
set_option maxHeartbeats 2000000
set_option maxRecDepth 100000
def M.small (c : UInt8) : Bool := decide (97 ≤ c.toNat) && decide (c.toNat ≤ 122)
def M.digit (c : UInt8) : Bool := decide (48 ≤ c.toNat) && decide (c.toNat ≤ 57)
def M.nameAt (s : ByteArray) (i : Nat) : Bool := match s.data.toList[i]? with
  | some c => M.small c || (M.digit c && decide (i ≠ 0))
  | none => true
/-- A name. -/
def M.name (s : ByteArray) : Bool := decide (1 ≤ s.size) && decide (s.size ≤ 10) && (List.range s.size).all (M.nameAt s)
theorem M.nameAt_eq {s : ByteArray} {k : Nat} (hk : k < s.size) : M.nameAt s k = (M.small s[k] || (M.digit s[k] && decide (k ≠ 0))) := by
  have h1 : s.data.toList[k]? = some s[k] := by
    rw [List.getElem?_eq_getElem (by simpa using hk)]
    rfl
  rw [M.nameAt, h1]
theorem M.name_no {s : ByteArray} {k : Nat} (hk : k < s.size) (h : M.nameAt s k = false) : M.name s = false := by
  rw [M.name]
  cases hall : (List.range s.size).all (M.nameAt s)
  · simp
  · rw [List.all_eq_true] at hall
    have := hall k (List.mem_range.2 hk)
    rw [h] at this
    cases this
theorem M.name_yes {s : ByteArray} (h1 : 1 ≤ s.size) (h2 : s.size ≤ 10) (h : ∀ j, j < s.size → M.nameAt s j = true) : M.name s = true := by
  rw [M.name, decide_eq_true h1, decide_eq_true h2, Bool.true_and, Bool.true_and, List.all_eq_true]
  exact fun j hj => h j (List.mem_range.1 hj)
theorem M.name_len {s : ByteArray} (h : ¬ (1 ≤ s.size ∧ s.size ≤ 10)) : M.name s = false := by
  rw [M.name]
  by_cases h1 : 1 ≤ s.size
  · have h2 : ¬ s.size ≤ 10 := fun e => h ⟨h1, e⟩
    simp [h2]
  · simp [h1]
theorem impl_IsName (s : ByteArray) (w : World) (hs : s.size ≤ maxLen) :
    Calls Tryz.prog 122 #[.string s] w fun e w' => e = .returned (.bool (M.name s)) ∧ w = w' := by
  unfold maxLen at hs
  by_cases hlen : 1 ≤ s.size ∧ s.size ≤ 10
  · obtain ⟨hl1, hl2⟩ := hlen
    go_enter Tryz.func122, Tryz.ntmps122
    go_wp2
    go_loop [3, 4, 5] (fun i _ _ => ∃ k : Nat, i = .int .i64 k ∧ k ≤ s.size ∧ Hid (∀ j, j < k → M.nameAt s j = true)) (fun i _ _ => s.size - (intOf i).toNat)
    case atStart => exact ⟨0, rfl, by omega, Lib.hid (by omega)⟩
    case round =>
      obtain ⟨k, rfl, hk, H⟩ := hrel
      by_cases hlt : k < s.size
      · have hA := Lib.hid (M.nameAt_eq hlt)
        have hgo : M.nameAt s k = true → ∀ j, j < k + 1 → M.nameAt s j = true := fun h j hj => by
          rcases Nat.lt_or_ge j k with h1 | h1
          · exact H.out j h1
          · obtain rfl : j = k := by omega
            exact h
        have HG := Lib.hid hgo
        have HN := Lib.hid (fun h => M.name_no (s := s) (k := k) hlt h)
        clear hgo
        by_cases h97 : 97 ≤ s[k].toNat
        · by_cases h122 : s[k].toNat ≤ 122
          · have h2 := Lib.hid (show M.nameAt s k = true by rw [hA.out]; simp [M.small, M.digit]; omega)
            have g1 : (97 : Int) ≤ (s[k].toNat : Int) := by omega
            have g2 : (s[k].toNat : Int) ≤ 122 := by omega
            clear h97 h122
            go_wp2
            go_round
            case rel => exact ⟨k + 1, by go_num, by omega, Lib.hid (HG.out h2.out)⟩
            case measure => simp [intOf]; omega
          · have h2 := Lib.hid (HN.out (show M.nameAt s k = false by rw [hA.out]; simp [M.small, M.digit]; omega))
            have g1 : (97 : Int) ≤ (s[k].toNat : Int) := by omega
            have g2 : ¬ (s[k].toNat : Int) ≤ 122 := by omega
            have g3 : (48 : Int) ≤ (s[k].toNat : Int) := by omega
            have g4 : ¬ (s[k].toNat : Int) ≤ 57 := by omega
            clear h97 h122
            go_wp2
            go_ret
            exact ⟨ret_bool (by rw [h2.out]), rfl⟩
        · by_cases h48 : 48 ≤ s[k].toNat
          · by_cases h57 : s[k].toNat ≤ 57
            · by_cases hk0 : k = 0
              · have h2 := Lib.hid (HN.out (show M.nameAt s k = false by rw [hA.out]; simp [M.small, M.digit]; omega))
                have g1 : ¬ (97 : Int) ≤ (s[k].toNat : Int) := by omega
                have g3 : (48 : Int) ≤ (s[k].toNat : Int) := by omega
                have g4 : (s[k].toNat : Int) ≤ 57 := by omega
                clear h97 h48 h57
                subst hk0
                go_wp2
                go_ret
                exact ⟨ret_bool (by rw [h2.out]), rfl⟩
              · have h2 := Lib.hid (show M.nameAt s k = true by rw [hA.out]; simp [M.small, M.digit]; omega)
                have g1 : ¬ (97 : Int) ≤ (s[k].toNat : Int) := by omega
                have g3 : (48 : Int) ≤ (s[k].toNat : Int) := by omega
                have g4 : (s[k].toNat : Int) ≤ 57 := by omega
                clear h97 h48 h57
                go_wp2
                go_round
                case rel => exact ⟨k + 1, by go_num, by omega, Lib.hid (HG.out h2.out)⟩
                case measure => simp [intOf]; omega
            · have h2 := Lib.hid (HN.out (show M.nameAt s k = false by rw [hA.out]; simp [M.small, M.digit]; omega))
              have g1 : ¬ (97 : Int) ≤ (s[k].toNat : Int) := by omega
              have g3 : (48 : Int) ≤ (s[k].toNat : Int) := by omega
              have g4 : ¬ (s[k].toNat : Int) ≤ 57 := by omega
              clear h97 h48 h57
              go_wp2
              go_ret
              exact ⟨ret_bool (by rw [h2.out]), rfl⟩
          · have h2 := Lib.hid (HN.out (show M.nameAt s k = false by rw [hA.out]; simp [M.small, M.digit]; omega))
            have g1 : ¬ (97 : Int) ≤ (s[k].toNat : Int) := by omega
            have g3 : ¬ (48 : Int) ≤ (s[k].toNat : Int) := by omega
            clear h97 h48
            go_wp2
            go_ret
            exact ⟨ret_bool (by rw [h2.out]), rfl⟩
      · have hY := Lib.hid (M.name_yes hl1 hl2 (fun j hj => H.out j (by omega)))
        go_wp2
        go_ret
        exact ⟨ret_bool (by rw [hY.out]), rfl⟩
  · have hN := Lib.hid (M.name_len hlen)
    by_cases h1 : s.size < 1
    · go_enter Tryz.func122, Tryz.ntmps122
      go_wp2
      go_ret
      exact ⟨ret_bool (by rw [hN.out]), rfl⟩
    · have h2 : 10 < s.size := by omega
      go_enter Tryz.func122, Tryz.ntmps122
      go_wp2
      go_ret
      exact ⟨ret_bool (by rw [hN.out]), rfl⟩
theorem spec_l01Small (c : UInt8) (w : World) : Calls Tryz.prog 182 #[.int .u8 (c.toNat : Int)] w fun e w' => e = .returned (.bool (M.small c)) ∧ w = w' := by
  go_enter Tryz.func182, Tryz.ntmps182
  go_wp2
  all_goals
    go_ret
    exact ⟨ret_bool (by rw [M.small, Bool.eq_iff_iff]; simp; omega), rfl⟩
theorem spec_l01Digit (c : UInt8) (w : World) : Calls Tryz.prog 183 #[.int .u8 (c.toNat : Int)] w fun e w' => e = .returned (.bool (M.digit c)) ∧ w = w' := by
  go_enter Tryz.func183, Tryz.ntmps183
  go_wp2
  all_goals
    go_ret
    exact ⟨ret_bool (by rw [M.digit, Bool.eq_iff_iff]; simp; omega), rfl⟩
theorem spec_IsName (s : ByteArray) (w : World) (hs : s.size ≤ maxLen) :
    Calls Tryz.prog 149 #[.string s] w fun e w' => e = .returned (.bool (M.name s)) ∧ w = w' := by
  unfold maxLen at hs
  by_cases h0 : s.size = 0
  · have hN := Lib.hid (M.name_len (s := s) (by omega))
    have he : s.toList = [] := by rw [Lib.toList_data]; exact List.eq_nil_of_length_eq_zero (by simpa using h0)
    have he2 : s.toList.isEmpty = true := by rw [he]; rfl
    clear h0
    go_enter Tryz.func149, Tryz.ntmps149
    go_wp2
    go_ret
    exact ⟨ret_bool (by rw [hN.out]), rfl⟩
  · have he : ¬ s.toList = [] := by
      rw [Lib.toList_data]
      intro e
      exact h0 (by have := congrArg List.length e; simpa using this)
    have he2 : s.toList.isEmpty = false := by simpa using he
    have hp : 0 < s.size := by omega
    by_cases h10 : 10 < s.size
    · have hN := Lib.hid (M.name_len (s := s) (by omega))
      go_enter Tryz.func149, Tryz.ntmps149
      go_wp2
      go_ret
      exact ⟨ret_bool (by rw [hN.out]), rfl⟩
    · cases hsm : M.small s[0]
      · have hN := Lib.hid (M.name_no (s := s) (k := 0) hp (by rw [M.nameAt_eq hp, hsm]; simp))
        go_enter Tryz.func149, Tryz.ntmps149
        go_wp2_with (go_at_call 182; refine (spec_l01Small _ _).mono ?_; rw [hsm]; rintro e w' ⟨rfl, rfl⟩)
        go_ret
        exact ⟨ret_bool (by rw [hN.out]), rfl⟩
      · have hl2 : s.size ≤ 10 := by omega
        have HSM := Lib.hid hsm
        clear hsm
        go_enter Tryz.func149, Tryz.ntmps149
        go_wp2_with (go_at_call 182; refine (spec_l01Small _ _).mono ?_; rw [HSM.out]; rintro e w' ⟨rfl, rfl⟩)
        go_loop [3] (fun i => ∃ k : Nat, i = .int .i64 k ∧ k ≤ s.size ∧ Hid (∀ j, j < k → M.nameAt s j = true)) (fun i => s.size - (intOf i).toNat)
        case atStart => exact ⟨0, rfl, by omega, Lib.hid (by omega)⟩
        case round =>
          obtain ⟨k, rfl, hk, H⟩ := hrel
          by_cases hlt : k < s.size
          · have hA := Lib.hid (M.nameAt_eq hlt)
            have HG := Lib.hid (show M.nameAt s k = true → ∀ j, j < k + 1 → M.nameAt s j = true from fun h j hj => by
              rcases Nat.lt_or_ge j k with h1 | h1
              · exact H.out j h1
              · obtain rfl : j = k := by omega
                exact h)
            have HN := Lib.hid (fun h => M.name_no (s := s) (k := k) hlt h)
            have HK := Lib.hid (show k = 0 → M.small s[k] = true from fun e => by subst e; exact HSM.out)
            cases h1 : M.small s[k]
            · cases h2 : M.digit s[k]
              · have h3 := Lib.hid (HN.out (by rw [hA.out, h1, h2]; rfl))
                go_wp2_with (first | (go_at_call 182; refine (spec_l01Small _ _).mono ?_; rw [h1]; rintro e w' ⟨rfl, rfl⟩) | (go_at_call 183; refine (spec_l01Digit _ _).mono ?_; rw [h2]; rintro e w' ⟨rfl, rfl⟩))
                go_ret
                exact ⟨ret_bool (by rw [h3.out]), rfl⟩
              · have hk0 : ¬ k = 0 := fun e => by have := HK.out e; rw [h1] at this; cases this
                have h3 := Lib.hid (HG.out (by rw [hA.out, h1, h2]; simpa using hk0))
                clear hk0
                go_wp2_with (first | (go_at_call 182; refine (spec_l01Small _ _).mono ?_; rw [h1]; rintro e w' ⟨rfl, rfl⟩) | (go_at_call 183; refine (spec_l01Digit _ _).mono ?_; rw [h2]; rintro e w' ⟨rfl, rfl⟩))
                go_round
                case rel => exact ⟨k + 1, by go_num, by omega, h3⟩
                case measure => simp [intOf]; omega
            · have h3 := Lib.hid (HG.out (by rw [hA.out, h1]; rfl))
              go_wp2_with (go_at_call 182; refine (spec_l01Small _ _).mono ?_; rw [h1]; rintro e w' ⟨rfl, rfl⟩)
              go_round
              case rel => exact ⟨k + 1, by go_num, by omega, h3⟩
              case measure => simp [intOf]; omega
          · have hY := Lib.hid (M.name_yes (s := s) hp hl2 (fun j hj => H.out j (by omega)))
            go_wp2
            go_ret
            exact ⟨ret_bool (by rw [hY.out]), rfl⟩
end Go.Proofs.YtffhodocjjkkoaaGreat
namespace Go.Proofs.YtffhodocjjkkoaaGreat
open Go.RowKit
set_option maxHeartbeats 4000000
set_option maxRecDepth 100000
theorem M.inn_iffM {n lo hi : Int} : M.inn n lo hi = true ↔ lo ≤ n ∧ n ≤ hi := by simp [M.inn]
def M.sendsB (m : Int) : Int → List (Int × Int) → Bool
  | _, [] => true
  | last, x :: xs => M.inn x.1 (last + 1) (m - 1) && M.smp x.2 && M.sendsB m x.1 xs
def M.areSends (xs : List (Int × Int)) (k m : Int) : Bool := M.sendsB m k xs && (if k = m - 1 then decide (xs.length = 0) else M.inn xs.length 1 4)
def M.stripOk (x : Strip) (k m : Int) : Bool := M.name x.1 && M.inn x.2.1 0 32 && M.areSends x.2.2 k m
theorem M.sendsB_at {m last : Int} {xs : List (Int × Int)} {j : Nat} {p0 p1 : Int} (h : xs[j]? = some (p0, p1)) : M.sendsB m last (xs.drop j) = (M.inn p0 (last + 1) (m - 1) && M.smp p1 && M.sendsB m p0 (xs.drop (j + 1))) := by
  rw [M.drop_at h, M.sendsB]
theorem impl_size_impl_Send (A : Option Addr) (n c : Nat) (w : World) : Calls Tryz.prog 159 #[.slice A n c] w fun e w' => e = .returned (.int .i64 n) ∧ w = w' := by
  go_enter Tryz.func159, Tryz.ntmps159
  go_wp2
  go_ret
  exact ⟨rfl, rfl⟩
theorem impl_size_impl_Strip (A : Option Addr) (n c : Nat) (w : World) : Calls Tryz.prog 72 #[.slice A n c] w fun e w' => e = .returned (.int .i64 n) ∧ w = w' := by
  go_enter Tryz.func72, Tryz.ntmps72
  go_wp2
  go_ret
  exact ⟨rfl, rfl⟩
theorem impl_areSends (A : Option Addr) (n c : Nat) (xs : List (Int × Int)) (k m : Int) (w : World) (hx : RA sd 2 w w.heap.size A n xs) (hn : n ≤ 1000000000) (hk : 0 ≤ k ∧ k ≤ 1000000000) (hm : 0 ≤ m ∧ m ≤ 1000000000) :
    Calls Tryz.prog 123 #[.slice A n c, .int .i64 k, .int .i64 m] w fun e w' => e = .returned (.bool (M.areSends xs k m)) ∧ Below w.heap.size w w' := by
  have hl := Lib.hid hx.1
  go_enter Tryz.func123, Tryz.ntmps123
  go_wp2
  go_loopw [7, 9, 13] (fun v _ i wr => ∃ (j : Nat) (last : Int), i = .int .i64 j ∧ j ≤ n ∧ v = .int .i64 last ∧ 0 ≤ last ∧ last ≤ 1000000000 ∧ Hid (M.sendsB m k xs = M.sendsB m last (xs.drop j)) ∧ Below w.heap.size w wr) (fun _ _ i _ => n - (intOf i).toNat)
  case atStart => exact ⟨0, k, rfl, by omega, rfl, by omega, by omega, Lib.hid rfl, Below.refl _ _⟩
  case round =>
    obtain ⟨j, last, rfl, hj, rfl, hl0, hl1, H, hb⟩ := hrel
    by_cases hlt : j < n
    · obtain ⟨b, o, ⟨p0, p1⟩, rfl, hab, X, hcc⟩ := (hx.below hb).at sd_len (by decide) hlt
      have e0 : wr.cell? ⟨b, o + j * 2, none⟩ = some (.int .i64 p0) := hcc 0 _ rfl
      have e1 : wr.cell? ⟨b, o + j * 2 + 1, none⟩ = some (.int .i64 p1) := hcc 1 _ rfl
      have hS := Lib.hid (M.sendsB_at (m := m) (last := last) X.out)
      clear hcc
      cases h1 : M.inn p0 (last + 1) (m - 1)
      · have R := Lib.hid (show M.areSends xs k m = false by rw [M.areSends, H.out, hS.out, h1]; rfl)
        go_wp2_with (go_at_call 73; refine (impl_within _ _ _ _).mono ?_; rintro e w' ⟨rfl, rfl⟩)
        go_ret
        exact ⟨ret_bool (by rw [R.out]), hb.alloc hb.size _⟩
      · cases h2 : M.smp p1
        · have R := Lib.hid (show M.areSends xs k m = false by rw [M.areSends, H.out, hS.out, h1, h2]; rfl)
          go_wp2_with (first | (go_at_call 73; refine (impl_within _ _ _ _).mono ?_; rintro e w' ⟨rfl, rfl⟩) | (go_at_call 158; refine (impl_isSample _ _).mono ?_; rintro e w' ⟨rfl, rfl⟩))
          go_ret
          exact ⟨ret_bool (by rw [R.out]), hb.alloc hb.size _⟩
        · have hp := M.inn_iffM.1 h1
          have H2 := Lib.hid (show M.sendsB m k xs = M.sendsB m p0 (xs.drop (j + 1)) by rw [H.out, hS.out, h1, h2]; rfl)
          go_wp2_with (first | (go_at_call 73; refine (impl_within _ _ _ _).mono ?_; rintro e w' ⟨rfl, rfl⟩) | (go_at_call 158; refine (impl_isSample _ _).mono ?_; rintro e w' ⟨rfl, rfl⟩))
          go_roundw
          case rel => exact ⟨j + 1, p0, by go_num, by omega, rfl, by omega, by omega, H2, hb.alloc hb.size _⟩
          case measure => simp [intOf]; omega
    · have H2 := Lib.hid (show M.sendsB m k xs = true by rw [H.out, List.drop_eq_nil_of_le (by rw [hl.out]; omega)]; rfl)
      by_cases hkm : k = m - 1
      · have R := Lib.hid (show M.areSends xs k m = decide (n = 0) by rw [M.areSends, H2.out, if_pos hkm, hl.out]; rfl)
        have hkm2 : (k == m - 1) = true := by simpa using hkm
        clear hkm
        by_cases hz : n = 0
        · subst hz
          go_wp2
          go_ret
          exact ⟨ret_bool (by rw [R.out]; rfl), hb⟩
        · have hz2 : ((n : Int) == 0) = false := by simpa using hz
          have R2 := Lib.hid (show M.areSends xs k m = false by rw [R.out]; simpa using hz)
          clear hz
          go_wp2
          go_ret
          exact ⟨ret_bool (by first | (rw [R2.out]; done) | (rw [R2.out]; exact hz2)), hb⟩
      · have hkm2 : (k == m - 1) = false := by simpa using hkm
        have R := Lib.hid (show M.areSends xs k m = M.inn n 1 4 by rw [M.areSends, H2.out, if_neg hkm, hl.out]; rfl)
        go_wp2_with (first | (go_at_call 73; refine (impl_within _ _ _ _).mono ?_; rintro e w' ⟨rfl, rfl⟩) | (go_at_call 159; refine (impl_size_impl_Send _ _ _ _).mono ?_; rintro e w' ⟨rfl, rfl⟩))
        go_ret
        exact ⟨ret_bool (by rw [R.out]), hb⟩
theorem spec_l26Strip (g o : Nat) (s : ByteArray) (l : Int) (A : Option Addr) (n c : Nat) (xs : List (Int × Int)) (k m : Int) (w : World) (a0 : w.cell? ⟨g, o, none⟩ = some (.string s)) (a1 : w.cell? ⟨g, o + 1, none⟩ = some (.int .i64 l)) (a2 : w.cell? ⟨g, o + 2, none⟩ = some (.slice A n c))
    (hs : s.size ≤ maxLen) (hx : RA sd 2 w w.heap.size A n xs) (hn : n ≤ 1000000000) (hk : 0 ≤ k ∧ k ≤ 1000000000) (hm : 0 ≤ m ∧ m ≤ 1000000000) :
    Calls Tryz.prog 113 #[.pointer (some ⟨g, o, none⟩), .int .i64 k, .int .i64 m] w fun e w' => e = .returned (.bool (M.stripOk (s, l, xs) k m)) ∧ w = w' := by
  have hl := Lib.hid hx.1
  cases hN : M.name s
  · have R := Lib.hid (show M.stripOk (s, l, xs) k m = false by rw [M.stripOk, hN]; rfl)
    go_enter Tryz.func113, Tryz.ntmps113
    go_wp2_with (first | (go_at_call 149; refine (spec_IsName _ _ hs).mono ?_; rw [hN]; rintro e w' ⟨rfl, rfl⟩) | (go_at_call 53; refine (spec_l00In _ _ _ _).mono ?_; rintro e w' ⟨rfl, rfl⟩))
    go_ret
    exact ⟨ret_bool (by rw [R.out]), rfl⟩
  cases hL : M.inn l 0 32
  · have R := Lib.hid (show M.stripOk (s, l, xs) k m = false by rw [M.stripOk, hN, hL]; rfl)
    go_enter Tryz.func113, Tryz.ntmps113
    go_wp2_with (first | (go_at_call 149; refine (spec_IsName _ _ hs).mono ?_; rw [hN]; rintro e w' ⟨rfl, rfl⟩) | (go_at_call 53; refine (spec_l00In _ _ _ _).mono ?_; rintro e w' ⟨rfl, rfl⟩))
    go_ret
    exact ⟨ret_bool (by rw [R.out]), rfl⟩
  by_cases h4 : 4 < n
  · have h4' : (4 : Int) < (n : Int) := by omega
    have R := Lib.hid (show M.stripOk (s, l, xs) k m = false by
      rw [M.stripOk, hN, hL]
      show M.areSends xs k m = false
      rw [M.areSends, hl.out]
      split
      · rw [decide_eq_false (by omega), Bool.and_false]
      · rw [show M.inn (n : Int) 1 4 = false by simp [M.inn]; omega, Bool.and_false])
    go_enter Tryz.func113, Tryz.ntmps113
    go_wp2_with (first | (go_at_call 149; refine (spec_IsName _ _ hs).mono ?_; rw [hN]; rintro e w' ⟨rfl, rfl⟩) | (go_at_call 53; refine (spec_l00In _ _ _ _).mono ?_; rintro e w' ⟨rfl, rfl⟩))
    go_ret
    exact ⟨ret_bool (by rw [R.out]), rfl⟩
  by_cases hz : n = 0
  · by_cases hkm : k = m - 1
    · have R := Lib.hid (show M.stripOk (s, l, xs) k m = true by
        have hnil : xs = [] := List.eq_nil_of_length_eq_zero (by rw [hl.out, hz])
        rw [M.stripOk, hN, hL, M.areSends, if_pos hkm, hnil]; rfl)
      have hkm2 : (k == m - 1) = true := by simpa using hkm
      subst hz
      clear hkm
      go_enter Tryz.func113, Tryz.ntmps113
      go_wp2_with (first | (go_at_call 149; refine (spec_IsName _ _ hs).mono ?_; rw [hN]; rintro e w' ⟨rfl, rfl⟩) | (go_at_call 53; refine (spec_l00In _ _ _ _).mono ?_; rintro e w' ⟨rfl, rfl⟩))
      go_loop [7, 8] (fun _ i => i = .int .i64 0) (fun _ _ => 0)
      case atStart => exact rfl
      case round =>
        obtain rfl := hrel
        go_wp2
        go_ret
        exact ⟨ret_bool (by rw [R.out]), rfl⟩
    · have R := Lib.hid (show M.stripOk (s, l, xs) k m = false by
        rw [M.stripOk, hN, hL]
        show M.areSends xs k m = false
        rw [M.areSends, hl.out, if_neg hkm, hz, show M.inn ((0 : Nat) : Int) 1 4 = false by decide, Bool.and_false])
      have hkm2 : (k == m - 1) = false := by simpa using hkm
      subst hz
      go_enter Tryz.func113, Tryz.ntmps113
      go_wp2_with (first | (go_at_call 149; refine (spec_IsName _ _ hs).mono ?_; rw [hN]; rintro e w' ⟨rfl, rfl⟩) | (go_at_call 53; refine (spec_l00In _ _ _ _).mono ?_; rintro e w' ⟨rfl, rfl⟩))
      go_ret
      exact ⟨ret_bool (by rw [R.out]), rfl⟩
  · have hz2 : ((n : Int) == 0) = false := by simpa using hz
    by_cases hkm : k = m - 1
    · have R := Lib.hid (show M.stripOk (s, l, xs) k m = false by
        rw [M.stripOk, hN, hL]
        show M.areSends xs k m = false
        rw [M.areSends, hl.out, if_pos hkm, decide_eq_false hz, Bool.and_false])
      have hkm2 : (k == m - 1) = true := by simpa using hkm
      clear hkm hz
      go_enter Tryz.func113, Tryz.ntmps113
      go_wp2_with (first | (go_at_call 149; refine (spec_IsName _ _ hs).mono ?_; rw [hN]; rintro e w' ⟨rfl, rfl⟩) | (go_at_call 53; refine (spec_l00In _ _ _ _).mono ?_; rintro e w' ⟨rfl, rfl⟩))
      go_ret
      exact ⟨ret_bool (by rw [R.out]), rfl⟩
    · have R := Lib.hid (show M.stripOk (s, l, xs) k m = M.sendsB m k xs by
        rw [M.stripOk, hN, hL]
        show M.areSends xs k m = _
        rw [M.areSends, hl.out, if_neg hkm, show M.inn (n : Int) 1 4 = true from M.inn_iffM.2 ⟨by omega, by omega⟩, Bool.and_true])
      have hkm2 : (k == m - 1) = false := by simpa using hkm
      have hN' := Lib.hid hN
      have hL' := Lib.hid hL
      clear hkm hz hN hL
      go_enter Tryz.func113, Tryz.ntmps113
      go_wp2_with (first | (go_at_call 149; refine (spec_IsName _ _ hs).mono ?_; rw [hN'.out]; rintro e w' ⟨rfl, rfl⟩) | (go_at_call 53; refine (spec_l00In _ _ _ _).mono ?_; rw [hL'.out]; rintro e w' ⟨rfl, rfl⟩))
      go_loop [7, 8] (fun v i => ∃ (j : Nat) (last : Int), i = .int .i64 j ∧ j ≤ n ∧ v = .int .i64 last ∧ 0 ≤ last ∧ last ≤ 1000000000 ∧ Hid (M.sendsB m k xs = M.sendsB m last (xs.drop j))) (fun _ i => n - (intOf i).toNat)
      case atStart => exact ⟨0, k, rfl, by omega, rfl, by omega, by omega, Lib.hid rfl⟩
      case round =>
        obtain ⟨j, last, rfl, hj, rfl, hl0, hl1, H⟩ := hrel
        by_cases hlt : j < n
        · obtain ⟨b, o1, ⟨p0, p1⟩, rfl, hab, X, hcc⟩ := hx.at sd_len (by decide) hlt
          have e0 : w.cell? ⟨b, o1 + j * 2, none⟩ = some (.int .i64 p0) := hcc 0 _ rfl
          have e1 : w.cell? ⟨b, o1 + j * 2 + 1, none⟩ = some (.int .i64 p1) := hcc 1 _ rfl
          have hS := Lib.hid (M.sendsB_at (m := m) (last := last) X.out)
          clear hcc
          cases h1 : M.inn p0 (last + 1) (m - 1)
          · have R2 := Lib.hid (show M.stripOk (s, l, xs) k m = false by rw [R.out, H.out, hS.out, h1]; rfl)
            go_wp2_with (go_at_call 53; refine (spec_l00In _ _ _ _).mono ?_; rintro e w' ⟨rfl, rfl⟩)
            go_ret
            exact ⟨ret_bool (by rw [R2.out]), rfl⟩
          · cases h2 : M.smp p1
            · have R2 := Lib.hid (show M.stripOk (s, l, xs) k m = false by rw [R.out, H.out, hS.out, h1, h2]; rfl)
              go_wp2_with (first | (go_at_call 53; refine (spec_l00In _ _ _ _).mono ?_; rintro e w' ⟨rfl, rfl⟩) | (go_at_call 114; refine (spec_l01Sample _ _).mono ?_; rintro e w' ⟨rfl, rfl⟩))
              go_ret
              exact ⟨ret_bool (by rw [R2.out]), rfl⟩
            · have hp := M.inn_iffM.1 h1
              have H2 := Lib.hid (show M.sendsB m k xs = M.sendsB m p0 (xs.drop (j + 1)) by rw [H.out, hS.out, h1, h2]; rfl)
              go_wp2_with (first | (go_at_call 53; refine (spec_l00In _ _ _ _).mono ?_; rintro e w' ⟨rfl, rfl⟩) | (go_at_call 114; refine (spec_l01Sample _ _).mono ?_; rintro e w' ⟨rfl, rfl⟩))
              go_round
              case rel => exact ⟨j + 1, p0, by go_num, by omega, rfl, by omega, by omega, H2⟩
              case measure => simp [intOf]; omega
        · have R2 := Lib.hid (show M.stripOk (s, l, xs) k m = true by rw [R.out, H.out, List.drop_eq_nil_of_le (by rw [hl.out]; omega)]; rfl)
          go_wp2
          go_ret
          exact ⟨ret_bool (by rw [R2.out]), rfl⟩
end Go.Proofs.YtffhodocjjkkoaaGreat
namespace Go.Proofs.YtffhodocjjkkoaaGreat
open Go.RowKit
open Go.Maps (Keyed)
set_option maxHeartbeats 4000000
set_option maxRecDepth 100000
theorem lookup_bool {P : Program} {k t e : TypeId} {w : World} {b n : Nat} {D : DataW Unit} (h : w.ownsMap P k (plainElem P e) b n D) (K : Keyed P k) (ht : P.underlying t = some (.map k e)) (he : P.underlying e = some .bool) (hz : (zeroValue e).run P w = .ok (.bool false) w)
    {key : Value} {kl : Lit} (hkey : keyOf P k key = some kl) : ∃ c, (Instr.lookup t (.map (some b)) key false).run P w = .ok (.bool c) w ∧ D.atKey kl (.lit (.bool false)) = .lit (.bool c) := by
  obtain ⟨v, ps, hrun, hv⟩ := h.lookup K ht hz (plainElem_bool he false) hkey
  unfold plainElem at hv
  rw [he] at hv
  cases v <;> simp at hv
  rename_i c
  exact ⟨c, hrun, hv.1.symm⟩
def M.has (s : ByteArray) (l : List ByteArray) : Bool := l.any fun t => decide (t = s)
/-- The map of the names so far. -/
def NamesOf (D : DataW Unit) (l : List ByteArray) : Prop := Go.Maps.IsMap D ∧ ∀ s : ByteArray, D.atKey (.string s.data.toList) (.lit (.bool false)) = .lit (.bool (M.has s l))
theorem bytes_eq {s t : ByteArray} (h : s.data.toList = t.data.toList) : s = t := ByteArray.ext (Array.toList_inj.1 h)
theorem names_nil : NamesOf (.map []) [] := ⟨⟨[], rfl⟩, fun s => rfl⟩
theorem names_put {D : DataW Unit} {l : List ByteArray} (h : NamesOf D l) (s : ByteArray) : NamesOf (D.put (.string s.data.toList) (.lit (.bool true))) (l ++ [s]) := by
  refine ⟨?_, fun t => ?_⟩
  · obtain ⟨es, rfl⟩ := h.1
    exact ⟨_, rfl⟩
  · by_cases e : t = s
    · subst e
      rw [Go.Maps.atKey_put_same (k := .string t.data.toList) h.1 (by simp [WideAt.IsKeyLit])]
      simp [M.has]
    · rw [Go.Maps.atKey_put_other (fun e2 => e (by injection e2 with e2; exact bytes_eq e2)), h.2 t]
      have e2 : ¬ s = t := fun h => e h.symm
      simp [M.has, e2]
theorem keyed_str : Keyed Tryz.prog 9 := Keyed.of_law (Go.WideMaps.string_law Tryz.underlying9)
theorem zero_bool (w : World) : (zeroValue 4).run Tryz.prog w = .ok (.bool false) w := by kernel_rfl
def M.sz : Strip := (⟨#[]⟩, 0, [])
def M.stepM (xs : List Strip) (k : Nat) : Bool := M.stripOk ((xs[k]?).getD M.sz) k xs.length && !M.has ((xs[k]?).getD M.sz).1 ((xs.take k).map (·.1))
/-- A mixer is valid. -/
def M.mixOk (xs : List Strip) : Bool := M.inn xs.length 1 8 && (List.range xs.length).all (M.stepM xs)
theorem M.mix_no {xs : List Strip} {k : Nat} (hk : k < xs.length) (h : M.stepM xs k = false) : M.mixOk xs = false := by
  rw [M.mixOk]
  cases hall : (List.range xs.length).all (M.stepM xs)
  · simp
  · rw [List.all_eq_true] at hall
    have := hall k (List.mem_range.2 hk)
    rw [h] at this
    cases this
theorem M.mix_end {xs : List Strip} (h : ∀ j, j < xs.length → M.stepM xs j = true) : M.mixOk xs = M.inn xs.length 1 8 := by
  rw [M.mixOk, show (List.range xs.length).all (M.stepM xs) = true from List.all_eq_true.2 fun j hj => h j (List.mem_range.1 hj), Bool.and_true]
theorem M.stepM_eq {xs : List Strip} {k : Nat} {x : Strip} (h : xs[k]? = some x) : M.stepM xs k = (M.stripOk x k xs.length && !M.has x.1 ((xs.take k).map (·.1))) := by
  rw [M.stepM, h]; rfl
theorem grown_of_bel {w w' : World} (h : Below w.heap.size w w') (row : Option Nat) : w.grownBy w' row := ⟨h.os, h.tape, h.output, h.size, fun k hk _ => h.block k hk⟩
theorem impl_isMixer (A : Option Addr) (n c : Nat) (xs : List Strip) (w : World) (hx : tM.R w w.heap.size [.slice A n c] xs) (hn : hM.sz xs ≤ 100000000) :
    Calls Tryz.prog 75 #[.agg #[.slice A n c]] w fun e w' => e = .returned (.bool (M.mixOk xs)) ∧ Below w.heap.size w w' := by
  have rx := sl_R.1 hx
  have hlx := rx.cap.1
  have hm1 : xs.length + hSt.szL xs ≤ 100000000 := hn
  have hnb : n ≤ 100000000 := by omega
  have HLX := Lib.hid hlx
  have HM1 := Lib.hid hm1
  clear hlx hx hn hm1
  have hmm := @run_makeMap Tryz.prog
  go_enter Tryz.func75, Tryz.ntmps75
  go_wp2_with (go_at_call 72; refine (impl_size_impl_Strip _ _ _ _).mono ?_; rintro e w' ⟨rfl, rfl⟩)
  go_loopw [5, 6, 14] (fun _ _ i wr => ∃ (k : Nat) (D : DataW Unit), i = .int .i64 k ∧ k ≤ n ∧ Hid (∀ j, j < k → M.stepM xs j = true) ∧ Hid (NamesOf D ((xs.take k).map (·.1))) ∧ wr.ownsMap Tryz.prog 9 (plainElem Tryz.prog 4) (w.heap.size + 1) k D ∧ w.heap.size + 1 + 1 ≤ wr.heap.size ∧ Below w.heap.size w wr) (fun _ _ i _ => n - (intOf i).toNat)
  case atStart => exact ⟨0, .map [], rfl, by omega, Lib.hid (by omega), Lib.hid (by simpa using names_nil), by have := World.ownsMap_made (w.alloc (.cells #[.slice A n c] 38)) Tryz.prog 9 (plainElem (H := Unit) Tryz.prog 4); simpa using this, by simp, ((Below.refl _ _).alloc (Nat.le_refl _) _).alloc (by simp) _⟩
  case round =>
    obtain ⟨k, D, rfl, hk, H, HD, hown, hsz, Bw⟩ := hrel
    clear hmm
    by_cases hlt : k < n
    · have hX := Lib.hid (List.getElem?_eq_getElem (l := xs) (i := k) (by rw [HLX.out]; exact hlt))
      obtain ⟨b, o1, cc, cs, hv, hab, -, hE, hcc⟩ := (rx.below Bw).atX hX.out
      simp only [Value.slice.injEq] at hv
      obtain ⟨rfl, -, rfl⟩ := hv
      have hU := hSt.szL_at hX.out
      generalize xs[k]'(by rw [HLX.out]; exact hlt) = x at hX hE hU
      obtain ⟨s, l, us⟩ := x
      rw [hSt_sz] at hU
      obtain ⟨A1, n1, c1, rfl, hs, hE⟩ := st_R.1 hE
      have n1b : n1 ≤ 1000000000 := by have := (tSdS_ra hE).1.1; have := HM1.out; omega
      have e0 : wr.cell? ⟨b, o1 + k * 3, none⟩ = some (.string s) := hcc 0 _ rfl
      have e1 : wr.cell? ⟨b, o1 + k * 3 + 1, none⟩ = some (.int .i64 l) := hcc 1 _ rfl
      have e2 : wr.cell? ⟨b, o1 + k * 3 + 2, none⟩ = some (.slice A1 n1 c1) := hcc 2 _ rfl
      have hbr : b < wr.heap.size := Nat.lt_of_lt_of_le hab Bw.size
      have hE2 := tSdS.later (tSdS.more Bw.size hE) ((Below.refl wr.heap.size wr).alloc (Nat.le_refl _) (.cells #[.string s, .int .i64 l, .slice A1 n1 c1] 78))
      have hra := (tSdS_ra hE2).1
      have hS := Lib.hid (M.stepM_eq hX.out)
      have HNO := Lib.hid (fun h => M.mix_no (xs := xs) (k := k) (by rw [HLX.out]; exact hlt) h)
      have hownU := hown.alloc (.cells #[.string s, .int .i64 l, .slice A1 n1 c1] 78)
      have hkey : keyOf Tryz.prog 9 (.string s) = some (.string s.data.toList) := Go.WideMaps.keyOf_string_mk Tryz.underlying9 hs
      obtain ⟨q, hrun, hat⟩ := lookup_bool hownU keyed_str Tryz.underlying162 Tryz.underlying4 (zero_bool _) hkey
      have hq : q = M.has s ((xs.take k).map (·.1)) := by
        rw [HD.out.2 s] at hat
        injection hat with hat
        injection hat with hat
        exact hat.symm
      have HQ := Lib.hid hq
      have Bu := Bw.alloc Bw.size (.cells #[.string s, .int .i64 l, .slice A1 n1 c1] 78)
      clear hcc hU hE hE2 hat hq
      cases hN : M.name s
      · have R := Lib.hid (show M.mixOk xs = false from HNO.out (by rw [hS.out, M.stripOk, hN]; rfl))
        go_wp2_with (first | (go_at_call 122; refine (impl_IsName _ _ hs).mono ?_; rw [hN]; rintro e w' ⟨rfl, rfl⟩))
        go_ret
        exact ⟨ret_bool (by rw [R.out]), Bu⟩
      by_cases hq1 : q = true
      · subst hq1
        have R := Lib.hid (show M.mixOk xs = false from HNO.out (by rw [hS.out, ← HQ.out, Bool.not_true, Bool.and_false]))
        go_wp2_with (first | (go_at_call 122; refine (impl_IsName _ _ hs).mono ?_; rw [hN]; rintro e w' ⟨rfl, rfl⟩))
        go_ret
        exact ⟨ret_bool (by rw [R.out]), Bu⟩
      have hq0 : q = false := by simpa using hq1
      subst hq0
      clear hq1
      cases hL : M.inn l 0 32
      · have R := Lib.hid (show M.mixOk xs = false from HNO.out (by rw [hS.out, M.stripOk, hN, hL]; rfl))
        go_wp2_with (first | (go_at_call 122; refine (impl_IsName _ _ hs).mono ?_; rw [hN]; rintro e w' ⟨rfl, rfl⟩) | (go_at_call 73; refine (impl_within _ _ _ _).mono ?_; rintro e w' ⟨rfl, rfl⟩))
        go_ret
        exact ⟨ret_bool (by rw [R.out]), Bu⟩
      have hAS := impl_areSends A1 n1 c1 us k n _ hra n1b ⟨by omega, by omega⟩ ⟨by omega, by omega⟩
      cases hA : M.areSends us k n
      · have R := Lib.hid (show M.mixOk xs = false from HNO.out (by rw [hS.out, M.stripOk, hN, hL, HLX.out, hA]; rfl))
        go_wp2_with (first | (go_at_call 122; refine (impl_IsName _ _ hs).mono ?_; rw [hN]; rintro e w' ⟨rfl, rfl⟩) | (go_at_call 73; refine (impl_within _ _ _ _).mono ?_; rintro e w' ⟨rfl, rfl⟩) | (go_at_call 123; refine hAS.mono ?_; rw [hA]; clear hAS; rintro e w2 ⟨rfl, bel2⟩))
        go_ret
        exact ⟨ret_bool (by rw [R.out]), bel_trans' Bu (by simp; omega) bel2⟩
      · have HST := Lib.hid (show M.stepM xs k = true by rw [hS.out, M.stripOk, hN, hL, HLX.out, hA, ← HQ.out]; rfl)
        have HT := Lib.hid (show (xs.take (k + 1)).map (·.1) = (xs.take k).map (·.1) ++ [s] by rw [M.take_at hX.out, List.map_append]; rfl)
        go_wp2_with (first | (go_at_call 122; refine (impl_IsName _ _ hs).mono ?_; rw [hN]; rintro e w' ⟨rfl, rfl⟩) | (go_at_call 73; refine (impl_within _ _ _ _).mono ?_; rintro e w' ⟨rfl, rfl⟩) | (go_at_call 123; refine hAS.mono ?_; rw [hA]; clear hAS; rintro e w2 ⟨rfl, bel2⟩; have hown2 := hownU.kept (grown_of_bel bel2 none) (by simp); have z2 : wr.heap.size + 1 ≤ w2.heap.size := (by have := bel2.size; simpa using this); have g0 : w2.cell? ⟨wr.heap.size, 0, none⟩ = some (.string s) := (by rw [bel2.cell (by simp), cell_of_row _ wr.heap.size 0 _ 78 (0, 0) (heap_alloc_new wr _)]; rfl)) | (at_mapUpdate; refine wpList_mapUpdate_own _ rfl _ _ _ 162 rfl 9 4 keyed_str Tryz.underlying162 _ (w.heap.size + 1) k _ rfl hown2 (by unfold maxLen; omega) _ _ _ rfl rfl hkey _ [] (plainElem_bool Tryz.underlying4 true) ?_; intro w3 hown3 hgrow3))
        go_roundw
        case rel => exact ⟨k + 1, _, by go_num, by omega, Lib.hid (fun j hj => by
            rcases Nat.lt_or_ge j k with h1 | h1
            · exact H.out j h1
            · obtain rfl : j = k := by omega
              exact HST.out), Lib.hid (by rw [HT.out]; exact names_put HD.out s), hown3, by have := hgrow3.size; omega, (bel_trans' Bu (by simp; omega) bel2).grown hgrow3 (by omega) (fun j hj => by injection hj with hj; omega)⟩
        case measure => simp [intOf]; omega
    · have R := Lib.hid (show M.mixOk xs = M.inn n 1 8 by rw [M.mix_end (fun j hj => H.out j (by rw [HLX.out] at hj; omega)), HLX.out])
      go_wp2_with (go_at_call 73; refine (impl_within _ _ _ _).mono ?_; rintro e w' ⟨rfl, rfl⟩)
      go_ret
      exact ⟨ret_bool (by rw [R.out]), Bw⟩
end Go.Proofs.YtffhodocjjkkoaaGreat
namespace Go.Proofs.YtffhodocjjkkoaaGreat
open Go.RowKit
set_option maxHeartbeats 4000000
set_option maxRecDepth 100000
/-- A number that a harness does not mark. -/
def hU : Hs Int := ⟨fun _ => 0, fun _ x => x, fun _ => 0⟩
theorem bcell {W w1 : World} (hb : Below W.heap.size W w1) : (∀ b o, b < W.heap.size → w1.cell? ⟨b, o, none⟩ = W.cell? ⟨b, o, none⟩) ∧ (∀ b o, b < W.heap.size → w1.frozen? ⟨b, o, none⟩ = W.frozen? ⟨b, o, none⟩) :=
  ⟨fun b o h => hb.cell (p := ⟨b, o, none⟩) h, fun b o h => hb.frozen (p := ⟨b, o, none⟩) h⟩
theorem open_sl {α : Type} {t : Ty α} {e : TypeId} {w : World} {B : Nat} {cs : List Value} {x : List α} (h : (t.sl e).R w B cs x) : ∃ A n c, cs = [.slice A n c] := by
  obtain ⟨v, rfl, hr⟩ := h
  obtain ⟨A, c, rfl⟩ := hr.shape
  exact ⟨_, _, _, rfl⟩
abbrev Clip_ := Int × Int × Int × Int × Int
theorem nf_sz_S (A : Option Addr) (n c : Nat) (xs : List Int) (l : Int) (w : World) (hx : tS.R w w.heap.size [.slice A n c] xs) (hl : 0 ≤ l ∧ l ≤ 1000000000) :
    Calls Tryz.prog 30 #[.slice A n c, .int .i64 l] w fun e w' => e = .returned (.int .i64 (if (hS.sz xs : Int) ≤ l then l - hS.sz xs else -1)) ∧ Below w.heap.size w w' := by
  obtain ⟨h1, h2, h3⟩ := (tS_R.1 hx).cap
  have hn : n ≤ 9223372036854775807 := by unfold maxLen at h3; omega
  rw [hS_sz, h1]
  clear h1 h2 h3 hx
  by_cases h : (n : Int) ≤ l
  all_goals
    go_enter Tryz.func30, Tryz.ntmps30
    go_wp2
    go_ret
    exact ⟨rfl, Below.refl _ _⟩
end Go.Proofs.YtffhodocjjkkoaaGreat
namespace Go.Proofs.YtffhodocjjkkoaaGreat
open Go.RowKit
set_option maxHeartbeats 4000000
set_option maxRecDepth 100000
abbrev Node := Int × Int × Int × (List Int)
abbrev tN : Ty Node := tI.prod (tI.prod (tI.prod tS))
abbrev hN : Hs Node := hI.prod (hI.prod (hI.prod hS))
theorem tN_R {w : World} {B : Nat} {cs : List Value} {a0 : Int} {a1 : Int} {a2 : Int} {x3 : List Int} : tN.R w B cs (a0, a1, a2, x3) ↔ ∃ A3 n3 c3, cs = [.int .i64 a0, .int .i64 a1, .int .i64 a2, .slice A3 n3 c3] ∧ tS.R w B [.slice A3 n3 c3] x3 := by
  constructor
  · rintro ⟨u0, d0, rfl, g0, ⟨u1, d1, rfl, g1, ⟨u2, d2, rfl, g2, g3⟩⟩⟩
    obtain rfl : u0 = [.int .i64 a0] := g0
    obtain rfl : u1 = [.int .i64 a1] := g1
    obtain rfl : u2 = [.int .i64 a2] := g2
    obtain ⟨A3, n3, c3, rfl⟩ := open_sl g3
    exact ⟨A3, n3, c3, rfl, g3⟩
  · rintro ⟨A3, n3, c3, rfl, g3⟩
    exact ⟨[.int .i64 a0], _, rfl, rfl, ⟨[.int .i64 a1], _, rfl, rfl, ⟨[.int .i64 a2], _, rfl, rfl, g3⟩⟩⟩
theorem tN_O {w : World} {F : Nat → Prop} {cs : List Value} {a0 : Int} {a1 : Int} {a2 : Int} {x3 : List Int} : tN.O w F cs (a0, a1, a2, x3) ↔ ∃ A3 n3 c3, ∃ F3 : Nat → Prop, cs = [.int .i64 a0, .int .i64 a1, .int .i64 a2, .slice A3 n3 c3] ∧ tS.O w F3 [.slice A3 n3 c3] x3 ∧ (∀ b, F3 b → F b) := by
  constructor
  · rintro ⟨u0, d0, F0, G0, rfl, g0, ⟨u1, d1, F1, G1, rfl, g1, ⟨u2, d2, F2, G2, rfl, g2, g3, p2, q2, r2⟩, p1, q1, r1⟩, p0, q0, r0⟩
    obtain rfl : u0 = [.int .i64 a0] := g0
    obtain rfl : u1 = [.int .i64 a1] := g1
    obtain rfl : u2 = [.int .i64 a2] := g2
    obtain ⟨A3, n3, c3, rfl⟩ := open_sl (tS.read g3)
    exact ⟨A3, n3, c3, G2, rfl, g3, fun b h => q0 _ (q1 _ (q2 _ (h)))⟩
  · rintro ⟨A3, n3, c3, F3, rfl, g3, p3⟩
    exact ⟨[.int .i64 a0], _, (fun _ => False), F3, rfl, rfl, ⟨[.int .i64 a1], _, (fun _ => False), F3, rfl, rfl, ⟨[.int .i64 a2], _, (fun _ => False), F3, rfl, rfl, g3, fun _ h => h.elim, fun b h => by first | exact h | exact Or.inr h | (rcases h with h <;> simp only [*, true_or, or_true]), fun _ h => h.elim⟩, fun _ h => h.elim, fun b h => by first | exact h | exact Or.inr h | (rcases h with h <;> simp only [*, true_or, or_true]), fun _ h => h.elim⟩, fun _ h => h.elim, p3, fun _ h => h.elim⟩
theorem hN_sz (a0 : Int) (a1 : Int) (a2 : Int) (x3 : List Int) : hN.sz (a0, a1, a2, x3) = hS.sz x3 := by
  show 0 + (0 + (0 + (hS.sz x3))) = _
  omega
theorem hN_cnt (a0 : Int) (a1 : Int) (a2 : Int) (x3 : List Int) : hN.cnt (a0, a1, a2, x3) = 3 + hS.cnt x3 := by
  show 1 + (1 + (1 + (hS.cnt x3))) = _
  omega
theorem nf_sz_N (a0 : Int) (a1 : Int) (a2 : Int) (A3 : Option Addr) (n3 c3 : Nat) (x3 : List Int) (l : Int) (w : World) (h3 : tS.R w w.heap.size [.slice A3 n3 c3] x3) (hl : 0 ≤ l ∧ l ≤ 1000000000) :
    Calls Tryz.prog 147 #[.agg #[.int .i64 a0, .int .i64 a1, .int .i64 a2, .slice A3 n3 c3], .int .i64 l] w fun e w' => e = .returned (.int .i64 (if (hN.sz ((a0, a1, a2, x3) : Node) : Int) ≤ l then l - hN.sz ((a0, a1, a2, x3) : Node) else -1)) ∧ Below w.heap.size w w' := by
  obtain ⟨W, hW⟩ : ∃ W, W = w.alloc (.cells #[.int .i64 a0, .int .i64 a1, .int .i64 a2, .slice A3 n3 c3] 188) := ⟨_, rfl⟩
  have B0 : Below w.heap.size w W := by rw [hW]; exact (Below.refl _ _).alloc (Nat.le_refl _) _
  have p3 : W.cell? ⟨w.heap.size, 3, none⟩ = some (.slice A3 n3 c3) := by rw [hW]; simp [go_sem]
  have l0 : w.heap.size < W.heap.size := by rw [hW]; simp
  have y3_0 := tS.later h3 B0
  have HW := Lib.hid hW
  clear hW
  rw [hN_sz]
  have z3 : 0 ≤ (hS.sz x3 : Int) := Int.natCast_nonneg _
  by_cases g0 : (hS.sz x3 : Int) ≤ l
  · have i0 := Lib.hid (show (if (hS.sz x3 : Int) ≤ l then l - hS.sz x3 else -1) = l - hS.sz x3 by rw [if_pos g0])
    have hj := Lib.hid (show (if ((hS.sz x3 : Nat) : Int) ≤ l then l - ((hS.sz x3 : Nat) : Int) else -1) = l - hS.sz x3 by rw [if_pos (by omega)]; first | done | omega)
    rw [hj.out]
    clear z3
    go_enter Tryz.func147, Tryz.ntmps147
    go_wp2_with fail
    rw [← HW.out]
    refine (nf_sz_S _ _ _ _ _ _ y3_0 (by omega)).mono ?_
    rw [i0.out]
    rintro e w1 ⟨rfl, b1⟩
    obtain ⟨hc1, -⟩ := bcell b1
    have l1 := Nat.lt_of_lt_of_le l0 b1.size
    have B1 := bel_trans B0 b1
    go_wp2
    go_ret
    exact ⟨rfl, B1⟩
  · have i0 := Lib.hid (show (if (hS.sz x3 : Int) ≤ l then l - hS.sz x3 else -1) = -1 by rw [if_neg g0])
    have hj := Lib.hid (show (if ((hS.sz x3 : Nat) : Int) ≤ l then l - ((hS.sz x3 : Nat) : Int) else -1) = -1 by rw [if_neg (by omega)])
    rw [hj.out]
    clear z3
    go_enter Tryz.func147, Tryz.ntmps147
    go_wp2_with fail
    rw [← HW.out]
    refine (nf_sz_S _ _ _ _ _ _ y3_0 (by omega)).mono ?_
    rw [i0.out]
    rintro e w1 ⟨rfl, b1⟩
    obtain ⟨hc1, -⟩ := bcell b1
    have l1 := Nat.lt_of_lt_of_le l0 b1.size
    have B1 := bel_trans B0 b1
    go_wp2
    go_ret
    exact ⟨rfl, B1⟩
theorem nf_eq_N (a0 : Int) (a1 : Int) (a2 : Int) (A3 : Option Addr) (n3 c3 : Nat) (A3' : Option Addr) (n3' c3' : Nat) (x3 : List Int) (w : World) (h3 : tS.R w w.heap.size [.slice A3 n3 c3] x3) (k3 : tS.R w w.heap.size [.slice A3' n3' c3'] x3) (hn : hN.sz ((a0, a1, a2, x3) : Node) ≤ 100000000) :
    Calls Tryz.prog 164 #[.agg #[.int .i64 a0, .int .i64 a1, .int .i64 a2, .slice A3 n3 c3], .agg #[.int .i64 a0, .int .i64 a1, .int .i64 a2, .slice A3' n3' c3']] w fun e w' => e = .returned (.bool true) ∧ Below w.heap.size w w' := by
  obtain ⟨W, hW⟩ : ∃ W, W = (w.alloc (.cells #[.int .i64 a0, .int .i64 a1, .int .i64 a2, .slice A3 n3 c3] 171)).alloc (.cells #[.int .i64 a0, .int .i64 a1, .int .i64 a2, .slice A3' n3' c3'] 171) := ⟨_, rfl⟩
  have B0 : Below w.heap.size w W := by rw [hW]; exact ((Below.refl _ _).alloc (Nat.le_refl _) _).alloc (by simp) _
  have p0 : W.cell? ⟨w.heap.size, 0, none⟩ = some (.int .i64 a0) := by rw [hW]; simp [go_sem]
  have q0 : W.cell? ⟨w.heap.size + 1, 0, none⟩ = some (.int .i64 a0) := by rw [hW]; simp [go_sem]
  have p1 : W.cell? ⟨w.heap.size, 1, none⟩ = some (.int .i64 a1) := by rw [hW]; simp [go_sem]
  have q1 : W.cell? ⟨w.heap.size + 1, 1, none⟩ = some (.int .i64 a1) := by rw [hW]; simp [go_sem]
  have p2 : W.cell? ⟨w.heap.size, 2, none⟩ = some (.int .i64 a2) := by rw [hW]; simp [go_sem]
  have q2 : W.cell? ⟨w.heap.size + 1, 2, none⟩ = some (.int .i64 a2) := by rw [hW]; simp [go_sem]
  have p3 : W.cell? ⟨w.heap.size, 3, none⟩ = some (.slice A3 n3 c3) := by rw [hW]; simp [go_sem]
  have q3 : W.cell? ⟨w.heap.size + 1, 3, none⟩ = some (.slice A3' n3' c3') := by rw [hW]; simp [go_sem]
  have l0 : w.heap.size + 1 < W.heap.size := by rw [hW]; simp
  have l0' : w.heap.size < W.heap.size := by omega
  have y3_0 := tS.later h3 B0
  have v3_0 := tS.later k3 B0
  have HW := Lib.hid hW
  clear hW
  rw [hN_sz] at hn
  go_enter Tryz.func164, Tryz.ntmps164
  go_wp2_with fail
  rw [← HW.out]
  refine (nf_eq_S _ _ _ _ _ _ _ _ y3_0 v3_0 (by omega)).mono ?_
  rintro e w1 ⟨rfl, b1⟩
  obtain ⟨hc1, -⟩ := bcell b1
  have l1 := Nat.lt_of_lt_of_le l0 b1.size
  have l1' := Nat.lt_of_lt_of_le l0' b1.size
  have B1 := bel_trans B0 b1
  go_wp2
  go_ret
  exact ⟨rfl, B1⟩
theorem nf_to_N (a0 : Int) (a1 : Int) (a2 : Int) (A3 : Option Addr) (n3 c3 : Nat) (x3 : List Int) (w : World) (h3 : tS.R w w.heap.size [.slice A3 n3 c3] x3) (hn : hN.sz ((a0, a1, a2, x3) : Node) ≤ 100000000) :
    Calls Tryz.prog 155 #[.agg #[.int .i64 a0, .int .i64 a1, .int .i64 a2, .slice A3 n3 c3]] w fun e w' => ∃ A3' n3' c3', e = .returned (.agg #[.int .i64 a0, .int .i64 a1, .int .i64 a2, .slice A3' n3' c3']) ∧ tN.O w' (Iv w.heap.size w'.heap.size) [.int .i64 a0, .int .i64 a1, .int .i64 a2, .slice A3' n3' c3'] (a0, a1, a2, x3) ∧ Below w.heap.size w w' := by
  obtain ⟨W, hW⟩ : ∃ W, W = ((w.alloc (.cells #[.int .i64 a0, .int .i64 a1, .int .i64 a2, .slice A3 n3 c3] 188)).alloc (.cells #[.int .i64 0, .int .i64 0, .int .i64 0, .slice none 0 0] 171)).alloc (.cells #[.int .i64 a0, .int .i64 a1, .int .i64 a2, .slice none 0 0] 171) := ⟨_, rfl⟩
  have B0 : Below w.heap.size w W := by rw [hW]; exact (((Below.refl _ _).alloc (Nat.le_refl _) _).alloc (by simp) _).alloc (by simp; omega) _
  have z0 : W.heap.size = w.heap.size + 1 + 1 + 1 := by rw [hW]; simp
  have p0 : W.cell? ⟨w.heap.size, 0, none⟩ = some (.int .i64 a0) := by rw [hW]; simp [go_sem]
  have q0 : W.cell? ⟨w.heap.size + 1, 0, none⟩ = some (.int .i64 0) := by rw [hW]; simp [go_sem]
  have r0 : W.cell? ⟨w.heap.size + 1 + 1, 0, none⟩ = some (.int .i64 a0) := by rw [hW]; simp [go_sem]
  have s0 : W.frozen? ⟨w.heap.size + 1, 0, none⟩ = false := by rw [hW]; simp [go_sem]
  have t0 : W.frozen? ⟨w.heap.size + 1 + 1, 0, none⟩ = false := by rw [hW]; simp [go_sem]
  have p1 : W.cell? ⟨w.heap.size, 1, none⟩ = some (.int .i64 a1) := by rw [hW]; simp [go_sem]
  have q1 : W.cell? ⟨w.heap.size + 1, 1, none⟩ = some (.int .i64 0) := by rw [hW]; simp [go_sem]
  have r1 : W.cell? ⟨w.heap.size + 1 + 1, 1, none⟩ = some (.int .i64 a1) := by rw [hW]; simp [go_sem]
  have s1 : W.frozen? ⟨w.heap.size + 1, 1, none⟩ = false := by rw [hW]; simp [go_sem]
  have t1 : W.frozen? ⟨w.heap.size + 1 + 1, 1, none⟩ = false := by rw [hW]; simp [go_sem]
  have p2 : W.cell? ⟨w.heap.size, 2, none⟩ = some (.int .i64 a2) := by rw [hW]; simp [go_sem]
  have q2 : W.cell? ⟨w.heap.size + 1, 2, none⟩ = some (.int .i64 0) := by rw [hW]; simp [go_sem]
  have r2 : W.cell? ⟨w.heap.size + 1 + 1, 2, none⟩ = some (.int .i64 a2) := by rw [hW]; simp [go_sem]
  have s2 : W.frozen? ⟨w.heap.size + 1, 2, none⟩ = false := by rw [hW]; simp [go_sem]
  have t2 : W.frozen? ⟨w.heap.size + 1 + 1, 2, none⟩ = false := by rw [hW]; simp [go_sem]
  have p3 : W.cell? ⟨w.heap.size, 3, none⟩ = some (.slice A3 n3 c3) := by rw [hW]; simp [go_sem]
  have q3 : W.cell? ⟨w.heap.size + 1, 3, none⟩ = some (.slice none 0 0) := by rw [hW]; simp [go_sem]
  have r3 : W.cell? ⟨w.heap.size + 1 + 1, 3, none⟩ = some (.slice none 0 0) := by rw [hW]; simp [go_sem]
  have s3 : W.frozen? ⟨w.heap.size + 1, 3, none⟩ = false := by rw [hW]; simp [go_sem]
  have t3 : W.frozen? ⟨w.heap.size + 1 + 1, 3, none⟩ = false := by rw [hW]; simp [go_sem]
  have l0 : w.heap.size < W.heap.size := by omega
  have l0' : w.heap.size + 1 < W.heap.size := by omega
  have l0'' : w.heap.size + 1 + 1 < W.heap.size := by omega
  have Z0 : w.heap.size + 1 + 1 + 1 ≤ W.heap.size := by omega
  clear z0
  have y3_0 := tS.later h3 B0
  have HW := Lib.hid hW
  clear hW
  rw [hN_sz] at hn
  go_enter Tryz.func155, Tryz.ntmps155
  go_wp2_with fail
  rw [← HW.out]
  refine (nf_to_S _ _ _ _ _ y3_0 (by omega)).mono ?_
  rintro e w1 ⟨A3', n3', c3', rfl, o3_0, b1⟩
  obtain ⟨hc1, hf1⟩ := bcell b1
  obtain ⟨U1, hU1⟩ : ∃ U, U = w1.setCell ⟨w.heap.size + 1 + 1, 3, none⟩ (.slice A3' n3' c3') := ⟨_, rfl⟩
  have m1 : Mid (w.heap.size + 1 + 1) (w.heap.size + 1 + 1 + 1) w1 U1 := by rw [hU1]; exact Mid.of_grown (grown_setCell w1 (w.heap.size + 1 + 1) 3 _) fun k hk => by injection hk with hk; omega
  have e1 : U1.heap.size = w1.heap.size := by rw [hU1]; simp
  have E1 := Lib.hid e1
  have sz1 : W.heap.size ≤ U1.heap.size := by rw [e1]; exact b1.size
  have BU1 : Below (w.heap.size + 1 + 1) w1 U1 := m1.toBelow (by omega)
  have B1 : Below w.heap.size w U1 := (bel_trans B0 b1).trans (BU1.mono (by omega))
  have l1 := Nat.lt_of_lt_of_le l0 sz1
  have l1' := Nat.lt_of_lt_of_le l0' sz1
  have l1'' := Nat.lt_of_lt_of_le l0'' sz1
  have Z1 := Nat.le_trans Z0 sz1
  have o3_1 : tS.O U1 (Iv W.heap.size U1.heap.size) [.slice A3' n3' c3'] x3 := tS.oiv (tS.omid o3_0 m1 (.inr (by omega)) (Nat.le_refl _)) (Nat.le_refl _) (by omega)
  have q0_1 : U1.cell? ⟨w.heap.size + 1, 0, none⟩ = some (.int .i64 0) := by rw [BU1.cell (by show w.heap.size + 1 < _; omega), b1.cell (by show w.heap.size + 1 < _; omega)]; exact q0
  have s0_1 : U1.frozen? ⟨w.heap.size + 1, 0, none⟩ = false := by rw [BU1.frozen (by show w.heap.size + 1 < _; omega), b1.frozen (by show w.heap.size + 1 < _; omega)]; exact s0
  have r0_1 : U1.cell? ⟨w.heap.size + 1 + 1, 0, none⟩ = some (.int .i64 a0) := by rw [hU1]; simp [go_sem, hc1, l0'', r0]
  have t0_1 : U1.frozen? ⟨w.heap.size + 1 + 1, 0, none⟩ = false := by rw [hU1]; simp [go_sem, hf1, l0'', t0]
  have q1_1 : U1.cell? ⟨w.heap.size + 1, 1, none⟩ = some (.int .i64 0) := by rw [BU1.cell (by show w.heap.size + 1 < _; omega), b1.cell (by show w.heap.size + 1 < _; omega)]; exact q1
  have s1_1 : U1.frozen? ⟨w.heap.size + 1, 1, none⟩ = false := by rw [BU1.frozen (by show w.heap.size + 1 < _; omega), b1.frozen (by show w.heap.size + 1 < _; omega)]; exact s1
  have r1_1 : U1.cell? ⟨w.heap.size + 1 + 1, 1, none⟩ = some (.int .i64 a1) := by rw [hU1]; simp [go_sem, hc1, l0'', r1]
  have t1_1 : U1.frozen? ⟨w.heap.size + 1 + 1, 1, none⟩ = false := by rw [hU1]; simp [go_sem, hf1, l0'', t1]
  have q2_1 : U1.cell? ⟨w.heap.size + 1, 2, none⟩ = some (.int .i64 0) := by rw [BU1.cell (by show w.heap.size + 1 < _; omega), b1.cell (by show w.heap.size + 1 < _; omega)]; exact q2
  have s2_1 : U1.frozen? ⟨w.heap.size + 1, 2, none⟩ = false := by rw [BU1.frozen (by show w.heap.size + 1 < _; omega), b1.frozen (by show w.heap.size + 1 < _; omega)]; exact s2
  have r2_1 : U1.cell? ⟨w.heap.size + 1 + 1, 2, none⟩ = some (.int .i64 a2) := by rw [hU1]; simp [go_sem, hc1, l0'', r2]
  have t2_1 : U1.frozen? ⟨w.heap.size + 1 + 1, 2, none⟩ = false := by rw [hU1]; simp [go_sem, hf1, l0'', t2]
  have q3_1 : U1.cell? ⟨w.heap.size + 1, 3, none⟩ = some (.slice none 0 0) := by rw [BU1.cell (by show w.heap.size + 1 < _; omega), b1.cell (by show w.heap.size + 1 < _; omega)]; exact q3
  have s3_1 : U1.frozen? ⟨w.heap.size + 1, 3, none⟩ = false := by rw [BU1.frozen (by show w.heap.size + 1 < _; omega), b1.frozen (by show w.heap.size + 1 < _; omega)]; exact s3
  have r3_1 : U1.cell? ⟨w.heap.size + 1 + 1, 3, none⟩ = some (.slice A3' n3' c3') := by rw [hU1]; simp [go_sem, hc1, l0'', r3]
  have t3_1 : U1.frozen? ⟨w.heap.size + 1 + 1, 3, none⟩ = false := by rw [hU1]; simp [go_sem, hf1, l0'', t3]
  have t0_w : w1.frozen? ⟨w.heap.size + 1 + 1, 0, none⟩ = false := by rw [hf1 _ _ l0'']; exact t0
  have s0_w : w1.frozen? ⟨w.heap.size + 1, 0, none⟩ = false := by rw [hf1 _ _ l0']; exact s0
  have q0_w : w1.cell? ⟨w.heap.size + 1, 0, none⟩ = some (.int .i64 0) := by rw [hc1 _ _ l0']; exact q0
  have r0_w : w1.cell? ⟨w.heap.size + 1 + 1, 0, none⟩ = some (.int .i64 a0) := by rw [hc1 _ _ l0'']; exact r0
  have t1_w : w1.frozen? ⟨w.heap.size + 1 + 1, 1, none⟩ = false := by rw [hf1 _ _ l0'']; exact t1
  have s1_w : w1.frozen? ⟨w.heap.size + 1, 1, none⟩ = false := by rw [hf1 _ _ l0']; exact s1
  have q1_w : w1.cell? ⟨w.heap.size + 1, 1, none⟩ = some (.int .i64 0) := by rw [hc1 _ _ l0']; exact q1
  have r1_w : w1.cell? ⟨w.heap.size + 1 + 1, 1, none⟩ = some (.int .i64 a1) := by rw [hc1 _ _ l0'']; exact r1
  have t2_w : w1.frozen? ⟨w.heap.size + 1 + 1, 2, none⟩ = false := by rw [hf1 _ _ l0'']; exact t2
  have s2_w : w1.frozen? ⟨w.heap.size + 1, 2, none⟩ = false := by rw [hf1 _ _ l0']; exact s2
  have q2_w : w1.cell? ⟨w.heap.size + 1, 2, none⟩ = some (.int .i64 0) := by rw [hc1 _ _ l0']; exact q2
  have r2_w : w1.cell? ⟨w.heap.size + 1 + 1, 2, none⟩ = some (.int .i64 a2) := by rw [hc1 _ _ l0'']; exact r2
  have t3_w : w1.frozen? ⟨w.heap.size + 1 + 1, 3, none⟩ = false := by rw [hf1 _ _ l0'']; exact t3
  have s3_w : w1.frozen? ⟨w.heap.size + 1, 3, none⟩ = false := by rw [hf1 _ _ l0']; exact s3
  have q3_w : w1.cell? ⟨w.heap.size + 1, 3, none⟩ = some (.slice none 0 0) := by rw [hc1 _ _ l0']; exact q3
  have r3_w : w1.cell? ⟨w.heap.size + 1 + 1, 3, none⟩ = some (.slice none 0 0) := by rw [hc1 _ _ l0'']; exact r3
  have HU1 := Lib.hid hU1
  clear hU1 e1 hc1 hf1 q0 s0 r0 t0 q1 s1 r1 t1 q2 s2 r2 t2 q3 s3 r3 t3
  go_wp2
  rw [← HU1.out]
  clear t0_w r0_w s0_w q0_w t1_w r1_w s1_w q1_w t2_w r2_w s2_w q2_w t3_w r3_w s3_w q3_w
  have mm : Mid (w.heap.size + 1) (w.heap.size + 1 + 1) U1 ((((U1.setCell ⟨w.heap.size + 1, 0, none⟩ (.int .i64 a0)).setCell ⟨w.heap.size + 1, 1, none⟩ (.int .i64 a1)).setCell ⟨w.heap.size + 1, 2, none⟩ (.int .i64 a2)).setCell ⟨w.heap.size + 1, 3, none⟩ (.slice A3' n3' c3')) := ((((Mid.of_grown (grown_setCell _ (w.heap.size + 1) 0 _) fun k hk => by injection hk with hk; omega).trans (Mid.of_grown (grown_setCell _ (w.heap.size + 1) 1 _) fun k hk => by injection hk with hk; omega)).trans (Mid.of_grown (grown_setCell _ (w.heap.size + 1) 2 _) fun k hk => by injection hk with hk; omega)).trans (Mid.of_grown (grown_setCell _ (w.heap.size + 1) 3 _) fun k hk => by injection hk with hk; omega))
  refine bodyPost_ret (v := .agg #[.int .i64 a0, .int .i64 a1, .int .i64 a2, .slice A3' n3' c3']) (by simp [results, Tryz.results155, go_sem, q0_1, s0_1, r0_1, q1_1, s1_1, r1_1, q2_1, s2_1, r2_1, q3_1, s3_1, r3_1]) rfl ?_
  refine ⟨A3', n3', c3', rfl, tN_O.2 ⟨A3', n3', c3', Iv W.heap.size U1.heap.size, rfl, tS.omid o3_1 mm (.inr (by omega)) (by omega), fun b h => ⟨by have := h.1; omega, Nat.lt_of_lt_of_le (Nat.lt_of_lt_of_le h.2 (by omega)) mm.size⟩⟩, ?_⟩
  exact B1.trans ((mm.toBelow (by omega)).mono (by omega))
end Go.Proofs.YtffhodocjjkkoaaGreat
namespace Go.Proofs.YtffhodocjjkkoaaGreat
open Go.RowKit
set_option maxHeartbeats 4000000
set_option maxRecDepth 100000
abbrev tNS : Ty (List Node) := tN.sl 171
abbrev hNS : Hs (List Node) := hN.sl
theorem nf_sz_NS (A : Option Addr) (n c : Nat) (xs : List Node) (l : Int) (w : World) (hx : tNS.R w w.heap.size [.slice A n c] xs) (hl : 0 ≤ l ∧ l ≤ 1000000000) :
    Calls Tryz.prog 111 #[.slice A n c, .int .i64 l] w fun e w' => e = .returned (.int .i64 (if (hNS.sz xs : Int) ≤ l then l - hNS.sz xs else -1)) ∧ Below w.heap.size w w' := by
  have hr := sl_R.1 hx
  obtain ⟨h1, h2, h3⟩ := hr.cap
  have hn : n ≤ 9223372036854775807 := by unfold maxLen at h3; omega
  obtain rfl : xs.length = n := h1
  have hzz : hNS.sz xs = xs.length + hN.szL xs := rfl
  have HZ := Lib.hid hzz
  clear h2 h3 hx hzz
  generalize hR : (if (hNS.sz xs : Int) ≤ l then l - (hNS.sz xs : Int) else -1) = R
  have HR := Lib.hid hR
  clear hR
  by_cases h : (xs.length : Int) ≤ l
  · go_enter Tryz.func111, Tryz.ntmps111
    go_wp2
    go_loopw [1, 5] (fun q i wr => ∃ k : Nat, i = .int .i64 k ∧ k ≤ xs.length ∧ (hN.szL (xs.take k) : Int) ≤ l - xs.length ∧ q = .int .i64 (l - xs.length - hN.szL (xs.take k)) ∧ Below w.heap.size w wr) (fun _ i _ => xs.length - (intOf i).toNat)
    case atStart => exact ⟨0, rfl, by omega, by simp [Hs.szL]; omega, by simp [Hs.szL], Below.refl _ _⟩
    case round =>
      obtain ⟨k, rfl, hk, hz, rfl, hb⟩ := hrel
      by_cases hlt : k < xs.length
      · have hX := Lib.hid (List.getElem?_eq_getElem hlt)
        obtain ⟨b, o, c1, cs, hv, hab, -, hE, hc⟩ := (hr.below hb).atX hX.out
        simp only [Value.slice.injEq] at hv
        obtain ⟨rfl, -, rfl⟩ := hv
        have hTk := Lib.hid (hN.szL_take hX.out)
        have hU := hN.szL_at hX.out
        generalize xs[k] = x at hX hE hTk hU
        obtain ⟨a0, a1, a2, x3⟩ := x
        obtain ⟨A3, n3, c3, rfl, e3⟩ := tN_R.1 hE
        have ec0 : wr.cell? ⟨b, o + k * 4, none⟩ = some (.int .i64 a0) := hc 0 _ rfl
        have ec1 : wr.cell? ⟨b, o + k * 4 + 1, none⟩ = some (.int .i64 a1) := hc 1 _ rfl
        have ec2 : wr.cell? ⟨b, o + k * 4 + 2, none⟩ = some (.int .i64 a2) := hc 2 _ rfl
        have ec3 : wr.cell? ⟨b, o + k * 4 + 3, none⟩ = some (.slice A3 n3 c3) := hc 3 _ rfl
        have f3 := tS.more hb.size e3
        clear hc
        by_cases hle : (hN.sz ((a0, a1, a2, x3) : Node) : Int) ≤ l - xs.length - hN.szL (xs.take k)
        · have hi := Lib.hid (show (if (hN.sz ((a0, a1, a2, x3) : Node) : Int) ≤ l - xs.length - hN.szL (xs.take k) then l - xs.length - hN.szL (xs.take k) - hN.sz ((a0, a1, a2, x3) : Node) else -1) = l - xs.length - hN.szL (xs.take k) - hN.sz ((a0, a1, a2, x3) : Node) by rw [if_pos hle])
          go_wp2_with (go_at_call 147; refine (nf_sz_N _ _ _ _ _ _ _ _ _ f3 (by omega)).mono ?_; rw [hi.out]; rintro e w2 ⟨rfl, bel2⟩)
          go_roundw
          case rel => exact ⟨k + 1, by go_num, by omega, by rw [hTk.out]; omega, by rw [hTk.out]; go_num, hb.trans (bel2.mono hb.size)⟩
          case measure => simp [intOf]; omega
        · have hi := Lib.hid (show (if (hN.sz ((a0, a1, a2, x3) : Node) : Int) ≤ l - xs.length - hN.szL (xs.take k) then l - xs.length - hN.szL (xs.take k) - hN.sz ((a0, a1, a2, x3) : Node) else -1) = -1 by rw [if_neg hle])
          have hj := Lib.hid (show (if (hNS.sz xs : Int) ≤ l then l - hNS.sz xs else -1) = -1 by rw [HZ.out, if_neg (by omega)])
          go_wp2_with (go_at_call 147; refine (nf_sz_N _ _ _ _ _ _ _ _ _ f3 (by omega)).mono ?_; rw [hi.out]; rintro e w2 ⟨rfl, bel2⟩)
          go_ret
          exact ⟨ret_int (hj.out.symm.trans HR.out), hb.trans (bel2.mono hb.size)⟩
      · obtain rfl : xs.length = k := by omega
        rw [List.take_of_length_le (Nat.le_refl _)] at hz ⊢
        have hj := Lib.hid (show (if (hNS.sz xs : Int) ≤ l then l - hNS.sz xs else -1) = l - xs.length - hN.szL xs by rw [HZ.out, if_pos (by omega)]; omega)
        go_wp2
        go_ret
        exact ⟨ret_int (hj.out.symm.trans HR.out), hb⟩
  · have hj := Lib.hid (show (if (hNS.sz xs : Int) ≤ l then l - hNS.sz xs else -1) = -1 by rw [HZ.out, if_neg (by omega)])
    go_enter Tryz.func111, Tryz.ntmps111
    go_wp2
    go_ret
    exact ⟨ret_int (hj.out.symm.trans HR.out), Below.refl _ _⟩
theorem ei_NS : EI Tryz.prog 105 171 (.agg #[.int .i64 0, .int .i64 0, .int .i64 0, .slice none 0 0]) 4 48 := ⟨Tryz.underlying105, by kernel_rfl, rfl, by decide⟩
theorem zero_NS (w : World) (F : Nat → Prop) : tN.O w F [.int .i64 0, .int .i64 0, .int .i64 0, .slice none 0 0] (0, 0, 0, []) := tN_O.2 ⟨none, 0, 0, fun _ => False, rfl, ⟨_, rfl, OS.nil _ _ _ _⟩, fun _ h => h.elim⟩
theorem nf_to_NS (A : Option Addr) (n c : Nat) (xs : List Node) (w : World) (hx : tNS.R w w.heap.size [.slice A n c] xs) (hn : hNS.sz xs ≤ 100000000) :
    Calls Tryz.prog 119 #[.slice A n c] w fun e w' => ∃ A' n' c', e = .returned (.slice A' n' c') ∧ tNS.O w' (Iv w.heap.size w'.heap.size) [.slice A' n' c'] xs ∧ Below w.heap.size w w' := by
  have hr := sl_R.1 hx
  obtain rfl : xs.length = n := hr.cap.1
  have hn1 : xs.length + hN.szL xs ≤ 100000000 := hn
  clear hx hn
  go_enter Tryz.func119, Tryz.ntmps119
  go_wp2_with (at_make; refine wpList_mk ei_NS rfl _ _ rfl xs.length _ _ rfl rfl rfl rfl (by omega) (by unfold maxLen; omega) ?_; intro w1 own1 bel1)
  have hs1 : w.heap.size + 1 ≤ w1.heap.size := (World.ownsRow.lt own1 _ rfl).2
  have own2 : OS tN 171 w1 (Iv w.heap.size w1.heap.size) (.slice (some ⟨w.heap.size, 0, none⟩) xs.length xs.length) (List.replicate xs.length ((0, 0, 0, []) : Node)) :=
    OS.made (t := tN) (zc := [.int .i64 0, .int .i64 0, .int .i64 0, .slice none 0 0]) zero_NS rfl ⟨Nat.le_refl _, by omega⟩ own1
  clear own1
  go_loopw [4] (fun i wr => ∃ k : Nat, i = .int .i64 k ∧ k ≤ xs.length ∧ OS tN 171 wr (Iv w.heap.size wr.heap.size) (.slice (some ⟨w.heap.size, 0, none⟩) xs.length xs.length) (xs.take k ++ (List.replicate xs.length ((0, 0, 0, []) : Node)).drop k) ∧ w.heap.size + 1 ≤ wr.heap.size ∧ Below w.heap.size w wr)
    (fun i _ => xs.length - (intOf i).toNat)
  case atStart => exact ⟨0, rfl, by omega, by simpa using own2, hs1, bel1⟩
  case round =>
    obtain ⟨k, rfl, hk, own, hsz, hb⟩ := hrel
    by_cases hlt : k < xs.length
    · have hX := Lib.hid (List.getElem?_eq_getElem hlt)
      obtain ⟨b, o, c1, cs, hv, hab, -, hE, hc⟩ := (hr.below hb).atX hX.out
      simp only [Value.slice.injEq] at hv
      obtain ⟨rfl, -, rfl⟩ := hv
      have hU := hN.szL_at hX.out
      generalize xs[k] = x at hX hE hU
      obtain ⟨a0, a1, a2, x3⟩ := x
      obtain ⟨A3, n3, c3, rfl, e3⟩ := tN_R.1 hE
      have ec0 : wr.cell? ⟨b, o + k * 4, none⟩ = some (.int .i64 a0) := hc 0 _ rfl
      have ec1 : wr.cell? ⟨b, o + k * 4 + 1, none⟩ = some (.int .i64 a1) := hc 1 _ rfl
      have ec2 : wr.cell? ⟨b, o + k * 4 + 2, none⟩ = some (.int .i64 a2) := hc 2 _ rfl
      have ec3 : wr.cell? ⟨b, o + k * 4 + 3, none⟩ = some (.slice A3 n3 c3) := hc 3 _ rfl
      have f3 := tS.more hb.size e3
      have hz2 : hN.sz ((a0, a1, a2, x3) : Node) ≤ 100000000 := by omega
      clear hc
      have hD := Lib.hid (show (xs.take k ++ (List.replicate xs.length ((0, 0, 0, []) : Node)).drop k)[k]? = some (0, 0, 0, []) by rw [M.mid_at (by rw [List.length_replicate])]; simp [hlt])
      go_wp2_with (go_at_call 155; refine (nf_to_N _ _ _ _ _ _ _ _  f3 hz2).mono ?_; rintro e w2 ⟨A3', n3', c3', rfl, o2, bel2⟩; have own' := own.below bel2 (Nat.le_refl _); obtain ⟨css, Fs, hole, cs, hcs, hE⟩ := own'.openAt hD.out; obtain ⟨A39, n39, c39, rfl, -⟩ := tN_R.1 (tN.read hE); have z2 := bel2.size; have q0 := (hole.cell hcs (j := 0) rfl).1; have r0 := (hole.cell hcs (j := 0) rfl).2; change w2.cell? ⟨w.heap.size, k * 4 + 0, none⟩ = _ at q0; change w2.frozen? ⟨w.heap.size, k * 4 + 0, none⟩ = _ at r0; have q1 := (hole.cell hcs (j := 1) rfl).1; have r1 := (hole.cell hcs (j := 1) rfl).2; change w2.cell? ⟨w.heap.size, k * 4 + 1, none⟩ = _ at q1; change w2.frozen? ⟨w.heap.size, k * 4 + 1, none⟩ = _ at r1; have q2 := (hole.cell hcs (j := 2) rfl).1; have r2 := (hole.cell hcs (j := 2) rfl).2; change w2.cell? ⟨w.heap.size, k * 4 + 2, none⟩ = _ at q2; change w2.frozen? ⟨w.heap.size, k * 4 + 2, none⟩ = _ at r2; have q3 := (hole.cell hcs (j := 3) rfl).1; have r3 := (hole.cell hcs (j := 3) rfl).2; change w2.cell? ⟨w.heap.size, k * 4 + 3, none⟩ = _ at q3; change w2.frozen? ⟨w.heap.size, k * 4 + 3, none⟩ = _ at r3; rw [Nat.add_zero] at q0 r0)
      go_roundw
      case rel =>
        have s0 := hole.set hcs 0 (by decide) (.int .i64 a0)
        have s1 := s0.1.set s0.2 1 (by decide) (.int .i64 a1)
        have s2 := s1.1.set s1.2 2 (by decide) (.int .i64 a2)
        have s3 := s2.1.set s2.2 3 (by decide) (.slice A3' n3' c3')
        have o3 := (tN.oset (g := w.heap.size) (o := k * 4 + 3) (u := .slice A3' n3' c3') (tN.oset (g := w.heap.size) (o := k * 4 + 2) (u := .int .i64 a2) (tN.oset (g := w.heap.size) (o := k * 4 + 1) (u := .int .i64 a1) (tN.oset (g := w.heap.size) (o := k * 4 + 0) (u := .int .i64 a0) o2 (.inl (by omega))) (.inl (by omega))) (.inl (by omega))) (.inl (by omega)))
        have h3 := s3.1.fill' s3.2 (y := ((a0, a1, a2, x3) : Node)) (Fe := Iv wr.heap.size w2.heap.size) o3 (fun b h1 h2 => by have := h1.1; have := h2.2; omega)
        rw [M.set_mid (by rw [List.length_replicate]) hX.out] at h3
        have hb2 := hb.trans (bel2.mono hb.size)
        exact ⟨k + 1, by go_num, by omega, h3.wide (fun b hb => ⟨by unfold Iv at hb; omega, by simp; unfold Iv at hb; omega⟩), by simp; omega, ((((hb2.setCell (Nat.le_refl _) _).setCell (Nat.le_refl _) _).setCell (Nat.le_refl _) _).setCell (Nat.le_refl _) _)⟩
      case measure => simp [intOf]; omega
    · go_wp2
      go_ret
      rw [List.take_of_length_le (by omega), List.drop_eq_nil_of_le (by simp; omega), List.append_nil] at own
      exact ⟨_, _, _, rfl, sl_O.2 own, hb⟩
theorem nf_eq_NS (A A' : Option Addr) (n c n' c' : Nat) (xs : List Node) (w : World) (hx : tNS.R w w.heap.size [.slice A n c] xs) (hy : tNS.R w w.heap.size [.slice A' n' c'] xs) (hn : hNS.sz xs ≤ 100000000) :
    Calls Tryz.prog 129 #[.slice A n c, .slice A' n' c'] w fun e w' => e = .returned (.bool true) ∧ Below w.heap.size w w' := by
  have hr := sl_R.1 hx
  have hr' := sl_R.1 hy
  obtain rfl : xs.length = n := hr.cap.1
  obtain rfl : xs.length = n' := hr'.cap.1
  have hn1 : xs.length + hN.szL xs ≤ 100000000 := hn
  clear hx hy hn
  go_enter Tryz.func129, Tryz.ntmps129
  go_wp2
  go_loopw [5] (fun i wr => ∃ k : Nat, i = .int .i64 k ∧ k ≤ xs.length ∧ Below w.heap.size w wr) (fun i _ => xs.length - (intOf i).toNat)
  case atStart => exact ⟨0, rfl, by omega, Below.refl _ _⟩
  case round =>
    obtain ⟨k, rfl, hk, hb⟩ := hrel
    by_cases hlt : k < xs.length
    · have hX := Lib.hid (List.getElem?_eq_getElem hlt)
      obtain ⟨b, o, c1, cs, hv, hab, -, hE, hc⟩ := (hr.below hb).atX hX.out
      obtain ⟨b', o', c1', cs', hv', hab', -, hE', hc'⟩ := (hr'.below hb).atX hX.out
      simp only [Value.slice.injEq] at hv hv'
      obtain ⟨rfl, -, rfl⟩ := hv
      obtain ⟨rfl, -, rfl⟩ := hv'
      have hU := hN.szL_at hX.out
      generalize xs[k] = x at hX hE hE' hU
      obtain ⟨a0, a1, a2, x3⟩ := x
      obtain ⟨A3, n3, c3, rfl, e3⟩ := tN_R.1 hE
      have ec0 : wr.cell? ⟨b, o + k * 4, none⟩ = some (.int .i64 a0) := hc 0 _ rfl
      have ec1 : wr.cell? ⟨b, o + k * 4 + 1, none⟩ = some (.int .i64 a1) := hc 1 _ rfl
      have ec2 : wr.cell? ⟨b, o + k * 4 + 2, none⟩ = some (.int .i64 a2) := hc 2 _ rfl
      have ec3 : wr.cell? ⟨b, o + k * 4 + 3, none⟩ = some (.slice A3 n3 c3) := hc 3 _ rfl
      obtain ⟨A3', n3', c3', rfl, d3⟩ := tN_R.1 hE'
      have dc0 : wr.cell? ⟨b', o' + k * 4, none⟩ = some (.int .i64 a0) := hc' 0 _ rfl
      have dc1 : wr.cell? ⟨b', o' + k * 4 + 1, none⟩ = some (.int .i64 a1) := hc' 1 _ rfl
      have dc2 : wr.cell? ⟨b', o' + k * 4 + 2, none⟩ = some (.int .i64 a2) := hc' 2 _ rfl
      have dc3 : wr.cell? ⟨b', o' + k * 4 + 3, none⟩ = some (.slice A3' n3' c3') := hc' 3 _ rfl
      have hbr : b < wr.heap.size := Nat.lt_of_lt_of_le hab hb.size
      have hbr' : b' < wr.heap.size := Nat.lt_of_lt_of_le hab' hb.size
      have hz2 : hN.sz ((a0, a1, a2, x3) : Node) ≤ 100000000 := by omega
      have f3 := tS.later (tS.more hb.size e3) (below_drewN (Below.refl _ _) 1)
      have g3 := tS.later (tS.more hb.size d3) (below_drewN (Below.refl _ _) 1)
      clear hc hc'
      go_wp2
      go_region_held3 (fun w' => Below wr.heap.size wr w' ∧ w'.cell? ⟨b, o + k * 4, none⟩ = some (.int .i64 a0) ∧ w'.cell? ⟨b, o + k * 4 + 1, none⟩ = some (.int .i64 a1) ∧ w'.cell? ⟨b, o + k * 4 + 2, none⟩ = some (.int .i64 a2) ∧ w'.cell? ⟨b, o + k * 4 + 3, none⟩ = some (.slice A3 n3 c3) ∧ w'.cell? ⟨b', o' + k * 4, none⟩ = some (.int .i64 a0) ∧ w'.cell? ⟨b', o' + k * 4 + 1, none⟩ = some (.int .i64 a1) ∧ w'.cell? ⟨b', o' + k * 4 + 2, none⟩ = some (.int .i64 a2) ∧ w'.cell? ⟨b', o' + k * 4 + 3, none⟩ = some (.slice A3' n3' c3'))
        (first
          | exact ⟨below_drewN (Below.refl _ _) _, ec0, ec1, ec2, ec3, dc0, dc1, dc2, dc3⟩
          | exact ⟨keptB_all bel2 rfl (And.left (by assumption)), keptB bel2 rfl (And.left (by assumption)) ec0 hbr, keptB bel2 rfl (And.left (by assumption)) ec1 hbr, keptB bel2 rfl (And.left (by assumption)) ec2 hbr, keptB bel2 rfl (And.left (by assumption)) ec3 hbr, keptB bel2 rfl (And.left (by assumption)) dc0 hbr', keptB bel2 rfl (And.left (by assumption)) dc1 hbr', keptB bel2 rfl (And.left (by assumption)) dc2 hbr', keptB bel2 rfl (And.left (by assumption)) dc3 hbr'⟩)
        (first | (go_at_call 164; refine (nf_eq_N _ _ _ _ _ _ _ _ _ _ _ f3 g3 hz2).mono ?_; rintro e w2 ⟨rfl, bel2⟩))
      go_wp2
      go_roundw
      case rel => exact ⟨k + 1, by go_num, by omega, hb.trans ((keptB_all bel2 rfl (below_drewN (Below.refl _ _) _)).mono hb.size)⟩
      case measure => simp [intOf]; omega
    · go_wp2
      go_ret
      exact ⟨rfl, hb⟩
end Go.Proofs.YtffhodocjjkkoaaGreat
namespace Go.Proofs.YtffhodocjjkkoaaGreat
open Go.RowKit
set_option maxHeartbeats 4000000
set_option maxRecDepth 100000
theorem nf_sz_SS (A : Option Addr) (n c : Nat) (xs : List (List Int)) (l : Int) (w : World) (hx : tSS.R w w.heap.size [.slice A n c] xs) (hl : 0 ≤ l ∧ l ≤ 1000000000) :
    Calls Tryz.prog 28 #[.slice A n c, .int .i64 l] w fun e w' => e = .returned (.int .i64 (if (hSS.sz xs : Int) ≤ l then l - hSS.sz xs else -1)) ∧ Below w.heap.size w w' := by
  have hr := sl_R.1 hx
  obtain ⟨h1, h2, h3⟩ := hr.cap
  have hn : n ≤ 9223372036854775807 := by unfold maxLen at h3; omega
  obtain rfl : xs.length = n := h1
  have hzz : hSS.sz xs = xs.length + hS.szL xs := rfl
  have HZ := Lib.hid hzz
  clear h2 h3 hx hzz
  generalize hR : (if (hSS.sz xs : Int) ≤ l then l - (hSS.sz xs : Int) else -1) = R
  have HR := Lib.hid hR
  clear hR
  by_cases h : (xs.length : Int) ≤ l
  · go_enter Tryz.func28, Tryz.ntmps28
    go_wp2
    go_loopw [1, 5] (fun q i wr => ∃ k : Nat, i = .int .i64 k ∧ k ≤ xs.length ∧ (hS.szL (xs.take k) : Int) ≤ l - xs.length ∧ q = .int .i64 (l - xs.length - hS.szL (xs.take k)) ∧ Below w.heap.size w wr) (fun _ i _ => xs.length - (intOf i).toNat)
    case atStart => exact ⟨0, rfl, by omega, by simp [Hs.szL]; omega, by simp [Hs.szL], Below.refl _ _⟩
    case round =>
      obtain ⟨k, rfl, hk, hz, rfl, hb⟩ := hrel
      by_cases hlt : k < xs.length
      · have hX := Lib.hid (List.getElem?_eq_getElem hlt)
        obtain ⟨b, o, c1, cs, hv, hab, -, hE, hc⟩ := (hr.below hb).atX hX.out
        simp only [Value.slice.injEq] at hv
        obtain ⟨rfl, -, rfl⟩ := hv
        have hTk := Lib.hid (hS.szL_take hX.out)
        have hU := hS.szL_at hX.out
        generalize xs[k] = x at hX hE hTk hU
        obtain ⟨A0, n0, c0, rfl⟩ := open_sl hE
        have ec0 : wr.cell? ⟨b, o + k * 1, none⟩ = some (.slice A0 n0 c0) := hc 0 _ rfl
        rw [Nat.mul_one] at ec0
        have f0 := tS.more hb.size hE
        clear hc
        by_cases hle : (hS.sz x : Int) ≤ l - xs.length - hS.szL (xs.take k)
        · have hi := Lib.hid (show (if (hS.sz x : Int) ≤ l - xs.length - hS.szL (xs.take k) then l - xs.length - hS.szL (xs.take k) - hS.sz x else -1) = l - xs.length - hS.szL (xs.take k) - hS.sz x by rw [if_pos hle])
          go_wp2_with (go_at_call 30; refine (nf_sz_S _ _ _ _ _ _ f0 (by omega)).mono ?_; rw [hi.out]; rintro e w2 ⟨rfl, bel2⟩)
          go_roundw
          case rel => exact ⟨k + 1, by go_num, by omega, by rw [hTk.out]; omega, by rw [hTk.out]; go_num, hb.trans (bel2.mono hb.size)⟩
          case measure => simp [intOf]; omega
        · have hi := Lib.hid (show (if (hS.sz x : Int) ≤ l - xs.length - hS.szL (xs.take k) then l - xs.length - hS.szL (xs.take k) - hS.sz x else -1) = -1 by rw [if_neg hle])
          have hj := Lib.hid (show (if (hSS.sz xs : Int) ≤ l then l - hSS.sz xs else -1) = -1 by rw [HZ.out, if_neg (by omega)])
          go_wp2_with (go_at_call 30; refine (nf_sz_S _ _ _ _ _ _ f0 (by omega)).mono ?_; rw [hi.out]; rintro e w2 ⟨rfl, bel2⟩)
          go_ret
          exact ⟨ret_int (hj.out.symm.trans HR.out), hb.trans (bel2.mono hb.size)⟩
      · obtain rfl : xs.length = k := by omega
        rw [List.take_of_length_le (Nat.le_refl _)] at hz ⊢
        have hj := Lib.hid (show (if (hSS.sz xs : Int) ≤ l then l - hSS.sz xs else -1) = l - xs.length - hS.szL xs by rw [HZ.out, if_pos (by omega)]; omega)
        go_wp2
        go_ret
        exact ⟨ret_int (hj.out.symm.trans HR.out), hb⟩
  · have hj := Lib.hid (show (if (hSS.sz xs : Int) ≤ l then l - hSS.sz xs else -1) = -1 by rw [HZ.out, if_neg (by omega)])
    go_enter Tryz.func28, Tryz.ntmps28
    go_wp2
    go_ret
    exact ⟨ret_int (hj.out.symm.trans HR.out), Below.refl _ _⟩
theorem ei_SS : EI Tryz.prog 22 24 (.slice none 0 0) 1 24 := ⟨Tryz.underlying22, by kernel_rfl, rfl, by decide⟩
theorem zero_SS (w : World) (F : Nat → Prop) : tS.O w F [.slice none 0 0] [] := ⟨_, rfl, OS.nil _ _ _ _⟩
theorem nf_to_SS (A : Option Addr) (n c : Nat) (xs : List (List Int)) (w : World) (hx : tSS.R w w.heap.size [.slice A n c] xs) (hn : hSS.sz xs ≤ 100000000) :
    Calls Tryz.prog 35 #[.slice A n c] w fun e w' => ∃ A' n' c', e = .returned (.slice A' n' c') ∧ tSS.O w' (Iv w.heap.size w'.heap.size) [.slice A' n' c'] xs ∧ Below w.heap.size w w' := by
  have hr := sl_R.1 hx
  obtain rfl : xs.length = n := hr.cap.1
  have hn1 : xs.length + hS.szL xs ≤ 100000000 := hn
  clear hx hn
  go_enter Tryz.func35, Tryz.ntmps35
  go_wp2_with (at_make; refine wpList_mk ei_SS rfl _ _ rfl xs.length _ _ rfl rfl rfl rfl (by omega) (by unfold maxLen; omega) ?_; intro w1 own1 bel1)
  have hs1 : w.heap.size + 1 ≤ w1.heap.size := (World.ownsRow.lt own1 _ rfl).2
  have own2 : OS tS 24 w1 (Iv w.heap.size w1.heap.size) (.slice (some ⟨w.heap.size, 0, none⟩) xs.length xs.length) (List.replicate xs.length ([] : (List Int))) :=
    OS.made (t := tS) (zc := [.slice none 0 0]) zero_SS rfl ⟨Nat.le_refl _, by omega⟩ own1
  clear own1
  go_loopw [4] (fun i wr => ∃ k : Nat, i = .int .i64 k ∧ k ≤ xs.length ∧ OS tS 24 wr (Iv w.heap.size wr.heap.size) (.slice (some ⟨w.heap.size, 0, none⟩) xs.length xs.length) (xs.take k ++ (List.replicate xs.length ([] : (List Int))).drop k) ∧ w.heap.size + 1 ≤ wr.heap.size ∧ Below w.heap.size w wr)
    (fun i _ => xs.length - (intOf i).toNat)
  case atStart => exact ⟨0, rfl, by omega, by simpa using own2, hs1, bel1⟩
  case round =>
    obtain ⟨k, rfl, hk, own, hsz, hb⟩ := hrel
    by_cases hlt : k < xs.length
    · have hX := Lib.hid (List.getElem?_eq_getElem hlt)
      obtain ⟨b, o, c1, cs, hv, hab, -, hE, hc⟩ := (hr.below hb).atX hX.out
      simp only [Value.slice.injEq] at hv
      obtain ⟨rfl, -, rfl⟩ := hv
      have hU := hS.szL_at hX.out
      generalize xs[k] = x at hX hE hU
      obtain ⟨A0, n0, c0, rfl⟩ := open_sl hE
      have ec0 : wr.cell? ⟨b, o + k * 1, none⟩ = some (.slice A0 n0 c0) := hc 0 _ rfl
      rw [Nat.mul_one] at ec0
      have f0 := tS.more hb.size hE
      have hz2 : hS.sz x ≤ 100000000 := by omega
      clear hc
      have hD := Lib.hid (show (xs.take k ++ (List.replicate xs.length ([] : (List Int))).drop k)[k]? = some [] by rw [M.mid_at (by rw [List.length_replicate])]; simp [hlt])
      go_wp2_with (go_at_call 37; refine (nf_to_S _ _ _ _ _ f0 hz2).mono ?_; rintro e w2 ⟨A0', n0', c0', rfl, o2, bel2⟩; have own' := own.below bel2 (Nat.le_refl _); obtain ⟨css, Fs, hole, cs, hcs, hE⟩ := own'.openAt hD.out; obtain ⟨A09, n09, c09, rfl⟩ := open_sl (tS.read hE); have z2 := bel2.size; have q0 := (hole.cell hcs (j := 0) rfl).1; have r0 := (hole.cell hcs (j := 0) rfl).2; change w2.cell? ⟨w.heap.size, k * 1 + 0, none⟩ = _ at q0; change w2.frozen? ⟨w.heap.size, k * 1 + 0, none⟩ = _ at r0; rw [Nat.add_zero, Nat.mul_one] at q0 r0)
      go_roundw
      case rel =>
        have s0 := hole.set hcs 0 (by decide) (.slice A0' n0' c0')
        have o3 := (tS.oset (g := w.heap.size) (o := k * 1 + 0) (u := .slice A0' n0' c0') o2 (.inl (by omega)))
        have h3 := s0.1.fill' s0.2 (y := x) (Fe := Iv wr.heap.size w2.heap.size) o3 (fun b h1 h2 => by have := h1.1; have := h2.2; omega)
        rw [M.set_mid (by rw [List.length_replicate]) hX.out] at h3
        have hb2 := hb.trans (bel2.mono hb.size)
        rw [Nat.add_zero, show tS.s = 1 from rfl, Nat.mul_one] at h3
        exact ⟨k + 1, by go_num, by omega, h3.wide (fun b hb => ⟨by unfold Iv at hb; omega, by simp; unfold Iv at hb; omega⟩), by simp; omega, (hb2.setCell (Nat.le_refl _) _)⟩
      case measure => simp [intOf]; omega
    · go_wp2
      go_ret
      rw [List.take_of_length_le (by omega), List.drop_eq_nil_of_le (by simp; omega), List.append_nil] at own
      exact ⟨_, _, _, rfl, sl_O.2 own, hb⟩
end Go.Proofs.YtffhodocjjkkoaaGreat
