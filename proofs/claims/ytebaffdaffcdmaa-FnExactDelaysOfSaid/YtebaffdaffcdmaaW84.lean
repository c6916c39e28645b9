import Derived.Test.YtebaffdaffcdmaaW83
import Derived.Lib.Strings
namespace Go.Proofs.Ytebaffdaffcdmaa
open Go.RowKit
set_option maxHeartbeats 4000000
set_option maxRecDepth 100000
theorem tSdS_ra {w : World} {B : Nat} {A : Option Addr} {n c : Nat} {xs : List (Int × Int)} (h : tSdS.R w B [.slice A n c] xs) : RA sd 2 w B A n xs ∧ n ≤ c ∧ c ≤ maxLen := (sl_R.1 h).flat
theorem str_ne {s t : ByteArray} (h : ¬ s = t) : ¬ s.toList = t.toList := fun e => h (by
  rw [Lib.toList_data, Lib.toList_data] at e
  exact ByteArray.ext (Array.toList_inj.1 e))
theorem same_no {s s' : ByteArray} {l l' : Int} {xs ys : List (Int × Int)} (h : ¬ (s = s' ∧ l = l' ∧ xs = ys)) : decide (((s, l, xs) : Strip) = (s', l', ys)) = false := by
  rw [decide_eq_false_iff_not]
  intro e
  simp only [Prod.mk.injEq] at e
  exact h e
theorem impl_sameStrip (s s' : ByteArray) (l l' : Int) (A A' : Option Addr) (n c n' c' : Nat) (xs ys : List (Int × Int)) (w : World) (hx : tSdS.R w w.heap.size [.slice A n c] xs) (hy : tSdS.R w w.heap.size [.slice A' n' c'] ys) (hn : n ≤ 1000000000) (hn' : n' ≤ 1000000000) :
    Calls Try.prog 40 #[.agg #[.string s, .int .i64 l, .slice A n c], .agg #[.string s', .int .i64 l', .slice A' n' c']] w fun e w' => e = .returned (.bool (decide (((s, l, xs) : Strip) = (s', l', ys)))) ∧ Below w.heap.size w w' := by
  obtain ⟨W, hW⟩ : ∃ W, W = (w.alloc (.cells #[.string s, .int .i64 l, .slice A n c] 57)).alloc (.cells #[.string s', .int .i64 l', .slice A' n' c'] 57) := ⟨_, rfl⟩
  have B0 : Below w.heap.size w W := by rw [hW]; exact ((Below.refl _ _).alloc (Nat.le_refl _) _).alloc (by simp) _
  have hs0 : W.heap.size = w.heap.size + 1 + 1 := by rw [hW]; simp
  have a0 : W.cell? ⟨w.heap.size, 0, none⟩ = some (.string s) := by rw [hW]; simp [go_sem]
  have a1 : W.cell? ⟨w.heap.size, 1, none⟩ = some (.int .i64 l) := by rw [hW]; simp [go_sem]
  have a2 : W.cell? ⟨w.heap.size, 2, none⟩ = some (.slice A n c) := by rw [hW]; simp [go_sem]
  have b0 : W.cell? ⟨w.heap.size + 1, 0, none⟩ = some (.string s') := by rw [hW]; simp [go_sem]
  have b1 : W.cell? ⟨w.heap.size + 1, 1, none⟩ = some (.int .i64 l') := by rw [hW]; simp [go_sem]
  have b2 : W.cell? ⟨w.heap.size + 1, 2, none⟩ = some (.slice A' n' c') := by rw [hW]; simp [go_sem]
  have HW := Lib.hid hW
  clear hW
  have lx : w.heap.size < W.heap.size := by omega
  have ly : w.heap.size + 1 < W.heap.size := by omega
  by_cases hs : ¬ s = s'
  · have hs2 := str_ne hs
    have hs3 : (s.toList == s'.toList) = false := by simpa using hs2
    have R := Lib.hid (same_no (s := s) (s' := s') (l := l) (l' := l') (xs := xs) (ys := ys) (fun e => hs e.1))
    go_enter Try.func40, Try.ntmps40
    go_wp2_with fail
    try rw [← HW.out]
    go_ret
    exact ⟨ret_bool (by rw [R.out]), B0⟩
  replace hs : s = s' := Decidable.not_not.1 hs
  by_cases hl : ¬ l = l'
  · have hl2 : (l == l') = false := by simpa using hl
    have hl3 : (l != l') = true := by simpa using hl
    clear hl2
    have R := Lib.hid (same_no (s := s) (s' := s') (l := l) (l' := l') (xs := xs) (ys := ys) (fun e => hl e.2.1))
    subst hs
    go_enter Try.func40, Try.ntmps40
    go_wp2_with fail
    try rw [← HW.out]
    go_ret
    exact ⟨ret_bool (by rw [R.out]), B0⟩
  replace hl : l = l' := Decidable.not_not.1 hl
  have hlx := (tSdS_ra hx).1.1
  have hly := (tSdS_ra hy).1.1
  by_cases hnn : ¬ n = n'
  · have hne : ((n : Int) != (n' : Int)) = true := by simp; omega
    have R := Lib.hid (same_no (s := s) (s' := s') (l := l) (l' := l') (xs := xs) (ys := ys) (fun e => hnn (by rw [← hlx, ← hly, e.2.2])))
    subst hs hl
    clear hlx hly
    go_enter Try.func40, Try.ntmps40
    go_wp2_with fail
    try rw [← HW.out]
    go_ret
    exact ⟨ret_bool (by rw [R.out]), B0⟩
  replace hnn : n = n' := Decidable.not_not.1 hnn
  subst hs hl hnn
  have HLX := Lib.hid hlx
  have HLY := Lib.hid hly
  have rx := (tSdS_ra hx).1
  have ry := (tSdS_ra hy).1
  clear hlx hly hx hy
  go_enter Try.func40, Try.ntmps40
  go_wp2_with fail
  rw [← HW.out]
  go_loopw [5, 6, 31] (fun _ _ i wr => ∃ k : Nat, i = .int .i64 k ∧ k ≤ n ∧ Hid (xs.take k = ys.take k) ∧ Below W.heap.size W wr) (fun _ _ i _ => n - (intOf i).toNat)
  case atStart => exact ⟨0, rfl, by omega, Lib.hid (by simp), Below.refl _ _⟩
  case round =>
    obtain ⟨k, rfl, hk, H, hb⟩ := hrel
    have Bw : Below w.heap.size w wr := B0.trans (hb.mono B0.size)
    have hsw := hb.size
    have c2 : wr.cell? ⟨w.heap.size, 2, none⟩ = some (.slice A n c) := by rw [hb.cell lx]; exact a2
    have d2 : wr.cell? ⟨w.heap.size + 1, 2, none⟩ = some (.slice A' n c') := by rw [hb.cell ly]; exact b2
    have lx1 : w.heap.size < wr.heap.size := by omega
    have ly1 : w.heap.size + 1 < wr.heap.size := by omega
    by_cases hlt : k < n
    · obtain ⟨b, o1, ⟨p0, p1⟩, rfl, hab, X, hcc⟩ := (rx.below Bw).at sd_len (by decide) hlt
      obtain ⟨b', o2, ⟨r0, r1⟩, rfl, hab', Y, hdd⟩ := (ry.below Bw).at sd_len (by decide) hlt
      have e0 : wr.cell? ⟨b, o1 + k * 2, none⟩ = some (.int .i64 p0) := hcc 0 _ rfl
      have e1 : wr.cell? ⟨b, o1 + k * 2 + 1, none⟩ = some (.int .i64 p1) := hcc 1 _ rfl
      have f0 : wr.cell? ⟨b', o2 + k * 2, none⟩ = some (.int .i64 r0) := hdd 0 _ rfl
      have f1 : wr.cell? ⟨b', o2 + k * 2 + 1, none⟩ = some (.int .i64 r1) := hdd 1 _ rfl
      have hbr : b < wr.heap.size := Nat.lt_of_lt_of_le hab Bw.size
      have hbr' : b' < wr.heap.size := Nat.lt_of_lt_of_le hab' Bw.size
      clear hcc hdd
      by_cases hp : p0 = r0 ∧ p1 = r1
      · obtain ⟨rfl, rfl⟩ := hp
        go_wp2
        go_quiet (fail)
        go_wp2
        go_roundw
        case rel => exact ⟨k + 1, by go_num, by omega, Lib.hid (by rw [M.take_at X.out, M.take_at Y.out, H.out]), below_drewN (hb.alloc hb.size _) _⟩
        case measure => simp [intOf]; omega
      · have R := Lib.hid (same_no (s := s) (s' := s) (l := l) (l' := l) (xs := xs) (ys := ys) (fun e => hp (by
          have h1 := X.out
          rw [e.2.2, Y.out] at h1
          injection h1 with h1
          injection h1 with h2 h3
          exact ⟨h2.symm, h3.symm⟩)))
        by_cases hp0 : p0 = r0
        · have hp1 : ¬ p1 = r1 := fun e => hp ⟨hp0, e⟩
          have hp2 : (p1 == r1) = false := by simpa using hp1
          subst hp0
          clear hp
          go_wp2
          go_quiet (fail)
          go_wp2
          go_ret
          exact ⟨ret_bool (by rw [R.out]), below_drewN (Bw.alloc Bw.size _) _⟩
        · have hp2 : (p0 == r0) = false := by simpa using hp0
          clear hp
          go_wp2
          go_quiet (fail)
          go_wp2
          go_ret
          exact ⟨ret_bool (by rw [R.out]), below_drewN (Bw.alloc Bw.size _) _⟩
    · go_wp2
      go_ret
      have h1 : xs = ys := by have := H.out; rwa [List.take_of_length_le (by rw [HLX.out]; omega), List.take_of_length_le (by rw [HLY.out]; omega)] at this
      exact ⟨ret_bool (by rw [h1]; simp), Bw⟩
theorem spec_l26Same (g o g' o' : Nat) (s s' : ByteArray) (l l' : Int) (A A' : Option Addr) (n c n' c' : Nat) (xs ys : List (Int × Int)) (w : World) (a0 : w.cell? ⟨g, o, none⟩ = some (.string s)) (b0 : w.cell? ⟨g', o', none⟩ = some (.string s')) (a1 : w.cell? ⟨g, o + 1, none⟩ = some (.int .i64 l)) (b1 : w.cell? ⟨g', o' + 1, none⟩ = some (.int .i64 l')) (a2 : w.cell? ⟨g, o + 2, none⟩ = some (.slice A n c)) (b2 : w.cell? ⟨g', o' + 2, none⟩ = some (.slice A' n' c')) (hx : tSdS.R w w.heap.size [.slice A n c] xs) (hy : tSdS.R w w.heap.size [.slice A' n' c'] ys) (hn : n ≤ 1000000000) (hn' : n' ≤ 1000000000) :
    Calls Try.prog 38 #[.pointer (some ⟨g, o, none⟩), .pointer (some ⟨g', o', none⟩)] w fun e w' => e = .returned (.bool (decide (((s, l, xs) : Strip) = (s', l', ys)))) ∧ Below w.heap.size w w' := by
  have B0 : Below w.heap.size w w := Below.refl _ _
  have lx : g < w.heap.size := World.block_lt_of_cell? w _ a0
  have ly : g' < w.heap.size := World.block_lt_of_cell? w _ b0
  by_cases hs : ¬ s = s'
  · have hs2 := str_ne hs
    have hs3 : (s.toList == s'.toList) = false := by simpa using hs2
    have R := Lib.hid (same_no (s := s) (s' := s') (l := l) (l' := l') (xs := xs) (ys := ys) (fun e => hs e.1))
    go_enter Try.func38, Try.ntmps38
    go_wp2_with fail
    go_quiet (fail)
    go_wp2_with fail
    go_ret
    exact ⟨ret_bool (by rw [R.out]), below_drewN (Below.refl _ _) _⟩
  replace hs : s = s' := Decidable.not_not.1 hs
  by_cases hl : ¬ l = l'
  · have hl2 : (l == l') = false := by simpa using hl
    have hl3 : (l != l') = true := by simpa using hl
    clear hl2
    have R := Lib.hid (same_no (s := s) (s' := s') (l := l) (l' := l') (xs := xs) (ys := ys) (fun e => hl e.2.1))
    subst hs
    go_enter Try.func38, Try.ntmps38
    go_wp2_with fail
    go_quiet (fail)
    go_wp2_with fail
    go_ret
    exact ⟨ret_bool (by rw [R.out]), below_drewN (Below.refl _ _) _⟩
  replace hl : l = l' := Decidable.not_not.1 hl
  have hlx := (tSdS_ra hx).1.1
  have hly := (tSdS_ra hy).1.1
  by_cases hnn : ¬ n = n'
  · have hne : ((n : Int) != (n' : Int)) = true := by simp; omega
    have R := Lib.hid (same_no (s := s) (s' := s') (l := l) (l' := l') (xs := xs) (ys := ys) (fun e => hnn (by rw [← hlx, ← hly, e.2.2])))
    subst hs hl
    clear hlx hly
    go_enter Try.func38, Try.ntmps38
    go_wp2_with fail
    go_quiet (fail)
    go_wp2_with fail
    go_ret
    exact ⟨ret_bool (by rw [R.out]), below_drewN (Below.refl _ _) _⟩
  replace hnn : n = n' := Decidable.not_not.1 hnn
  subst hs hl hnn
  have HLX := Lib.hid hlx
  have HLY := Lib.hid hly
  have rx := (tSdS_ra hx).1
  have ry := (tSdS_ra hy).1
  clear hlx hly hx hy
  go_enter Try.func38, Try.ntmps38
  go_wp2_with fail
  go_quiet (fail)
  go_wp2_with fail
  go_loopw [5] (fun i wr => ∃ k : Nat, i = .int .i64 k ∧ k ≤ n ∧ Hid (xs.take k = ys.take k) ∧ Below w.heap.size w wr) (fun i _ => n - (intOf i).toNat)
  case atStart => exact ⟨0, rfl, by omega, Lib.hid (by simp), below_drewN (Below.refl _ _) _⟩
  case round =>
    obtain ⟨k, rfl, hk, H, hb⟩ := hrel
    have Bw : Below w.heap.size w wr := B0.trans (hb.mono B0.size)
    have hsw := hb.size
    have c2 : wr.cell? ⟨g, o + 2, none⟩ = some (.slice A n c) := by rw [hb.cell lx]; exact a2
    have d2 : wr.cell? ⟨g', o' + 2, none⟩ = some (.slice A' n c') := by rw [hb.cell ly]; exact b2
    have lx1 : g < wr.heap.size := by omega
    have ly1 : g' < wr.heap.size := by omega
    by_cases hlt : k < n
    · obtain ⟨b, o1, ⟨p0, p1⟩, rfl, hab, X, hcc⟩ := (rx.below Bw).at sd_len (by decide) hlt
      obtain ⟨b', o2, ⟨r0, r1⟩, rfl, hab', Y, hdd⟩ := (ry.below Bw).at sd_len (by decide) hlt
      have e0 : wr.cell? ⟨b, o1 + k * 2, none⟩ = some (.int .i64 p0) := hcc 0 _ rfl
      have e1 : wr.cell? ⟨b, o1 + k * 2 + 1, none⟩ = some (.int .i64 p1) := hcc 1 _ rfl
      have f0 : wr.cell? ⟨b', o2 + k * 2, none⟩ = some (.int .i64 r0) := hdd 0 _ rfl
      have f1 : wr.cell? ⟨b', o2 + k * 2 + 1, none⟩ = some (.int .i64 r1) := hdd 1 _ rfl
      have hbr : b < wr.heap.size := Nat.lt_of_lt_of_le hab Bw.size
      have hbr' : b' < wr.heap.size := Nat.lt_of_lt_of_le hab' Bw.size
      clear hcc hdd
      by_cases hp : p0 = r0 ∧ p1 = r1
      · obtain ⟨rfl, rfl⟩ := hp
        go_wp2
        go_quiet (fail)
        go_wp2
        go_roundw
        case rel => exact ⟨k + 1, by go_num, by omega, Lib.hid (by rw [M.take_at X.out, M.take_at Y.out, H.out]), below_drewN hb _⟩
        case measure => simp [intOf]; omega
      · have R := Lib.hid (same_no (s := s) (s' := s) (l := l) (l' := l) (xs := xs) (ys := ys) (fun e => hp (by
          have h1 := X.out
          rw [e.2.2, Y.out] at h1
          injection h1 with h1
          injection h1 with h2 h3
          exact ⟨h2.symm, h3.symm⟩)))
        by_cases hp0 : p0 = r0
        · have hp1 : ¬ p1 = r1 := fun e => hp ⟨hp0, e⟩
          have hp2 : (p1 == r1) = false := by simpa using hp1
          subst hp0
          clear hp
          go_wp2
          go_quiet (fail)
          go_wp2
          go_ret
          exact ⟨ret_bool (by rw [R.out]), below_drewN Bw _⟩
        · have hp2 : (p0 == r0) = false := by simpa using hp0
          clear hp
          go_wp2
          go_quiet (fail)
          go_wp2
          go_ret
          exact ⟨ret_bool (by rw [R.out]), below_drewN Bw _⟩
    · go_wp2
      go_ret
      have h1 : xs = ys := by have := H.out; rwa [List.take_of_length_le (by rw [HLX.out]; omega), List.take_of_length_le (by rw [HLY.out]; omega)] at this
      exact ⟨ret_bool (by rw [h1]; simp), Bw⟩
end Go.Proofs.Ytebaffdaffcdmaa
