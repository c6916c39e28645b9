import Derived.Test.YtebaffdaffcdmaaW86
namespace Go.Proofs.Ytebaffdaffcdmaa
open Go.RowKit
set_option maxHeartbeats 4000000
set_option maxRecDepth 100000
theorem M.inn_iff {n lo hi : Int} : M.inn n lo hi = true ↔ lo ≤ n ∧ n ≤ hi := by simp [M.inn]
def M.sendsB (m : Int) : Int → List (Int × Int) → Bool
  | _, [] => true
  | last, x :: xs => M.inn x.1 (last + 1) (m - 1) && M.smp x.2 && M.sendsB m x.1 xs
def M.areSends (xs : List (Int × Int)) (k m : Int) : Bool := M.sendsB m k xs && (if k = m - 1 then decide (xs.length = 0) else M.inn xs.length 1 4)
def M.stripOk (x : Strip) (k m : Int) : Bool := M.name x.1 && M.inn x.2.1 0 32 && M.areSends x.2.2 k m
theorem M.sendsB_at {m last : Int} {xs : List (Int × Int)} {j : Nat} {p0 p1 : Int} (h : xs[j]? = some (p0, p1)) : M.sendsB m last (xs.drop j) = (M.inn p0 (last + 1) (m - 1) && M.smp p1 && M.sendsB m p0 (xs.drop (j + 1))) := by
  rw [M.drop_at h, M.sendsB]
theorem impl_size_impl_Send (A : Option Addr) (n c : Nat) (w : World) : Calls Try.prog 80 #[.slice A n c] w fun e w' => e = .returned (.int .i64 n) ∧ w = w' := by
  go_enter Try.func80, Try.ntmps80
  go_wp2
  go_ret
  exact ⟨rfl, rfl⟩
theorem impl_size_impl_Strip (A : Option Addr) (n c : Nat) (w : World) : Calls Try.prog 63 #[.slice A n c] w fun e w' => e = .returned (.int .i64 n) ∧ w = w' := by
  go_enter Try.func63, Try.ntmps63
  go_wp2
  go_ret
  exact ⟨rfl, rfl⟩
theorem impl_areSends (A : Option Addr) (n c : Nat) (xs : List (Int × Int)) (k m : Int) (w : World) (hx : RA sd 2 w w.heap.size A n xs) (hn : n ≤ 1000000000) (hk : 0 ≤ k ∧ k ≤ 1000000000) (hm : 0 ≤ m ∧ m ≤ 1000000000) :
    Calls Try.prog 66 #[.slice A n c, .int .i64 k, .int .i64 m] w fun e w' => e = .returned (.bool (M.areSends xs k m)) ∧ Below w.heap.size w w' := by
  have hl := Lib.hid hx.1
  go_enter Try.func66, Try.ntmps66
  go_wp2
  go_loopw [7, 9, 13] (fun v _ i wr => ∃ (j : Nat) (last : Int), i = .int .i64 j ∧ j ≤ n ∧ v = .int .i64 last ∧ 0 ≤ last ∧ last ≤ 1000000000 ∧ Hid (M.sendsB m k xs = M.sendsB m last (xs.drop j)) ∧ Below w.heap.size w wr) (fun _ _ i _ => n - (intOf i).toNat)
  case atStart => exact ⟨0, k, rfl, by omega, rfl, by omega, by omega, Lib.hid rfl, Below.refl _ _⟩
  case round =>
    obtain ⟨j, last, rfl, hj, rfl, hl0, hl1, H, hb⟩ := hrel
    by_cases hlt : j < n
    · obtain ⟨b, o, ⟨p0, p1⟩, rfl, hab, X, hcc⟩ := (hx.below hb).at sd_len (by decide) hlt
      have e0 : wr.cell? ⟨b, o + j * 2, none⟩ = some (.int .i64 p0) := hcc 0 _ rfl
      have e1 : wr.cell? ⟨b, o + j * 2 + 1, none⟩ = some (.int .i64 p1) := hcc 1 _ rfl
      have hS := Lib.hid (M.sendsB_at (m := m) (last := last) X.out)
      clear hcc
      cases h1 : M.inn p0 (last + 1) (m - 1)
      · have R := Lib.hid (show M.areSends xs k m = false by rw [M.areSends, H.out, hS.out, h1]; rfl)
        go_wp2_with (go_at_call 65; refine (impl_within _ _ _ _).mono ?_; rintro e w' ⟨rfl, rfl⟩)
        go_ret
        exact ⟨ret_bool (by rw [R.out]), hb.alloc hb.size _⟩
      · cases h2 : M.smp p1
        · have R := Lib.hid (show M.areSends xs k m = false by rw [M.areSends, H.out, hS.out, h1, h2]; rfl)
          go_wp2_with (first | (go_at_call 65; refine (impl_within _ _ _ _).mono ?_; rintro e w' ⟨rfl, rfl⟩) | (go_at_call 79; refine (impl_isSample _ _).mono ?_; rintro e w' ⟨rfl, rfl⟩))
          go_ret
          exact ⟨ret_bool (by rw [R.out]), hb.alloc hb.size _⟩
        · have hp := M.inn_iff.1 h1
          have H2 := Lib.hid (show M.sendsB m k xs = M.sendsB m p0 (xs.drop (j + 1)) by rw [H.out, hS.out, h1, h2]; rfl)
          go_wp2_with (first | (go_at_call 65; refine (impl_within _ _ _ _).mono ?_; rintro e w' ⟨rfl, rfl⟩) | (go_at_call 79; refine (impl_isSample _ _).mono ?_; rintro e w' ⟨rfl, rfl⟩))
          go_roundw
          case rel => exact ⟨j + 1, p0, by go_num, by omega, rfl, by omega, by omega, H2, hb.alloc hb.size _⟩
          case measure => simp [intOf]; omega
    · have H2 := Lib.hid (show M.sendsB m k xs = true by rw [H.out, List.drop_eq_nil_of_le (by rw [hl.out]; omega)]; rfl)
      by_cases hkm : k = m - 1
      · have R := Lib.hid (show M.areSends xs k m = decide (n = 0) by rw [M.areSends, H2.out, if_pos hkm, hl.out]; rfl)
        have hkm2 : (k == m - 1) = true := by simpa using hkm
        clear hkm
        by_cases hz : n = 0
        · subst hz
          go_wp2
          go_ret
          exact ⟨ret_bool (by rw [R.out]; rfl), hb⟩
        · have hz2 : ((n : Int) == 0) = false := by simpa using hz
          have R2 := Lib.hid (show M.areSends xs k m = false by rw [R.out]; simpa using hz)
          clear hz
          go_wp2
          go_ret
          exact ⟨ret_bool (by first | (rw [R2.out]; done) | (rw [R2.out]; exact hz2)), hb⟩
      · have hkm2 : (k == m - 1) = false := by simpa using hkm
        have R := Lib.hid (show M.areSends xs k m = M.inn n 1 4 by rw [M.areSends, H2.out, if_neg hkm, hl.out]; rfl)
        go_wp2_with (first | (go_at_call 65; refine (impl_within _ _ _ _).mono ?_; rintro e w' ⟨rfl, rfl⟩) | (go_at_call 80; refine (impl_size_impl_Send _ _ _ _).mono ?_; rintro e w' ⟨rfl, rfl⟩))
        go_ret
        exact ⟨ret_bool (by rw [R.out]), hb⟩
theorem spec_l26Strip (g o : Nat) (s : ByteArray) (l : Int) (A : Option Addr) (n c : Nat) (xs : List (Int × Int)) (k m : Int) (w : World) (a0 : w.cell? ⟨g, o, none⟩ = some (.string s)) (a1 : w.cell? ⟨g, o + 1, none⟩ = some (.int .i64 l)) (a2 : w.cell? ⟨g, o + 2, none⟩ = some (.slice A n c))
    (hs : s.size ≤ maxLen) (hx : RA sd 2 w w.heap.size A n xs) (hn : n ≤ 1000000000) (hk : 0 ≤ k ∧ k ≤ 1000000000) (hm : 0 ≤ m ∧ m ≤ 1000000000) :
    Calls Try.prog 62 #[.pointer (some ⟨g, o, none⟩), .int .i64 k, .int .i64 m] w fun e w' => e = .returned (.bool (M.stripOk (s, l, xs) k m)) ∧ w = w' := by
  have hl := Lib.hid hx.1
  cases hN : M.name s
  · have R := Lib.hid (show M.stripOk (s, l, xs) k m = false by rw [M.stripOk, hN]; rfl)
    go_enter Try.func62, Try.ntmps62
    go_wp2_with (first | (go_at_call 77; refine (spec_IsName _ _ hs).mono ?_; rw [hN]; rintro e w' ⟨rfl, rfl⟩) | (go_at_call 61; refine (spec_l00In _ _ _ _).mono ?_; rintro e w' ⟨rfl, rfl⟩))
    go_ret
    exact ⟨ret_bool (by rw [R.out]), rfl⟩
  cases hL : M.inn l 0 32
  · have R := Lib.hid (show M.stripOk (s, l, xs) k m = false by rw [M.stripOk, hN, hL]; rfl)
    go_enter Try.func62, Try.ntmps62
    go_wp2_with (first | (go_at_call 77; refine (spec_IsName _ _ hs).mono ?_; rw [hN]; rintro e w' ⟨rfl, rfl⟩) | (go_at_call 61; refine (spec_l00In _ _ _ _).mono ?_; rintro e w' ⟨rfl, rfl⟩))
    go_ret
    exact ⟨ret_bool (by rw [R.out]), rfl⟩
  by_cases h4 : 4 < n
  · have h4' : (4 : Int) < (n : Int) := by omega
    have R := Lib.hid (show M.stripOk (s, l, xs) k m = false by
      rw [M.stripOk, hN, hL]
      show M.areSends xs k m = false
      rw [M.areSends, hl.out]
      split
      · rw [decide_eq_false (by omega), Bool.and_false]
      · rw [show M.inn (n : Int) 1 4 = false by simp [M.inn]; omega, Bool.and_false])
    go_enter Try.func62, Try.ntmps62
    go_wp2_with (first | (go_at_call 77; refine (spec_IsName _ _ hs).mono ?_; rw [hN]; rintro e w' ⟨rfl, rfl⟩) | (go_at_call 61; refine (spec_l00In _ _ _ _).mono ?_; rintro e w' ⟨rfl, rfl⟩))
    go_ret
    exact ⟨ret_bool (by rw [R.out]), rfl⟩
  by_cases hz : n = 0
  · by_cases hkm : k = m - 1
    · have R := Lib.hid (show M.stripOk (s, l, xs) k m = true by
        have hnil : xs = [] := List.eq_nil_of_length_eq_zero (by rw [hl.out, hz])
        rw [M.stripOk, hN, hL, M.areSends, if_pos hkm, hnil]; rfl)
      have hkm2 : (k == m - 1) = true := by simpa using hkm
      subst hz
      clear hkm
      go_enter Try.func62, Try.ntmps62
      go_wp2_with (first | (go_at_call 77; refine (spec_IsName _ _ hs).mono ?_; rw [hN]; rintro e w' ⟨rfl, rfl⟩) | (go_at_call 61; refine (spec_l00In _ _ _ _).mono ?_; rintro e w' ⟨rfl, rfl⟩))
      go_loop [7, 8] (fun _ i => i = .int .i64 0) (fun _ _ => 0)
      case atStart => exact rfl
      case round =>
        obtain rfl := hrel
        go_wp2
        go_ret
        exact ⟨ret_bool (by rw [R.out]), rfl⟩
    · have R := Lib.hid (show M.stripOk (s, l, xs) k m = false by
        rw [M.stripOk, hN, hL]
        show M.areSends xs k m = false
        rw [M.areSends, hl.out, if_neg hkm, hz, show M.inn ((0 : Nat) : Int) 1 4 = false by decide, Bool.and_false])
      have hkm2 : (k == m - 1) = false := by simpa using hkm
      subst hz
      go_enter Try.func62, Try.ntmps62
      go_wp2_with (first | (go_at_call 77; refine (spec_IsName _ _ hs).mono ?_; rw [hN]; rintro e w' ⟨rfl, rfl⟩) | (go_at_call 61; refine (spec_l00In _ _ _ _).mono ?_; rintro e w' ⟨rfl, rfl⟩))
      go_ret
      exact ⟨ret_bool (by rw [R.out]), rfl⟩
  · have hz2 : ((n : Int) == 0) = false := by simpa using hz
    by_cases hkm : k = m - 1
    · have R := Lib.hid (show M.stripOk (s, l, xs) k m = false by
        rw [M.stripOk, hN, hL]
        show M.areSends xs k m = false
        rw [M.areSends, hl.out, if_pos hkm, decide_eq_false hz, Bool.and_false])
      have hkm2 : (k == m - 1) = true := by simpa using hkm
      clear hkm hz
      go_enter Try.func62, Try.ntmps62
      go_wp2_with (first | (go_at_call 77; refine (spec_IsName _ _ hs).mono ?_; rw [hN]; rintro e w' ⟨rfl, rfl⟩) | (go_at_call 61; refine (spec_l00In _ _ _ _).mono ?_; rintro e w' ⟨rfl, rfl⟩))
      go_ret
      exact ⟨ret_bool (by rw [R.out]), rfl⟩
    · have R := Lib.hid (show M.stripOk (s, l, xs) k m = M.sendsB m k xs by
        rw [M.stripOk, hN, hL]
        show M.areSends xs k m = _
        rw [M.areSends, hl.out, if_neg hkm, show M.inn (n : Int) 1 4 = true from M.inn_iff.2 ⟨by omega, by omega⟩, Bool.and_true])
      have hkm2 : (k == m - 1) = false := by simpa using hkm
      have hN' := Lib.hid hN
      have hL' := Lib.hid hL
      clear hkm hz hN hL
      go_enter Try.func62, Try.ntmps62
      go_wp2_with (first | (go_at_call 77; refine (spec_IsName _ _ hs).mono ?_; rw [hN'.out]; rintro e w' ⟨rfl, rfl⟩) | (go_at_call 61; refine (spec_l00In _ _ _ _).mono ?_; rw [hL'.out]; rintro e w' ⟨rfl, rfl⟩))
      go_loop [7, 8] (fun v i => ∃ (j : Nat) (last : Int), i = .int .i64 j ∧ j ≤ n ∧ v = .int .i64 last ∧ 0 ≤ last ∧ last ≤ 1000000000 ∧ Hid (M.sendsB m k xs = M.sendsB m last (xs.drop j))) (fun _ i => n - (intOf i).toNat)
      case atStart => exact ⟨0, k, rfl, by omega, rfl, by omega, by omega, Lib.hid rfl⟩
      case round =>
        obtain ⟨j, last, rfl, hj, rfl, hl0, hl1, H⟩ := hrel
        by_cases hlt : j < n
        · obtain ⟨b, o1, ⟨p0, p1⟩, rfl, hab, X, hcc⟩ := hx.at sd_len (by decide) hlt
          have e0 : w.cell? ⟨b, o1 + j * 2, none⟩ = some (.int .i64 p0) := hcc 0 _ rfl
          have e1 : w.cell? ⟨b, o1 + j * 2 + 1, none⟩ = some (.int .i64 p1) := hcc 1 _ rfl
          have hS := Lib.hid (M.sendsB_at (m := m) (last := last) X.out)
          clear hcc
          cases h1 : M.inn p0 (last + 1) (m - 1)
          · have R2 := Lib.hid (show M.stripOk (s, l, xs) k m = false by rw [R.out, H.out, hS.out, h1]; rfl)
            go_wp2_with (go_at_call 61; refine (spec_l00In _ _ _ _).mono ?_; rintro e w' ⟨rfl, rfl⟩)
            go_ret
            exact ⟨ret_bool (by rw [R2.out]), rfl⟩
          · cases h2 : M.smp p1
            · have R2 := Lib.hid (show M.stripOk (s, l, xs) k m = false by rw [R.out, H.out, hS.out, h1, h2]; rfl)
              go_wp2_with (first | (go_at_call 61; refine (spec_l00In _ _ _ _).mono ?_; rintro e w' ⟨rfl, rfl⟩) | (go_at_call 78; refine (spec_l01Sample _ _).mono ?_; rintro e w' ⟨rfl, rfl⟩))
              go_ret
              exact ⟨ret_bool (by rw [R2.out]), rfl⟩
            · have hp := M.inn_iff.1 h1
              have H2 := Lib.hid (show M.sendsB m k xs = M.sendsB m p0 (xs.drop (j + 1)) by rw [H.out, hS.out, h1, h2]; rfl)
              go_wp2_with (first | (go_at_call 61; refine (spec_l00In _ _ _ _).mono ?_; rintro e w' ⟨rfl, rfl⟩) | (go_at_call 78; refine (spec_l01Sample _ _).mono ?_; rintro e w' ⟨rfl, rfl⟩))
              go_round
              case rel => exact ⟨j + 1, p0, by go_num, by omega, rfl, by omega, by omega, H2⟩
              case measure => simp [intOf]; omega
        · have R2 := Lib.hid (show M.stripOk (s, l, xs) k m = true by rw [R.out, H.out, List.drop_eq_nil_of_le (by rw [hl.out]; omega)]; rfl)
          go_wp2
          go_ret
          exact ⟨ret_bool (by rw [R2.out]), rfl⟩
end Go.Proofs.Ytebaffdaffcdmaa
