import Derived.Test.YtckihflfjecpbaaW35
namespace Go.Proofs.Ytckihflfjecpbaa
open Go.RowKit
set_option maxHeartbeats 1000000
set_option maxRecDepth 100000
theorem spec_l25Idle (A : Option Addr) (n c k : Nat) (xs : List (Int × Int)) (w : World) (hx : RA pt 2 w w.heap.size A n xs) (hok : M.curveOk xs = true) (hk : k < n) (hc : n ≤ c) (hm : c ≤ maxLen) :
    Calls Try.prog 101 #[.slice A n c, .int .i64 k] w fun e w' => e = .returned (.bool (M.idle xs k)) ∧ Below w.heap.size w w' := by
  have hl := Lib.hid hx.len
  have hn : 1 ≤ n ∧ n ≤ 24 := by have := M.curve_len hok; rw [hl.out] at this; exact this
  have hok' := Lib.hid hok
  have hkx := Lib.hid (show k < xs.length by rw [hl.out]; exact hk)
  by_cases h1 : n = 1
  · have hr := Lib.hid (show M.idle xs k = false by rw [M.idle, hl.out, h1]; rfl)
    have h1b : ((n : Int) == 1) = true := by simp; omega
    clear h1 hok
    go_enter Try.func101, Try.ntmps101
    go_wp2
    go_ret
    exact ⟨ret_bool hr.out.symm, Below.refl _ _⟩
  have h1b : ((n : Int) == 1) = false := by simp; omega
  have h1x := Lib.hid (show 1 < xs.length by rw [hl.out]; omega)
  have hfb := M.from_bd hok hkx.out
  have htb := M.to_bd (k := k) hok
  have hlok := Lib.hid (M.dropP_ok hok hkx.out h1x.out)
  have hlen := Lib.hid (M.dropP_len xs hkx.out)
  have hidle := Lib.hid (M.idle_iff hok hkx.out h1x.out)
  clear h1 hok
  obtain ⟨b, o, x0, rfl, hab, X0, hc0⟩ := hx.at pt_len (by decide) (k := 0) (by omega)
  clear hc0 X0 x0
  rcases Nat.lt_or_ge 0 k with hk0 | hk0 <;> rcases Nat.lt_or_ge (k + 1) n with hk1 | hk1
  · obtain ⟨⟨p0, p1⟩, Y0, hp⟩ := hx.cells pt_len (by decide) (k := k - 1) (by omega)
    have hp0 : w.cell? ⟨b, o + (k - 1) * 2, none⟩ = some (.int .i64 p0) := hp 0 _ rfl
    have hF := Lib.hid (show p0 = M.from xs k by rw [M.from, if_pos hk0, Y0.out]; rfl)
    have hfb' : 0 ≤ p0 ∧ p0 ≤ 4000 := by rw [hF.out]; exact hfb
    clear hp
    obtain ⟨⟨q0, q1⟩, Y1, hq⟩ := hx.cells pt_len (by decide) (k := k + 1) (by omega)
    have hq0 : w.cell? ⟨b, o + (k + 1) * 2, none⟩ = some (.int .i64 q0) := hq 0 _ rfl
    have hT := Lib.hid (show q0 = M.to xs k by rw [M.to, if_pos (by rw [hl.out]; exact hk1), Y1.out]; rfl)
    have htb' : 0 ≤ q0 ∧ q0 ≤ 4000 := by rw [hT.out]; exact htb
    clear hq
    have hdk : decide (0 < k) = true := by simp; omega
    have hdk1 : decide ((k : Int) + 1 < (n : Int)) = true := by simp; omega
    have tok1 : True := trivial
    go_enter Try.func101, Try.ntmps101
    go_wp2_with (go_at_call 80; refine (spec_l25Drop _ _ _ _ _ _ hx (by omega) hk hc hm).mono ?_; rintro e w2 ⟨v, rfl, own2, bel2⟩; obtain ⟨A2, c2, rfl, -⟩ := own2.shape; have kp0 : w2.cell? ⟨b, o + (k - 1) * 2, none⟩ = some (.int .i64 p0) := (by rw [bel2.cell (by simpa using hab)]; exact hp0); have kq0 : w2.cell? ⟨b, o + (k + 1) * 2, none⟩ = some (.int .i64 q0) := (by rw [bel2.cell (by simpa using hab)]; exact hq0))
    have hx2 := hx.later bel2
    have hy2 := own2.ra
    go_loopw [8] (fun v wr => ∃ t : Int, v = .int .i64 t ∧ p0 ≤ t ∧ t ≤ 4001 ∧ Hid (∀ u, p0 ≤ u → u < t → M.atC xs u = M.atC (M.dropP xs k) u) ∧ Below w2.heap.size w2 wr) (fun v _ => (4001 - intOf v).toNat)
    case atStart => exact ⟨_, rfl, by omega, by omega, Lib.hid (by omega), Below.refl _ _⟩
    case round =>
      obtain ⟨t, rfl, ht0, ht1, H, hb⟩ := hrel
      by_cases htt : t ≤ q0
      · have hxr := hx2.later hb
        have hyr := hy2.later hb
        by_cases heq : M.atC xs t = M.atC (M.dropP xs k) t
        · have hne : (M.atC xs t != M.atC (M.dropP xs k) t) = false := by simpa using heq
          have heq' := Lib.hid heq
          clear heq
          go_wp2_with (first | (go_at_call 84; have _t := tok1; with_reducible refine (spec_l25At _ _ _ _ _ _ hxr hok'.out (by omega)).mono ?_; rintro e w3 ⟨rfl, bel3⟩; have hyr3 := hyr.later bel3; clear tok1 _t) | (go_at_call 84; refine (spec_l25At _ _ _ _ _ _ hyr3 hlok.out (by omega)).mono ?_; rintro e w4 ⟨rfl, bel4⟩))
          go_roundw
          case rel => exact ⟨t + 1, rfl, by omega, by omega, Lib.hid (fun u h1 h2 => by by_cases h3 : u = t; rw [h3]; exact heq'.out; exact H.out u h1 (by omega)), hb.trans ((bel_trans bel3 bel4).mono hb.size)⟩
          case measure => simp [intOf]; omega
        · have hne : (M.atC xs t != M.atC (M.dropP xs k) t) = true := by simpa using heq
          have hr := Lib.hid (show M.idle xs k = false by
            cases hi : M.idle xs k
            · rfl
            · exact absurd (hidle.out.1 hi t (by rw [← hF.out]; exact ht0) (by rw [← hT.out]; exact htt)) heq)
          clear heq
          go_wp2_with (first | (go_at_call 84; have _t := tok1; with_reducible refine (spec_l25At _ _ _ _ _ _ hxr hok'.out (by omega)).mono ?_; rintro e w3 ⟨rfl, bel3⟩; have hyr3 := hyr.later bel3; clear tok1 _t) | (go_at_call 84; refine (spec_l25At _ _ _ _ _ _ hyr3 hlok.out (by omega)).mono ?_; rintro e w4 ⟨rfl, bel4⟩))
          go_ret
          exact ⟨ret_bool hr.out.symm, bel2.trans ((hb.trans ((bel_trans bel3 bel4).mono hb.size)).mono bel2.size)⟩
      · have hr := Lib.hid (hidle.out.2 (fun u h1 h2 => H.out u (by rw [hF.out]; exact h1) (by rw [← hT.out] at h2; omega)))
        go_wp2
        go_ret
        exact ⟨ret_bool hr.out.symm, bel2.trans (hb.mono bel2.size)⟩
  · obtain ⟨⟨p0, p1⟩, Y0, hp⟩ := hx.cells pt_len (by decide) (k := k - 1) (by omega)
    have hp0 : w.cell? ⟨b, o + (k - 1) * 2, none⟩ = some (.int .i64 p0) := hp 0 _ rfl
    have hF := Lib.hid (show p0 = M.from xs k by rw [M.from, if_pos hk0, Y0.out]; rfl)
    have hfb' : 0 ≤ p0 ∧ p0 ≤ 4000 := by rw [hF.out]; exact hfb
    clear hp
    have hT := Lib.hid (show (4000 : Int) = M.to xs k by rw [M.to, if_neg (by rw [hl.out]; omega)])
    have hdk : decide (0 < k) = true := by simp; omega
    have hdk1 : decide ((k : Int) + 1 < (n : Int)) = false := by simp; omega
    have tok1 : True := trivial
    go_enter Try.func101, Try.ntmps101
    go_wp2_with (go_at_call 80; refine (spec_l25Drop _ _ _ _ _ _ hx (by omega) hk hc hm).mono ?_; rintro e w2 ⟨v, rfl, own2, bel2⟩; obtain ⟨A2, c2, rfl, -⟩ := own2.shape; have kp0 : w2.cell? ⟨b, o + (k - 1) * 2, none⟩ = some (.int .i64 p0) := (by rw [bel2.cell (by simpa using hab)]; exact hp0))
    have hx2 := hx.later bel2
    have hy2 := own2.ra
    go_loopw [8] (fun v wr => ∃ t : Int, v = .int .i64 t ∧ p0 ≤ t ∧ t ≤ 4001 ∧ Hid (∀ u, p0 ≤ u → u < t → M.atC xs u = M.atC (M.dropP xs k) u) ∧ Below w2.heap.size w2 wr) (fun v _ => (4001 - intOf v).toNat)
    case atStart => exact ⟨_, rfl, by omega, by omega, Lib.hid (by omega), Below.refl _ _⟩
    case round =>
      obtain ⟨t, rfl, ht0, ht1, H, hb⟩ := hrel
      by_cases htt : t ≤ 4000
      · have hxr := hx2.later hb
        have hyr := hy2.later hb
        by_cases heq : M.atC xs t = M.atC (M.dropP xs k) t
        · have hne : (M.atC xs t != M.atC (M.dropP xs k) t) = false := by simpa using heq
          have heq' := Lib.hid heq
          clear heq
          go_wp2_with (first | (go_at_call 84; have _t := tok1; with_reducible refine (spec_l25At _ _ _ _ _ _ hxr hok'.out (by omega)).mono ?_; rintro e w3 ⟨rfl, bel3⟩; have hyr3 := hyr.later bel3; clear tok1 _t) | (go_at_call 84; refine (spec_l25At _ _ _ _ _ _ hyr3 hlok.out (by omega)).mono ?_; rintro e w4 ⟨rfl, bel4⟩))
          go_roundw
          case rel => exact ⟨t + 1, rfl, by omega, by omega, Lib.hid (fun u h1 h2 => by by_cases h3 : u = t; rw [h3]; exact heq'.out; exact H.out u h1 (by omega)), hb.trans ((bel_trans bel3 bel4).mono hb.size)⟩
          case measure => simp [intOf]; omega
        · have hne : (M.atC xs t != M.atC (M.dropP xs k) t) = true := by simpa using heq
          have hr := Lib.hid (show M.idle xs k = false by
            cases hi : M.idle xs k
            · rfl
            · exact absurd (hidle.out.1 hi t (by rw [← hF.out]; exact ht0) (by rw [← hT.out]; exact htt)) heq)
          clear heq
          go_wp2_with (first | (go_at_call 84; have _t := tok1; with_reducible refine (spec_l25At _ _ _ _ _ _ hxr hok'.out (by omega)).mono ?_; rintro e w3 ⟨rfl, bel3⟩; have hyr3 := hyr.later bel3; clear tok1 _t) | (go_at_call 84; refine (spec_l25At _ _ _ _ _ _ hyr3 hlok.out (by omega)).mono ?_; rintro e w4 ⟨rfl, bel4⟩))
          go_ret
          exact ⟨ret_bool hr.out.symm, bel2.trans ((hb.trans ((bel_trans bel3 bel4).mono hb.size)).mono bel2.size)⟩
      · have hr := Lib.hid (hidle.out.2 (fun u h1 h2 => H.out u (by rw [hF.out]; exact h1) (by rw [← hT.out] at h2; omega)))
        go_wp2
        go_ret
        exact ⟨ret_bool hr.out.symm, bel2.trans (hb.mono bel2.size)⟩
  · have hF := Lib.hid (show (0 : Int) = M.from xs k by rw [M.from, if_neg (by omega)])
    obtain ⟨⟨q0, q1⟩, Y1, hq⟩ := hx.cells pt_len (by decide) (k := k + 1) (by omega)
    have hq0 : w.cell? ⟨b, o + (k + 1) * 2, none⟩ = some (.int .i64 q0) := hq 0 _ rfl
    have hT := Lib.hid (show q0 = M.to xs k by rw [M.to, if_pos (by rw [hl.out]; exact hk1), Y1.out]; rfl)
    have htb' : 0 ≤ q0 ∧ q0 ≤ 4000 := by rw [hT.out]; exact htb
    clear hq
    have hdk : decide (0 < k) = false := by simp; omega
    have hdk1 : decide ((k : Int) + 1 < (n : Int)) = true := by simp; omega
    have tok1 : True := trivial
    go_enter Try.func101, Try.ntmps101
    go_wp2_with (go_at_call 80; refine (spec_l25Drop _ _ _ _ _ _ hx (by omega) hk hc hm).mono ?_; rintro e w2 ⟨v, rfl, own2, bel2⟩; obtain ⟨A2, c2, rfl, -⟩ := own2.shape; have kq0 : w2.cell? ⟨b, o + (k + 1) * 2, none⟩ = some (.int .i64 q0) := (by rw [bel2.cell (by simpa using hab)]; exact hq0))
    have hx2 := hx.later bel2
    have hy2 := own2.ra
    go_loopw [8] (fun v wr => ∃ t : Int, v = .int .i64 t ∧ (0 : Int) ≤ t ∧ t ≤ 4001 ∧ Hid (∀ u, (0 : Int) ≤ u → u < t → M.atC xs u = M.atC (M.dropP xs k) u) ∧ Below w2.heap.size w2 wr) (fun v _ => (4001 - intOf v).toNat)
    case atStart => exact ⟨_, rfl, by omega, by omega, Lib.hid (by omega), Below.refl _ _⟩
    case round =>
      obtain ⟨t, rfl, ht0, ht1, H, hb⟩ := hrel
      by_cases htt : t ≤ q0
      · have hxr := hx2.later hb
        have hyr := hy2.later hb
        by_cases heq : M.atC xs t = M.atC (M.dropP xs k) t
        · have hne : (M.atC xs t != M.atC (M.dropP xs k) t) = false := by simpa using heq
          have heq' := Lib.hid heq
          clear heq
          go_wp2_with (first | (go_at_call 84; have _t := tok1; with_reducible refine (spec_l25At _ _ _ _ _ _ hxr hok'.out (by omega)).mono ?_; rintro e w3 ⟨rfl, bel3⟩; have hyr3 := hyr.later bel3; clear tok1 _t) | (go_at_call 84; refine (spec_l25At _ _ _ _ _ _ hyr3 hlok.out (by omega)).mono ?_; rintro e w4 ⟨rfl, bel4⟩))
          go_roundw
          case rel => exact ⟨t + 1, rfl, by omega, by omega, Lib.hid (fun u h1 h2 => by by_cases h3 : u = t; rw [h3]; exact heq'.out; exact H.out u h1 (by omega)), hb.trans ((bel_trans bel3 bel4).mono hb.size)⟩
          case measure => simp [intOf]; omega
        · have hne : (M.atC xs t != M.atC (M.dropP xs k) t) = true := by simpa using heq
          have hr := Lib.hid (show M.idle xs k = false by
            cases hi : M.idle xs k
            · rfl
            · exact absurd (hidle.out.1 hi t (by rw [← hF.out]; exact ht0) (by rw [← hT.out]; exact htt)) heq)
          clear heq
          go_wp2_with (first | (go_at_call 84; have _t := tok1; with_reducible refine (spec_l25At _ _ _ _ _ _ hxr hok'.out (by omega)).mono ?_; rintro e w3 ⟨rfl, bel3⟩; have hyr3 := hyr.later bel3; clear tok1 _t) | (go_at_call 84; refine (spec_l25At _ _ _ _ _ _ hyr3 hlok.out (by omega)).mono ?_; rintro e w4 ⟨rfl, bel4⟩))
          go_ret
          exact ⟨ret_bool hr.out.symm, bel2.trans ((hb.trans ((bel_trans bel3 bel4).mono hb.size)).mono bel2.size)⟩
      · have hr := Lib.hid (hidle.out.2 (fun u h1 h2 => H.out u (by rw [hF.out]; exact h1) (by rw [← hT.out] at h2; omega)))
        go_wp2
        go_ret
        exact ⟨ret_bool hr.out.symm, bel2.trans (hb.mono bel2.size)⟩
  · have hF := Lib.hid (show (0 : Int) = M.from xs k by rw [M.from, if_neg (by omega)])
    have hT := Lib.hid (show (4000 : Int) = M.to xs k by rw [M.to, if_neg (by rw [hl.out]; omega)])
    have hdk : decide (0 < k) = false := by simp; omega
    have hdk1 : decide ((k : Int) + 1 < (n : Int)) = false := by simp; omega
    have tok1 : True := trivial
    go_enter Try.func101, Try.ntmps101
    go_wp2_with (go_at_call 80; refine (spec_l25Drop _ _ _ _ _ _ hx (by omega) hk hc hm).mono ?_; rintro e w2 ⟨v, rfl, own2, bel2⟩; obtain ⟨A2, c2, rfl, -⟩ := own2.shape)
    have hx2 := hx.later bel2
    have hy2 := own2.ra
    go_loopw [8] (fun v wr => ∃ t : Int, v = .int .i64 t ∧ (0 : Int) ≤ t ∧ t ≤ 4001 ∧ Hid (∀ u, (0 : Int) ≤ u → u < t → M.atC xs u = M.atC (M.dropP xs k) u) ∧ Below w2.heap.size w2 wr) (fun v _ => (4001 - intOf v).toNat)
    case atStart => exact ⟨_, rfl, by omega, by omega, Lib.hid (by omega), Below.refl _ _⟩
    case round =>
      obtain ⟨t, rfl, ht0, ht1, H, hb⟩ := hrel
      by_cases htt : t ≤ 4000
      · have hxr := hx2.later hb
        have hyr := hy2.later hb
        by_cases heq : M.atC xs t = M.atC (M.dropP xs k) t
        · have hne : (M.atC xs t != M.atC (M.dropP xs k) t) = false := by simpa using heq
          have heq' := Lib.hid heq
          clear heq
          go_wp2_with (first | (go_at_call 84; have _t := tok1; with_reducible refine (spec_l25At _ _ _ _ _ _ hxr hok'.out (by omega)).mono ?_; rintro e w3 ⟨rfl, bel3⟩; have hyr3 := hyr.later bel3; clear tok1 _t) | (go_at_call 84; refine (spec_l25At _ _ _ _ _ _ hyr3 hlok.out (by omega)).mono ?_; rintro e w4 ⟨rfl, bel4⟩))
          go_roundw
          case rel => exact ⟨t + 1, rfl, by omega, by omega, Lib.hid (fun u h1 h2 => by by_cases h3 : u = t; rw [h3]; exact heq'.out; exact H.out u h1 (by omega)), hb.trans ((bel_trans bel3 bel4).mono hb.size)⟩
          case measure => simp [intOf]; omega
        · have hne : (M.atC xs t != M.atC (M.dropP xs k) t) = true := by simpa using heq
          have hr := Lib.hid (show M.idle xs k = false by
            cases hi : M.idle xs k
            · rfl
            · exact absurd (hidle.out.1 hi t (by rw [← hF.out]; exact ht0) (by rw [← hT.out]; exact htt)) heq)
          clear heq
          go_wp2_with (first | (go_at_call 84; have _t := tok1; with_reducible refine (spec_l25At _ _ _ _ _ _ hxr hok'.out (by omega)).mono ?_; rintro e w3 ⟨rfl, bel3⟩; have hyr3 := hyr.later bel3; clear tok1 _t) | (go_at_call 84; refine (spec_l25At _ _ _ _ _ _ hyr3 hlok.out (by omega)).mono ?_; rintro e w4 ⟨rfl, bel4⟩))
          go_ret
          exact ⟨ret_bool hr.out.symm, bel2.trans ((hb.trans ((bel_trans bel3 bel4).mono hb.size)).mono bel2.size)⟩
      · have hr := Lib.hid (hidle.out.2 (fun u h1 h2 => H.out u (by rw [hF.out]; exact h1) (by rw [← hT.out] at h2; omega)))
        go_wp2
        go_ret
        exact ⟨ret_bool hr.out.symm, bel2.trans (hb.mono bel2.size)⟩
end Go.Proofs.Ytckihflfjecpbaa
