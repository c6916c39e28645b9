import Derived.Test.YtebaffdaffcdmaaW88
namespace Go.Proofs.Ytebaffdaffcdmaa
open Go.RowKit
set_option maxHeartbeats 4000000
set_option maxRecDepth 100000
theorem M.has_no {xs : List Strip} {k : Nat} {s : ByteArray} (h : ∀ j, j < k → ∀ y, xs[j]? = some y → ¬ y.1 = s) : M.has s ((xs.take k).map (·.1)) = false := by
  rw [M.has, List.any_eq_false]
  intro t ht
  obtain ⟨y, hy, rfl⟩ := List.mem_map.1 ht
  obtain ⟨j, hj⟩ := List.getElem?_of_mem hy
  have hj2 : j < k := by
    have := (List.getElem?_eq_some_iff.1 hj).1
    rw [List.length_take] at this
    omega
  rw [List.getElem?_take, if_pos hj2] at hj
  simpa using h j hj2 y hj
theorem M.has_yes {xs : List Strip} {k j : Nat} {y : Strip} (hj : j < k) (h : xs[j]? = some y) : M.has y.1 ((xs.take k).map (·.1)) = true := by
  rw [M.has, List.any_eq_true]
  refine ⟨y.1, List.mem_map.2 ⟨y, List.mem_of_getElem? (i := j) (by rw [List.getElem?_take, if_pos hj]; exact h), rfl⟩, by simp⟩
theorem spec_l26Ok (vb : Nat) (A : Option Addr) (n c : Nat) (xs : List Strip) (w : World) (hv0 : w.cell? ⟨vb, 0, none⟩ = some (.slice A n c)) (hx : tM.R w w.heap.size [.slice A n c] xs) (hn : hM.sz xs ≤ 100000000) :
    Calls Try.prog 42 #[.pointer (some ⟨vb, 0, none⟩)] w fun e w' => e = .returned (.bool (M.mixOk xs)) ∧ Below w.heap.size w w' := by
  have hvb : vb < w.heap.size := World.block_lt_of_cell? w _ hv0
  have rx := sl_R.1 hx
  have hlx := rx.cap.1
  have hm1 : xs.length + hSt.szL xs ≤ 100000000 := hn
  have hnb : n ≤ 100000000 := by omega
  have HLX := Lib.hid hlx
  have HM1 := Lib.hid hm1
  clear hlx hx hn hm1
  cases hI : M.inn n 1 8
  · have R := Lib.hid (show M.mixOk xs = false by rw [M.mixOk, HLX.out, hI]; rfl)
    go_enter Try.func42, Try.ntmps42
    go_wp2_with (go_at_call 61; refine (spec_l00In _ _ _ _).mono ?_; rintro e w' ⟨rfl, rfl⟩)
    go_ret
    exact ⟨ret_bool (by rw [R.out]), Below.refl _ _⟩
  · have hb8 := M.inn_iff.1 hI
    have HI := Lib.hid hI
    go_enter Try.func42, Try.ntmps42
    go_wp2_with (go_at_call 61; refine (spec_l00In _ _ _ _).mono ?_; rintro e w' ⟨rfl, rfl⟩)
    clear hI
    go_loopw [4, 5] (fun i _ wr => ∃ k : Nat, i = .int .i64 k ∧ k ≤ n ∧ Hid (∀ j, j < k → M.stepM xs j = true) ∧ Below w.heap.size w wr) (fun i _ _ => n - (intOf i).toNat)
    case atStart => exact ⟨0, rfl, by omega, Lib.hid (by omega), Below.refl _ _⟩
    case round =>
      obtain ⟨k, rfl, hk, H, Bw⟩ := hrel
      have c0 : wr.cell? ⟨vb, 0, none⟩ = some (.slice A n c) := by rw [Bw.cell hvb]; exact hv0
      by_cases hlt : k < n
      · have hX := Lib.hid (List.getElem?_eq_getElem (l := xs) (i := k) (by rw [HLX.out]; exact hlt))
        obtain ⟨b, o1, cc, cs, hv, hab, -, hE, hcc⟩ := (rx.below Bw).atX hX.out
        simp only [Value.slice.injEq] at hv
        obtain ⟨rfl, -, rfl⟩ := hv
        have hU := hSt.szL_at hX.out
        generalize xs[k]'(by rw [HLX.out]; exact hlt) = x at hX hE hU
        obtain ⟨s, l, us⟩ := x
        rw [hSt_sz] at hU
        obtain ⟨A1, n1, c1, rfl, hs, hE⟩ := st_R.1 hE
        have n1b : n1 ≤ 1000000000 := by have := (tSdS_ra hE).1.1; have := HM1.out; omega
        have e0 : wr.cell? ⟨b, o1 + k * 3, none⟩ = some (.string s) := hcc 0 _ rfl
        have e1 : wr.cell? ⟨b, o1 + k * 3 + 1, none⟩ = some (.int .i64 l) := hcc 1 _ rfl
        have e2 : wr.cell? ⟨b, o1 + k * 3 + 2, none⟩ = some (.slice A1 n1 c1) := hcc 2 _ rfl
        have hra := (tSdS_ra (tSdS.more Bw.size hE)).1
        have hS := Lib.hid (M.stepM_eq hX.out)
        have HNO := Lib.hid (fun h => M.mix_no (xs := xs) (k := k) (by rw [HLX.out]; exact hlt) h)
        have HC := Lib.hid (spec_l26Strip b (o1 + k * 3) s l A1 n1 c1 us k n wr e0 e1 e2 hs hra n1b ⟨by omega, by omega⟩ ⟨by omega, by omega⟩)
        clear hcc hU hE
        cases hST : M.stripOk (s, l, us) k n
        · have R := Lib.hid (show M.mixOk xs = false from HNO.out (by rw [hS.out, HLX.out, hST]; rfl))
          go_wp2_with (go_at_call 62; refine HC.out.mono ?_; rw [hST]; rintro e w' ⟨rfl, rfl⟩)
          go_ret
          exact ⟨ret_bool (by rw [R.out]), Bw⟩
        · have HST := Lib.hid hST
          clear hST
          go_wp2_with (go_at_call 62; refine HC.out.mono ?_; rw [HST.out]; rintro e w' ⟨rfl, rfl⟩)
          obtain ⟨wo, rfl⟩ : ∃ wo : World, wo = wr := ⟨_, rfl⟩
          clear HC e1 e2 hra
          go_loopw [5] (fun i wr => ∃ j : Nat, i = .int .i64 j ∧ j ≤ k ∧ Hid (∀ q, q < j → ∀ y, xs[q]? = some y → ¬ y.1 = s) ∧ Below w.heap.size w wr) (fun i _ => k - (intOf i).toNat)
          case atStart => exact ⟨0, rfl, by omega, Lib.hid (by omega), Bw⟩
          case round =>
            obtain ⟨j, rfl, hj, HJ, Bw2⟩ := hrel
            have d0 : wr.cell? ⟨vb, 0, none⟩ = some (.slice (some ⟨b, o1, none⟩) n c) := by rw [Bw2.cell hvb]; exact hv0
            by_cases hlt2 : j < k
            · have hY := Lib.hid (List.getElem?_eq_getElem (l := xs) (i := j) (by rw [HLX.out]; omega))
              obtain ⟨b', o2, cc', cs', hv', -, -, hE', hdd⟩ := (rx.below Bw2).atX hY.out
              simp only [Value.slice.injEq, Option.some.injEq, Addr.mk.injEq] at hv'
              obtain ⟨⟨rfl, rfl, -⟩, -, rfl⟩ := hv'
              generalize xs[j]'(by rw [HLX.out]; omega) = y at hY hE'
              obtain ⟨s', l', vs⟩ := y
              obtain ⟨A2, n2, c2, rfl, -, -⟩ := st_R.1 hE'
              have f0 : wr.cell? ⟨b, o1 + j * 3, none⟩ = some (.string s') := hdd 0 _ rfl
              have f1 : wr.cell? ⟨b, o1 + k * 3, none⟩ = some (.string s) := by
                obtain ⟨b2, o3, cc2, cs2, hv2, -, -, hE2, hgg⟩ := (rx.below Bw2).atX hX.out
                simp only [Value.slice.injEq, Option.some.injEq, Addr.mk.injEq] at hv2
                obtain ⟨⟨rfl, rfl, -⟩, -, rfl⟩ := hv2
                obtain ⟨A3, n3, c3, rfl, -, -⟩ := st_R.1 hE2
                exact hgg 0 _ rfl
              have hjn : (j : Int) < (n : Int) := by omega
              have hj0 : (0 : Int) ≤ (j : Int) := by omega
              have hkn : (k : Int) < (n : Int) := by omega
              clear hdd hE'
              by_cases hss : s' = s
              · have R := Lib.hid (show M.mixOk xs = false from HNO.out (by
                  have h1 := M.has_yes hlt2 hY.out
                  rw [hss] at h1
                  rw [hS.out, h1, Bool.not_true, Bool.and_false]))
                have h1 : s'.toList = s.toList := by rw [hss]
                subst hss
                go_wp2
                go_quiet (fail)
                go_wp2
                go_ret
                exact ⟨ret_bool (by rw [R.out]), below_drewN Bw2 _⟩
              · have h1 := str_ne hss
                have h2 : (s'.toList == s.toList) = false := by simpa using h1
                have HSS := Lib.hid hss
                clear hss
                go_wp2
                go_quiet (fail)
                go_wp2
                go_roundw
                case rel => exact ⟨j + 1, by go_num, by omega, Lib.hid (fun q hq y hy => by
                    rcases Nat.lt_or_ge q j with h3 | h3
                    · exact HJ.out q h3 y hy
                    · obtain rfl : q = j := by omega
                      rw [hY.out] at hy
                      injection hy with hy
                      subst hy
                      exact HSS.out), below_drewN Bw2 _⟩
                case measure => simp [intOf]; omega
            · obtain rfl : j = k := by omega
              have HGO := Lib.hid (show M.stepM xs j = true by rw [hS.out, HLX.out, HST.out, M.has_no HJ.out]; rfl)
              go_wp2
              go_roundw
              case rel => exact ⟨j + 1, by go_num, by omega, Lib.hid (fun q hq => by
                  rcases Nat.lt_or_ge q j with h3 | h3
                  · exact H.out q h3
                  · obtain rfl : q = j := by omega
                    exact HGO.out), Bw2⟩
              case measure => simp [intOf]; omega
      · have R := Lib.hid (show M.mixOk xs = true by rw [M.mix_end (fun j hj => H.out j (by rw [HLX.out] at hj; omega)), HLX.out, HI.out])
        go_wp2
        go_ret
        exact ⟨ret_bool (by rw [R.out]), Bw⟩
theorem impl_ValidMixer (A : Option Addr) (n c : Nat) (xs : List Strip) (w : World) (hx : tM.R w w.heap.size [.slice A n c] xs) (hn : hM.sz xs ≤ 100000000) :
    Calls Try.prog 17 #[.agg #[.slice A n c]] w fun e w' => e = .returned (.bool (M.mixOk xs)) ∧ Below w.heap.size w w' := by
  have hb : Below w.heap.size w (w.alloc (.cells #[.slice A n c] 29)) := (Below.refl _ _).alloc (Nat.le_refl _) _
  have hx2 := tM.later hx hb
  go_enter Try.func17, Try.ntmps17
  go_wp2_with (go_at_call 43; refine (impl_isMixer _ _ _ _ _ hx2 hn).mono ?_; rintro e w2 ⟨rfl, bel2⟩)
  go_ret
  exact ⟨rfl, bel_trans hb bel2⟩
theorem spec_ValidMixer (A : Option Addr) (n c : Nat) (xs : List Strip) (w : World) (hx : tM.R w w.heap.size [.slice A n c] xs) (hn : hM.sz xs ≤ 100000000) :
    Calls Try.prog 16 #[.agg #[.slice A n c]] w fun e w' => e = .returned (.bool (M.mixOk xs)) ∧ Below w.heap.size w w' := by
  have hb : Below w.heap.size w (w.alloc (.cells #[.slice A n c] 29)) := (Below.refl _ _).alloc (Nat.le_refl _) _
  have hx2 := tM.later hx hb
  have hself : (w.alloc (.cells #[.slice A n c] 29)).cell? ⟨w.heap.size, 0, none⟩ = some (.slice A n c) := by simp [go_sem]
  go_enter Try.func16, Try.ntmps16
  go_wp2_with (go_at_call 42; refine (spec_l26Ok _ _ _ _ _ _ hself hx2 hn).mono ?_; rintro e w2 ⟨rfl, bel2⟩)
  go_ret
  exact ⟨rfl, bel_trans hb bel2⟩
end Go.Proofs.Ytebaffdaffcdmaa
