import Derived.Test.YtacgcagpaecncaaGreatFnExactValidSessionG3
import Derived.Test.YtacgcagpaecncaaGreatFnExactValidSessionG5
import Derived.Test.YtacgcagpaecncaaGreatFnExactValidSessionG6
import Derived.Test.YtacgcagpaecncaaGreatFnExactValidSessionG7
import Derived.Lib.QuietBelow
import Derived.Deep.DeepCutAuto
set_option linter.unusedVariables false
set_option linter.unusedSimpArgs false
namespace Go.Proofs.YtacgcagpaecncaaGreat
open Go.RowKit
set_option maxHeartbeats 4000000
set_option maxRecDepth 100000
theorem M.has_no {xs : List Strip} {k : Nat} {s : ByteArray} (h : ∀ j, j < k → ∀ y, xs[j]? = some y → ¬ y.1 = s) : M.has s ((xs.take k).map (·.1)) = false := by
  rw [M.has, List.any_eq_false]
  intro t ht
  obtain ⟨y, hy, rfl⟩ := List.mem_map.1 ht
  obtain ⟨j, hj⟩ := List.getElem?_of_mem hy
  have hj2 : j < k := by
    have := (List.getElem?_eq_some_iff.1 hj).1
    rw [List.length_take] at this
    omega
  rw [List.getElem?_take, if_pos hj2] at hj
  simpa using h j hj2 y hj
theorem M.has_yes {xs : List Strip} {k j : Nat} {y : Strip} (hj : j < k) (h : xs[j]? = some y) : M.has y.1 ((xs.take k).map (·.1)) = true := by
  rw [M.has, List.any_eq_true]
  refine ⟨y.1, List.mem_map.2 ⟨y, List.mem_of_getElem? (i := j) (by rw [List.getElem?_take, if_pos hj]; exact h), rfl⟩, by simp⟩
theorem spec_l26Ok_at (vb vo : Nat) (A : Option Addr) (n c : Nat) (xs : List Strip) (w : World) (hv0 : w.cell? ⟨vb, vo, none⟩ = some (.slice A n c)) (hx : tM.R w w.heap.size [.slice A n c] xs) (hn : hM.sz xs ≤ 100000000) :
    Calls Tryz.prog 53 #[.pointer (some ⟨vb, vo, none⟩)] w fun e w' => e = .returned (.bool (M.mixOk xs)) ∧ Below w.heap.size w w' := by
  have hvb : vb < w.heap.size := World.block_lt_of_cell? w _ hv0
  have rx := sl_R.1 hx
  have hlx := rx.cap.1
  have hm1 : xs.length + hSt.szL xs ≤ 100000000 := hn
  have hnb : n ≤ 100000000 := by omega
  have HLX := Lib.hid hlx
  have HM1 := Lib.hid hm1
  clear hlx hx hn hm1
  cases hI : M.inn n 1 8
  · have R := Lib.hid (show M.mixOk xs = false by rw [M.mixOk, HLX.out, hI]; rfl)
    go_enter Tryz.func53, Tryz.ntmps53
    go_wp2_with (go_at_call 37; refine (spec_l00In _ _ _ _).mono ?_; rintro e w' ⟨rfl, rfl⟩)
    go_ret
    exact ⟨ret_bool (by rw [R.out]), Below.refl _ _⟩
  · have hb8 := M.inn_iffM.1 hI
    have HI := Lib.hid hI
    go_enter Tryz.func53, Tryz.ntmps53
    go_wp2_with (go_at_call 37; refine (spec_l00In _ _ _ _).mono ?_; rintro e w' ⟨rfl, rfl⟩)
    clear hI
    go_loopw [4, 5] (fun i _ wr => ∃ k : Nat, i = .int .i64 k ∧ k ≤ n ∧ Hid (∀ j, j < k → M.stepM xs j = true) ∧ Below w.heap.size w wr) (fun i _ _ => n - (intOf i).toNat)
    case atStart => exact ⟨0, rfl, by omega, Lib.hid (by omega), Below.refl _ _⟩
    case round =>
      obtain ⟨k, rfl, hk, H, Bw⟩ := hrel
      have c0 : wr.cell? ⟨vb, vo, none⟩ = some (.slice A n c) := by rw [Bw.cell hvb]; exact hv0
      by_cases hlt : k < n
      · have hX := Lib.hid (List.getElem?_eq_getElem (l := xs) (i := k) (by rw [HLX.out]; exact hlt))
        obtain ⟨b, o1, cc, cs, hv, hab, -, hE, hcc⟩ := (rx.below Bw).atX hX.out
        simp only [Value.slice.injEq] at hv
        obtain ⟨rfl, -, rfl⟩ := hv
        have hU := hSt.szL_at hX.out
        generalize xs[k]'(by rw [HLX.out]; exact hlt) = x at hX hE hU
        obtain ⟨s, l, us⟩ := x
        rw [hSt_sz] at hU
        obtain ⟨A1, n1, c1, rfl, hs, hE⟩ := st_R.1 hE
        have n1b : n1 ≤ 1000000000 := by have := (tSdS_ra hE).1.1; have := HM1.out; omega
        have e0 : wr.cell? ⟨b, o1 + k * 3, none⟩ = some (.string s) := hcc 0 _ rfl
        have e1 : wr.cell? ⟨b, o1 + k * 3 + 1, none⟩ = some (.int .i64 l) := hcc 1 _ rfl
        have e2 : wr.cell? ⟨b, o1 + k * 3 + 2, none⟩ = some (.slice A1 n1 c1) := hcc 2 _ rfl
        have hra := (tSdS_ra (tSdS.more Bw.size hE)).1
        have hS := Lib.hid (M.stepM_eq hX.out)
        have HNO := Lib.hid (fun h => M.mix_no (xs := xs) (k := k) (by rw [HLX.out]; exact hlt) h)
        have HC := Lib.hid (spec_l26Strip b (o1 + k * 3) s l A1 n1 c1 us k n wr e0 e1 e2 hs hra n1b ⟨by omega, by omega⟩ ⟨by omega, by omega⟩)
        clear hcc hU hE
        cases hST : M.stripOk (s, l, us) k n
        · have R := Lib.hid (show M.mixOk xs = false from HNO.out (by rw [hS.out, HLX.out, hST]; rfl))
          go_wp2_with (go_at_call 91; refine HC.out.mono ?_; rw [hST]; rintro e w' ⟨rfl, rfl⟩)
          go_ret
          exact ⟨ret_bool (by rw [R.out]), Bw⟩
        · have HST := Lib.hid hST
          clear hST
          go_wp2_with (go_at_call 91; refine HC.out.mono ?_; rw [HST.out]; rintro e w' ⟨rfl, rfl⟩)
          obtain ⟨wo, rfl⟩ : ∃ wo : World, wo = wr := ⟨_, rfl⟩
          clear HC e1 e2 hra
          go_loopw [5] (fun i wr => ∃ j : Nat, i = .int .i64 j ∧ j ≤ k ∧ Hid (∀ q, q < j → ∀ y, xs[q]? = some y → ¬ y.1 = s) ∧ Below w.heap.size w wr) (fun i _ => k - (intOf i).toNat)
          case atStart => exact ⟨0, rfl, by omega, Lib.hid (by omega), Bw⟩
          case round =>
            obtain ⟨j, rfl, hj, HJ, Bw2⟩ := hrel
            have d0 : wr.cell? ⟨vb, vo, none⟩ = some (.slice (some ⟨b, o1, none⟩) n c) := by rw [Bw2.cell hvb]; exact hv0
            by_cases hlt2 : j < k
            · have hY := Lib.hid (List.getElem?_eq_getElem (l := xs) (i := j) (by rw [HLX.out]; omega))
              obtain ⟨b', o2, cc', cs', hv', -, -, hE', hdd⟩ := (rx.below Bw2).atX hY.out
              simp only [Value.slice.injEq, Option.some.injEq, Addr.mk.injEq] at hv'
              obtain ⟨⟨rfl, rfl, -⟩, -, rfl⟩ := hv'
              generalize xs[j]'(by rw [HLX.out]; omega) = y at hY hE'
              obtain ⟨s', l', vs⟩ := y
              obtain ⟨A2, n2, c2, rfl, -, -⟩ := st_R.1 hE'
              have f0 : wr.cell? ⟨b, o1 + j * 3, none⟩ = some (.string s') := hdd 0 _ rfl
              have f1 : wr.cell? ⟨b, o1 + k * 3, none⟩ = some (.string s) := by
                obtain ⟨b2, o3, cc2, cs2, hv2, -, -, hE2, hgg⟩ := (rx.below Bw2).atX hX.out
                simp only [Value.slice.injEq, Option.some.injEq, Addr.mk.injEq] at hv2
                obtain ⟨⟨rfl, rfl, -⟩, -, rfl⟩ := hv2
                obtain ⟨A3, n3, c3, rfl, -, -⟩ := st_R.1 hE2
                exact hgg 0 _ rfl
              have hjn : (j : Int) < (n : Int) := by omega
              have hj0 : (0 : Int) ≤ (j : Int) := by omega
              have hkn : (k : Int) < (n : Int) := by omega
              clear hdd hE'
              by_cases hss : s' = s
              · have R := Lib.hid (show M.mixOk xs = false from HNO.out (by
                  have h1 := M.has_yes hlt2 hY.out
                  rw [hss] at h1
                  rw [hS.out, h1, Bool.not_true, Bool.and_false]))
                have h1 : s'.toList = s.toList := by rw [hss]
                subst hss
                go_wp2
                go_quiet (fail)
                go_wp2
                go_ret
                exact ⟨ret_bool (by rw [R.out]), below_drewN Bw2 _⟩
              · have h1 := str_ne hss
                have h2 : (s'.toList == s.toList) = false := by simpa using h1
                have HSS := Lib.hid hss
                clear hss
                go_wp2
                go_quiet (fail)
                go_wp2
                go_roundw
                case rel => exact ⟨j + 1, by go_num, by omega, Lib.hid (fun q hq y hy => by
                    rcases Nat.lt_or_ge q j with h3 | h3
                    · exact HJ.out q h3 y hy
                    · obtain rfl : q = j := by omega
                      rw [hY.out] at hy
                      injection hy with hy
                      subst hy
                      exact HSS.out), below_drewN Bw2 _⟩
                case measure => simp [intOf]; omega
            · obtain rfl : j = k := by omega
              have HGO := Lib.hid (show M.stepM xs j = true by rw [hS.out, HLX.out, HST.out, M.has_no HJ.out]; rfl)
              go_wp2
              go_roundw
              case rel => exact ⟨j + 1, by go_num, by omega, Lib.hid (fun q hq => by
                  rcases Nat.lt_or_ge q j with h3 | h3
                  · exact H.out q h3
                  · obtain rfl : q = j := by omega
                    exact HGO.out), Bw2⟩
              case measure => simp [intOf]; omega
      · have R := Lib.hid (show M.mixOk xs = true by rw [M.mix_end (fun j hj => H.out j (by rw [HLX.out] at hj; omega)), HLX.out, HI.out])
        go_wp2
        go_ret
        exact ⟨ret_bool (by rw [R.out]), Bw⟩
theorem spec_l26Ok (vb : Nat) (A : Option Addr) (n c : Nat) (xs : List Strip) (w : World) (hv0 : w.cell? ⟨vb, 0, none⟩ = some (.slice A n c)) (hx : tM.R w w.heap.size [.slice A n c] xs) (hn : hM.sz xs ≤ 100000000) :
    Calls Tryz.prog 53 #[.pointer (some ⟨vb, 0, none⟩)] w fun e w' => e = .returned (.bool (M.mixOk xs)) ∧ Below w.heap.size w w' :=
  spec_l26Ok_at vb 0 A n c xs w hv0 hx hn
end Go.Proofs.YtacgcagpaecncaaGreat
namespace Go.Proofs.YtacgcagpaecncaaGreat
open Go.RowKit
set_option maxHeartbeats 4000000
set_option maxRecDepth 100000
theorem M.srcOk_at {src : List (List Int)} (h : M.srcOk src = true) {k : Nat} {x : List Int} (hx : src[k]? = some x) : M.sig x = true := by
  rw [M.srcOk, Bool.and_eq_true, List.all_eq_true] at h
  exact h.2 x (List.mem_of_getElem? hx)
theorem M.srcOk_len {src : List (List Int)} (h : M.srcOk src = true) : Hid (∀ x ∈ src, x.length ≤ 1000000000) := Lib.hid (by
  intro x hx
  obtain ⟨k, hk, rfl⟩ := List.getElem_of_mem hx
  have := M.srcOk_at h (List.getElem?_eq_getElem hk)
  rw [M.sig, Bool.and_eq_true, decide_eq_true_iff] at this
  omega)
theorem M.hasS_at {xs : List Clip} {m : Int} (h : M.hasS xs m = true) {k : Nat} {c : Clip} (hx : xs[k]? = some c) : c.1 < m := by
  rw [M.hasS, List.all_eq_true] at h
  simpa using h c (List.mem_of_getElem? hx)
end Go.Proofs.YtacgcagpaecncaaGreat
namespace Go.Proofs.YtacgcagpaecncaaGreat
open Go.RowKit Go.Sort
set_option maxHeartbeats 4000000
set_option maxRecDepth 100000
set_option linter.unusedVariables false
set_option linter.unusedSimpArgs false
set_option synthInstance.maxSize 2000
set_option synthInstance.maxHeartbeats 400000
theorem tT_raS {w : World} {B : Nat} {A : Option Addr} {n c : Nat} {xs : List Clip} (h : tT.R w B [.slice A n c] xs) : RA cl 5 w B A n xs := (sl_R.1 h).flat.1
theorem track_cell {w : World} {B : Nat} {A : Option Addr} {n c : Nat} {ts : List (List Clip_)} (hr : RS tT w B (.slice A n c) ts) (hb : hTS.sz ts ≤ 100000000) {k : Nat} (hk : k < n) :
    ∃ (bb o : Nat) (A1 : Option Addr) (n1 c1 : Nat) (x : List Clip_), A = some ⟨bb, o, none⟩ ∧ bb < B ∧ Hid (ts[k]? = some x) ∧ w.cell? ⟨bb, o + k, none⟩ = some (.slice A1 n1 c1) ∧ tT.R w B [.slice A1 n1 c1] x ∧ RA cl 5 w B A1 n1 x ∧ n1 ≤ 100000000 := by
  obtain rfl : ts.length = n := hr.cap.1
  have hX := List.getElem?_eq_getElem hk
  obtain ⟨bb, o, c1, cs, hv, hab, -, hE, hc⟩ := hr.atX hX
  simp only [Value.slice.injEq] at hv
  obtain ⟨rfl, -, rfl⟩ := hv
  have hU := hT.szL_at hX
  have hU2 : ts.length + hT.szL ts ≤ 100000000 := hb
  generalize ts[k] = x at hX hE hU
  obtain ⟨A1, n1, c1, rfl⟩ := open_sl hE
  have e0 : w.cell? ⟨bb, o + k * 1, none⟩ = some (.slice A1 n1 c1) := hc 0 _ rfl
  rw [Nat.mul_one] at e0
  have hra := tT_raS hE
  have hl : x.length = n1 := hra.len
  have hz : x.length ≤ hT.sz x := Nat.le_add_right _ _
  exact ⟨bb, o, A1, n1, c1, x, rfl, hab, Lib.hid hX, e0, hE, hra, by omega⟩
theorem patch_cell {w : World} {B : Nat} {A : Option Addr} {n c : Nat} {ps : List Patch} (hr : RS tP w B (.slice A n c) ps) (hb : hPS.sz ps ≤ 100000000) {k : Nat} (hk : k < n) :
    ∃ (bb o : Nat) (a0 : Int) (A1 : Option Addr) (n1 c1 : Nat) (A2 : Option Addr) (n2 c2 : Nat) (A3 : Option Addr) (n3 c3 : Nat) (x1 : List (List Int)) (x2 : List Node) (x3 : List Int), A = some ⟨bb, o, none⟩ ∧ bb < B ∧ Hid (ps[k]? = some (a0, x1, x2, x3)) ∧
      w.cell? ⟨bb, o + k * 4, none⟩ = some (.int .i64 a0) ∧ w.cell? ⟨bb, o + k * 4 + 1, none⟩ = some (.slice A1 n1 c1) ∧ w.cell? ⟨bb, o + k * 4 + 2, none⟩ = some (.slice A2 n2 c2) ∧ w.cell? ⟨bb, o + k * 4 + 3, none⟩ = some (.slice A3 n3 c3) ∧
      tSS.R w B [.slice A1 n1 c1] x1 ∧ tNS.R w B [.slice A2 n2 c2] x2 ∧ tS.R w B [.slice A3 n3 c3] x3 ∧ hP.sz ((a0, x1, x2, x3) : Patch) ≤ 100000000 := by
  obtain rfl : ps.length = n := hr.cap.1
  have hX := List.getElem?_eq_getElem hk
  obtain ⟨bb, o, c1, cs, hv, hab, -, hE, hc⟩ := hr.atX hX
  simp only [Value.slice.injEq] at hv
  obtain ⟨rfl, -, rfl⟩ := hv
  have hU := hP.szL_at hX
  have hU2 : ps.length + hP.szL ps ≤ 100000000 := hb
  generalize ps[k] = x at hX hE hU
  obtain ⟨a0, x1, x2, x3⟩ := x
  obtain ⟨A1, n1, c1, A2, n2, c2, A3, n3, c3, rfl, h1, h2, h3⟩ := tP_R.1 hE
  have e0 : w.cell? ⟨bb, o + k * 4, none⟩ = some (.int .i64 a0) := hc 0 _ rfl
  exact ⟨bb, o, a0, A1, n1, c1, A2, n2, c2, A3, n3, c3, x1, x2, x3, rfl, hab, Lib.hid hX, e0, hc 1 _ rfl, hc 2 _ rfl, hc 3 _ rfl, h1, h2, h3, by omega⟩
theorem spec_l27Ok (vb : Nat) (a0 : Int) (A1 : Option Addr) (n1 c1 : Nat) (A2 : Option Addr) (n2 c2 : Nat) (A3 : Option Addr) (n3 c3 : Nat) (A4 : Option Addr) (n4 c4 : Nat) (A5 : Option Addr) (n5 c5 : Nat) (x1 : List (List Int)) (x2 : List (List Clip_)) (x3 : List Int) (x4 : List Patch) (x5 : List Strip) (w : World) (p0 : w.cell? ⟨vb, 0, none⟩ = some (.int .i64 a0)) (p1 : w.cell? ⟨vb, 1, none⟩ = some (.slice A1 n1 c1)) (p2 : w.cell? ⟨vb, 2, none⟩ = some (.slice A2 n2 c2)) (p3 : w.cell? ⟨vb, 3, none⟩ = some (.slice A3 n3 c3)) (p4 : w.cell? ⟨vb, 4, none⟩ = some (.slice A4 n4 c4)) (p5 : w.cell? ⟨vb, 5, none⟩ = some (.slice A5 n5 c5)) (h1 : tSS.R w w.heap.size [.slice A1 n1 c1] x1) (h2 : tTS.R w w.heap.size [.slice A2 n2 c2] x2) (h3 : tS.R w w.heap.size [.slice A3 n3 c3] x3) (h4 : tPS.R w w.heap.size [.slice A4 n4 c4] x4) (h5 : tM.R w w.heap.size [.slice A5 n5 c5] x5) (hn : hZ.sz ((a0, x1, x2, x3, x4, x5) : Sess) ≤ 100000000) :
    Calls Tryz.prog 25 #[.pointer (some ⟨vb, 0, none⟩)] w fun e w' => e = .returned (.bool (M.sessOk (a0, x1, x2, x3, x4, x5))) ∧ Below w.heap.size w w' := by
  have k1 := h1
  have k2 := h2
  have k3 := h3
  have k4 := h4
  have k5 := h5
  have lv : vb < w.heap.size := World.block_lt_of_cell? w _ p0
  rw [hZ_sz] at hn
  have r1 := sl_R.1 k1
  have L1 := Lib.hid r1.cap.1
  have r2 := sl_R.1 k2
  have L2 := Lib.hid r2.cap.1
  have r3 := sl_R.1 k3
  have L3 := Lib.hid r3.cap.1
  have r4 := sl_R.1 k4
  have L4 := Lib.hid r4.cap.1
  have r5 := sl_R.1 k5
  have L5 := Lib.hid r5.cap.1
  have z1 : hSS.sz x1 ≤ 100000000 := by omega
  have bn1 : n1 ≤ 100000000 := by have e : x1.length + hS.szL x1 = hSS.sz x1 := rfl; have := L1.out; omega
  have z2 : hTS.sz x2 ≤ 100000000 := by omega
  have bn2 : n2 ≤ 100000000 := by have e : x2.length + hT.szL x2 = hTS.sz x2 := rfl; have := L2.out; omega
  have z3 : hS.sz x3 ≤ 100000000 := by omega
  have bn3 : n3 ≤ 100000000 := by have e : x3.length + hI.szL x3 = hS.sz x3 := rfl; have := L3.out; omega
  have z4 : hPS.sz x4 ≤ 100000000 := by omega
  have bn4 : n4 ≤ 100000000 := by have e : x4.length + hP.szL x4 = hPS.sz x4 := rfl; have := L4.out; omega
  have z5 : hM.sz x5 ≤ 100000000 := by omega
  have bn5 : n5 ≤ 100000000 := by have e : x5.length + hSt.szL x5 = hM.sz x5 := rfl; have := L5.out; omega
  have hb1 : Hid (∀ x ∈ x1, x.length ≤ 1000000000) := Lib.hid (fun x hx => by
    have hq1 : x1.length + hS.szL x1 = hSS.sz x1 := rfl
    obtain ⟨i, hi⟩ := List.getElem?_of_mem hx
    have := hS.szL_at hi
    rw [hS_sz] at this
    omega)
  have hx3 := (tS_R.1 k3).ri
  clear hn
  have HS := Lib.hid (show M.sessOk (a0, x1, x2, x3, x4, x5) = (M.inn a0 0 1000 && (decide (n1 ≤ 6) && x1.all M.sig) && decide (n2 ≤ 6) && M.mixOk x5 && decide (n3 = n2) && x3.all (M.idx n5) && decide (n4 = n5) && x2.all (fun t => M.trackOk t && M.hasS t n1) && x4.all M.effOk) by rw [M.sessOk, M.srcOk]; simp only [L1.out, L2.out, L3.out, L4.out, L5.out])
  generalize M.sessOk (a0, x1, x2, x3, x4, x5) = ok at HS ⊢
  have cI : ∀ d os, Calls Tryz.prog 37 #[.int .i64 a0, .int .i64 0, .int .i64 1000] (grow (redrawn w d) os) fun e w'' => e = .returned (.bool (M.inn a0 0 1000)) ∧ ∃ p : Regrown, w'' = grow (redrawn w p.d) p.os := fun d os => Calls.regrown_of (to_bel (spec_l00In _ _ _ _))
  have cM : ∀ d os, Calls Tryz.prog 53 #[.pointer (some ⟨vb, 5, none⟩)] (grow (redrawn w d) os) fun e w'' => e = .returned (.bool (M.mixOk x5)) ∧ ∃ p : Regrown, w'' = grow (redrawn w p.d) p.os := fun d os => Calls.regrown_of (spec_l26Ok_at vb 5 A5 n5 c5 x5 _ (cell_regrown p5 d os) (tM.later k5 (below_regrown w d os)) z5)
  have pp0 := cell_regrown p0
  have pp1 := cell_regrown p1
  have pp2 := cell_regrown p2
  have pp3 := cell_regrown p3
  have pp4 := cell_regrown p4
  have pp5 := cell_regrown p5
  clear p0 p1 p2 p3 p4 p5
  cases g0 : M.inn a0 0 1000
  · have R := Lib.hid (show ok = false by rw [HS.out]; simp only [g0, Bool.false_and, Bool.and_false, Bool.true_and])
    rw [g0] at cI
    clear g0
    go_enter Tryz.func25, Tryz.ntmps25
    go_wp2_with fail
    (refine wp_region_quiet_below (by kernel_rfl) (by kernel_rfl) ?_; (repeat (go_big_quiet_step ((first | exact cI _ _ | exact cM _ _)))); refine wpQuiet_nil ?_; intro _ hw'; obtain ⟨⟨dq, osq⟩, hw''⟩ := hw'; subst hw'')
    go_wp2
    go_ret
    exact ⟨ret_bool (by rw [R.out]), below_regrown w dq osq⟩
  rw [g0] at cI
  have G0 := Lib.hid g0
  clear g0
  by_cases g1 : ¬ n1 ≤ 6
  · have R := Lib.hid (show ok = false by rw [HS.out]; simp only [G0.out, decide_eq_false g1, Bool.false_and, Bool.and_false, Bool.true_and])
    have gg : decide ((6 : Int) < (n1 : Int)) = true := decide_eq_true (by omega)
    go_enter Tryz.func25, Tryz.ntmps25
    go_wp2_with fail
    (refine wp_region_quiet_below (by kernel_rfl) (by kernel_rfl) ?_; (repeat (go_big_quiet_step ((first | exact cI _ _ | exact cM _ _)))); refine wpQuiet_nil ?_; intro _ hw'; obtain ⟨⟨dq, osq⟩, hw''⟩ := hw'; subst hw'')
    go_wp2
    go_ret
    exact ⟨ret_bool (by rw [R.out]), below_regrown w dq osq⟩
  replace g1 : n1 ≤ 6 := Decidable.not_not.1 g1
  have gd1 : decide ((6 : Int) < (n1 : Int)) = false := decide_eq_false (by omega)
  by_cases g2 : ¬ n2 ≤ 6
  · have R := Lib.hid (show ok = false by rw [HS.out]; simp only [G0.out, decide_eq_true g1, decide_eq_false g2, Bool.false_and, Bool.and_false, Bool.true_and])
    have gg : decide ((6 : Int) < (n2 : Int)) = true := decide_eq_true (by omega)
    go_enter Tryz.func25, Tryz.ntmps25
    go_wp2_with fail
    (refine wp_region_quiet_below (by kernel_rfl) (by kernel_rfl) ?_; (repeat (go_big_quiet_step ((first | exact cI _ _ | exact cM _ _)))); refine wpQuiet_nil ?_; intro _ hw'; obtain ⟨⟨dq, osq⟩, hw''⟩ := hw'; subst hw'')
    go_wp2
    go_ret
    exact ⟨ret_bool (by rw [R.out]), below_regrown w dq osq⟩
  replace g2 : n2 ≤ 6 := Decidable.not_not.1 g2
  have gd2 : decide ((6 : Int) < (n2 : Int)) = false := decide_eq_false (by omega)
  cases g3 : M.mixOk x5
  · have R := Lib.hid (show ok = false by rw [HS.out]; simp only [G0.out, decide_eq_true g1, decide_eq_true g2, g3, Bool.false_and, Bool.and_false, Bool.true_and])
    rw [g3] at cM
    clear g3
    go_enter Tryz.func25, Tryz.ntmps25
    go_wp2_with fail
    (refine wp_region_quiet_below (by kernel_rfl) (by kernel_rfl) ?_; (repeat (go_big_quiet_step ((first | exact cI _ _ | exact cM _ _)))); refine wpQuiet_nil ?_; intro _ hw'; obtain ⟨⟨dq, osq⟩, hw''⟩ := hw'; subst hw'')
    go_wp2
    go_ret
    exact ⟨ret_bool (by rw [R.out]), below_regrown w dq osq⟩
  rw [g3] at cM
  have G3 := Lib.hid g3
  clear g3
  by_cases g4 : ¬ n3 = n2
  · have R := Lib.hid (show ok = false by rw [HS.out]; simp only [G0.out, decide_eq_true g1, decide_eq_true g2, G3.out, decide_eq_false g4, Bool.false_and, Bool.and_false, Bool.true_and])
    have gg : ((n3 : Int) != (n2 : Int)) = true := by simp; omega
    go_enter Tryz.func25, Tryz.ntmps25
    go_wp2_with fail
    (refine wp_region_quiet_below (by kernel_rfl) (by kernel_rfl) ?_; (repeat (go_big_quiet_step ((first | exact cI _ _ | exact cM _ _)))); refine wpQuiet_nil ?_; intro _ hw'; obtain ⟨⟨dq, osq⟩, hw''⟩ := hw'; subst hw'')
    go_wp2
    go_ret
    exact ⟨ret_bool (by rw [R.out]), below_regrown w dq osq⟩
  replace g4 : n3 = n2 := Decidable.not_not.1 g4
  subst g4
  by_cases g5 : ¬ n4 = n5
  · have R := Lib.hid (show ok = false by rw [HS.out]; simp only [G0.out, decide_eq_true g1, decide_eq_true g2, G3.out, decide_true, decide_eq_false g5, Bool.false_and, Bool.and_false, Bool.true_and])
    have gg : ((n4 : Int) != (n5 : Int)) = true := by simp; omega
    go_enter Tryz.func25, Tryz.ntmps25
    go_wp2_with fail
    (refine wp_region_quiet_below (by kernel_rfl) (by kernel_rfl) ?_; (repeat (go_big_quiet_step ((first | exact cI _ _ | exact cM _ _)))); refine wpQuiet_nil ?_; intro _ hw'; obtain ⟨⟨dq, osq⟩, hw''⟩ := hw'; subst hw'')
    go_wp2
    go_ret
    exact ⟨ret_bool (by rw [R.out]), below_regrown w dq osq⟩
  replace g5 : n4 = n5 := Decidable.not_not.1 g5
  subst g5
  have HS2 := Lib.hid (show ok = (x1.all M.sig && x3.all (M.idx n4) && x2.all (fun t => M.trackOk t && M.hasS t n1) && x4.all M.effOk) by rw [HS.out]; simp only [G0.out, decide_eq_true g1, decide_eq_true g2, G3.out, decide_true, Bool.true_and, Bool.and_true])
  go_enter Tryz.func25, Tryz.ntmps25
  go_wp2_with fail
  (refine wp_region_quiet_below (by kernel_rfl) (by kernel_rfl) ?_; (repeat (go_big_quiet_step ((first | exact cI _ _ | exact cM _ _)))); refine wpQuiet_nil ?_; intro _ hw'; obtain ⟨⟨dq, osq⟩, hw''⟩ := hw'; subst hw'')
  replace pp0 := pp0 dq osq
  replace pp1 := pp1 dq osq
  replace pp2 := pp2 dq osq
  replace pp3 := pp3 dq osq
  replace pp4 := pp4 dq osq
  replace pp5 := pp5 dq osq
  have BV := below_regrown w dq osq
  replace k1 := tSS.later k1 BV
  replace k2 := tTS.later k2 BV
  replace k3 := tS.later k3 BV
  replace k4 := tPS.later k4 BV
  replace k5 := tM.later k5 BV
  clear cI cM HS r1 r2 r3 r4 r5 hx3
  generalize grow (redrawn w dq) osq = V at pp0 pp1 pp2 pp3 pp4 pp5 k1 k2 k3 k4 k5 BV ⊢
  have lV : vb < V.heap.size := World.block_lt_of_cell? V _ pp0
  have r1 := sl_R.1 k1
  have r2 := sl_R.1 k2
  have r4 := sl_R.1 k4
  have hx3 := (tS_R.1 k3).ri
  go_wp2_with fail
  go_loop [3] (fun i => ∃ k : Nat, i = .int .i64 k ∧ k ≤ n1 ∧ Hid (x1.all M.sig = (x1.drop k).all M.sig)) (fun i => n1 - (intOf i).toNat)
  case atStart => exact ⟨0, rfl, by omega, Lib.hid (by simp)⟩
  case round =>
    obtain ⟨k, rfl, hk, H⟩ := hrel
    by_cases hlt : k < n1
    · obtain ⟨bb, o, A7, c7, x, rfl, hbb, Y, hc, hri, hxl⟩ := src_cell r1 hb1 hlt
      have hd := Lib.hid (M.drop_at Y.out)
      have hk0 : (0 : Int) ≤ (k : Int) := by omega
      have hkn : (k : Int) < (n1 : Int) := by omega
      cases hs : M.sig x
      · have R := Lib.hid (show ok = false by rw [HS2.out, H.out, hd.out, List.all_cons, hs]; rfl)
        have HQ := Lib.hid hs
        clear hs
        go_wp2_with fail
        refine (spec_l03Ok _ _ _ _ _ hri hxl).mono ?_
        rw [HQ.out]
        rintro e w' ⟨rfl, rfl⟩
        go_wp2
        go_ret
        exact ⟨ret_bool (by rw [R.out]), BV⟩
      · have R := Lib.hid (show x1.all M.sig = (x1.drop (k + 1)).all M.sig by rw [H.out, hd.out, List.all_cons, hs]; rfl)
        have HQ := Lib.hid hs
        clear hs
        go_wp2_with fail
        refine (spec_l03Ok _ _ _ _ _ hri hxl).mono ?_
        rw [HQ.out]
        rintro e w' ⟨rfl, rfl⟩
        go_wp2
        go_round
        case rel => exact ⟨k + 1, by go_num, by omega, R⟩
        case measure => simp [intOf]; omega
    · have HS3 := Lib.hid (show ok = (x3.all (M.idx n4) && x2.all (fun t => M.trackOk t && M.hasS t n1) && x4.all M.effOk) by rw [HS2.out, H.out, List.drop_eq_nil_of_le (by rw [L1.out]; omega)]; rfl)
      go_wp2_with fail
      clear H hk hlt
      go_loopw [4] (fun i wr => ∃ k : Nat, i = .int .i64 k ∧ k ≤ n3 ∧ Hid (ok = ((x3.drop k).all (M.idx n4) && (x2.drop k).all (fun t => M.trackOk t && M.hasS t n1) && x4.all M.effOk)) ∧ Below V.heap.size V wr) (fun i _ => n3 - (intOf i).toNat)
      case atStart => exact ⟨0, rfl, by omega, Lib.hid HS3.out, Below.refl _ _⟩
      case round =>
        obtain ⟨k, rfl, hk, H, Bw⟩ := hrel
        have BW := bel_trans BV Bw
        by_cases hlt : k < n3
        · obtain ⟨bt, ot, A7, n7, c7, t, rfl, hbt, Y, e0, hT, hra, h7⟩ := track_cell (r2.below Bw) z2 hlt
          obtain ⟨ad, f, rfl, hab, Y3, f0⟩ := (hx3.below Bw).at hlt
          have hd := Lib.hid (M.drop_at Y.out)
          have hd3 := Lib.hid (M.drop_at Y3.out)
          have hk0 : (0 : Int) ≤ (k : Int) := by omega
          have hkn : (k : Int) < (n3 : Int) := by omega
          have hn4 : IntKind.i64.wrap ((n4 : Int) - 1) = (n4 : Int) - 1 := IntWalk.i64_in _ (by omega)
          have ee0 := cell_regrown e0
          have ff0 := cell_regrown f0
          have q0 := cell_regrown (show wr.cell? ⟨vb, 0, none⟩ = some (.int .i64 a0) by rw [Bw.cell lV]; exact pp0)
          have q1 := cell_regrown (show wr.cell? ⟨vb, 1, none⟩ = some (.slice A1 n1 c1) by rw [Bw.cell lV]; exact pp1)
          have q2 := cell_regrown (show wr.cell? ⟨vb, 2, none⟩ = some (.slice (some ⟨bt, ot, none⟩) n3 c2) by rw [Bw.cell lV]; exact pp2)
          have q3 := cell_regrown (show wr.cell? ⟨vb, 3, none⟩ = some (.slice (some ad) n3 c3) by rw [Bw.cell lV]; exact pp3)
          have q5 := cell_regrown (show wr.cell? ⟨vb, 5, none⟩ = some (.slice A5 n4 c5) by rw [Bw.cell lV]; exact pp5)
          have q2w : wr.cell? ⟨vb, 2, none⟩ = some (.slice (some ⟨bt, ot, none⟩) n3 c2) := by rw [Bw.cell lV]; exact pp2
          have hra2 := fun d os => (hra.more Bw.size).later (below_regrown wr d os)
          have cT : ∀ d os, Calls Tryz.prog 55 #[.pointer (some ⟨bt, ot + k, none⟩), .int .i64 n1] (grow (redrawn wr d) os) fun e w'' => e = .returned (.bool (M.trackOk t && M.hasS t n1)) ∧ ∃ p : Regrown, w'' = grow (redrawn wr p.d) p.os := fun d os => Calls.regrown_of (spec_l27Track bt (ot + k) A7 n7 c7 t n1 _ (ee0 d os) (hra2 d os) (by omega) (by omega))
          have cI : ∀ d os, Calls Tryz.prog 37 #[.int .i64 f, .int .i64 0, .int .i64 ((n4 : Int) - 1)] (grow (redrawn wr d) os) fun e w'' => e = .returned (.bool (M.inn f 0 ((n4 : Int) - 1))) ∧ ∃ p : Regrown, w'' = grow (redrawn wr p.d) p.os := fun d os => Calls.regrown_of (to_bel (spec_l00In _ _ _ _))
          clear e0 f0
          cases hs : (M.trackOk t && M.hasS t n1)
          · have R := Lib.hid (show ok = false by rw [H.out, hd.out, hd3.out, List.all_cons, List.all_cons]; simp only [hs, Bool.false_and, Bool.and_false])
            rw [hs] at cT
            clear hs
            go_wp2_with fail
            clear q2w
            (refine wp_region_quiet_below (by kernel_rfl) (by kernel_rfl) ?_; (repeat (go_big_quiet_step ((first | exact cT _ _ | exact cI _ _)))); refine wpQuiet_nil ?_; intro _ hw'; obtain ⟨⟨dq, osq⟩, hw''⟩ := hw'; subst hw'')
            go_wp2
            go_ret
            exact ⟨ret_bool (by rw [R.out]), bel_trans BW (below_regrown wr dq osq)⟩
          · rw [hs] at cT
            cases hf : M.inn f 0 ((n4 : Int) - 1)
            · have R := Lib.hid (show ok = false by rw [H.out, hd.out, hd3.out, List.all_cons, List.all_cons, M.idx]; simp only [hf, Bool.false_and])
              rw [hf] at cI
              clear hs hf
              go_wp2_with fail
              clear q2w
              (refine wp_region_quiet_below (by kernel_rfl) (by kernel_rfl) ?_; (repeat (go_big_quiet_step ((first | exact cT _ _ | exact cI _ _)))); refine wpQuiet_nil ?_; intro _ hw'; obtain ⟨⟨dq, osq⟩, hw''⟩ := hw'; subst hw'')
              go_wp2
              go_ret
              exact ⟨ret_bool (by rw [R.out]), bel_trans BW (below_regrown wr dq osq)⟩
            · have R := Lib.hid (show ok = ((x3.drop (k + 1)).all (M.idx n4) && (x2.drop (k + 1)).all (fun t => M.trackOk t && M.hasS t n1) && x4.all M.effOk) by rw [H.out, hd.out, hd3.out, List.all_cons, List.all_cons, M.idx]; simp only [hf, hs, Bool.true_and])
              rw [hf] at cI
              clear hs hf
              go_wp2_with fail
              clear q2w
              (refine wp_region_quiet_below (by kernel_rfl) (by kernel_rfl) ?_; (repeat (go_big_quiet_step ((first | exact cT _ _ | exact cI _ _)))); refine wpQuiet_nil ?_; intro _ hw'; obtain ⟨⟨dq, osq⟩, hw''⟩ := hw'; subst hw'')
              go_wp2
              go_roundw
              case rel => exact ⟨k + 1, by go_num, by omega, R, bel_trans Bw (below_regrown wr dq osq)⟩
              case measure => simp [intOf]; omega
        · have HS4 := Lib.hid (show ok = x4.all M.effOk by rw [H.out, List.drop_eq_nil_of_le (by rw [L3.out]; omega), List.drop_eq_nil_of_le (by rw [L2.out]; omega)]; rfl)
          have q2 : wr.cell? ⟨vb, 2, none⟩ = some (.slice A2 n3 c2) := by rw [Bw.cell lV]; exact pp2
          go_wp2_with fail
          clear H hk
          obtain ⟨wo, rfl⟩ : ∃ wo : World, wo = wr := ⟨_, rfl⟩
          go_loopw [5] (fun i wr => ∃ k : Nat, i = .int .i64 k ∧ k ≤ n4 ∧ Hid (ok = (x4.drop k).all M.effOk) ∧ Below V.heap.size V wr) (fun i _ => n4 - (intOf i).toNat)
          case atStart => exact ⟨0, rfl, by omega, Lib.hid HS4.out, Bw⟩
          case round =>
            obtain ⟨k, rfl, hk, H, Bw2⟩ := hrel
            have BW := bel_trans BV Bw2
            have q4 : wr.cell? ⟨vb, 4, none⟩ = some (.slice A4 n4 c4) := by rw [Bw2.cell lV]; exact pp4
            by_cases hlt2 : k < n4
            · obtain ⟨bp, op, b0, B1, m1, d1, B2, m2, d2, B3, m3, d3, y1, y2, y3, rfl, hbp, Y, e0, e1, e2, e3, t1, t2, t3, hz⟩ := patch_cell (r4.below Bw2) z4 hlt2
              have hd := Lib.hid (M.drop_at Y.out)
              have s1 := tSS.more Bw2.size t1
              have s2 := tNS.more Bw2.size t2
              have s3 := tS.more Bw2.size t3
              have M1 := Lib.hid (sl_R.1 s1).cap.1
              have M2 := Lib.hid (sl_R.1 s2).cap.1
              have M3 := Lib.hid (tS_len s3)
              have hk0 : (0 : Int) ≤ (k : Int) := by omega
              have hkn : (k : Int) < (n4 : Int) := by omega
              clear t1 t2 t3
              cases hno : decide (((b0, y1, y2, y3) : Patch) = M.p0)
              · have HNO := Lib.hid hno
                by_cases hb0 : b0 = 1
                · subst hb0
                  by_cases hm3 : m3 = 1
                  · subst hm3
                    cases hp : M.patchOk (1, y1, y2, y3)
                    · have R := Lib.hid (show ok = false by rw [H.out, hd.out, List.all_cons, M.effOk]; simp only [hno, hp, Bool.false_or, Bool.false_and])
                      have HP := Lib.hid hp
                      clear hno hp
                      go_wp2_with (first
                        | (go_at_call 56; refine (spec_l27None bp (op + k * 4) 1 B1 m1 d1 B2 m2 d2 B3 1 d3 y1 y2 y3 wr e0 e1 e2 e3 M1 M2 M3).mono ?_; rw [HNO.out]; rintro e w' ⟨rfl, rfl⟩)
                        | (go_at_call 57; refine (spec_l07Ok bp (op + k * 4) 1 B1 m1 d1 B2 m2 d2 B3 1 d3 y1 y2 y3 wr e0 e1 e2 e3 s1 s2 s3 hz).mono ?_; rw [HP.out]; rintro e w5 ⟨rfl, bel5⟩))
                      go_ret
                      exact ⟨ret_bool (by rw [R.out]), bel_trans BW bel5⟩
                    · have R := Lib.hid (show ok = (x4.drop (k + 1)).all M.effOk by rw [H.out, hd.out, List.all_cons, M.effOk]; simp only [hno, hp, M3.out, decide_true, Bool.false_or, Bool.true_and])
                      have HP := Lib.hid hp
                      clear hno hp
                      go_wp2_with (first
                        | (go_at_call 56; refine (spec_l27None bp (op + k * 4) 1 B1 m1 d1 B2 m2 d2 B3 1 d3 y1 y2 y3 wr e0 e1 e2 e3 M1 M2 M3).mono ?_; rw [HNO.out]; rintro e w' ⟨rfl, rfl⟩)
                        | (go_at_call 57; refine (spec_l07Ok bp (op + k * 4) 1 B1 m1 d1 B2 m2 d2 B3 1 d3 y1 y2 y3 wr e0 e1 e2 e3 s1 s2 s3 hz).mono ?_; rw [HP.out]; rintro e w5 ⟨rfl, bel5⟩))
                      go_roundw
                      case rel => exact ⟨k + 1, by go_num, by omega, R, bel_trans Bw2 bel5⟩
                      case measure => simp [intOf]; omega
                  · have R := Lib.hid (show ok = false by rw [H.out, hd.out, List.all_cons, M.effOk]; simp only [hno, M3.out, decide_eq_false hm3, Bool.false_or, Bool.and_false, Bool.false_and])
                    have gm : ((m3 : Int) != 1) = true := by simp; omega
                    clear hno
                    go_wp2_with (go_at_call 56; refine (spec_l27None bp (op + k * 4) 1 B1 m1 d1 B2 m2 d2 B3 m3 d3 y1 y2 y3 wr e0 e1 e2 e3 M1 M2 M3).mono ?_; rw [HNO.out]; rintro e w' ⟨rfl, rfl⟩)
                    go_ret
                    exact ⟨ret_bool (by rw [R.out]), BW⟩
                · have R := Lib.hid (show ok = false by rw [H.out, hd.out, List.all_cons, M.effOk]; simp only [hno, decide_eq_false hb0, Bool.false_or, Bool.and_false, Bool.false_and])
                  have gb : (b0 != 1) = true := by simpa using hb0
                  clear hno
                  go_wp2_with (go_at_call 56; refine (spec_l27None bp (op + k * 4) b0 B1 m1 d1 B2 m2 d2 B3 m3 d3 y1 y2 y3 wr e0 e1 e2 e3 M1 M2 M3).mono ?_; rw [HNO.out]; rintro e w' ⟨rfl, rfl⟩)
                  go_ret
                  exact ⟨ret_bool (by rw [R.out]), BW⟩
              · have R := Lib.hid (show ok = (x4.drop (k + 1)).all M.effOk by rw [H.out, hd.out, List.all_cons, M.effOk]; simp only [hno, Bool.true_or, Bool.true_and])
                have HNO := Lib.hid hno
                clear hno
                go_wp2_with (go_at_call 56; refine (spec_l27None bp (op + k * 4) b0 B1 m1 d1 B2 m2 d2 B3 m3 d3 y1 y2 y3 wr e0 e1 e2 e3 M1 M2 M3).mono ?_; rw [HNO.out]; rintro e w' ⟨rfl, rfl⟩)
                go_roundw
                case rel => exact ⟨k + 1, by go_num, by omega, R, Bw2⟩
                case measure => simp [intOf]; omega
            · have R := Lib.hid (show ok = true by rw [H.out, List.drop_eq_nil_of_le (by rw [L4.out]; omega)]; rfl)
              go_wp2
              go_ret
              exact ⟨ret_bool (by rw [R.out]), BW⟩
end Go.Proofs.YtacgcagpaecncaaGreat
namespace Go.Proofs.YtacgcagpaecncaaGreat
open Go.RowKit Go.Sort
set_option maxHeartbeats 4000000
set_option maxRecDepth 100000
set_option linter.unusedVariables false
set_option linter.unusedSimpArgs false
set_option synthInstance.maxSize 2000
set_option synthInstance.maxHeartbeats 400000
theorem impl_size_impl_Patch (A : Option Addr) (n c : Nat) (w : World) : Calls Tryz.prog 66 #[.slice A n c] w fun e w' => e = .returned (.int .i64 n) ∧ w = w' := by
  go_enter Tryz.func66, Tryz.ntmps66
  go_wp2
  go_ret
  exact ⟨rfl, rfl⟩
theorem impl_isSession (a0 : Int) (A1 : Option Addr) (n1 c1 : Nat) (A2 : Option Addr) (n2 c2 : Nat) (A3 : Option Addr) (n3 c3 : Nat) (A4 : Option Addr) (n4 c4 : Nat) (A5 : Option Addr) (n5 c5 : Nat) (x1 : List (List Int)) (x2 : List (List Clip_)) (x3 : List Int) (x4 : List Patch) (x5 : List Strip) (w : World) (h1 : tSS.R w w.heap.size [.slice A1 n1 c1] x1) (h2 : tTS.R w w.heap.size [.slice A2 n2 c2] x2) (h3 : tS.R w w.heap.size [.slice A3 n3 c3] x3) (h4 : tPS.R w w.heap.size [.slice A4 n4 c4] x4) (h5 : tM.R w w.heap.size [.slice A5 n5 c5] x5) (hn : hZ.sz ((a0, x1, x2, x3, x4, x5) : Sess) ≤ 100000000) :
    Calls Tryz.prog 30 #[.agg #[.int .i64 a0, .slice A1 n1 c1, .slice A2 n2 c2, .slice A3 n3 c3, .slice A4 n4 c4, .slice A5 n5 c5]] w fun e w' => e = .returned (.bool (M.sessOk (a0, x1, x2, x3, x4, x5))) ∧ Below w.heap.size w w' := by
  obtain ⟨W, hW⟩ : ∃ W, W = w.alloc (.cells #[.int .i64 a0, .slice A1 n1 c1, .slice A2 n2 c2, .slice A3 n3 c3, .slice A4 n4 c4, .slice A5 n5 c5] 39) := ⟨_, rfl⟩
  have B0 : Below w.heap.size w W := by rw [hW]; exact (Below.refl _ _).alloc (Nat.le_refl _) _
  have p0 : W.cell? ⟨w.heap.size, 0, none⟩ = some (.int .i64 a0) := by rw [hW]; simp [go_sem]
  have p1 : W.cell? ⟨w.heap.size, 1, none⟩ = some (.slice A1 n1 c1) := by rw [hW]; simp [go_sem]
  have p2 : W.cell? ⟨w.heap.size, 2, none⟩ = some (.slice A2 n2 c2) := by rw [hW]; simp [go_sem]
  have p3 : W.cell? ⟨w.heap.size, 3, none⟩ = some (.slice A3 n3 c3) := by rw [hW]; simp [go_sem]
  have p4 : W.cell? ⟨w.heap.size, 4, none⟩ = some (.slice A4 n4 c4) := by rw [hW]; simp [go_sem]
  have p5 : W.cell? ⟨w.heap.size, 5, none⟩ = some (.slice A5 n5 c5) := by rw [hW]; simp [go_sem]
  have lx : w.heap.size < W.heap.size := by rw [hW]; simp
  have HW := Lib.hid hW
  clear hW
  have k1 := tSS.later h1 B0
  have k2 := tTS.later h2 B0
  have k3 := tS.later h3 B0
  have k4 := tPS.later h4 B0
  have k5 := tM.later h5 B0
  rw [hZ_sz] at hn
  have r1 := sl_R.1 k1
  have L1 := Lib.hid r1.cap.1
  have r2 := sl_R.1 k2
  have L2 := Lib.hid r2.cap.1
  have r3 := sl_R.1 k3
  have L3 := Lib.hid r3.cap.1
  have r4 := sl_R.1 k4
  have L4 := Lib.hid r4.cap.1
  have r5 := sl_R.1 k5
  have L5 := Lib.hid r5.cap.1
  have z1 : hSS.sz x1 ≤ 100000000 := by omega
  have bn1 : n1 ≤ 100000000 := by have e : x1.length + hS.szL x1 = hSS.sz x1 := rfl; have := L1.out; omega
  have z2 : hTS.sz x2 ≤ 100000000 := by omega
  have bn2 : n2 ≤ 100000000 := by have e : x2.length + hT.szL x2 = hTS.sz x2 := rfl; have := L2.out; omega
  have z3 : hS.sz x3 ≤ 100000000 := by omega
  have bn3 : n3 ≤ 100000000 := by have e : x3.length + hI.szL x3 = hS.sz x3 := rfl; have := L3.out; omega
  have z4 : hPS.sz x4 ≤ 100000000 := by omega
  have bn4 : n4 ≤ 100000000 := by have e : x4.length + hP.szL x4 = hPS.sz x4 := rfl; have := L4.out; omega
  have z5 : hM.sz x5 ≤ 100000000 := by omega
  have bn5 : n5 ≤ 100000000 := by have e : x5.length + hSt.szL x5 = hM.sz x5 := rfl; have := L5.out; omega
  have hb1 : Hid (∀ x ∈ x1, x.length ≤ 1000000000) := Lib.hid (fun x hx => by
    have hq1 : x1.length + hS.szL x1 = hSS.sz x1 := rfl
    obtain ⟨i, hi⟩ := List.getElem?_of_mem hx
    have := hS.szL_at hi
    rw [hS_sz] at this
    omega)
  have hx3 := (tS_R.1 k3).ri
  clear hn
  clear h1 h2 h3 h4 h5
  have HS := Lib.hid (show M.sessOk (a0, x1, x2, x3, x4, x5) = (M.inn a0 0 1000 && M.srcOk x1 && decide (n2 ≤ 6) && M.mixOk x5 && decide (n3 = n2) && x3.all (M.idx n5) && decide (n4 = n5) && x2.all (fun t => M.trackOk t && M.hasS t n1) && x4.all M.effOk) by rw [M.sessOk]; simp only [L1.out, L2.out, L3.out, L4.out, L5.out])
  generalize M.sessOk (a0, x1, x2, x3, x4, x5) = ok at HS ⊢
  cases g0 : M.inn a0 0 1000
  · have R := Lib.hid (show ok = false by rw [HS.out]; simp only [g0, Bool.false_and, Bool.and_false, Bool.true_and])
    have G0 := Lib.hid g0
    clear g0
    go_enter Tryz.func30, Tryz.ntmps30
    go_wp2_with fail
    rw [← HW.out]
    go_wp2_with (first | (go_at_call 61; refine (impl_size_impl_Strip _ _ _ _).mono ?_; rintro e w' ⟨rfl, rfl⟩) | (go_at_call 66; refine (impl_size_impl_Patch _ _ _ _).mono ?_; rintro e w' ⟨rfl, rfl⟩) | (go_at_call 62; refine (impl_within _ _ _ _).mono ?_; rw [G0.out]; rintro e w' ⟨rfl, rfl⟩))
    go_ret
    exact ⟨ret_bool (by rw [R.out]), B0⟩
  have G0 := Lib.hid g0
  clear g0
  cases g1 : M.srcOk x1
  · have R := Lib.hid (show ok = false by rw [HS.out]; simp only [G0.out, g1, Bool.false_and, Bool.and_false, Bool.true_and])
    have G1 := Lib.hid g1
    clear g1
    go_enter Tryz.func30, Tryz.ntmps30
    go_wp2_with fail
    rw [← HW.out]
    go_wp2_with (first | (go_at_call 61; refine (impl_size_impl_Strip _ _ _ _).mono ?_; rintro e w' ⟨rfl, rfl⟩) | (go_at_call 66; refine (impl_size_impl_Patch _ _ _ _).mono ?_; rintro e w' ⟨rfl, rfl⟩) | (go_at_call 62; refine (impl_within _ _ _ _).mono ?_; rw [G0.out]; rintro e w' ⟨rfl, rfl⟩) | (go_at_call 63; refine (impl_areSources _ _ _ _ _ r1 hb1 (by omega)).mono ?_; rw [G1.out]; rintro e w' ⟨rfl, rfl⟩))
    go_ret
    exact ⟨ret_bool (by rw [R.out]), B0⟩
  have G1 := Lib.hid g1
  clear g1
  by_cases g2 : ¬ n2 ≤ 6
  · have R := Lib.hid (show ok = false by rw [HS.out]; simp only [G0.out, G1.out, decide_eq_false g2, Bool.false_and, Bool.and_false, Bool.true_and])
    have gg : decide ((6 : Int) < (n2 : Int)) = true := decide_eq_true (by omega)
    go_enter Tryz.func30, Tryz.ntmps30
    go_wp2_with fail
    rw [← HW.out]
    go_wp2_with (first | (go_at_call 61; refine (impl_size_impl_Strip _ _ _ _).mono ?_; rintro e w' ⟨rfl, rfl⟩) | (go_at_call 66; refine (impl_size_impl_Patch _ _ _ _).mono ?_; rintro e w' ⟨rfl, rfl⟩) | (go_at_call 62; refine (impl_within _ _ _ _).mono ?_; rw [G0.out]; rintro e w' ⟨rfl, rfl⟩) | (go_at_call 63; refine (impl_areSources _ _ _ _ _ r1 hb1 (by omega)).mono ?_; rw [G1.out]; rintro e w' ⟨rfl, rfl⟩))
    go_ret
    exact ⟨ret_bool (by rw [R.out]), B0⟩
  replace g2 : n2 ≤ 6 := Decidable.not_not.1 g2
  have gd2 : decide ((6 : Int) < (n2 : Int)) = false := decide_eq_false (by omega)
  cases g3 : M.mixOk x5
  · have R := Lib.hid (show ok = false by rw [HS.out]; simp only [G0.out, G1.out, decide_eq_true g2, g3, Bool.false_and, Bool.and_false, Bool.true_and])
    have G3 := Lib.hid g3
    clear g3
    go_enter Tryz.func30, Tryz.ntmps30
    go_wp2_with fail
    rw [← HW.out]
    go_wp2_with (first | (go_at_call 61; refine (impl_size_impl_Strip _ _ _ _).mono ?_; rintro e w' ⟨rfl, rfl⟩) | (go_at_call 66; refine (impl_size_impl_Patch _ _ _ _).mono ?_; rintro e w' ⟨rfl, rfl⟩) | (go_at_call 62; refine (impl_within _ _ _ _).mono ?_; rw [G0.out]; rintro e w' ⟨rfl, rfl⟩) | (go_at_call 63; refine (impl_areSources _ _ _ _ _ r1 hb1 (by omega)).mono ?_; rw [G1.out]; rintro e w' ⟨rfl, rfl⟩) | (go_at_call 64; refine (impl_isMixer _ _ _ _ _ k5 z5).mono ?_; rw [G3.out]; rintro e w2 ⟨rfl, bel2⟩; have s0 : w2.cell? ⟨w.heap.size, 0, none⟩ = some (.int .i64 a0) := (by rw [bel2.cell lx]; exact p0); have s1 : w2.cell? ⟨w.heap.size, 1, none⟩ = some (.slice A1 n1 c1) := (by rw [bel2.cell lx]; exact p1); have s2 : w2.cell? ⟨w.heap.size, 2, none⟩ = some (.slice A2 n2 c2) := (by rw [bel2.cell lx]; exact p2); have s3 : w2.cell? ⟨w.heap.size, 3, none⟩ = some (.slice A3 n3 c3) := (by rw [bel2.cell lx]; exact p3); have s4 : w2.cell? ⟨w.heap.size, 4, none⟩ = some (.slice A4 n4 c4) := (by rw [bel2.cell lx]; exact p4); have s5 : w2.cell? ⟨w.heap.size, 5, none⟩ = some (.slice A5 n5 c5) := (by rw [bel2.cell lx]; exact p5); have hy3 := hx3.later bel2))
    go_ret
    exact ⟨ret_bool (by rw [R.out]), bel_trans B0 bel2⟩
  have G3 := Lib.hid g3
  clear g3
  by_cases g4 : ¬ n3 = n2
  · have R := Lib.hid (show ok = false by rw [HS.out]; simp only [G0.out, G1.out, decide_eq_true g2, G3.out, decide_eq_false g4, Bool.false_and, Bool.and_false, Bool.true_and])
    have gg : ((n3 : Int) != (n2 : Int)) = true := by simp; omega
    go_enter Tryz.func30, Tryz.ntmps30
    go_wp2_with fail
    rw [← HW.out]
    go_wp2_with (first | (go_at_call 61; refine (impl_size_impl_Strip _ _ _ _).mono ?_; rintro e w' ⟨rfl, rfl⟩) | (go_at_call 66; refine (impl_size_impl_Patch _ _ _ _).mono ?_; rintro e w' ⟨rfl, rfl⟩) | (go_at_call 62; refine (impl_within _ _ _ _).mono ?_; rw [G0.out]; rintro e w' ⟨rfl, rfl⟩) | (go_at_call 63; refine (impl_areSources _ _ _ _ _ r1 hb1 (by omega)).mono ?_; rw [G1.out]; rintro e w' ⟨rfl, rfl⟩) | (go_at_call 64; refine (impl_isMixer _ _ _ _ _ k5 z5).mono ?_; rw [G3.out]; rintro e w2 ⟨rfl, bel2⟩; have s0 : w2.cell? ⟨w.heap.size, 0, none⟩ = some (.int .i64 a0) := (by rw [bel2.cell lx]; exact p0); have s1 : w2.cell? ⟨w.heap.size, 1, none⟩ = some (.slice A1 n1 c1) := (by rw [bel2.cell lx]; exact p1); have s2 : w2.cell? ⟨w.heap.size, 2, none⟩ = some (.slice A2 n2 c2) := (by rw [bel2.cell lx]; exact p2); have s3 : w2.cell? ⟨w.heap.size, 3, none⟩ = some (.slice A3 n3 c3) := (by rw [bel2.cell lx]; exact p3); have s4 : w2.cell? ⟨w.heap.size, 4, none⟩ = some (.slice A4 n4 c4) := (by rw [bel2.cell lx]; exact p4); have s5 : w2.cell? ⟨w.heap.size, 5, none⟩ = some (.slice A5 n5 c5) := (by rw [bel2.cell lx]; exact p5); have hy3 := hx3.later bel2))
    go_ret
    exact ⟨ret_bool (by rw [R.out]), bel_trans B0 bel2⟩
  replace g4 : n3 = n2 := Decidable.not_not.1 g4
  subst g4
  cases g5 : x3.all (M.idx n5)
  · have R := Lib.hid (show ok = false by rw [HS.out]; simp only [G0.out, G1.out, decide_eq_true g2, G3.out, decide_true, g5, Bool.false_and, Bool.and_false, Bool.true_and])
    have G5 := Lib.hid g5
    clear g5
    go_enter Tryz.func30, Tryz.ntmps30
    go_wp2_with fail
    rw [← HW.out]
    go_wp2_with (first | (go_at_call 61; refine (impl_size_impl_Strip _ _ _ _).mono ?_; rintro e w' ⟨rfl, rfl⟩) | (go_at_call 66; refine (impl_size_impl_Patch _ _ _ _).mono ?_; rintro e w' ⟨rfl, rfl⟩) | (go_at_call 62; refine (impl_within _ _ _ _).mono ?_; rw [G0.out]; rintro e w' ⟨rfl, rfl⟩) | (go_at_call 63; refine (impl_areSources _ _ _ _ _ r1 hb1 (by omega)).mono ?_; rw [G1.out]; rintro e w' ⟨rfl, rfl⟩) | (go_at_call 64; refine (impl_isMixer _ _ _ _ _ k5 z5).mono ?_; rw [G3.out]; rintro e w2 ⟨rfl, bel2⟩; have s0 : w2.cell? ⟨w.heap.size, 0, none⟩ = some (.int .i64 a0) := (by rw [bel2.cell lx]; exact p0); have s1 : w2.cell? ⟨w.heap.size, 1, none⟩ = some (.slice A1 n1 c1) := (by rw [bel2.cell lx]; exact p1); have s2 : w2.cell? ⟨w.heap.size, 2, none⟩ = some (.slice A2 n3 c2) := (by rw [bel2.cell lx]; exact p2); have s3 : w2.cell? ⟨w.heap.size, 3, none⟩ = some (.slice A3 n3 c3) := (by rw [bel2.cell lx]; exact p3); have s4 : w2.cell? ⟨w.heap.size, 4, none⟩ = some (.slice A4 n4 c4) := (by rw [bel2.cell lx]; exact p4); have s5 : w2.cell? ⟨w.heap.size, 5, none⟩ = some (.slice A5 n5 c5) := (by rw [bel2.cell lx]; exact p5); have hy3 := hx3.later bel2) | (go_at_call 65; refine (impl_areIndices _ _ _ _ _ _ hy3 (by omega) (by omega)).mono ?_; rw [G5.out]; rintro e w' ⟨rfl, rfl⟩))
    go_ret
    exact ⟨ret_bool (by rw [R.out]), bel_trans B0 bel2⟩
  have G5 := Lib.hid g5
  clear g5
  by_cases g6 : ¬ n4 = n5
  · have R := Lib.hid (show ok = false by rw [HS.out]; simp only [G0.out, G1.out, decide_eq_true g2, G3.out, decide_true, G5.out, decide_eq_false g6, Bool.false_and, Bool.and_false, Bool.true_and])
    have gg : ((n4 : Int) != (n5 : Int)) = true := by simp; omega
    go_enter Tryz.func30, Tryz.ntmps30
    go_wp2_with fail
    rw [← HW.out]
    go_wp2_with (first | (go_at_call 61; refine (impl_size_impl_Strip _ _ _ _).mono ?_; rintro e w' ⟨rfl, rfl⟩) | (go_at_call 66; refine (impl_size_impl_Patch _ _ _ _).mono ?_; rintro e w' ⟨rfl, rfl⟩) | (go_at_call 62; refine (impl_within _ _ _ _).mono ?_; rw [G0.out]; rintro e w' ⟨rfl, rfl⟩) | (go_at_call 63; refine (impl_areSources _ _ _ _ _ r1 hb1 (by omega)).mono ?_; rw [G1.out]; rintro e w' ⟨rfl, rfl⟩) | (go_at_call 64; refine (impl_isMixer _ _ _ _ _ k5 z5).mono ?_; rw [G3.out]; rintro e w2 ⟨rfl, bel2⟩; have s0 : w2.cell? ⟨w.heap.size, 0, none⟩ = some (.int .i64 a0) := (by rw [bel2.cell lx]; exact p0); have s1 : w2.cell? ⟨w.heap.size, 1, none⟩ = some (.slice A1 n1 c1) := (by rw [bel2.cell lx]; exact p1); have s2 : w2.cell? ⟨w.heap.size, 2, none⟩ = some (.slice A2 n3 c2) := (by rw [bel2.cell lx]; exact p2); have s3 : w2.cell? ⟨w.heap.size, 3, none⟩ = some (.slice A3 n3 c3) := (by rw [bel2.cell lx]; exact p3); have s4 : w2.cell? ⟨w.heap.size, 4, none⟩ = some (.slice A4 n4 c4) := (by rw [bel2.cell lx]; exact p4); have s5 : w2.cell? ⟨w.heap.size, 5, none⟩ = some (.slice A5 n5 c5) := (by rw [bel2.cell lx]; exact p5); have hy3 := hx3.later bel2) | (go_at_call 65; refine (impl_areIndices _ _ _ _ _ _ hy3 (by omega) (by omega)).mono ?_; rw [G5.out]; rintro e w' ⟨rfl, rfl⟩))
    go_ret
    exact ⟨ret_bool (by rw [R.out]), bel_trans B0 bel2⟩
  replace g6 : n4 = n5 := Decidable.not_not.1 g6
  subst g6
  have HS2 := Lib.hid (show ok = (x2.all (fun t => M.trackOk t && M.hasS t n1) && x4.all M.effOk) by rw [HS.out]; simp only [G0.out, G1.out, decide_eq_true g2, G3.out, G5.out, decide_true, Bool.true_and, Bool.and_true])
  clear HS
  go_enter Tryz.func30, Tryz.ntmps30
  go_wp2_with fail
  rw [← HW.out]
  go_wp2_with (first | (go_at_call 61; refine (impl_size_impl_Strip _ _ _ _).mono ?_; rintro e w' ⟨rfl, rfl⟩) | (go_at_call 66; refine (impl_size_impl_Patch _ _ _ _).mono ?_; rintro e w' ⟨rfl, rfl⟩) | (go_at_call 62; refine (impl_within _ _ _ _).mono ?_; rw [G0.out]; rintro e w' ⟨rfl, rfl⟩) | (go_at_call 63; refine (impl_areSources _ _ _ _ _ r1 hb1 (by omega)).mono ?_; rw [G1.out]; rintro e w' ⟨rfl, rfl⟩) | (go_at_call 64; refine (impl_isMixer _ _ _ _ _ k5 z5).mono ?_; rw [G3.out]; rintro e w2 ⟨rfl, bel2⟩; have s0 : w2.cell? ⟨w.heap.size, 0, none⟩ = some (.int .i64 a0) := (by rw [bel2.cell lx]; exact p0); have s1 : w2.cell? ⟨w.heap.size, 1, none⟩ = some (.slice A1 n1 c1) := (by rw [bel2.cell lx]; exact p1); have s2 : w2.cell? ⟨w.heap.size, 2, none⟩ = some (.slice A2 n3 c2) := (by rw [bel2.cell lx]; exact p2); have s3 : w2.cell? ⟨w.heap.size, 3, none⟩ = some (.slice A3 n3 c3) := (by rw [bel2.cell lx]; exact p3); have s4 : w2.cell? ⟨w.heap.size, 4, none⟩ = some (.slice A4 n4 c4) := (by rw [bel2.cell lx]; exact p4); have s5 : w2.cell? ⟨w.heap.size, 5, none⟩ = some (.slice A5 n4 c5) := (by rw [bel2.cell lx]; exact p5); have hy3 := hx3.later bel2) | (go_at_call 65; refine (impl_areIndices _ _ _ _ _ _ hy3 (by omega) (by omega)).mono ?_; rw [G5.out]; rintro e w' ⟨rfl, rfl⟩))
  have B2 := bel_trans B0 bel2
  have lV : w.heap.size < w2.heap.size := by have := bel2.size; omega
  replace r2 := r2.later bel2
  replace r4 := r4.later bel2
  go_loopw [60] (fun i wr => ∃ k : Nat, i = .int .i64 k ∧ k ≤ n3 ∧ Hid (ok = ((x2.drop k).all (fun t => M.trackOk t && M.hasS t n1) && x4.all M.effOk)) ∧ Below w2.heap.size w2 wr) (fun i _ => n3 - (intOf i).toNat)
  case atStart => exact ⟨0, rfl, by omega, Lib.hid HS2.out, Below.refl _ _⟩
  case round =>
    obtain ⟨k, rfl, hk, H, Bw⟩ := hrel
    have BW := bel_trans B2 Bw
    by_cases hlt : k < n3
    · obtain ⟨bt, ot, A7, n7, c7, t, rfl, hbt, Y, e0, hT, hra, h7⟩ := track_cell (r2.below Bw) z2 hlt
      have hd := Lib.hid (M.drop_at Y.out)
      have hk0 : (0 : Int) ≤ (k : Int) := by omega
      have hkn : (k : Int) < (n3 : Int) := by omega
      obtain ⟨U, hU⟩ : ∃ U, U = wr.alloc (.cells #[.slice A7 n7 c7] 95) := ⟨_, rfl⟩
      have GU : Below wr.heap.size wr U := by rw [hU]; exact (Below.refl _ _).alloc (Nat.le_refl _) _
      have u0 : U.cell? ⟨wr.heap.size, 0, none⟩ = some (.slice A7 n7 c7) := by rw [hU, cell_of_row _ wr.heap.size 0 _ 95 (0, 0) (heap_alloc_new wr _)]; rfl
      have BU := bel_trans Bw GU
      have q1 : U.cell? ⟨w.heap.size, 1, none⟩ = some (.slice A1 n1 c1) := by rw [BU.cell lV]; exact s1
      have HU := Lib.hid hU
      clear hU
      have hry := (hra.more Bw.size).later GU
      have uu0 := cell_regrown u0
      have qq1 := cell_regrown q1
      have cS : ∀ d os, Calls Tryz.prog 69 #[.slice A1 n1 c1] (grow (redrawn U d) os) fun e w'' => e = .returned (.int .i64 n1) ∧ ∃ p : Regrown, w'' = grow (redrawn U p.d) p.os := fun d os => Calls.regrown_of (to_bel (impl_size_int64S _ _ _ _))
      have cT : ∀ d os, Calls Tryz.prog 67 #[.agg #[.slice A7 n7 c7]] (grow (redrawn U d) os) fun e w'' => e = .returned (.bool (M.trackOk t)) ∧ ∃ p : Regrown, w'' = grow (redrawn U p.d) p.os := fun d os => Calls.regrown_of (impl_isTrack _ _ _ _ _ (hry.later (below_regrown U d os)) (by omega))
      have cH : ∀ d os, Calls Tryz.prog 68 #[.agg #[.slice A7 n7 c7], .int .i64 n1] (grow (redrawn U d) os) fun e w'' => e = .returned (.bool (M.hasS t n1)) ∧ ∃ p : Regrown, w'' = grow (redrawn U p.d) p.os := fun d os => Calls.regrown_of (impl_hasSources _ _ _ _ _ _ (hry.later (below_regrown U d os)) (by omega))
      clear u0 q1
      cases ht : M.trackOk t
      · have R := Lib.hid (show ok = false by rw [H.out, hd.out, List.all_cons]; simp only [ht, Bool.false_and])
        rw [ht] at cT
        clear ht
        go_wp2_with fail
        rw [← HU.out]
        clear e0
        (refine wp_region_quiet_below (by kernel_rfl) (by kernel_rfl) ?_; (repeat (go_big_quiet_step ((first | exact cS _ _ | exact cT _ _ | exact cH _ _)))); refine wpQuiet_nil ?_; intro _ hw'; obtain ⟨⟨dq, osq⟩, hw''⟩ := hw'; subst hw'')
        go_wp2
        go_ret
        exact ⟨ret_bool (by rw [R.out]), bel_trans BW (bel_trans GU (below_regrown U dq osq))⟩
      · rw [ht] at cT
        cases hh : M.hasS t n1
        · have R := Lib.hid (show ok = false by rw [H.out, hd.out, List.all_cons]; simp only [ht, hh, Bool.false_and, Bool.and_false])
          rw [hh] at cH
          clear ht hh
          go_wp2_with fail
          rw [← HU.out]
          clear e0
          (refine wp_region_quiet_below (by kernel_rfl) (by kernel_rfl) ?_; (repeat (go_big_quiet_step ((first | exact cS _ _ | exact cT _ _ | exact cH _ _)))); refine wpQuiet_nil ?_; intro _ hw'; obtain ⟨⟨dq, osq⟩, hw''⟩ := hw'; subst hw'')
          go_wp2
          go_ret
          exact ⟨ret_bool (by rw [R.out]), bel_trans BW (bel_trans GU (below_regrown U dq osq))⟩
        · have R := Lib.hid (show ok = ((x2.drop (k + 1)).all (fun t => M.trackOk t && M.hasS t n1) && x4.all M.effOk) by rw [H.out, hd.out, List.all_cons]; simp only [ht, hh, Bool.true_and])
          rw [hh] at cH
          clear ht hh
          go_wp2_with fail
          rw [← HU.out]
          clear e0
          (refine wp_region_quiet_below (by kernel_rfl) (by kernel_rfl) ?_; (repeat (go_big_quiet_step ((first | exact cS _ _ | exact cT _ _ | exact cH _ _)))); refine wpQuiet_nil ?_; intro _ hw'; obtain ⟨⟨dq, osq⟩, hw''⟩ := hw'; subst hw'')
          go_wp2
          go_roundw
          case rel => exact ⟨k + 1, by go_num, by omega, R, bel_trans Bw (bel_trans GU (below_regrown U dq osq))⟩
          case measure => simp [intOf]; omega
    · have HS4 := Lib.hid (show ok = x4.all M.effOk by rw [H.out, List.drop_eq_nil_of_le (by rw [L2.out]; omega)]; rfl)
      have q4 : wr.cell? ⟨w.heap.size, 4, none⟩ = some (.slice A4 n4 c4) := by rw [Bw.cell lV]; exact s4
      go_wp2_with fail
      clear H hk hlt
      obtain ⟨wo, rfl⟩ : ∃ wo : World, wo = wr := ⟨_, rfl⟩
      go_loopw [79] (fun i wr => ∃ k : Nat, i = .int .i64 k ∧ k ≤ n4 ∧ Hid (ok = (x4.drop k).all M.effOk) ∧ Below w2.heap.size w2 wr) (fun i _ => n4 - (intOf i).toNat)
      case atStart => exact ⟨0, rfl, by omega, Lib.hid HS4.out, Bw⟩
      case round =>
        obtain ⟨k, rfl, hk, H, Bw2⟩ := hrel
        have BW := bel_trans B2 Bw2
        by_cases hlt2 : k < n4
        · obtain ⟨bp, op, b0, B1, m1, d1, B2, m2, d2, B3, m3, d3, y1, y2, y3, rfl, hbp, Y, e0, e1, e2, e3, t1, t2, t3, hz⟩ := patch_cell (r4.below Bw2) z4 hlt2
          have hd := Lib.hid (M.drop_at Y.out)
          obtain ⟨U, hU⟩ : ∃ U, U = wr.alloc (.cells #[.int .i64 b0, .slice B1 m1 d1, .slice B2 m2 d2, .slice B3 m3 d3] 68) := ⟨_, rfl⟩
          have GU : Below wr.heap.size wr U := by rw [hU]; exact (Below.refl _ _).alloc (Nat.le_refl _) _
          have HU := Lib.hid hU
          clear hU
          have s1 := tSS.later (tSS.more Bw2.size t1) GU
          have s2 := tNS.later (tNS.more Bw2.size t2) GU
          have s3 := tS.later (tS.more Bw2.size t3) GU
          have hk0 : (0 : Int) ≤ (k : Int) := by omega
          have hkn : (k : Int) < (n4 : Int) := by omega
          cases he : M.effOk (b0, y1, y2, y3)
          · have R := Lib.hid (show ok = false by rw [H.out, hd.out, List.all_cons, he]; rfl)
            have HE := Lib.hid he
            clear he
            go_wp2_with fail
            rw [← HU.out]
            refine (impl_isEffect _ _ _ _ _ _ _ _ _ _ _ _ _ U s1 s2 s3 hz).mono ?_
            rw [HE.out]
            rintro e w5 ⟨rfl, bel5⟩
            go_wp2
            go_ret
            exact ⟨ret_bool (by rw [R.out]), bel_trans BW (bel_trans GU bel5)⟩
          · have R := Lib.hid (show ok = (x4.drop (k + 1)).all M.effOk by rw [H.out, hd.out, List.all_cons, he]; rfl)
            have HE := Lib.hid he
            clear he
            go_wp2_with fail
            rw [← HU.out]
            refine (impl_isEffect _ _ _ _ _ _ _ _ _ _ _ _ _ U s1 s2 s3 hz).mono ?_
            rw [HE.out]
            rintro e w5 ⟨rfl, bel5⟩
            go_wp2
            go_roundw
            case rel => exact ⟨k + 1, by go_num, by omega, R, bel_trans Bw2 (bel_trans GU bel5)⟩
            case measure => simp [intOf]; omega
        · have R := Lib.hid (show ok = true by rw [H.out, List.drop_eq_nil_of_le (by rw [L4.out]; omega)]; rfl)
          go_wp2
          go_ret
          exact ⟨ret_bool (by rw [R.out]), BW⟩
end Go.Proofs.YtacgcagpaecncaaGreat
namespace Go.Proofs.YtacgcagpaecncaaGreat
open Go.RowKit Go.Sort
set_option maxHeartbeats 4000000
set_option maxRecDepth 100000
set_option synthInstance.maxSize 2000
set_option synthInstance.maxHeartbeats 400000
instance decTracks : DecidableEq (List (List Clip_)) := inferInstance
instance decPatch : DecidableEq Patch := inferInstance
instance decPatches : DecidableEq (List Patch) := inferInstance
instance decStrips : DecidableEq (List Strip) := inferInstance
instance decSess5 : DecidableEq (List Patch × List Strip) := inferInstance
instance decSess4 : DecidableEq (List Int × List Patch × List Strip) := inferInstance
instance decSess3 : DecidableEq (List (List Clip_) × List Int × List Patch × List Strip) := inferInstance
instance decSess : DecidableEq Sess := inferInstance
end Go.Proofs.YtacgcagpaecncaaGreat
namespace Go.Proofs.YtacgcagpaecncaaGreat
open Go.RowKit
set_option maxHeartbeats 4000000
set_option maxRecDepth 100000
theorem nf_sz_Y (p : Int) (A : Option Addr) (n c : Nat) (Ab : Option Addr) (nb cb : Nat) (Ac : Option Addr) (nc cc : Nat) (Ad : Option Addr) (nd cd : Nat) (Ae : Option Addr) (ne ce : Nat) (x : Sess) (l : Int) (w : World) (hx : tZ.R w w.heap.size [.int .i64 p, .slice A n c, .slice Ab nb cb, .slice Ac nc cc, .slice Ad nd cd, .slice Ae ne ce] x) (hl : 0 ≤ l ∧ l ≤ 1000000000) :
    Calls Tryz.prog 6 #[.agg #[.int .i64 p, .slice A n c, .slice Ab nb cb, .slice Ac nc cc, .slice Ad nd cd, .slice Ae ne ce], .int .i64 l] w fun e w' => e = .returned (.int .i64 (if (hZ.sz x : Int) ≤ l then l - hZ.sz x else -1)) ∧ Below w.heap.size w w' := by
  obtain ⟨a0, x1, x2, x3, x4, x5⟩ := x
  obtain ⟨A1, n1, c1, A2, n2, c2, A3, n3, c3, A4, n4, c4, A5, n5, c5, hcs, h1, h2, h3, h4, h5⟩ := tZ_R.1 hx
  simp only [List.cons.injEq, Value.int.injEq, Value.slice.injEq, true_and, and_true] at hcs
  obtain ⟨rfl, ⟨rfl, rfl, rfl⟩, ⟨rfl, rfl, rfl⟩, ⟨rfl, rfl, rfl⟩, ⟨rfl, rfl, rfl⟩, ⟨rfl, rfl, rfl⟩⟩ := hcs
  exact nf_sz_Z _ _ _ _ _ _ _ _ _ _ _ _ _ _ _ _ _ _ _ _ _ _ _ h1 h2 h3 h4 h5 hl
theorem nf_to_Y (p : Int) (A : Option Addr) (n c : Nat) (Ab : Option Addr) (nb cb : Nat) (Ac : Option Addr) (nc cc : Nat) (Ad : Option Addr) (nd cd : Nat) (Ae : Option Addr) (ne ce : Nat) (x : Sess) (w : World) (hx : tZ.R w w.heap.size [.int .i64 p, .slice A n c, .slice Ab nb cb, .slice Ac nc cc, .slice Ad nd cd, .slice Ae ne ce] x) (hn : hZ.sz x ≤ 100000000) :
    Calls Tryz.prog 8 #[.agg #[.int .i64 p, .slice A n c, .slice Ab nb cb, .slice Ac nc cc, .slice Ad nd cd, .slice Ae ne ce]] w fun e w' => ∃ p' A' n' c' Ab' nb' cb' Ac' nc' cc' Ad' nd' cd' Ae' ne' ce', e = .returned (.agg #[.int .i64 p', .slice A' n' c', .slice Ab' nb' cb', .slice Ac' nc' cc', .slice Ad' nd' cd', .slice Ae' ne' ce']) ∧ tZ.O w' (Iv w.heap.size w'.heap.size) [.int .i64 p', .slice A' n' c', .slice Ab' nb' cb', .slice Ac' nc' cc', .slice Ad' nd' cd', .slice Ae' ne' ce'] x ∧ Below w.heap.size w w' := by
  obtain ⟨a0, x1, x2, x3, x4, x5⟩ := x
  obtain ⟨A1, n1, c1, A2, n2, c2, A3, n3, c3, A4, n4, c4, A5, n5, c5, hcs, h1, h2, h3, h4, h5⟩ := tZ_R.1 hx
  simp only [List.cons.injEq, Value.int.injEq, Value.slice.injEq, true_and, and_true] at hcs
  obtain ⟨rfl, ⟨rfl, rfl, rfl⟩, ⟨rfl, rfl, rfl⟩, ⟨rfl, rfl, rfl⟩, ⟨rfl, rfl, rfl⟩, ⟨rfl, rfl, rfl⟩⟩ := hcs
  refine (nf_to_Z _ _ _ _ _ _ _ _ _ _ _ _ _ _ _ _ _ _ _ _ _ _ h1 h2 h3 h4 h5 hn).mono ?_
  rintro e w' ⟨B1, m1, d1, B2, m2, d2, B3, m3, d3, B4, m4, d4, B5, m5, d5, rfl, o, bel⟩
  exact ⟨_, _, _, _, _, _, _, _, _, _, _, _, _, _, _, _, rfl, o, bel⟩
theorem nf_eq_Y (p : Int) (A : Option Addr) (n c : Nat) (Ab : Option Addr) (nb cb : Nat) (Ac : Option Addr) (nc cc : Nat) (Ad : Option Addr) (nd cd : Nat) (Ae : Option Addr) (ne ce : Nat) (p' : Int) (A' : Option Addr) (n' c' : Nat) (Ab' : Option Addr) (nb' cb' : Nat) (Ac' : Option Addr) (nc' cc' : Nat) (Ad' : Option Addr) (nd' cd' : Nat) (Ae' : Option Addr) (ne' ce' : Nat) (x : Sess) (w : World) (hx : tZ.R w w.heap.size [.int .i64 p, .slice A n c, .slice Ab nb cb, .slice Ac nc cc, .slice Ad nd cd, .slice Ae ne ce] x) (hy : tZ.R w w.heap.size [.int .i64 p', .slice A' n' c', .slice Ab' nb' cb', .slice Ac' nc' cc', .slice Ad' nd' cd', .slice Ae' ne' ce'] x) (hn : hZ.sz x ≤ 100000000) :
    Calls Tryz.prog 10 #[.agg #[.int .i64 p, .slice A n c, .slice Ab nb cb, .slice Ac nc cc, .slice Ad nd cd, .slice Ae ne ce], .agg #[.int .i64 p', .slice A' n' c', .slice Ab' nb' cb', .slice Ac' nc' cc', .slice Ad' nd' cd', .slice Ae' ne' ce']] w fun e w' => e = .returned (.bool true) ∧ Below w.heap.size w w' := by
  obtain ⟨a0, x1, x2, x3, x4, x5⟩ := x
  obtain ⟨A1, n1, c1, A2, n2, c2, A3, n3, c3, A4, n4, c4, A5, n5, c5, hcs, h1, h2, h3, h4, h5⟩ := tZ_R.1 hx
  simp only [List.cons.injEq, Value.int.injEq, Value.slice.injEq, true_and, and_true] at hcs
  obtain ⟨rfl, ⟨rfl, rfl, rfl⟩, ⟨rfl, rfl, rfl⟩, ⟨rfl, rfl, rfl⟩, ⟨rfl, rfl, rfl⟩, ⟨rfl, rfl, rfl⟩⟩ := hcs
  obtain ⟨A1', n1', c1', A2', n2', c2', A3', n3', c3', A4', n4', c4', A5', n5', c5', hcs', k1, k2, k3, k4, k5⟩ := tZ_R.1 hy
  simp only [List.cons.injEq, Value.int.injEq, Value.slice.injEq, true_and, and_true] at hcs'
  obtain ⟨rfl, ⟨rfl, rfl, rfl⟩, ⟨rfl, rfl, rfl⟩, ⟨rfl, rfl, rfl⟩, ⟨rfl, rfl, rfl⟩, ⟨rfl, rfl, rfl⟩⟩ := hcs'
  exact nf_eq_Z _ _ _ _ _ _ _ _ _ _ _ _ _ _ _ _ _ _ _ _ _ _ _ _ _ _ _ _ _ _ _ _ _ _ _ _ _  h1 h2 h3 h4 h5 k1 k2 k3 k4 k5 hn
end Go.Proofs.YtacgcagpaecncaaGreat
namespace Go.Proofs.YtacgcagpaecncaaGreat
open Go.RowKit Go.Sort
set_option maxHeartbeats 4000000
set_option maxRecDepth 100000
set_option linter.unusedVariables false
set_option linter.unusedSimpArgs false
set_option synthInstance.maxSize 2000
set_option synthInstance.maxHeartbeats 400000
theorem impl_LinearKind (k : Int) (w : World) : Calls Tryz.prog 36 #[.int .i64 k] w fun e w' => e = .returned (.bool (M.lin k)) ∧ Below w.heap.size w w' := by
  cases h : M.inn k 1 17
  · have R := Lib.hid (show M.lin k = false by rw [M.lin, h]; rfl)
    have HI := Lib.hid h
    clear h
    go_enter Tryz.func36, Tryz.ntmps36
    go_wp2_with (go_at_call 75; refine (impl_isKind _ _).mono ?_; rw [HI.out]; rintro e w' ⟨rfl, rfl⟩)
    go_ret
    exact ⟨ret_bool (by rw [R.out]), Below.refl _ _⟩
  · have hr := M.inn_iff.1 h
    obtain ⟨j, hj⟩ : ∃ j : Nat, j = k.toNat - 1 := ⟨_, rfl⟩
    have hj17 : j < 17 := by omega
    have hja : IntKind.i64.wrap (k - 1) = (j : Int) := by rw [IntWalk.i64_in _ (by omega)]; omega
    have hj0 : (0 : Int) ≤ (j : Int) := by omega
    have hj1 : (j : Int) < 17 := by omega
    have R := Lib.hid (show M.lin k = (M.kd j).2.2.2.1 by rw [M.lin, h, ← hj]; rfl)
    have HI := Lib.hid h
    clear hj h
    go_enter Tryz.func36, Tryz.ntmps36
    go_wp2_with (first
      | (go_at_call 75; refine (impl_isKind _ _).mono ?_; rw [HI.out]; rintro e w' ⟨rfl, rfl⟩)
      | (go_at_call 76; refine (impl_kinds _).mono ?_; rintro e w2 ⟨g, rfl, hg0, hg1, KC, bel2⟩; obtain ⟨k0, k1, k2, k3, k4, k5⟩ := KC j hj17; clear k0 k1 k2 k3 k5 KC))
    go_ret
    exact ⟨ret_bool (by rw [R.out]), bel2⟩
theorem spec_l27Linear (b o : Nat) (A2 : Option Addr) (n2 c2 : Nat) (x2 : List Node) (w : World) (p2 : w.cell? ⟨b, o + 2, none⟩ = some (.slice A2 n2 c2)) (h2 : tNS.R w w.heap.size [.slice A2 n2 c2] x2) (hb2 : hNS.sz x2 ≤ 100000000) :
    Calls Tryz.prog 35 #[.pointer (some ⟨b, o, none⟩)] w fun e w' => e = .returned (.bool (x2.all fun x => M.lin x.1)) ∧ Below w.heap.size w w' := by
  have lx : b < w.heap.size := World.block_lt_of_cell? w _ p2
  have r2 := sl_R.1 h2
  have L2 := Lib.hid r2.cap.1
  have bn2 : n2 ≤ 100000000 := by have e : x2.length + hN.szL x2 = hNS.sz x2 := rfl; have := L2.out; omega
  obtain ⟨ok, hok⟩ : ∃ ok, ok = x2.all fun x => M.lin x.1 := ⟨_, rfl⟩
  have HS := Lib.hid hok
  rw [← hok]
  clear hok
  go_enter Tryz.func35, Tryz.ntmps35
  go_wp2_with fail
  go_loopw [3] (fun i wr => ∃ k : Nat, i = .int .i64 k ∧ k ≤ n2 ∧ Hid (ok = (x2.drop k).all fun x => M.lin x.1) ∧ Below w.heap.size w wr) (fun i _ => n2 - (intOf i).toNat)
  case atStart => exact ⟨0, rfl, by omega, Lib.hid HS.out, Below.refl _ _⟩
  case round =>
    obtain ⟨k, rfl, hk, H, Bw⟩ := hrel
    have q2 : wr.cell? ⟨b, o + 2, none⟩ = some (.slice A2 n2 c2) := by rw [Bw.cell lx]; exact p2
    by_cases hlt : k < n2
    · obtain ⟨bb, o1, b0, b1, b2, A5, c5, y3, rfl, hbb, X, e0, e1, e2, e3, hr3, h3b⟩ := node_cell (r2.below Bw) hb2 hlt
      have hd := Lib.hid (M.drop_at X.out)
      have hk0 : (0 : Int) ≤ (k : Int) := by omega
      have hkn : (k : Int) < (n2 : Int) := by omega
      cases hl : M.lin b0
      · have R := Lib.hid (show ok = false by rw [H.out, hd.out, List.all_cons, hl]; rfl)
        have HL := Lib.hid (show M.linS b0 = false by rw [M.lin_eq, hl])
        clear hl
        go_wp2_with (go_at_call 74; refine (spec_l06Linear _ _).mono ?_; rw [HL.out]; rintro e w2 ⟨rfl, bel2⟩)
        go_ret
        exact ⟨ret_bool (by rw [R.out]), bel_trans Bw bel2⟩
      · have R := Lib.hid (show ok = (x2.drop (k + 1)).all fun x => M.lin x.1 by rw [H.out, hd.out, List.all_cons, hl]; rfl)
        have HL := Lib.hid (show M.linS b0 = true by rw [M.lin_eq, hl])
        clear hl
        go_wp2_with (go_at_call 74; refine (spec_l06Linear _ _).mono ?_; rw [HL.out]; rintro e w2 ⟨rfl, bel2⟩)
        go_roundw
        case rel => exact ⟨k + 1, by go_num, by omega, R, bel_trans Bw bel2⟩
        case measure => simp [intOf]; omega
    · have R := Lib.hid (show ok = true by rw [H.out, List.drop_eq_nil_of_le (by rw [L2.out]; omega)]; rfl)
      go_wp2
      go_ret
      exact ⟨ret_bool (by rw [R.out]), Bw⟩
theorem impl_ValidSession (a0 : Int) (A1 : Option Addr) (n1 c1 : Nat) (A2 : Option Addr) (n2 c2 : Nat) (A3 : Option Addr) (n3 c3 : Nat) (A4 : Option Addr) (n4 c4 : Nat) (A5 : Option Addr) (n5 c5 : Nat) (x1 : List (List Int)) (x2 : List (List Clip_)) (x3 : List Int) (x4 : List Patch) (x5 : List Strip) (w : World) (h1 : tSS.R w w.heap.size [.slice A1 n1 c1] x1) (h2 : tTS.R w w.heap.size [.slice A2 n2 c2] x2) (h3 : tS.R w w.heap.size [.slice A3 n3 c3] x3) (h4 : tPS.R w w.heap.size [.slice A4 n4 c4] x4) (h5 : tM.R w w.heap.size [.slice A5 n5 c5] x5) (hn : hZ.sz ((a0, x1, x2, x3, x4, x5) : Sess) ≤ 100000000) :
    Calls Tryz.prog 9 #[.agg #[.int .i64 a0, .slice A1 n1 c1, .slice A2 n2 c2, .slice A3 n3 c3, .slice A4 n4 c4, .slice A5 n5 c5]] w fun e w' => e = .returned (.bool (M.sessOk (a0, x1, x2, x3, x4, x5))) ∧ Below w.heap.size w w' := by
  obtain ⟨W, hW⟩ : ∃ W, W = w.alloc (.cells #[.int .i64 a0, .slice A1 n1 c1, .slice A2 n2 c2, .slice A3 n3 c3, .slice A4 n4 c4, .slice A5 n5 c5] 39) := ⟨_, rfl⟩
  have B0 : Below w.heap.size w W := by rw [hW]; exact (Below.refl _ _).alloc (Nat.le_refl _) _
  have p0 : W.cell? ⟨w.heap.size, 0, none⟩ = some (.int .i64 a0) := by rw [hW]; simp [go_sem]
  have p1 : W.cell? ⟨w.heap.size, 1, none⟩ = some (.slice A1 n1 c1) := by rw [hW]; simp [go_sem]
  have p2 : W.cell? ⟨w.heap.size, 2, none⟩ = some (.slice A2 n2 c2) := by rw [hW]; simp [go_sem]
  have p3 : W.cell? ⟨w.heap.size, 3, none⟩ = some (.slice A3 n3 c3) := by rw [hW]; simp [go_sem]
  have p4 : W.cell? ⟨w.heap.size, 4, none⟩ = some (.slice A4 n4 c4) := by rw [hW]; simp [go_sem]
  have p5 : W.cell? ⟨w.heap.size, 5, none⟩ = some (.slice A5 n5 c5) := by rw [hW]; simp [go_sem]
  have lx : w.heap.size < W.heap.size := by rw [hW]; simp
  have HW := Lib.hid hW
  clear hW
  have k1 := tSS.later h1 B0
  have k2 := tTS.later h2 B0
  have k3 := tS.later h3 B0
  have k4 := tPS.later h4 B0
  have k5 := tM.later h5 B0
  go_enter Tryz.func9, Tryz.ntmps9
  go_wp2_with fail
  rw [← HW.out]
  refine (impl_isSession _ _ _ _ _ _ _ _ _ _ _ _ _ _ _ _ _ _ _ _ _ W k1 k2 k3 k4 k5 hn).mono ?_
  rintro e w2 ⟨rfl, bel2⟩
  go_wp2
  go_ret
  exact ⟨rfl, bel_trans B0 bel2⟩
theorem spec_ValidSession (a0 : Int) (A1 : Option Addr) (n1 c1 : Nat) (A2 : Option Addr) (n2 c2 : Nat) (A3 : Option Addr) (n3 c3 : Nat) (A4 : Option Addr) (n4 c4 : Nat) (A5 : Option Addr) (n5 c5 : Nat) (x1 : List (List Int)) (x2 : List (List Clip_)) (x3 : List Int) (x4 : List Patch) (x5 : List Strip) (w : World) (h1 : tSS.R w w.heap.size [.slice A1 n1 c1] x1) (h2 : tTS.R w w.heap.size [.slice A2 n2 c2] x2) (h3 : tS.R w w.heap.size [.slice A3 n3 c3] x3) (h4 : tPS.R w w.heap.size [.slice A4 n4 c4] x4) (h5 : tM.R w w.heap.size [.slice A5 n5 c5] x5) (hn : hZ.sz ((a0, x1, x2, x3, x4, x5) : Sess) ≤ 100000000) :
    Calls Tryz.prog 7 #[.agg #[.int .i64 a0, .slice A1 n1 c1, .slice A2 n2 c2, .slice A3 n3 c3, .slice A4 n4 c4, .slice A5 n5 c5]] w fun e w' => e = .returned (.bool (M.sessOk (a0, x1, x2, x3, x4, x5))) ∧ Below w.heap.size w w' := by
  obtain ⟨W, hW⟩ : ∃ W, W = w.alloc (.cells #[.int .i64 a0, .slice A1 n1 c1, .slice A2 n2 c2, .slice A3 n3 c3, .slice A4 n4 c4, .slice A5 n5 c5] 39) := ⟨_, rfl⟩
  have B0 : Below w.heap.size w W := by rw [hW]; exact (Below.refl _ _).alloc (Nat.le_refl _) _
  have p0 : W.cell? ⟨w.heap.size, 0, none⟩ = some (.int .i64 a0) := by rw [hW]; simp [go_sem]
  have p1 : W.cell? ⟨w.heap.size, 1, none⟩ = some (.slice A1 n1 c1) := by rw [hW]; simp [go_sem]
  have p2 : W.cell? ⟨w.heap.size, 2, none⟩ = some (.slice A2 n2 c2) := by rw [hW]; simp [go_sem]
  have p3 : W.cell? ⟨w.heap.size, 3, none⟩ = some (.slice A3 n3 c3) := by rw [hW]; simp [go_sem]
  have p4 : W.cell? ⟨w.heap.size, 4, none⟩ = some (.slice A4 n4 c4) := by rw [hW]; simp [go_sem]
  have p5 : W.cell? ⟨w.heap.size, 5, none⟩ = some (.slice A5 n5 c5) := by rw [hW]; simp [go_sem]
  have lx : w.heap.size < W.heap.size := by rw [hW]; simp
  have HW := Lib.hid hW
  clear hW
  have k1 := tSS.later h1 B0
  have k2 := tTS.later h2 B0
  have k3 := tS.later h3 B0
  have k4 := tPS.later h4 B0
  have k5 := tM.later h5 B0
  go_enter Tryz.func7, Tryz.ntmps7
  go_wp2_with fail
  rw [← HW.out]
  refine (spec_l27Ok _ _ _ _ _ _ _ _ _ _ _ _ _ _ _ _ _ _ _ _ _ _ W p0 p1 p2 p3 p4 p5 k1 k2 k3 k4 k5 hn).mono ?_
  rintro e w2 ⟨rfl, bel2⟩
  go_wp2
  go_ret
  exact ⟨rfl, bel_trans B0 bel2⟩
theorem impl_IsLinearSession (a0 : Int) (A1 : Option Addr) (n1 c1 : Nat) (A2 : Option Addr) (n2 c2 : Nat) (A3 : Option Addr) (n3 c3 : Nat) (A4 : Option Addr) (n4 c4 : Nat) (A5 : Option Addr) (n5 c5 : Nat) (x1 : List (List Int)) (x2 : List (List Clip_)) (x3 : List Int) (x4 : List Patch) (x5 : List Strip) (w : World) (h1 : tSS.R w w.heap.size [.slice A1 n1 c1] x1) (h2 : tTS.R w w.heap.size [.slice A2 n2 c2] x2) (h3 : tS.R w w.heap.size [.slice A3 n3 c3] x3) (h4 : tPS.R w w.heap.size [.slice A4 n4 c4] x4) (h5 : tM.R w w.heap.size [.slice A5 n5 c5] x5) (hn : hZ.sz ((a0, x1, x2, x3, x4, x5) : Sess) ≤ 100000000) :
    Calls Tryz.prog 12 #[.agg #[.int .i64 a0, .slice A1 n1 c1, .slice A2 n2 c2, .slice A3 n3 c3, .slice A4 n4 c4, .slice A5 n5 c5]] w fun e w' => e = .returned (.bool (M.linSess (a0, x1, x2, x3, x4, x5))) ∧ Below w.heap.size w w' := by
  obtain ⟨W, hW⟩ : ∃ W, W = w.alloc (.cells #[.int .i64 a0, .slice A1 n1 c1, .slice A2 n2 c2, .slice A3 n3 c3, .slice A4 n4 c4, .slice A5 n5 c5] 39) := ⟨_, rfl⟩
  have B0 : Below w.heap.size w W := by rw [hW]; exact (Below.refl _ _).alloc (Nat.le_refl _) _
  have p0 : W.cell? ⟨w.heap.size, 0, none⟩ = some (.int .i64 a0) := by rw [hW]; simp [go_sem]
  have p1 : W.cell? ⟨w.heap.size, 1, none⟩ = some (.slice A1 n1 c1) := by rw [hW]; simp [go_sem]
  have p2 : W.cell? ⟨w.heap.size, 2, none⟩ = some (.slice A2 n2 c2) := by rw [hW]; simp [go_sem]
  have p3 : W.cell? ⟨w.heap.size, 3, none⟩ = some (.slice A3 n3 c3) := by rw [hW]; simp [go_sem]
  have p4 : W.cell? ⟨w.heap.size, 4, none⟩ = some (.slice A4 n4 c4) := by rw [hW]; simp [go_sem]
  have p5 : W.cell? ⟨w.heap.size, 5, none⟩ = some (.slice A5 n5 c5) := by rw [hW]; simp [go_sem]
  have lx : w.heap.size < W.heap.size := by rw [hW]; simp
  have HW := Lib.hid hW
  clear hW
  have k1 := tSS.later h1 B0
  have k2 := tTS.later h2 B0
  have k3 := tS.later h3 B0
  have k4 := tPS.later h4 B0
  have k5 := tM.later h5 B0
  have r4 := sl_R.1 k4
  have L4 := Lib.hid r4.cap.1
  have z4 : hPS.sz x4 ≤ 100000000 := by rw [hZ_sz] at hn; omega
  have bn4 : n4 ≤ 100000000 := by have e : x4.length + hP.szL x4 = hPS.sz x4 := rfl; have := L4.out; omega
  have HS := Lib.hid (show M.linSess (a0, x1, x2, x3, x4, x5) = (M.sessOk (a0, x1, x2, x3, x4, x5) && x4.all fun p => p.2.2.1.all fun x => M.lin x.1) by rw [M.linSess])
  obtain ⟨ok, hok⟩ : ∃ ok, ok = M.linSess (a0, x1, x2, x3, x4, x5) := ⟨_, rfl⟩
  rw [← hok] at HS ⊢
  clear hok
  cases hs : M.sessOk (a0, x1, x2, x3, x4, x5)
  · have R := Lib.hid (show ok = false by rw [HS.out, hs]; rfl)
    have HK := Lib.hid hs
    clear hs
    go_enter Tryz.func12, Tryz.ntmps12
    go_wp2_with fail
    rw [← HW.out]
    refine (impl_isSession _ _ _ _ _ _ _ _ _ _ _ _ _ _ _ _ _ _ _ _ _ W k1 k2 k3 k4 k5 hn).mono ?_
    rw [HK.out]
    rintro e w2 ⟨rfl, bel2⟩
    go_wp2
    go_ret
    exact ⟨ret_bool (by rw [R.out]), bel_trans B0 bel2⟩
  have HS2 := Lib.hid (show ok = (x4.all fun p => p.2.2.1.all fun x => M.lin x.1) by rw [HS.out, hs]; rfl)
  have HK := Lib.hid hs
  clear hs HS
  go_enter Tryz.func12, Tryz.ntmps12
  go_wp2_with fail
  rw [← HW.out]
  refine (impl_isSession _ _ _ _ _ _ _ _ _ _ _ _ _ _ _ _ _ _ _ _ _ W k1 k2 k3 k4 k5 hn).mono ?_
  rw [HK.out]
  rintro e w2 ⟨rfl, bel2⟩
  have q4 : w2.cell? ⟨w.heap.size, 4, none⟩ = some (.slice A4 n4 c4) := by rw [bel2.cell lx]; exact p4
  have B2 := bel_trans B0 bel2
  have lV : w.heap.size < w2.heap.size := by have := bel2.size; omega
  replace r4 := r4.later bel2
  clear p0 p1 p2 p3 p4 p5 k1 k2 k3 k4 k5
  go_wp2_with fail
  go_loopw [13] (fun i wr => ∃ k : Nat, i = .int .i64 k ∧ k ≤ n4 ∧ Hid (ok = ((x4.drop k).all fun p => p.2.2.1.all fun x => M.lin x.1)) ∧ Below w2.heap.size w2 wr) (fun i _ => n4 - (intOf i).toNat)
  case atStart => exact ⟨0, rfl, by omega, Lib.hid HS2.out, Below.refl _ _⟩
  case round =>
    obtain ⟨k, rfl, hk, H, Bw⟩ := hrel
    have BW := bel_trans B2 Bw
    by_cases hlt : k < n4
    · obtain ⟨bp, op, b0, B1, m1, d1, B2', m2, d2, B3, m3, d3, y1, y2, y3, rfl, hbp, Y, e0, e1, e2, e3, t1, t2, t3, hz⟩ := patch_cell (r4.below Bw) z4 hlt
      have hd := Lib.hid (M.drop_at Y.out)
      have u2 : (wr.alloc (.cells #[.int .i64 b0, .slice B1 m1 d1, .slice B2' m2 d2, .slice B3 m3 d3] 68)).cell? ⟨wr.heap.size, 2, none⟩ = some (.slice B2' m2 d2) := by rw [cell_of_row _ wr.heap.size 2 _ 68 (0, 0) (heap_alloc_new wr _)]; rfl
      have GU : Below wr.heap.size wr (wr.alloc (.cells #[.int .i64 b0, .slice B1 m1 d1, .slice B2' m2 d2, .slice B3 m3 d3] 68)) := (Below.refl _ _).alloc (Nat.le_refl _) _
      have r2 := sl_R.1 (tNS.later (tNS.more Bw.size t2) GU)
      have L2 := Lib.hid r2.cap.1
      have hb2 : hNS.sz y2 ≤ 100000000 := by rw [hP_sz] at hz; omega
      have bn2 : m2 ≤ 100000000 := by have e : y2.length + hN.szL y2 = hNS.sz y2 := rfl; have := L2.out; omega
      have hk0 : (0 : Int) ≤ (k : Int) := by omega
      have hkn : (k : Int) < (n4 : Int) := by omega
      have H0 := Lib.hid (show ok = ((y2.all fun x => M.lin x.1) && (x4.drop (k + 1)).all fun p => p.2.2.1.all fun x => M.lin x.1) by rw [H.out, hd.out, List.all_cons])
      go_wp2_with fail
      obtain ⟨wo, rfl⟩ : ∃ wo : World, wo = wr := ⟨_, rfl⟩
      generalize wo.alloc (.cells #[.int .i64 b0, .slice B1 m1 d1, .slice B2' m2 d2, .slice B3 m3 d3] 68) = U at u2 GU r2 ⊢
      go_loopw [20] (fun i wr => ∃ q : Nat, i = .int .i64 q ∧ q ≤ m2 ∧ Hid (ok = (((y2.drop q).all fun x => M.lin x.1) && (x4.drop (k + 1)).all fun p => p.2.2.1.all fun x => M.lin x.1)) ∧ Below U.heap.size U wr) (fun i _ => m2 - (intOf i).toNat)
      case atStart => exact ⟨0, rfl, by omega, Lib.hid H0.out, Below.refl _ _⟩
      case round =>
        obtain ⟨q, rfl, hq, HQ, Bu⟩ := hrel
        have BB := bel_trans GU Bu
        by_cases hlt2 : q < m2
        · obtain ⟨bb, o1, a0', a1', a2', A5', c5', y5, rfl, hbb, Z, f0, f1, f2, f3, hr3, h3b⟩ := node_cell (r2.below Bu) hb2 hlt2
          have hdq := Lib.hid (M.drop_at Z.out)
          have hq0 : (0 : Int) ≤ (q : Int) := by omega
          have hqn : (q : Int) < (m2 : Int) := by omega
          obtain ⟨V, hV⟩ : ∃ V, V = wr.alloc (.cells #[.int .i64 a0', .int .i64 a1', .int .i64 a2', .slice A5' y5.length c5'] 70) := ⟨_, rfl⟩
          have GV : Below wr.heap.size wr V := by rw [hV]; exact (Below.refl _ _).alloc (Nat.le_refl _) _
          have HV := Lib.hid hV
          clear hV
          cases hl : M.lin a0'
          · have R := Lib.hid (show ok = false by rw [HQ.out, hdq.out, List.all_cons, hl]; rfl)
            have HL := Lib.hid hl
            clear hl
            go_wp2_with (go_at_call 36; rw [← HV.out]; refine (impl_LinearKind _ _).mono ?_; rw [HL.out]; rintro e w5 ⟨rfl, bel5⟩)
            go_ret
            exact ⟨ret_bool (by rw [R.out]), bel_trans BW (bel_trans BB (bel_trans GV bel5))⟩
          · have R := Lib.hid (show ok = (((y2.drop (q + 1)).all fun x => M.lin x.1) && (x4.drop (k + 1)).all fun p => p.2.2.1.all fun x => M.lin x.1) by rw [HQ.out, hdq.out, List.all_cons, hl]; rfl)
            have HL := Lib.hid hl
            clear hl
            go_wp2_with (go_at_call 36; rw [← HV.out]; refine (impl_LinearKind _ _).mono ?_; rw [HL.out]; rintro e w5 ⟨rfl, bel5⟩)
            go_roundw
            case rel => exact ⟨q + 1, by go_num, by omega, R, bel_trans Bu (bel_trans GV bel5)⟩
            case measure => simp [intOf]; omega
        · have R := Lib.hid (show ok = ((x4.drop (k + 1)).all fun p => p.2.2.1.all fun x => M.lin x.1) by rw [HQ.out, List.drop_eq_nil_of_le (by rw [L2.out]; omega)]; rfl)
          go_wp2
          go_roundw
          case rel => exact ⟨k + 1, by go_num, by omega, R, bel_trans Bw BB⟩
          case measure => simp [intOf]; omega
    · have R := Lib.hid (show ok = true by rw [H.out, List.drop_eq_nil_of_le (by rw [L4.out]; omega)]; rfl)
      go_wp2
      go_ret
      exact ⟨ret_bool (by rw [R.out]), BW⟩
theorem spec_IsLinearSession (a0 : Int) (A1 : Option Addr) (n1 c1 : Nat) (A2 : Option Addr) (n2 c2 : Nat) (A3 : Option Addr) (n3 c3 : Nat) (A4 : Option Addr) (n4 c4 : Nat) (A5 : Option Addr) (n5 c5 : Nat) (x1 : List (List Int)) (x2 : List (List Clip_)) (x3 : List Int) (x4 : List Patch) (x5 : List Strip) (w : World) (h1 : tSS.R w w.heap.size [.slice A1 n1 c1] x1) (h2 : tTS.R w w.heap.size [.slice A2 n2 c2] x2) (h3 : tS.R w w.heap.size [.slice A3 n3 c3] x3) (h4 : tPS.R w w.heap.size [.slice A4 n4 c4] x4) (h5 : tM.R w w.heap.size [.slice A5 n5 c5] x5) (hn : hZ.sz ((a0, x1, x2, x3, x4, x5) : Sess) ≤ 100000000) :
    Calls Tryz.prog 11 #[.agg #[.int .i64 a0, .slice A1 n1 c1, .slice A2 n2 c2, .slice A3 n3 c3, .slice A4 n4 c4, .slice A5 n5 c5]] w fun e w' => e = .returned (.bool (M.linSess (a0, x1, x2, x3, x4, x5))) ∧ Below w.heap.size w w' := by
  obtain ⟨W, hW⟩ : ∃ W, W = w.alloc (.cells #[.int .i64 a0, .slice A1 n1 c1, .slice A2 n2 c2, .slice A3 n3 c3, .slice A4 n4 c4, .slice A5 n5 c5] 39) := ⟨_, rfl⟩
  have B0 : Below w.heap.size w W := by rw [hW]; exact (Below.refl _ _).alloc (Nat.le_refl _) _
  have p0 : W.cell? ⟨w.heap.size, 0, none⟩ = some (.int .i64 a0) := by rw [hW]; simp [go_sem]
  have p1 : W.cell? ⟨w.heap.size, 1, none⟩ = some (.slice A1 n1 c1) := by rw [hW]; simp [go_sem]
  have p2 : W.cell? ⟨w.heap.size, 2, none⟩ = some (.slice A2 n2 c2) := by rw [hW]; simp [go_sem]
  have p3 : W.cell? ⟨w.heap.size, 3, none⟩ = some (.slice A3 n3 c3) := by rw [hW]; simp [go_sem]
  have p4 : W.cell? ⟨w.heap.size, 4, none⟩ = some (.slice A4 n4 c4) := by rw [hW]; simp [go_sem]
  have p5 : W.cell? ⟨w.heap.size, 5, none⟩ = some (.slice A5 n5 c5) := by rw [hW]; simp [go_sem]
  have lx : w.heap.size < W.heap.size := by rw [hW]; simp
  have HW := Lib.hid hW
  clear hW
  have k1 := tSS.later h1 B0
  have k2 := tTS.later h2 B0
  have k3 := tS.later h3 B0
  have k4 := tPS.later h4 B0
  have k5 := tM.later h5 B0
  have r4 := sl_R.1 k4
  have L4 := Lib.hid r4.cap.1
  have z4 : hPS.sz x4 ≤ 100000000 := by rw [hZ_sz] at hn; omega
  have bn4 : n4 ≤ 100000000 := by have e : x4.length + hP.szL x4 = hPS.sz x4 := rfl; have := L4.out; omega
  have HS := Lib.hid (show M.linSess (a0, x1, x2, x3, x4, x5) = (M.sessOk (a0, x1, x2, x3, x4, x5) && x4.all fun p => p.2.2.1.all fun x => M.lin x.1) by rw [M.linSess])
  obtain ⟨ok, hok⟩ : ∃ ok, ok = M.linSess (a0, x1, x2, x3, x4, x5) := ⟨_, rfl⟩
  rw [← hok] at HS ⊢
  clear hok
  cases hs : M.sessOk (a0, x1, x2, x3, x4, x5)
  · have R := Lib.hid (show ok = false by rw [HS.out, hs]; rfl)
    have HK := Lib.hid hs
    clear hs
    go_enter Tryz.func11, Tryz.ntmps11
    go_wp2_with fail
    rw [← HW.out]
    refine (spec_l27Ok _ _ _ _ _ _ _ _ _ _ _ _ _ _ _ _ _ _ _ _ _ _ W p0 p1 p2 p3 p4 p5 k1 k2 k3 k4 k5 hn).mono ?_
    rw [HK.out]
    rintro e w2 ⟨rfl, bel2⟩
    go_wp2
    go_ret
    exact ⟨ret_bool (by rw [R.out]), bel_trans B0 bel2⟩
  have HS2 := Lib.hid (show ok = (x4.all fun p => p.2.2.1.all fun x => M.lin x.1) by rw [HS.out, hs]; rfl)
  have HK := Lib.hid hs
  clear hs HS
  go_enter Tryz.func11, Tryz.ntmps11
  go_wp2_with fail
  rw [← HW.out]
  refine (spec_l27Ok _ _ _ _ _ _ _ _ _ _ _ _ _ _ _ _ _ _ _ _ _ _ W p0 p1 p2 p3 p4 p5 k1 k2 k3 k4 k5 hn).mono ?_
  rw [HK.out]
  rintro e w2 ⟨rfl, bel2⟩
  have q4 : w2.cell? ⟨w.heap.size, 4, none⟩ = some (.slice A4 n4 c4) := by rw [bel2.cell lx]; exact p4
  have B2 := bel_trans B0 bel2
  have lV : w.heap.size < w2.heap.size := by have := bel2.size; omega
  replace r4 := r4.later bel2
  clear p0 p1 p2 p3 p4 p5 k1 k2 k3 k4 k5
  go_wp2_with fail
  go_loopw [3] (fun i wr => ∃ k : Nat, i = .int .i64 k ∧ k ≤ n4 ∧ Hid (ok = ((x4.drop k).all fun p => p.2.2.1.all fun x => M.lin x.1)) ∧ Below w2.heap.size w2 wr) (fun i _ => n4 - (intOf i).toNat)
  case atStart => exact ⟨0, rfl, by omega, Lib.hid HS2.out, Below.refl _ _⟩
  case round =>
    obtain ⟨k, rfl, hk, H, Bw⟩ := hrel
    have BW := bel_trans B2 Bw
    have s4 : wr.cell? ⟨w.heap.size, 4, none⟩ = some (.slice A4 n4 c4) := by rw [Bw.cell lV]; exact q4
    by_cases hlt : k < n4
    · obtain ⟨bp, op, b0, B1, m1, d1, B2', m2, d2, B3, m3, d3, y1, y2, y3, rfl, hbp, Y, e0, e1, e2, e3, t1, t2, t3, hz⟩ := patch_cell (r4.below Bw) z4 hlt
      have hd := Lib.hid (M.drop_at Y.out)
      have hb2 : hNS.sz y2 ≤ 100000000 := by rw [hP_sz] at hz; omega
      have s2 := tNS.more Bw.size t2
      have hk0 : (0 : Int) ≤ (k : Int) := by omega
      have hkn : (k : Int) < (n4 : Int) := by omega
      cases hl : (y2.all fun x => M.lin x.1)
      · have R := Lib.hid (show ok = false by rw [H.out, hd.out, List.all_cons]; simp only [hl, Bool.false_and])
        have HL := Lib.hid hl
        clear hl
        go_wp2_with (go_at_call 35; refine (spec_l27Linear bp (op + k * 4) B2' m2 d2 y2 wr e2 s2 hb2).mono ?_; rw [HL.out]; rintro e w5 ⟨rfl, bel5⟩)
        go_ret
        exact ⟨ret_bool (by rw [R.out]), bel_trans BW bel5⟩
      · have R := Lib.hid (show ok = ((x4.drop (k + 1)).all fun p => p.2.2.1.all fun x => M.lin x.1) by rw [H.out, hd.out, List.all_cons]; simp only [hl, Bool.true_and])
        have HL := Lib.hid hl
        clear hl
        go_wp2_with (go_at_call 35; refine (spec_l27Linear bp (op + k * 4) B2' m2 d2 y2 wr e2 s2 hb2).mono ?_; rw [HL.out]; rintro e w5 ⟨rfl, bel5⟩)
        go_roundw
        case rel => exact ⟨k + 1, by go_num, by omega, R, bel_trans Bw bel5⟩
        case measure => simp [intOf]; omega
    · have R := Lib.hid (show ok = true by rw [H.out, List.drop_eq_nil_of_le (by rw [L4.out]; omega)]; rfl)
      go_wp2
      go_ret
      exact ⟨ret_bool (by rw [R.out]), BW⟩
theorem impl_ValidSession_Y (p : Int) (A : Option Addr) (n c : Nat) (Ab : Option Addr) (nb cb : Nat) (Ac : Option Addr) (nc cc : Nat) (Ad : Option Addr) (nd cd : Nat) (Ae : Option Addr) (ne ce : Nat) (x : Sess) (w : World) (hx : tZ.R w w.heap.size [.int .i64 p, .slice A n c, .slice Ab nb cb, .slice Ac nc cc, .slice Ad nd cd, .slice Ae ne ce] x) (hn : hZ.sz x ≤ 100000000) :
    Calls Tryz.prog 9 #[.agg #[.int .i64 p, .slice A n c, .slice Ab nb cb, .slice Ac nc cc, .slice Ad nd cd, .slice Ae ne ce]] w fun e w' => e = .returned (.bool (M.sessOk x)) ∧ Below w.heap.size w w' := by
  obtain ⟨a0, x1, x2, x3, x4, x5⟩ := x
  obtain ⟨A1, n1, c1, A2, n2, c2, A3, n3, c3, A4, n4, c4, A5, n5, c5, hcs, h1, h2, h3, h4, h5⟩ := tZ_R.1 hx
  simp only [List.cons.injEq, Value.int.injEq, Value.slice.injEq, true_and, and_true] at hcs
  obtain ⟨rfl, ⟨rfl, rfl, rfl⟩, ⟨rfl, rfl, rfl⟩, ⟨rfl, rfl, rfl⟩, ⟨rfl, rfl, rfl⟩, ⟨rfl, rfl, rfl⟩⟩ := hcs
  exact impl_ValidSession _ _ _ _ _ _ _ _ _ _ _ _ _ _ _ _ _ _ _ _ _ _  h1 h2 h3 h4 h5 hn
theorem spec_ValidSession_Y (p : Int) (A : Option Addr) (n c : Nat) (Ab : Option Addr) (nb cb : Nat) (Ac : Option Addr) (nc cc : Nat) (Ad : Option Addr) (nd cd : Nat) (Ae : Option Addr) (ne ce : Nat) (x : Sess) (w : World) (hx : tZ.R w w.heap.size [.int .i64 p, .slice A n c, .slice Ab nb cb, .slice Ac nc cc, .slice Ad nd cd, .slice Ae ne ce] x) (hn : hZ.sz x ≤ 100000000) :
    Calls Tryz.prog 7 #[.agg #[.int .i64 p, .slice A n c, .slice Ab nb cb, .slice Ac nc cc, .slice Ad nd cd, .slice Ae ne ce]] w fun e w' => e = .returned (.bool (M.sessOk x)) ∧ Below w.heap.size w w' := by
  obtain ⟨a0, x1, x2, x3, x4, x5⟩ := x
  obtain ⟨A1, n1, c1, A2, n2, c2, A3, n3, c3, A4, n4, c4, A5, n5, c5, hcs, h1, h2, h3, h4, h5⟩ := tZ_R.1 hx
  simp only [List.cons.injEq, Value.int.injEq, Value.slice.injEq, true_and, and_true] at hcs
  obtain ⟨rfl, ⟨rfl, rfl, rfl⟩, ⟨rfl, rfl, rfl⟩, ⟨rfl, rfl, rfl⟩, ⟨rfl, rfl, rfl⟩, ⟨rfl, rfl, rfl⟩⟩ := hcs
  exact spec_ValidSession _ _ _ _ _ _ _ _ _ _ _ _ _ _ _ _ _ _ _ _ _ _  h1 h2 h3 h4 h5 hn
theorem impl_IsLinearSession_Y (p : Int) (A : Option Addr) (n c : Nat) (Ab : Option Addr) (nb cb : Nat) (Ac : Option Addr) (nc cc : Nat) (Ad : Option Addr) (nd cd : Nat) (Ae : Option Addr) (ne ce : Nat) (x : Sess) (w : World) (hx : tZ.R w w.heap.size [.int .i64 p, .slice A n c, .slice Ab nb cb, .slice Ac nc cc, .slice Ad nd cd, .slice Ae ne ce] x) (hn : hZ.sz x ≤ 100000000) :
    Calls Tryz.prog 12 #[.agg #[.int .i64 p, .slice A n c, .slice Ab nb cb, .slice Ac nc cc, .slice Ad nd cd, .slice Ae ne ce]] w fun e w' => e = .returned (.bool (M.linSess x)) ∧ Below w.heap.size w w' := by
  obtain ⟨a0, x1, x2, x3, x4, x5⟩ := x
  obtain ⟨A1, n1, c1, A2, n2, c2, A3, n3, c3, A4, n4, c4, A5, n5, c5, hcs, h1, h2, h3, h4, h5⟩ := tZ_R.1 hx
  simp only [List.cons.injEq, Value.int.injEq, Value.slice.injEq, true_and, and_true] at hcs
  obtain ⟨rfl, ⟨rfl, rfl, rfl⟩, ⟨rfl, rfl, rfl⟩, ⟨rfl, rfl, rfl⟩, ⟨rfl, rfl, rfl⟩, ⟨rfl, rfl, rfl⟩⟩ := hcs
  exact impl_IsLinearSession _ _ _ _ _ _ _ _ _ _ _ _ _ _ _ _ _ _ _ _ _ _  h1 h2 h3 h4 h5 hn
theorem spec_IsLinearSession_Y (p : Int) (A : Option Addr) (n c : Nat) (Ab : Option Addr) (nb cb : Nat) (Ac : Option Addr) (nc cc : Nat) (Ad : Option Addr) (nd cd : Nat) (Ae : Option Addr) (ne ce : Nat) (x : Sess) (w : World) (hx : tZ.R w w.heap.size [.int .i64 p, .slice A n c, .slice Ab nb cb, .slice Ac nc cc, .slice Ad nd cd, .slice Ae ne ce] x) (hn : hZ.sz x ≤ 100000000) :
    Calls Tryz.prog 11 #[.agg #[.int .i64 p, .slice A n c, .slice Ab nb cb, .slice Ac nc cc, .slice Ad nd cd, .slice Ae ne ce]] w fun e w' => e = .returned (.bool (M.linSess x)) ∧ Below w.heap.size w w' := by
  obtain ⟨a0, x1, x2, x3, x4, x5⟩ := x
  obtain ⟨A1, n1, c1, A2, n2, c2, A3, n3, c3, A4, n4, c4, A5, n5, c5, hcs, h1, h2, h3, h4, h5⟩ := tZ_R.1 hx
  simp only [List.cons.injEq, Value.int.injEq, Value.slice.injEq, true_and, and_true] at hcs
  obtain ⟨rfl, ⟨rfl, rfl, rfl⟩, ⟨rfl, rfl, rfl⟩, ⟨rfl, rfl, rfl⟩, ⟨rfl, rfl, rfl⟩, ⟨rfl, rfl, rfl⟩⟩ := hcs
  exact spec_IsLinearSession _ _ _ _ _ _ _ _ _ _ _ _ _ _ _ _ _ _ _ _ _ _  h1 h2 h3 h4 h5 hn
theorem cl_of {α : Type} {h : Hs α} (hx : ∀ x, h.cnt x ≤ 10 * h.sz x + 10) (xs : List α) : h.cntL xs ≤ 10 * (xs.length + h.szL xs) := by
  induction xs with
  | nil => simp [Hs.cntL]
  | cons y ys ih =>
    rw [Hs.cntL, Hs.szL, List.length_cons]
    have := hx y
    omega
theorem cl_Y (x : Sess) : hZ.cnt x ≤ 10 * hZ.sz x + 10 := by
  obtain ⟨a0, x1, x2, x3, x4, x5⟩ := x
  rw [hZ_cnt, hZ_sz]
  have cS : ∀ x : List Int, hS.cnt x ≤ 10 * hS.sz x + 10 := fun x => by rw [hS_cnt, hS_sz]; omega
  have c1 : hSS.cnt x1 ≤ 10 * hSS.sz x1 := cl_of cS x1
  have cT : ∀ x : List Clip_, hT.cnt x ≤ 10 * hT.sz x + 10 := cl_T
  have c2 : hTS.cnt x2 ≤ 10 * hTS.sz x2 := cl_of cT x2
  have cN : ∀ x : Node, hN.cnt x ≤ 10 * hN.sz x + 10 := fun x => by
    obtain ⟨k, a, b, l⟩ := x
    rw [hN_cnt, hN_sz, hS_cnt, hS_sz]
    omega
  have cNS : ∀ x : List Node, hNS.cnt x ≤ 10 * hNS.sz x := cl_of cN
  have cP : ∀ x : Patch, hP.cnt x ≤ 10 * hP.sz x + 10 := fun x => by
    obtain ⟨k, t, n, u⟩ := x
    rw [hP_cnt, hP_sz]
    have e1 : hSS.cnt t ≤ 10 * hSS.sz t := cl_of cS t
    have e2 := cNS n
    have e3 : hS.cnt u ≤ hS.sz u := by rw [hS_cnt, hS_sz]; omega
    omega
  have c4 : hPS.cnt x4 ≤ 10 * hPS.sz x4 := cl_of cP x4
  have c3 : hS.cnt x3 ≤ hS.sz x3 := by rw [hS_cnt, hS_sz]; omega
  have c5 := cl_M x5
  omega
end Go.Proofs.YtacgcagpaecncaaGreat
namespace Go.Proofs.YtacgcagpaecncaaGreat
open Go.RowKit
set_option maxRecDepth 100000
set_option maxHeartbeats 4000000 in
theorem core_FnExactValidSession (p0 : Int) (A0 : Option Addr) (n0 : Nat) (c0 : Nat) (Ab0 : Option Addr) (nb0 : Nat) (cb0 : Nat) (Ac0 : Option Addr) (nc0 : Nat) (cc0 : Nat) (Ad0 : Option Addr) (nd0 : Nat) (cd0 : Nat) (Ae0 : Option Addr) (ne0 : Nat) (ce0 : Nat) (x0 : Sess) (z0 : Bool) (w : World)
    (hx0 : tZ.R w w.heap.size [.int .i64 p0, .slice A0 n0 c0, .slice Ab0 nb0 cb0, .slice Ac0 nc0 cc0, .slice Ad0 nd0 cd0, .slice Ae0 ne0 ce0] x0)
    (hSpec : ∀ (p0 : Int) (A0 : Option Addr) (n0 : Nat) (c0 : Nat) (Ab0 : Option Addr) (nb0 : Nat) (cb0 : Nat) (Ac0 : Option Addr) (nc0 : Nat) (cc0 : Nat) (Ad0 : Option Addr) (nd0 : Nat) (cd0 : Nat) (Ae0 : Option Addr) (ne0 : Nat) (ce0 : Nat) (w : World), tZ.R w w.heap.size [.int .i64 p0, .slice A0 n0 c0, .slice Ab0 nb0 cb0, .slice Ac0 nc0 cc0, .slice Ad0 nd0 cd0, .slice Ae0 ne0 ce0] x0 → hZ.sz x0 ≤ 1048576 → Calls Tryz.prog 7 #[.agg #[.int .i64 p0, .slice A0 n0 c0, .slice Ab0 nb0 cb0, .slice Ac0 nc0 cc0, .slice Ad0 nd0 cd0, .slice Ae0 ne0 ce0]] w fun e w' => e = .returned (.bool z0) ∧ Below w.heap.size w w')
    (hImp : ∀ (p0 : Int) (A0 : Option Addr) (n0 : Nat) (c0 : Nat) (Ab0 : Option Addr) (nb0 : Nat) (cb0 : Nat) (Ac0 : Option Addr) (nc0 : Nat) (cc0 : Nat) (Ad0 : Option Addr) (nd0 : Nat) (cd0 : Nat) (Ae0 : Option Addr) (ne0 : Nat) (ce0 : Nat) (w : World), tZ.R w w.heap.size [.int .i64 p0, .slice A0 n0 c0, .slice Ab0 nb0 cb0, .slice Ac0 nc0 cc0, .slice Ad0 nd0 cd0, .slice Ae0 ne0 ce0] x0 → hZ.sz x0 ≤ 1048576 → Calls Tryz.prog 9 #[.agg #[.int .i64 p0, .slice A0 n0 c0, .slice Ab0 nb0 cb0, .slice Ac0 nc0 cc0, .slice Ad0 nd0 cd0, .slice Ae0 ne0 ce0]] w fun e w' => e = .returned (.bool z0) ∧ Below w.heap.size w w') :
    Calls Tryz.prog 3 #[.agg #[.int .i64 p0, .slice A0 n0 c0, .slice Ab0 nb0 cb0, .slice Ac0 nc0 cc0, .slice Ad0 nd0 cd0, .slice Ae0 ne0 ce0]] w fun e w' => e = .returned (.bool true) ∧ Below w.heap.size w w' := by
  have HS := Lib.hid hSpec
  have HI := Lib.hid hImp
  clear hSpec hImp
  have B : Below w.heap.size w (w.alloc (.cells #[.int .i64 p0, .slice A0 n0 c0, .slice Ab0 nb0 cb0, .slice Ac0 nc0 cc0, .slice Ad0 nd0 cd0, .slice Ae0 ne0 ce0] 30)) := ((Below.refl _ _).alloc (by exact Nat.le_refl _) _)
  have hsize : (w.alloc (.cells #[.int .i64 p0, .slice A0 n0 c0, .slice Ab0 nb0 cb0, .slice Ac0 nc0 cc0, .slice Ad0 nd0 cd0, .slice Ae0 ne0 ce0] 30)).heap.size = w.heap.size + 1 := by simp
  have pb0_0 : (w.alloc (.cells #[.int .i64 p0, .slice A0 n0 c0, .slice Ab0 nb0 cb0, .slice Ac0 nc0 cc0, .slice Ad0 nd0 cd0, .slice Ae0 ne0 ce0] 30)).cell? ⟨w.heap.size, 0, none⟩ = some (.int .i64 p0) := by simp [go_sem]
  have pb0_1 : (w.alloc (.cells #[.int .i64 p0, .slice A0 n0 c0, .slice Ab0 nb0 cb0, .slice Ac0 nc0 cc0, .slice Ad0 nd0 cd0, .slice Ae0 ne0 ce0] 30)).cell? ⟨w.heap.size, 1, none⟩ = some (.slice A0 n0 c0) := by simp [go_sem]
  have pb0_2 : (w.alloc (.cells #[.int .i64 p0, .slice A0 n0 c0, .slice Ab0 nb0 cb0, .slice Ac0 nc0 cc0, .slice Ad0 nd0 cd0, .slice Ae0 ne0 ce0] 30)).cell? ⟨w.heap.size, 2, none⟩ = some (.slice Ab0 nb0 cb0) := by simp [go_sem]
  have pb0_3 : (w.alloc (.cells #[.int .i64 p0, .slice A0 n0 c0, .slice Ab0 nb0 cb0, .slice Ac0 nc0 cc0, .slice Ad0 nd0 cd0, .slice Ae0 ne0 ce0] 30)).cell? ⟨w.heap.size, 3, none⟩ = some (.slice Ac0 nc0 cc0) := by simp [go_sem]
  have pb0_4 : (w.alloc (.cells #[.int .i64 p0, .slice A0 n0 c0, .slice Ab0 nb0 cb0, .slice Ac0 nc0 cc0, .slice Ad0 nd0 cd0, .slice Ae0 ne0 ce0] 30)).cell? ⟨w.heap.size, 4, none⟩ = some (.slice Ad0 nd0 cd0) := by simp [go_sem]
  have pb0_5 : (w.alloc (.cells #[.int .i64 p0, .slice A0 n0 c0, .slice Ab0 nb0 cb0, .slice Ac0 nc0 cc0, .slice Ad0 nd0 cd0, .slice Ae0 ne0 ce0] 30)).cell? ⟨w.heap.size, 5, none⟩ = some (.slice Ae0 ne0 ce0) := by simp [go_sem]
  have left : ∀ (s : Nat) (l : Int), (s : Int) ≤ l → (if (s : Int) ≤ l then l - (s : Int) else -1) = l - (s : Int) := fun s l h => if_pos h
  have less : ∀ (s : Nat) (l : Int), ¬ (s : Int) ≤ l → (if (s : Int) ≤ l then l - (s : Int) else -1) = -1 := fun s l h => if_neg h
  have LEFT := Lib.hid left
  have LESS := Lib.hid less
  clear left less
  by_cases hb0 : (1048576 : Int) < (hZ.sz x0 : Int)
  · go_enter Tryz.func3, Tryz.ntmps3
    go_wp2_with fail
    refine (nf_sz_Y _ _ _ _ _ _ _ _ _ _ _ _ _ _ _ _ _ ((1048576 : Int)) _ (tZ.later hx0 B) (by omega)).mono ?_
    rw [LESS.out _ _ (by omega)]
    rintro e y0 ⟨rfl, b0⟩
    replace B := bel_trans B b0
    go_wp2_with fail
    go_ret
    exact ⟨rfl, B⟩
  have hw0 : hZ.sz x0 ≤ 1048576 := by omega
  have hd0 : decide ((1048576 : Int) - (hZ.sz x0 : Int) < 0) = false := by simp only [decide_eq_false_iff_not]; omega
  clear hsize
  go_enter Tryz.func3, Tryz.ntmps3
  go_wp2_with fail
  refine (nf_sz_Y _ _ _ _ _ _ _ _ _ _ _ _ _ _ _ _ _ ((1048576 : Int)) _ (tZ.later hx0 B) (by omega)).mono ?_
  rw [LEFT.out _ _ (by omega)]
  rintro e y0 ⟨rfl, b0⟩
  have zy0 : w.heap.size + 1 ≤ y0.heap.size := by have := b0.size; simpa using this
  replace pb0_0 : y0.cell? ⟨w.heap.size, 0, none⟩ = some (.int .i64 p0) := by rw [b0.cell (by first | omega | (simp; done) | (simp; omega))]; exact pb0_0
  replace pb0_1 : y0.cell? ⟨w.heap.size, 1, none⟩ = some (.slice A0 n0 c0) := by rw [b0.cell (by first | omega | (simp; done) | (simp; omega))]; exact pb0_1
  replace pb0_2 : y0.cell? ⟨w.heap.size, 2, none⟩ = some (.slice Ab0 nb0 cb0) := by rw [b0.cell (by first | omega | (simp; done) | (simp; omega))]; exact pb0_2
  replace pb0_3 : y0.cell? ⟨w.heap.size, 3, none⟩ = some (.slice Ac0 nc0 cc0) := by rw [b0.cell (by first | omega | (simp; done) | (simp; omega))]; exact pb0_3
  replace pb0_4 : y0.cell? ⟨w.heap.size, 4, none⟩ = some (.slice Ad0 nd0 cd0) := by rw [b0.cell (by first | omega | (simp; done) | (simp; omega))]; exact pb0_4
  replace pb0_5 : y0.cell? ⟨w.heap.size, 5, none⟩ = some (.slice Ae0 ne0 ce0) := by rw [b0.cell (by first | omega | (simp; done) | (simp; omega))]; exact pb0_5
  replace B := bel_trans B b0
  clear b0
  have lt0 : w.heap.size < y0.heap.size := by omega
  clear LEFT LESS
  go_wp2_with fail
  refine (nf_to_Y _ _ _ _ _ _ _ _ _ _ _ _ _ _ _ _ _ _ (tZ.later hx0 B) (by omega)).mono ?_
  rintro e u1 ⟨ps0, As0, ns0, cs0, Abs0, nbs0, cbs0, Acs0, ncs0, ccs0, Ads0, nds0, cds0, Aes0, nes0, ces0, rfl, s0, bb⟩
  have G := bb
  have zu1 : y0.heap.size ≤ u1.heap.size := by have := bb.size; simpa using this
  replace pb0_0 : u1.cell? ⟨w.heap.size, 0, none⟩ = some (.int .i64 p0) := by rw [G.cell (by first | omega | (simp; done) | (simp; omega))]; exact pb0_0
  replace pb0_1 : u1.cell? ⟨w.heap.size, 1, none⟩ = some (.slice A0 n0 c0) := by rw [G.cell (by first | omega | (simp; done) | (simp; omega))]; exact pb0_1
  replace pb0_2 : u1.cell? ⟨w.heap.size, 2, none⟩ = some (.slice Ab0 nb0 cb0) := by rw [G.cell (by first | omega | (simp; done) | (simp; omega))]; exact pb0_2
  replace pb0_3 : u1.cell? ⟨w.heap.size, 3, none⟩ = some (.slice Ac0 nc0 cc0) := by rw [G.cell (by first | omega | (simp; done) | (simp; omega))]; exact pb0_3
  replace pb0_4 : u1.cell? ⟨w.heap.size, 4, none⟩ = some (.slice Ad0 nd0 cd0) := by rw [G.cell (by first | omega | (simp; done) | (simp; omega))]; exact pb0_4
  replace pb0_5 : u1.cell? ⟨w.heap.size, 5, none⟩ = some (.slice Ae0 ne0 ce0) := by rw [G.cell (by first | omega | (simp; done) | (simp; omega))]; exact pb0_5
  replace s0 : tZ.O u1 (Iv (y0.heap.size) u1.heap.size) [.int .i64 ps0, .slice As0 ns0 cs0, .slice Abs0 nbs0 cbs0, .slice Acs0 ncs0 ccs0, .slice Ads0 nds0 cds0, .slice Aes0 nes0 ces0] x0 := tZ.oiv s0 (by simp) (Nat.le_refl _)
  replace B := bel_trans B G
  clear G bb
  replace lt0 : w.heap.size < u1.heap.size := by omega
  go_wp2_with fail
  refine (HS.out _ _ _ _ _ _ _ _ _ _ _ _ _ _ _ _ _ (tZ.read s0) hw0).mono ?_
  rintro e u2 ⟨rfl, bb⟩
  have G := bb
  have zu2 : u1.heap.size ≤ u2.heap.size := by have := bb.size; simpa using this
  replace pb0_0 : u2.cell? ⟨w.heap.size, 0, none⟩ = some (.int .i64 p0) := by rw [G.cell (by first | omega | (simp; done) | (simp; omega))]; exact pb0_0
  replace pb0_1 : u2.cell? ⟨w.heap.size, 1, none⟩ = some (.slice A0 n0 c0) := by rw [G.cell (by first | omega | (simp; done) | (simp; omega))]; exact pb0_1
  replace pb0_2 : u2.cell? ⟨w.heap.size, 2, none⟩ = some (.slice Ab0 nb0 cb0) := by rw [G.cell (by first | omega | (simp; done) | (simp; omega))]; exact pb0_2
  replace pb0_3 : u2.cell? ⟨w.heap.size, 3, none⟩ = some (.slice Ac0 nc0 cc0) := by rw [G.cell (by first | omega | (simp; done) | (simp; omega))]; exact pb0_3
  replace pb0_4 : u2.cell? ⟨w.heap.size, 4, none⟩ = some (.slice Ad0 nd0 cd0) := by rw [G.cell (by first | omega | (simp; done) | (simp; omega))]; exact pb0_4
  replace pb0_5 : u2.cell? ⟨w.heap.size, 5, none⟩ = some (.slice Ae0 ne0 ce0) := by rw [G.cell (by first | omega | (simp; done) | (simp; omega))]; exact pb0_5
  replace s0 := tZ.obelow s0 G (by omega)
  replace B := bel_trans B G
  clear G bb
  replace lt0 : w.heap.size < u2.heap.size := by omega
  clear s0
  go_wp2_with fail
  refine (nf_to_Y _ _ _ _ _ _ _ _ _ _ _ _ _ _ _ _ _ _ (tZ.later hx0 B) (by omega)).mono ?_
  rintro e u3 ⟨px0o, Ax0o, nx0o, cx0o, Abx0o, nbx0o, cbx0o, Acx0o, ncx0o, ccx0o, Adx0o, ndx0o, cdx0o, Aex0o, nex0o, cex0o, rfl, x0o, bb⟩
  have G := bb
  have zu3 : u2.heap.size ≤ u3.heap.size := by have := bb.size; simpa using this
  replace pb0_0 : u3.cell? ⟨w.heap.size, 0, none⟩ = some (.int .i64 p0) := by rw [G.cell (by first | omega | (simp; done) | (simp; omega))]; exact pb0_0
  replace pb0_1 : u3.cell? ⟨w.heap.size, 1, none⟩ = some (.slice A0 n0 c0) := by rw [G.cell (by first | omega | (simp; done) | (simp; omega))]; exact pb0_1
  replace pb0_2 : u3.cell? ⟨w.heap.size, 2, none⟩ = some (.slice Ab0 nb0 cb0) := by rw [G.cell (by first | omega | (simp; done) | (simp; omega))]; exact pb0_2
  replace pb0_3 : u3.cell? ⟨w.heap.size, 3, none⟩ = some (.slice Ac0 nc0 cc0) := by rw [G.cell (by first | omega | (simp; done) | (simp; omega))]; exact pb0_3
  replace pb0_4 : u3.cell? ⟨w.heap.size, 4, none⟩ = some (.slice Ad0 nd0 cd0) := by rw [G.cell (by first | omega | (simp; done) | (simp; omega))]; exact pb0_4
  replace pb0_5 : u3.cell? ⟨w.heap.size, 5, none⟩ = some (.slice Ae0 ne0 ce0) := by rw [G.cell (by first | omega | (simp; done) | (simp; omega))]; exact pb0_5
  replace x0o : tZ.O u3 (Iv (u2.heap.size) u3.heap.size) [.int .i64 px0o, .slice Ax0o nx0o cx0o, .slice Abx0o nbx0o cbx0o, .slice Acx0o ncx0o ccx0o, .slice Adx0o ndx0o cdx0o, .slice Aex0o nex0o cex0o] x0 := tZ.oiv x0o (by simp) (Nat.le_refl _)
  replace B := bel_trans B G
  clear G bb
  replace lt0 : w.heap.size < u3.heap.size := by omega
  have G0 : Below u3.heap.size u3 (u3.alloc (.cells #[.int .i64 px0o, .slice Ax0o nx0o cx0o, .slice Abx0o nbx0o cbx0o, .slice Acx0o ncx0o ccx0o, .slice Adx0o ndx0o cdx0o, .slice Aex0o nex0o cex0o] 39)) := (Below.refl _ _).alloc (Nat.le_refl _) _
  go_wp2_with fail
  refine (HI.out _ _ _ _ _ _ _ _ _ _ _ _ _ _ _ _ _ (tZ.later (tZ.read x0o) G0) hw0).mono ?_
  rintro e u4 ⟨rfl, bb⟩
  have G := bel_trans G0 bb
  have zu4 : u3.heap.size + 1 ≤ u4.heap.size := by have := bb.size; simp at this; omega
  replace pb0_0 : u4.cell? ⟨w.heap.size, 0, none⟩ = some (.int .i64 p0) := by rw [G.cell (by first | omega | (simp; done) | (simp; omega))]; exact pb0_0
  replace pb0_1 : u4.cell? ⟨w.heap.size, 1, none⟩ = some (.slice A0 n0 c0) := by rw [G.cell (by first | omega | (simp; done) | (simp; omega))]; exact pb0_1
  replace pb0_2 : u4.cell? ⟨w.heap.size, 2, none⟩ = some (.slice Ab0 nb0 cb0) := by rw [G.cell (by first | omega | (simp; done) | (simp; omega))]; exact pb0_2
  replace pb0_3 : u4.cell? ⟨w.heap.size, 3, none⟩ = some (.slice Ac0 nc0 cc0) := by rw [G.cell (by first | omega | (simp; done) | (simp; omega))]; exact pb0_3
  replace pb0_4 : u4.cell? ⟨w.heap.size, 4, none⟩ = some (.slice Ad0 nd0 cd0) := by rw [G.cell (by first | omega | (simp; done) | (simp; omega))]; exact pb0_4
  replace pb0_5 : u4.cell? ⟨w.heap.size, 5, none⟩ = some (.slice Ae0 ne0 ce0) := by rw [G.cell (by first | omega | (simp; done) | (simp; omega))]; exact pb0_5
  replace x0o := tZ.obelow x0o G (by omega)
  have xb0_0 : u4.cell? ⟨u3.heap.size, 0, none⟩ = some (.int .i64 px0o) := by rw [bb.cell (by simp)]; simp [go_sem]
  have xb0_1 : u4.cell? ⟨u3.heap.size, 1, none⟩ = some (.slice Ax0o nx0o cx0o) := by rw [bb.cell (by simp)]; simp [go_sem]
  have xb0_2 : u4.cell? ⟨u3.heap.size, 2, none⟩ = some (.slice Abx0o nbx0o cbx0o) := by rw [bb.cell (by simp)]; simp [go_sem]
  have xb0_3 : u4.cell? ⟨u3.heap.size, 3, none⟩ = some (.slice Acx0o ncx0o ccx0o) := by rw [bb.cell (by simp)]; simp [go_sem]
  have xb0_4 : u4.cell? ⟨u3.heap.size, 4, none⟩ = some (.slice Adx0o ndx0o cdx0o) := by rw [bb.cell (by simp)]; simp [go_sem]
  have xb0_5 : u4.cell? ⟨u3.heap.size, 5, none⟩ = some (.slice Aex0o nex0o cex0o) := by rw [bb.cell (by simp)]; simp [go_sem]
  replace B := bel_trans B G
  clear G bb G0
  replace lt0 : w.heap.size < u4.heap.size := by omega
  have lt1 : u3.heap.size < u4.heap.size := by omega
  go_wp2_with fail
  go_region_held3 (fun w' => Below u4.heap.size u4 w' ∧ w'.cell? ⟨w.heap.size, 0, none⟩ = some (.int .i64 p0) ∧ w'.cell? ⟨w.heap.size, 1, none⟩ = some (.slice A0 n0 c0) ∧ w'.cell? ⟨w.heap.size, 2, none⟩ = some (.slice Ab0 nb0 cb0) ∧ w'.cell? ⟨w.heap.size, 3, none⟩ = some (.slice Ac0 nc0 cc0) ∧ w'.cell? ⟨w.heap.size, 4, none⟩ = some (.slice Ad0 nd0 cd0) ∧ w'.cell? ⟨w.heap.size, 5, none⟩ = some (.slice Ae0 ne0 ce0) ∧ w'.cell? ⟨u3.heap.size, 0, none⟩ = some (.int .i64 px0o) ∧ w'.cell? ⟨u3.heap.size, 1, none⟩ = some (.slice Ax0o nx0o cx0o) ∧ w'.cell? ⟨u3.heap.size, 2, none⟩ = some (.slice Abx0o nbx0o cbx0o) ∧ w'.cell? ⟨u3.heap.size, 3, none⟩ = some (.slice Acx0o ncx0o ccx0o) ∧ w'.cell? ⟨u3.heap.size, 4, none⟩ = some (.slice Adx0o ndx0o cdx0o) ∧ w'.cell? ⟨u3.heap.size, 5, none⟩ = some (.slice Aex0o nex0o cex0o))
    (first | exact ⟨below_drewN (Below.refl _ _) _, pb0_0, pb0_1, pb0_2, pb0_3, pb0_4, pb0_5, xb0_0, xb0_1, xb0_2, xb0_3, xb0_4, xb0_5⟩ | exact ⟨gq, (by rw [gq.cell (by first | omega | (simp; done) | (simp; omega))]; exact pb0_0), (by rw [gq.cell (by first | omega | (simp; done) | (simp; omega))]; exact pb0_1), (by rw [gq.cell (by first | omega | (simp; done) | (simp; omega))]; exact pb0_2), (by rw [gq.cell (by first | omega | (simp; done) | (simp; omega))]; exact pb0_3), (by rw [gq.cell (by first | omega | (simp; done) | (simp; omega))]; exact pb0_4), (by rw [gq.cell (by first | omega | (simp; done) | (simp; omega))]; exact pb0_5), (by rw [gq.cell (by first | omega | (simp; done) | (simp; omega))]; exact xb0_0), (by rw [gq.cell (by first | omega | (simp; done) | (simp; omega))]; exact xb0_1), (by rw [gq.cell (by first | omega | (simp; done) | (simp; omega))]; exact xb0_2), (by rw [gq.cell (by first | omega | (simp; done) | (simp; omega))]; exact xb0_3), (by rw [gq.cell (by first | omega | (simp; done) | (simp; omega))]; exact xb0_4), (by rw [gq.cell (by first | omega | (simp; done) | (simp; omega))]; exact xb0_5)⟩ | exact ⟨gt, (by rw [gt.cell (by first | omega | (simp; done) | (simp; omega))]; exact pb0_0), (by rw [gt.cell (by first | omega | (simp; done) | (simp; omega))]; exact pb0_1), (by rw [gt.cell (by first | omega | (simp; done) | (simp; omega))]; exact pb0_2), (by rw [gt.cell (by first | omega | (simp; done) | (simp; omega))]; exact pb0_3), (by rw [gt.cell (by first | omega | (simp; done) | (simp; omega))]; exact pb0_4), (by rw [gt.cell (by first | omega | (simp; done) | (simp; omega))]; exact pb0_5), (by rw [gt.cell (by first | omega | (simp; done) | (simp; omega))]; exact xb0_0), (by rw [gt.cell (by first | omega | (simp; done) | (simp; omega))]; exact xb0_1), (by rw [gt.cell (by first | omega | (simp; done) | (simp; omega))]; exact xb0_2), (by rw [gt.cell (by first | omega | (simp; done) | (simp; omega))]; exact xb0_3), (by rw [gt.cell (by first | omega | (simp; done) | (simp; omega))]; exact xb0_4), (by rw [gt.cell (by first | omega | (simp; done) | (simp; omega))]; exact xb0_5)⟩)
    (first | (go_at_call 8; refine (nf_to_Y _ _ _ _ _ _ _ _ _ _ _ _ _ _ _ _ _ _ (tZ.later (tZ.later hx0 B) (below_drewN (Below.refl _ _) 1)) (by omega)).mono ?_; rintro e vt ⟨pq, Aq, nq, cq, Abq, nbq, cbq, Acq, ncq, ccq, Adq, ndq, cdq, Aeq, neq, ceq, rfl, ot, bt⟩; have gt : Below u4.heap.size u4 vt := bel_trans (below_drewN (Below.refl _ _) 1) bt) | (go_at_call 10; refine (nf_eq_Y _ _ _ _ _ _ _ _ _ _ _ _ _ _ _ _ _ _ _ _ _ _ _ _ _ _ _ _ _ _ _ _ _ _ (tZ.later (tZ.read x0o) gt) (tZ.read ot) (by omega)).mono ?_; rintro e u5 ⟨rfl, bq⟩; have gq : Below u4.heap.size u4 u5 := bel_trans gt bq))
  have zu5 : u4.heap.size ≤ u5.heap.size := gq.size
  replace pb0_0 : u5.cell? ⟨w.heap.size, 0, none⟩ = some (.int .i64 p0) := by rw [gq.cell (by first | omega | (simp; done) | (simp; omega))]; exact pb0_0
  replace pb0_1 : u5.cell? ⟨w.heap.size, 1, none⟩ = some (.slice A0 n0 c0) := by rw [gq.cell (by first | omega | (simp; done) | (simp; omega))]; exact pb0_1
  replace pb0_2 : u5.cell? ⟨w.heap.size, 2, none⟩ = some (.slice Ab0 nb0 cb0) := by rw [gq.cell (by first | omega | (simp; done) | (simp; omega))]; exact pb0_2
  replace pb0_3 : u5.cell? ⟨w.heap.size, 3, none⟩ = some (.slice Ac0 nc0 cc0) := by rw [gq.cell (by first | omega | (simp; done) | (simp; omega))]; exact pb0_3
  replace pb0_4 : u5.cell? ⟨w.heap.size, 4, none⟩ = some (.slice Ad0 nd0 cd0) := by rw [gq.cell (by first | omega | (simp; done) | (simp; omega))]; exact pb0_4
  replace pb0_5 : u5.cell? ⟨w.heap.size, 5, none⟩ = some (.slice Ae0 ne0 ce0) := by rw [gq.cell (by first | omega | (simp; done) | (simp; omega))]; exact pb0_5
  replace xb0_0 : u5.cell? ⟨u3.heap.size, 0, none⟩ = some (.int .i64 px0o) := by rw [gq.cell (by first | omega | (simp; done) | (simp; omega))]; exact xb0_0
  replace xb0_1 : u5.cell? ⟨u3.heap.size, 1, none⟩ = some (.slice Ax0o nx0o cx0o) := by rw [gq.cell (by first | omega | (simp; done) | (simp; omega))]; exact xb0_1
  replace xb0_2 : u5.cell? ⟨u3.heap.size, 2, none⟩ = some (.slice Abx0o nbx0o cbx0o) := by rw [gq.cell (by first | omega | (simp; done) | (simp; omega))]; exact xb0_2
  replace xb0_3 : u5.cell? ⟨u3.heap.size, 3, none⟩ = some (.slice Acx0o ncx0o ccx0o) := by rw [gq.cell (by first | omega | (simp; done) | (simp; omega))]; exact xb0_3
  replace xb0_4 : u5.cell? ⟨u3.heap.size, 4, none⟩ = some (.slice Adx0o ndx0o cdx0o) := by rw [gq.cell (by first | omega | (simp; done) | (simp; omega))]; exact xb0_4
  replace xb0_5 : u5.cell? ⟨u3.heap.size, 5, none⟩ = some (.slice Aex0o nex0o cex0o) := by rw [gq.cell (by first | omega | (simp; done) | (simp; omega))]; exact xb0_5
  replace x0o := tZ.obelow x0o gq (by omega)
  replace B := bel_trans B gq
  clear gq gt bq bt ot
  replace lt0 : w.heap.size < u5.heap.size := by omega
  replace lt1 : u3.heap.size < u5.heap.size := by omega
  have hk0 : hZ.cnt x0 ≤ 20000000 := by have := cl_Y x0; omega
  go_wp2_with fail
  go_ret
  exact ⟨rfl, B⟩
end Go.Proofs.YtacgcagpaecncaaGreat
