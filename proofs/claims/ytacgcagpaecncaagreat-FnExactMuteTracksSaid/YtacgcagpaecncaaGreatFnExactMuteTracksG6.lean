import Derived.Test.YtacgcagpaecncaaGreatFnExactMuteTracksG3
import Derived.Test.YtacgcagpaecncaaGreatFnExactMuteTracksG2
import Derived.Test.YtacgcagpaecncaaGreatFnExactMuteTracksG5
import Derived.Lib.QuietBelow
import Derived.Test.YtacgcagpaecncaaGreatFnExactMuteTracksG4
import Derived.StillTailTactics
import Derived.Test.YtacgcagpaecncaaGreatFnExactMuteTracksG1
import Derived.Deep.QuietTactic
set_option linter.unusedVariables false
set_option linter.unusedSimpArgs false
namespace Go.Proofs.YtacgcagpaecncaaGreat
open Go.RowKit
set_option maxHeartbeats 2000000
set_option maxRecDepth 100000
theorem src_cell {w : World} {B : Nat} {A : Option Addr} {n c : Nat} {src : List (List Int)} (hr : RS tS w B (.slice A n c) src) (hb : Hid (∀ x ∈ src, x.length ≤ 1000000000)) {k : Nat} (hk : k < n) :
    ∃ (bb o : Nat) (A1 : Option Addr) (c1 : Nat) (x : List Int), A = some ⟨bb, o, none⟩ ∧ bb < B ∧ Hid (src[k]? = some x) ∧ w.cell? ⟨bb, o + k, none⟩ = some (.slice A1 x.length c1) ∧ RI w B A1 x.length x ∧ x.length ≤ 1000000000000 := by
  obtain rfl : src.length = n := hr.cap.1
  have hX := List.getElem?_eq_getElem hk
  obtain ⟨bb, o, c1, cs, hv, hab, -, hE, hc⟩ := hr.atX hX
  simp only [Value.slice.injEq] at hv
  obtain ⟨rfl, -, rfl⟩ := hv
  obtain ⟨A1, n1, c2, rfl⟩ := open_S hE
  have hR := tS_R.1 hE
  have hcap := hR.cap
  obtain rfl : (src[k]).length = n1 := hcap.1
  have h0 : w.cell? ⟨bb, o + k * 1, none⟩ = some (.slice A1 (src[k]).length c2) := hc 0 _ rfl
  rw [Nat.mul_one] at h0
  exact ⟨bb, o, A1, c2, src[k], rfl, hab, Lib.hid hX, h0, hR.ri, by have := hb.out _ (List.getElem_mem hk); omega⟩
theorem impl_areSignals (A : Option Addr) (n c : Nat) (src : List (List Int)) (w : World) (hx : RS tS w w.heap.size (.slice A n c) src) (hb : Hid (∀ x ∈ src, x.length ≤ 1000000000)) (hn : n ≤ 1000000000) :
    Calls Tryz.prog 99 #[.slice A n c] w fun e w' => e = .returned (.bool (src.all M.sig)) ∧ w = w' := by
  have hl := Lib.hid hx.cap.1
  go_enter Tryz.func99, Tryz.ntmps99
  go_wp2
  go_loop [4, 7] (fun _ i => ∃ k : Nat, i = .int .i64 k ∧ k ≤ n ∧ Hid (src.all M.sig = (src.drop k).all M.sig)) (fun _ i => n - (intOf i).toNat)
  case atStart => exact ⟨0, rfl, by omega, Lib.hid (by simp)⟩
  case round =>
    obtain ⟨k, rfl, hk, H⟩ := hrel
    by_cases hlt : k < n
    · obtain ⟨bb, o, A1, c1, x, rfl, hbb, X, hc, hri, hxl⟩ := src_cell hx hb hlt
      have hd := Lib.hid (M.drop_at X.out)
      cases hs : M.sig x
      · have HS := Lib.hid hs
        clear hs
        go_wp2_with fail
        refine (impl_isSignal _ _ _ _ _ hri hxl).mono ?_
        rw [HS.out]
        rintro e w' ⟨rfl, rfl⟩
        go_wp2
        go_ret
        exact ⟨by rw [H.out, hd.out, List.all_cons, HS.out]; rfl, rfl⟩
      · have HS := Lib.hid hs
        clear hs
        go_wp2_with fail
        refine (impl_isSignal _ _ _ _ _ hri hxl).mono ?_
        rw [HS.out]
        rintro e w' ⟨rfl, rfl⟩
        go_wp2
        go_round
        case rel => exact ⟨k + 1, by go_num, by omega, Lib.hid (by rw [H.out, hd.out, List.all_cons, HS.out, Bool.true_and])⟩
        case measure => simp [intOf]; omega
    · have h9 := Lib.hid (show src.all M.sig = true by rw [H.out, List.drop_eq_nil_of_le (by rw [hl.out]; omega)]; rfl)
      go_wp2
      go_ret
      exact ⟨ret_bool h9.out.symm, rfl⟩
theorem impl_areSources (A : Option Addr) (n c : Nat) (src : List (List Int)) (w : World) (hx : RS tS w w.heap.size (.slice A n c) src) (hb : Hid (∀ x ∈ src, x.length ≤ 1000000000)) (hn : n ≤ 1000000000) :
    Calls Tryz.prog 63 #[.slice A n c] w fun e w' => e = .returned (.bool (M.srcOk src)) ∧ w = w' := by
  have hl := Lib.hid hx.cap.1
  by_cases h : n ≤ 6
  · go_enter Tryz.func63, Tryz.ntmps63
    go_wp2_with fail
    refine (impl_areSignals _ _ _ _ _ hx hb hn).mono ?_
    rintro e w' ⟨rfl, rfl⟩
    go_wp2
    go_ret
    exact ⟨ret_bool (by simp [M.srcOk, hl.out, h]), rfl⟩
  · go_enter Tryz.func63, Tryz.ntmps63
    go_wp2
    go_ret
    exact ⟨ret_bool (by simp [M.srcOk, hl.out, h]), rfl⟩
theorem impl_size_int64S (A : Option Addr) (n c : Nat) (w : World) : Calls Tryz.prog 69 #[.slice A n c] w fun e w' => e = .returned (.int .i64 n) ∧ w = w' := by
  go_enter Tryz.func69, Tryz.ntmps69
  go_wp2
  go_ret
  exact ⟨rfl, rfl⟩
theorem impl_hasSources_1 (b : Nat) (m d0 d1 d2 d3 d4 : Int) (w : World) (g0 : w.cell? ⟨b, 0, none⟩ = some (.int .i64 m)) :
    Calls Tryz.prog 104 #[.agg #[.int .i64 d0, .int .i64 d1, .int .i64 d2, .int .i64 d3, .int .i64 d4], .pointer (some ⟨b, 0, none⟩)] w fun e w' => e = .returned (.bool (decide (m ≤ d0))) ∧ Below w.heap.size w w' := by
  have hb : b < w.heap.size := World.block_lt_of_cell? w _ g0
  have fin : Below w.heap.size w (w.alloc (.cells #[.int .i64 d0, .int .i64 d1, .int .i64 d2, .int .i64 d3, .int .i64 d4] 133)) := (Below.refl _ _).alloc (Nat.le_refl _) _
  go_enter Tryz.func104, Tryz.ntmps104
  go_wp2
  go_ret
  exact ⟨rfl, fin⟩
theorem IndexFunc_has (bb : Nat) (m : Int) (A : Option Addr) (n cap : Nat) (xs : List Clip) (w : World) (hx : RA cl 5 w w.heap.size A n xs) (hn : n ≤ 1000000000) (hg : w.cell? ⟨bb, 0, none⟩ = some (.int .i64 m)) :
    Calls Tryz.prog 132 #[.slice A n cap, .func (.func 104) #[] #[.pointer (some ⟨bb, 0, none⟩)]] w fun e w' => e = .returned (.int .i64 (idxInt (xs.findIdx? fun c => decide (m ≤ c.1)))) ∧ Below w.heap.size w w' := by
  have hl := Lib.hid hx.len
  have hbb : bb < w.heap.size := World.block_lt_of_cell? w _ hg
  go_enter Tryz.func132, Tryz.ntmps132
  go_wp2
  go_loopw [5, 8] (fun _ i wr => ∃ k : Nat, i = .int .i64 k ∧ k ≤ n ∧ Hid (∀ j, j < k → ∀ y : Clip, xs[j]? = some y → decide (m ≤ y.1) = false) ∧ Below w.heap.size w wr) (fun _ i _ => n - (intOf i).toNat)
  case atStart => exact ⟨0, rfl, by omega, Lib.hid (by omega), Below.refl _ _⟩
  case round =>
    obtain ⟨k, rfl, hk, H, hb⟩ := hrel
    by_cases hlt : k < n
    · obtain ⟨b, o, ⟨p0, p1, p2, p3, p4⟩, rfl, hab, X, hc⟩ := (hx.below hb).at cl_len (by decide) hlt
      have hc0 : wr.cell? ⟨b, o + k * 5, none⟩ = some (.int .i64 p0) := hc 0 _ rfl
      have hc1 : wr.cell? ⟨b, o + k * 5 + 1, none⟩ = some (.int .i64 p1) := hc 1 _ rfl
      have hc2 : wr.cell? ⟨b, o + k * 5 + 2, none⟩ = some (.int .i64 p2) := hc 2 _ rfl
      have hc3 : wr.cell? ⟨b, o + k * 5 + 3, none⟩ = some (.int .i64 p3) := hc 3 _ rfl
      have hc4 : wr.cell? ⟨b, o + k * 5 + 4, none⟩ = some (.int .i64 p4) := hc 4 _ rfl
      clear hc
      have hgr : wr.cell? ⟨bb, 0, none⟩ = some (.int .i64 m) := by rw [hb.cell (by simpa using hbb)]; exact hg
      have cP := Lib.hid (impl_hasSources_1 bb m p0 p1 p2 p3 p4 wr hgr)
      cases hj : decide (m ≤ p0)
      · have hj' := Lib.hid hj
        clear hj
        go_wp2_with (go_at_call 104; refine (cP.out).mono ?_; rw [hj'.out]; rintro e w2 ⟨rfl, bel2⟩)
        go_roundw
        case rel => exact ⟨k + 1, by go_num, by omega, Lib.hid (fun j hj y hy => by rcases Nat.lt_succ_iff_lt_or_eq.1 hj with h | h; exact H.out j h y hy; subst h; rw [X.out] at hy; injection hy with hy; rw [← hy]; exact hj'.out), hb.trans (bel2.mono hb.size)⟩
        case measure => simp [intOf]; omega
      · have hf := Lib.hid (M.find_some (p := fun c : Clip => decide (m ≤ c.1)) X.out hj H.out)
        have hj' := Lib.hid hj
        clear hj
        go_wp2_with (go_at_call 104; refine (cP.out).mono ?_; rw [hj'.out]; rintro e w2 ⟨rfl, bel2⟩)
        go_ret
        exact ⟨by rw [hf.out]; rfl, hb.trans (bel2.mono hb.size)⟩
    · have hf := Lib.hid (M.find_none (xs := xs) (p := fun c : Clip => decide (m ≤ c.1)) (fun j hj y hy => H.out j (by rw [hl.out] at hj; omega) y hy))
      go_wp2
      go_ret
      exact ⟨by rw [hf.out]; rfl, hb⟩
theorem M.hasS_find (xs : List Clip) (m : Int) : (idxInt (xs.findIdx? fun c => decide (m ≤ c.1)) ≥ 0 ↔ M.hasS xs m = false) := by
  unfold M.hasS
  cases h : xs.findIdx? fun c => decide (m ≤ c.1) with
  | none =>
    rw [List.findIdx?_eq_none_iff] at h
    simp only [idxInt]
    constructor
    · intro h2; omega
    · intro h2
      rw [List.all_eq_false] at h2
      obtain ⟨x, hx, h3⟩ := h2
      have := h x hx
      simp at this h3
      omega
  | some i =>
    rw [List.findIdx?_eq_some_iff_getElem] at h
    obtain ⟨hi, h2, _⟩ := h
    simp only [idxInt]
    constructor
    · intro _
      rw [List.all_eq_false]
      exact ⟨_, List.getElem_mem hi, by simp at h2 ⊢; omega⟩
    · intro _; omega
theorem ContainsFunc_has (bb : Nat) (m : Int) (A : Option Addr) (n cap : Nat) (xs : List Clip) (w : World) (hx : RA cl 5 w w.heap.size A n xs) (hn : n ≤ 1000000000) (hg : w.cell? ⟨bb, 0, none⟩ = some (.int .i64 m)) :
    Calls Tryz.prog 103 #[.slice A n cap, .func (.func 104) #[] #[.pointer (some ⟨bb, 0, none⟩)]] w fun e w' => e = .returned (.bool (!M.hasS xs m)) ∧ Below w.heap.size w w' := by
  have hF := Lib.hid (M.hasS_find xs m)
  have hI := Lib.hid (IndexFunc_has bb m A n cap xs w hx hn hg)
  generalize idxInt (xs.findIdx? fun c => decide (m ≤ c.1)) = q at hF hI
  by_cases h : 0 ≤ q
  · have R := Lib.hid (hF.out.1 h)
    go_enter Tryz.func103, Tryz.ntmps103
    go_wp2_with fail
    refine hI.out.mono ?_
    rintro e w2 ⟨rfl, bel2⟩
    go_wp2
    go_ret
    exact ⟨ret_bool (by rw [R.out]; simp), bel2⟩
  · have R := Lib.hid (show M.hasS xs m = true by
      cases h2 : M.hasS xs m
      · exact absurd (hF.out.2 h2) h
      · rfl)
    go_enter Tryz.func103, Tryz.ntmps103
    go_wp2_with fail
    refine hI.out.mono ?_
    rintro e w2 ⟨rfl, bel2⟩
    go_wp2
    go_ret
    exact ⟨ret_bool (by rw [R.out]; simpa using h), bel2⟩
theorem impl_hasSources (A : Option Addr) (n c : Nat) (xs : List Clip) (m : Int) (w : World) (hx : RA cl 5 w w.heap.size A n xs) (hn : n ≤ 1000000000) :
    Calls Tryz.prog 68 #[.agg #[.slice A n c], .int .i64 m] w fun e w' => e = .returned (.bool (M.hasS xs m)) ∧ Below w.heap.size w w' := by
  obtain ⟨W, hW⟩ : ∃ W, W = (w.alloc (.cells #[.slice A n c] 95)).alloc (.cells #[.int .i64 m] 2) := ⟨_, rfl⟩
  have B0 : Below w.heap.size w W := by rw [hW]; exact ((Below.refl _ _).alloc (Nat.le_refl _) _).alloc (by simp) _
  have g0 : W.cell? ⟨w.heap.size + 1, 0, none⟩ = some (.int .i64 m) := by rw [hW]; simp [go_sem]
  have HW := Lib.hid hW
  clear hW
  have hx1 := hx.later B0
  go_enter Tryz.func68, Tryz.ntmps68
  go_wp2_with fail
  rw [← HW.out]
  refine (ContainsFunc_has (w.heap.size + 1) m _ _ _ _ _ hx1 hn g0).mono ?_
  rintro e w2 ⟨rfl, bel2⟩
  go_wp2
  go_ret
  exact ⟨ret_bool (by simp), bel_trans B0 bel2⟩
end Go.Proofs.YtacgcagpaecncaaGreat
namespace Go.Proofs.YtacgcagpaecncaaGreat
open Go.RowKit Go.Sort
set_option maxHeartbeats 4000000
set_option maxRecDepth 100000
set_option linter.unusedVariables false
set_option linter.unusedSimpArgs false
theorem RI_lit (w : World) (e : TypeId) (xs : List Int) (cur : Array Value) (h : cur.toList = xs.map (.int .i64)) : RI (w.alloc (.cells cur e)) (w.heap.size + 1) (some ⟨w.heap.size, 0, none⟩) xs.length xs :=
  ⟨by simp, fun _ => ⟨_, rfl, by simp, fun j u hu => by
    rw [show (⟨w.heap.size, 0, none⟩ : Addr).add j = ⟨w.heap.size, j, none⟩ by simp [Addr.add]; omega, cell_of_row _ w.heap.size j cur e (0, 0) (heap_alloc_new w _), ← hu, ← h, Array.getElem?_toList]⟩⟩
theorem to_bel {P : Program} {f : FuncId} {args : Array Value} {w : World} {v : Ending} (h : Calls P f args w fun e w' => e = v ∧ w = w') : Calls P f args w fun e w' => e = v ∧ Below w.heap.size w w' :=
  h.mono fun _ _ ⟨he, hw⟩ => ⟨he, hw ▸ Below.refl _ _⟩
theorem spec_l00MinX (a b : Int) (w : World) : Calls Tryz.prog 157 #[.int .i64 a, .int .i64 b] w fun e w' => e = .returned (.int .i64 (min a b)) ∧ w = w' := by
  by_cases h : a < b
  all_goals
    go_enter Tryz.func157, Tryz.ntmps157
    go_wp2
    go_ret
    exact ⟨ret_int (by omega), rfl⟩
theorem spec_l00MaxX (a b : Int) (w : World) : Calls Tryz.prog 158 #[.int .i64 a, .int .i64 b] w fun e w' => e = .returned (.int .i64 (max a b)) ∧ w = w' := by
  by_cases h : b < a
  all_goals
    go_enter Tryz.func158, Tryz.ntmps158
    go_wp2
    go_ret
    exact ⟨ret_int (by omega), rfl⟩
theorem spec_l00Has (A : Option Addr) (n c : Nat) (xs : List Int) (m : Int) (w : World) (hx : RI w w.heap.size A n xs) (hn : n ≤ 1000000000000) :
    Calls Tryz.prog 78 #[.slice A n c, .int .i64 m] w fun e w' => e = .returned (.bool (M.mem xs m)) ∧ w = w' := by
  go_enter Tryz.func78, Tryz.ntmps78
  go_wp2
  go_loop [5] (fun i => ∃ k : Nat, i = .int .i64 k ∧ k ≤ n ∧ Hid (M.mem xs m = M.mem (xs.drop k) m)) (fun i => n - (intOf i).toNat)
  case atStart => exact ⟨0, rfl, by omega, Lib.hid (by simp)⟩
  case round =>
    obtain ⟨k, rfl, hk, H⟩ := hrel
    have hl := Lib.hid hx.len
    by_cases hlt : k < n
    · obtain ⟨ad, x, rfl, hab, X, hc⟩ := hx.at hlt
      have hd := Lib.hid (M.drop_at X.out)
      by_cases hs : x = m
      · have R := Lib.hid (show M.mem xs m = true by rw [H.out, hd.out, M.mem_cons]; simp [hs])
        have g : (x == m) = true := by simpa using hs
        subst hs
        go_wp2
        go_ret
        exact ⟨ret_bool (by rw [R.out]), rfl⟩
      · have R := Lib.hid (show M.mem xs m = M.mem (xs.drop (k + 1)) m by rw [H.out, hd.out, M.mem_cons, decide_eq_false hs, Bool.false_or])
        have g : (x == m) = false := by simpa using hs
        clear hs
        go_wp2
        go_round
        case rel => exact ⟨k + 1, by go_num, by omega, R⟩
        case measure => simp [intOf]; omega
    · have R := Lib.hid (show M.mem xs m = false by rw [H.out, List.drop_eq_nil_of_le (by rw [hl.out]; omega)]; rfl)
      go_wp2
      go_ret
      exact ⟨ret_bool (by rw [R.out]), rfl⟩
theorem spec_l06Kind (k : Int) (w : World) : Calls Tryz.prog 143 #[.int .i64 k] w fun e w' => e = .returned (.bool (M.inn k 1 17)) ∧ w = w' := by
  go_enter Tryz.func143, Tryz.ntmps143
  go_wp2_with (go_at_call 37; refine (spec_l00In _ _ _ _).mono ?_; rintro e w' ⟨rfl, rfl⟩)
  go_ret
  exact ⟨rfl, rfl⟩
theorem M.hasA_eq (k : Int) : M.mem [1, 2, 5, 6, 10, 11, 12, 13, 14, 17] k = M.hasA k := by
  rw [Bool.eq_iff_iff]
  simp only [M.mem, M.hasA, List.any_cons, List.any_nil, Bool.or_eq_true, decide_eq_true_eq, Bool.false_eq_true, or_false]
  omega
theorem M.linS_eq (k : Int) : M.mem [1, 3, 4, 5, 6, 7, 8, 17] k = M.linS k := by
  rw [Bool.eq_iff_iff]
  simp only [M.mem, M.linS, List.any_cons, List.any_nil, Bool.or_eq_true, decide_eq_true_eq, Bool.false_eq_true, or_false]
  omega
theorem spec_l06HasA (k : Int) (w : World) : Calls Tryz.prog 159 #[.int .i64 k] w fun e w' => e = .returned (.bool (M.hasA k)) ∧ Below w.heap.size w w' := by
  obtain ⟨W, hW⟩ : ∃ W, W = w.alloc (.cells #[.int .i64 1, .int .i64 2, .int .i64 5, .int .i64 6, .int .i64 10, .int .i64 11, .int .i64 12, .int .i64 13, .int .i64 14, .int .i64 17] 2) := ⟨_, rfl⟩
  have B0 : Below w.heap.size w W := by rw [hW]; exact (Below.refl _ _).alloc (Nat.le_refl _) _
  have hr : RI W W.heap.size (some ⟨w.heap.size, 0, none⟩) 10 [1, 2, 5, 6, 10, 11, 12, 13, 14, 17] := by rw [hW]; exact (RI_lit w 2 [1, 2, 5, 6, 10, 11, 12, 13, 14, 17] _ rfl).more (by simp)
  have HW := Lib.hid hW
  clear hW
  go_enter Tryz.func159, Tryz.ntmps159
  go_wp2_with fail
  rw [← HW.out]
  refine (spec_l00Has _ _ _ _ _ _ hr (by omega)).mono ?_
  rintro e w2 ⟨rfl, rfl⟩
  go_wp2
  go_ret
  exact ⟨ret_bool (M.hasA_eq k), B0⟩
theorem spec_l06Linear (k : Int) (w : World) : Calls Tryz.prog 74 #[.int .i64 k] w fun e w' => e = .returned (.bool (M.linS k)) ∧ Below w.heap.size w w' := by
  obtain ⟨W, hW⟩ : ∃ W, W = w.alloc (.cells #[.int .i64 1, .int .i64 3, .int .i64 4, .int .i64 5, .int .i64 6, .int .i64 7, .int .i64 8, .int .i64 17] 2) := ⟨_, rfl⟩
  have B0 : Below w.heap.size w W := by rw [hW]; exact (Below.refl _ _).alloc (Nat.le_refl _) _
  have hr : RI W W.heap.size (some ⟨w.heap.size, 0, none⟩) 8 [1, 3, 4, 5, 6, 7, 8, 17] := by rw [hW]; exact (RI_lit w 2 [1, 3, 4, 5, 6, 7, 8, 17] _ rfl).more (by simp)
  have HW := Lib.hid hW
  clear hW
  go_enter Tryz.func74, Tryz.ntmps74
  go_wp2_with fail
  rw [← HW.out]
  refine (spec_l00Has _ _ _ _ _ _ hr (by omega)).mono ?_
  rintro e w2 ⟨rfl, rfl⟩
  go_wp2
  go_ret
  exact ⟨ret_bool (M.linS_eq k), B0⟩
theorem spec_l06Arity (k : Int) (w : World) (h : 0 ≤ k ∧ k ≤ 17) : Calls Tryz.prog 145 #[.int .i64 k] w fun e w' => e = .returned (.int .i64 (M.ar k.toNat)) ∧ Below w.heap.size w w' := by
  obtain ⟨j, rfl⟩ : ∃ j : Nat, k = j := ⟨k.toNat, by omega⟩
  obtain ⟨W, hW⟩ : ∃ W, W = w.alloc (.cells #[.int .i64 (-1), .int .i64 0, .int .i64 0, .int .i64 2, .int .i64 2, .int .i64 1, .int .i64 1, .int .i64 1, .int .i64 1, .int .i64 2, .int .i64 1, .int .i64 1, .int .i64 1, .int .i64 1, .int .i64 0, .int .i64 3, .int .i64 2, .int .i64 1] 2) := ⟨_, rfl⟩
  have B0 : Below w.heap.size w W := by rw [hW]; exact (Below.refl _ _).alloc (Nat.le_refl _) _
  have hr : RI W W.heap.size (some ⟨w.heap.size, 0, none⟩) 18 M.ars := by rw [hW]; exact (RI_lit w 2 M.ars _ rfl).more (by simp)
  obtain ⟨ad, x, e, -, X, hc⟩ := hr.at (k := j) (by omega)
  injection e with e
  subst e
  have hR := Lib.hid (show M.ar j = x by rw [M.ar, List.getD_eq_getElem?_getD, X.out]; rfl)
  have hc2 : W.cell? ⟨w.heap.size, j, none⟩ = some (.int .i64 x) := by rw [← hc, show (⟨w.heap.size, 0, none⟩ : Addr).add j = ⟨w.heap.size, j, none⟩ by simp [Addr.add]; omega]
  rw [hW] at hc2
  have hj : j < 18 := by omega
  have hj2 : (j : Int) < 18 := by omega
  clear hc hr X
  go_enter Tryz.func145, Tryz.ntmps145
  go_wp2
  go_ret
  exact ⟨ret_int (by rw [Int.toNat_natCast, hR.out]), by rw [← hW]; exact B0⟩
theorem spec_l06A (b o : Nat) (a0 a1 tb : Int) (w : World) (p0 : w.cell? ⟨b, o, none⟩ = some (.int .i64 a0)) (p1 : w.cell? ⟨b, o + 1, none⟩ = some (.int .i64 a1)) (htb : 0 ≤ tb ∧ tb ≤ 1000000000) :
    Calls Tryz.prog 144 #[.pointer (some ⟨b, o, none⟩), .int .i64 tb] w fun e w' => e = .returned (.bool (M.aS a0 a1 tb)) ∧ Below w.heap.size w w' := by
  by_cases c1 : a0 = 1
  · have R := Lib.hid (show M.aS a0 a1 tb = M.inn a1 0 3 by rw [M.aS, if_pos c1])
    subst c1
    go_enter Tryz.func144, Tryz.ntmps144
    go_wp2_with (go_at_call 37; refine (spec_l00In _ _ _ _).mono ?_; rintro e w' ⟨rfl, rfl⟩)
    go_ret
    exact ⟨ret_bool (by rw [R.out]), Below.refl _ _⟩
  have g1 : (a0 == 1) = false := by simpa using c1
  by_cases c2 : a0 = 6
  · have R := Lib.hid (show M.aS a0 a1 tb = M.inn a1 1 16 by rw [M.aS, if_neg c1, if_pos c2])
    subst c2
    go_enter Tryz.func144, Tryz.ntmps144
    go_wp2_with (go_at_call 37; refine (spec_l00In _ _ _ _).mono ?_; rintro e w' ⟨rfl, rfl⟩)
    go_ret
    exact ⟨ret_bool (by rw [R.out]), Below.refl _ _⟩
  have g2 : (a0 == 6) = false := by simpa using c2
  by_cases c3 : a0 = 10
  · have R := Lib.hid (show M.aS a0 a1 tb = M.inn a1 0 31 by rw [M.aS, if_neg c1, if_neg c2, if_pos c3])
    subst c3
    go_enter Tryz.func144, Tryz.ntmps144
    go_wp2_with (go_at_call 37; refine (spec_l00In _ _ _ _).mono ?_; rintro e w' ⟨rfl, rfl⟩)
    go_ret
    exact ⟨ret_bool (by rw [R.out]), Below.refl _ _⟩
  have g3 : (a0 == 10) = false := by simpa using c3
  by_cases c4 : a0 = 11
  · have R := Lib.hid (show M.aS a0 a1 tb = M.inn a1 0 2147483647 by rw [M.aS, if_neg c1, if_neg c2, if_neg c3, if_pos c4])
    subst c4
    go_enter Tryz.func144, Tryz.ntmps144
    go_wp2_with (go_at_call 37; refine (spec_l00In _ _ _ _).mono ?_; rintro e w' ⟨rfl, rfl⟩)
    go_ret
    exact ⟨ret_bool (by rw [R.out]), Below.refl _ _⟩
  have g4 : (a0 == 11) = false := by simpa using c4
  by_cases c5 : a0 = 13
  · have R := Lib.hid (show M.aS a0 a1 tb = M.inn a1 0 (min (max tb 0) 4 - 1) by rw [M.aS, if_neg c1, if_neg c2, if_neg c3, if_neg c4, if_pos c5])
    have hm1 := fun m => quiet_left (spec_l00MaxX tb 0 (w.drewN m))
    have hm2 := fun m => quiet_left (spec_l00MinX (max tb 0) 4 (w.drewN m))
    have hs : IntKind.i64.wrap (min (max tb 0) 4 - 1) = min (max tb 0) 4 - 1 := IntWalk.i64_in _ (by omega)
    have hm3 := fun m => quiet_left (spec_l00In a1 0 (min (max tb 0) 4 - 1) (w.drewN m))
    obtain ⟨q, hq⟩ : ∃ q, q = max tb 0 := ⟨_, rfl⟩
    rw [← hq] at hm1 hm2 hm3 hs R
    obtain ⟨r, hr⟩ : ∃ r, r = min q 4 := ⟨_, rfl⟩
    rw [← hr] at hm2 hm3 hs R
    clear hq hr g1 g2 g3 g4 c1 c2 c3 c4
    subst c5
    go_enter Tryz.func144, Tryz.ntmps144
    go_wp2
    go_quiet (first | exact hm1 _ | exact hm2 _ | exact hm3 _)
    go_wp2
    go_ret
    exact ⟨ret_bool (by rw [R.out]), below_drewN (Below.refl _ _) _⟩
  have g5 : (a0 == 13) = false := by simpa using c5
  have lb : b < w.heap.size := World.block_lt_of_cell? w _ p0
  cases hh : M.hasA a0
  · have R := Lib.hid (show M.aS a0 a1 tb = decide (a1 = 0) by rw [M.aS, if_neg c1, if_neg c2, if_neg c3, if_neg c4, if_neg c5, hh]; rfl)
    have HH := Lib.hid hh
    clear c1 c2 c3 c4 c5 hh
    go_enter Tryz.func144, Tryz.ntmps144
    go_wp2_with (go_at_call 159; refine (spec_l06HasA _ _).mono ?_; rw [HH.out]; rintro e w2 ⟨rfl, bel2⟩; have q1 : w2.cell? ⟨b, o + 1, none⟩ = some (.int .i64 a1) := (by rw [bel2.cell lb]; exact p1))
    go_ret
    exact ⟨ret_bool (by rw [R.out, Bool.eq_iff_iff]; simp), bel2⟩
  · have R := Lib.hid (show M.aS a0 a1 tb = M.smp a1 by rw [M.aS, if_neg c1, if_neg c2, if_neg c3, if_neg c4, if_neg c5, hh]; rfl)
    have HH := Lib.hid hh
    clear c1 c2 c3 c4 c5 hh
    go_enter Tryz.func144, Tryz.ntmps144
    go_wp2_with (first | (go_at_call 159; refine (spec_l06HasA _ _).mono ?_; rw [HH.out]; rintro e w2 ⟨rfl, bel2⟩; have q1 : w2.cell? ⟨b, o + 1, none⟩ = some (.int .i64 a1) := (by rw [bel2.cell lb]; exact p1)) | (go_at_call 92; refine (spec_l01Sample _ _).mono ?_; rintro e w' ⟨rfl, rfl⟩))
    go_ret
    exact ⟨ret_bool (by rw [R.out]), bel2⟩
end Go.Proofs.YtacgcagpaecncaaGreat
namespace Go.Proofs.YtacgcagpaecncaaGreat
open Go.RowKit
set_option maxHeartbeats 400000
set_option maxRecDepth 100000
end Go.Proofs.YtacgcagpaecncaaGreat
namespace Go.Proofs.YtacgcagpaecncaaGreat
open Go.RowKit
set_option maxHeartbeats 400000
theorem M.curve_iff (xs : List (Int × Int)) : M.curveOk xs = true ↔ (∀ p ∈ xs, M.ptOk p = true) ∧ xs.Pairwise (fun p q => p.1 < q.1) ∧ 1 ≤ xs.length ∧ xs.length ≤ 24 := by
  constructor
  · intro h
    have hl := M.curve_len h
    refine ⟨fun p hp => ?_, ?_, hl⟩
    · obtain ⟨i, hi, rfl⟩ := List.getElem_of_mem hp
      have h1 := M.curve_step h hi
      rw [M.stepOk, Bool.and_eq_true, List.getElem?_eq_getElem hi] at h1
      exact h1.1
    · rw [List.pairwise_iff_getElem]
      have key : ∀ d i (hi : i < xs.length) (hj : i + d + 1 < xs.length), (xs[i]).1 < (xs[i + d + 1]).1 := by
        intro d
        induction d with
        | zero => intro i hi hj; exact M.curve_lt h (k := i + 1) (by omega) (by simp [hi]) (List.getElem?_eq_getElem hj)
        | succ d ih =>
          intro i hi hj
          have h1 := ih i hi (by omega)
          have h2 := M.curve_lt h (k := i + d + 1 + 1) (by omega) (by rw [Nat.add_sub_cancel]; exact List.getElem?_eq_getElem (by omega)) (List.getElem?_eq_getElem (i := i + d + 1 + 1) (by omega))
          have e : i + (d + 1) + 1 = i + d + 1 + 1 := by omega
          simp only [e]
          omega
      intro i j hi hj hij
      have := key (j - i - 1) i hi (by omega)
      have e : i + (j - i - 1) + 1 = j := by omega
      simpa only [e] using this
  · rintro ⟨h1, h2, h3, h4⟩
    rw [M.curveOk, Bool.and_eq_true, M.inn_iff, List.all_eq_true]
    refine ⟨fun k hk => ?_, by omega⟩
    have hk := List.mem_range.1 hk
    rw [M.stepOk, Bool.and_eq_true, List.getElem?_eq_getElem hk]
    refine ⟨h1 _ (List.getElem_mem hk), ?_⟩
    rw [M.after, Bool.or_eq_true]
    by_cases h0 : k = 0
    · left; simp [h0]
    · right
      rw [List.getElem?_eq_getElem hk, List.getElem?_eq_getElem (by omega)]
      have := List.pairwise_iff_getElem.1 h2 (k - 1) k (by omega) hk (by omega)
      simpa using this
theorem M.dropP_split {α : Type} {xs : List α} {k : Nat} (hk : k < xs.length) : xs = xs.take k ++ xs[k] :: xs.drop (k + 1) := by
  rw [← List.drop_eq_getElem_cons hk, List.take_append_drop]
theorem M.dropP_sub {α : Type} (xs : List α) (k : Nat) : (M.dropP xs k).Sublist xs := by
  by_cases hk : k < xs.length
  · conv => rhs; rw [M.dropP_split hk]
    exact List.Sublist.append (List.Sublist.refl _) (List.sublist_cons_self _ _)
  · rw [M.dropP, List.drop_eq_nil_of_le (by omega), List.append_nil, List.take_of_length_le (by omega)]
    exact List.Sublist.refl _
theorem M.dropP_ok {xs : List (Int × Int)} {k : Nat} (h : M.curveOk xs = true) (hk : k < xs.length) (h1 : 1 < xs.length) : M.curveOk (M.dropP xs k) = true := by
  rw [M.curve_iff] at h ⊢
  have hs := M.dropP_sub xs k
  rw [M.dropP_len xs hk]
  exact ⟨fun p hp => h.1 p (hs.subset hp), List.Pairwise.sublist hs h.2.1, by omega, by omega⟩
/-- Before the last point of 'a' nothing behind it counts. -/
theorem M.atGo_front (a : List (Int × Int)) (bs cs : List (Int × Int)) (t : Int) (h : ∃ q ∈ a, t < q.1) : ∀ p, M.atGo p (a ++ bs) t = M.atGo p (a ++ cs) t := by
  induction a with
  | nil => obtain ⟨q, hq, _⟩ := h; simp at hq
  | cons x a ih =>
    intro p
    simp only [List.cons_append, M.atGo]
    by_cases hx : t < x.1
    · rw [if_pos hx, if_pos hx]
    · rw [if_neg hx, if_neg hx]
      refine ih ?_ x
      obtain ⟨q, hq, hlt⟩ := h
      rcases List.mem_cons.1 hq with rfl | hq
      · exact absurd hlt hx
      · exact ⟨q, hq, hlt⟩
theorem M.atC_front (a : List (Int × Int)) (bs cs : List (Int × Int)) (t : Int) (h : ∃ q ∈ a, t < q.1) : M.atC (a ++ bs) t = M.atC (a ++ cs) t := by
  cases a with
  | nil => obtain ⟨q, hq, _⟩ := h; simp at hq
  | cons x a =>
    simp only [List.cons_append, M.atC]
    by_cases hx : t < x.1
    · rw [if_pos hx, if_pos hx]
    · rw [if_neg hx, if_neg hx]
      refine M.atGo_front a bs cs t ?_ x
      obtain ⟨q, hq, hlt⟩ := h
      rcases List.mem_cons.1 hq with rfl | hq
      · exact absurd hlt hx
      · exact ⟨q, hq, hlt⟩
/-- From b on nothing before it counts. -/
theorem M.atGo_back (a : List (Int × Int)) (b : Int × Int) (bs : List (Int × Int)) (t : Int) (ha : ∀ q ∈ a, ¬ t < q.1) (hb : ¬ t < b.1) : ∀ p, M.atGo p (a ++ b :: bs) t = M.atGo b bs t := by
  induction a with
  | nil => intro p; rw [List.nil_append, M.atGo, if_neg hb]
  | cons x a ih =>
    intro p
    rw [List.cons_append, M.atGo, if_neg (ha x (by simp))]
    exact ih (fun q hq => ha q (by simp [hq])) x
theorem M.atC_back (a : List (Int × Int)) (b : Int × Int) (bs : List (Int × Int)) (t : Int) (ha : ∀ q ∈ a, ¬ t < q.1) (hb : ¬ t < b.1) : M.atC (a ++ b :: bs) t = M.atGo b bs t := by
  cases a with
  | nil => rw [List.nil_append, M.atC, if_neg hb]
  | cons x a =>
    rw [List.cons_append, M.atC, if_neg (ha x (by simp))]
    exact M.atGo_back a b bs t (fun q hq => ha q (by simp [hq])) hb x
def M.from (xs : List (Int × Int)) (k : Nat) : Int := if 0 < k then ((xs[k - 1]?).getD (0, 0)).1 else 0
def M.to (xs : List (Int × Int)) (k : Nat) : Int := if k + 1 < xs.length then ((xs[k + 1]?).getD (0, 0)).1 else 4000
theorem M.from_bd {xs : List (Int × Int)} {k : Nat} (h : M.curveOk xs = true) (hk : k < xs.length) : 0 ≤ M.from xs k ∧ M.from xs k ≤ 4000 := by
  unfold M.from
  split
  · rw [List.getElem?_eq_getElem (by omega)]
    have := (M.curve_pt h (List.getElem?_eq_getElem (l := xs) (i := k - 1) (by omega))).1
    exact this
  · omega
theorem M.to_bd {xs : List (Int × Int)} {k : Nat} (h : M.curveOk xs = true) : 0 ≤ M.to xs k ∧ M.to xs k ≤ 4000 := by
  unfold M.to
  split
  · rename_i hk
    rw [List.getElem?_eq_getElem hk]
    exact (M.curve_pt h (List.getElem?_eq_getElem hk)).1
  · omega
/-- Outside of the neighbours nothing changes. -/
theorem M.drop_out {xs : List (Int × Int)} {k : Nat} (h : M.curveOk xs = true) (hk : k < xs.length) {t : Int} (h0 : 0 ≤ t) (h4 : t ≤ 4000) (ht : t < M.from xs k ∨ M.to xs k < t) : M.atC xs t = M.atC (M.dropP xs k) t := by
  have hs := M.dropP_split hk
  have hp := ((M.curve_iff xs).1 h).2.1
  rcases ht with ht | ht
  · unfold M.from at ht
    split at ht
    · rename_i hk0
      rw [List.getElem?_eq_getElem (by omega)] at ht
      conv => lhs; rw [hs]
      exact M.atC_front _ _ _ t ⟨xs[k - 1]'(by omega), by rw [List.mem_take_iff_getElem]; exact ⟨k - 1, by omega, rfl⟩, ht⟩
    · omega
  · unfold M.to at ht
    split at ht
    · rename_i hk1
      rw [List.getElem?_eq_getElem hk1] at ht
      have hd : xs.drop (k + 1) = xs[k + 1] :: xs.drop (k + 1 + 1) := List.drop_eq_getElem_cons hk1
      have hb : ¬ t < (xs[k + 1]).1 := by simp at ht; omega
      have hle : ∀ q ∈ xs.take (k + 1), ¬ t < q.1 := by
        intro q hq
        obtain ⟨i, hi, rfl⟩ := List.mem_take_iff_getElem.1 hq
        have := List.pairwise_iff_getElem.1 hp i (k + 1) (by omega) hk1 (by omega)
        omega
      have e1 : M.atC xs t = M.atGo xs[k + 1] (xs.drop (k + 1 + 1)) t := by
        conv => lhs; rw [show xs = xs.take (k + 1) ++ xs[k + 1] :: xs.drop (k + 1 + 1) from M.dropP_split hk1]
        exact M.atC_back _ _ _ t hle hb
      rw [e1, M.dropP, hd, M.atC_back _ _ _ t (fun q hq => hle q ((List.take_subset_take_left xs (by omega)) hq)) hb]
    · omega
def M.idle (xs : List (Int × Int)) (k : Nat) : Bool := decide (1 < xs.length) && decide (M.rend (M.dropP xs k) 4001 = M.rend xs 4001)
theorem M.rend_eq {xs ys : List (Int × Int)} {m : Nat} : M.rend xs m = M.rend ys m ↔ ∀ i : Nat, i < m → M.atC xs (i : Int) = M.atC ys (i : Int) := by
  constructor
  · intro h i hi
    have h1 := M.rend_at (xs := xs) hi
    rw [h, M.rend_at hi] at h1
    injection h1 with h1
    exact h1.symm
  · intro h
    apply List.ext_getElem?
    intro i
    by_cases hi : i < m
    · rw [M.rend_at hi, M.rend_at hi, h i hi]
    · rw [List.getElem?_eq_none (by rw [M.rend_len]; omega), List.getElem?_eq_none (by rw [M.rend_len]; omega)]
theorem M.idle_iff {xs : List (Int × Int)} {k : Nat} (h : M.curveOk xs = true) (hk : k < xs.length) (h1 : 1 < xs.length) : M.idle xs k = true ↔ ∀ t : Int, M.from xs k ≤ t → t ≤ M.to xs k → M.atC xs t = M.atC (M.dropP xs k) t := by
  have hf := M.from_bd h hk
  have ht := M.to_bd (k := k) h
  rw [M.idle, decide_eq_true h1, Bool.true_and, decide_eq_true_iff, M.rend_eq]
  constructor
  · intro g t h2 h3
    have := g t.toNat (by omega)
    rw [Int.toNat_of_nonneg (by omega)] at this
    exact this.symm
  · intro g i hi
    by_cases h2 : (i : Int) < M.from xs k ∨ M.to xs k < i
    · exact (M.drop_out h hk (by omega) (by omega) h2).symm
    · exact (g i (by omega) (by omega)).symm
end Go.Proofs.YtacgcagpaecncaaGreat
namespace Go.Proofs.YtacgcagpaecncaaGreat
open Go.RowKit
set_option maxHeartbeats 1000000
set_option maxRecDepth 100000
end Go.Proofs.YtacgcagpaecncaaGreat
namespace Go.Proofs.YtacgcagpaecncaaGreat
open Go.RowKit
set_option maxHeartbeats 1000000
set_option maxRecDepth 100000
def M.thinGo (xs : List (Int × Int)) (k : Nat) : List (Int × Int) :=
  if h : k < xs.length then (if M.idle xs k then M.thinGo (M.dropP xs k) 0 else M.thinGo xs (k + 1)) else xs
termination_by (xs.length, xs.length - k)
decreasing_by
  · rw [M.dropP_len xs h]
    exact Prod.Lex.left _ _ (by omega)
  · exact Prod.Lex.right _ (by omega)
def M.thinR (xs : List (Int × Int)) : List (Int × Int) × Int := if M.curveOk xs then (M.thinGo xs 0, 0) else ([], 1)
theorem M.thin_yes {xs : List (Int × Int)} {k : Nat} (h : k < xs.length) (hi : M.idle xs k = true) : M.thinGo xs k = M.thinGo (M.dropP xs k) 0 := by
  rw [M.thinGo, dif_pos h, if_pos hi]
theorem M.thin_no {xs : List (Int × Int)} {k : Nat} (h : k < xs.length) (hi : M.idle xs k = false) : M.thinGo xs k = M.thinGo xs (k + 1) := by
  rw [M.thinGo, dif_pos h, if_neg (by rw [hi]; exact Bool.false_ne_true)]
theorem M.thin_end {xs : List (Int × Int)} {k : Nat} (h : ¬ k < xs.length) : M.thinGo xs k = xs := by
  rw [M.thinGo, dif_neg h]
theorem M.thin_one {xs : List (Int × Int)} {k : Nat} (h : xs.length ≤ 1) : M.thinGo xs k = xs := by
  by_cases hk : k < xs.length
  · rw [M.thin_no hk (by rw [M.idle, decide_eq_false (by omega)]; rfl), M.thin_end (by omega)]
  · exact M.thin_end hk
theorem M.idle_len {xs : List (Int × Int)} {k : Nat} (h : M.idle xs k = true) : 1 < xs.length := by
  rw [M.idle, Bool.and_eq_true, decide_eq_true_iff] at h
  exact h.1
theorem M.idle_rend {xs : List (Int × Int)} {k : Nat} (h : M.idle xs k = true) : M.rend (M.dropP xs k) 4001 = M.rend xs 4001 := by
  rw [M.idle, Bool.and_eq_true, decide_eq_true_iff, decide_eq_true_iff] at h
  exact h.2
theorem M.thin_len : ∀ (xs : List (Int × Int)) (k : Nat), (M.thinGo xs k).length ≤ xs.length := by
  intro xs k
  induction xs, k using M.thinGo.induct with
  | case1 xs k hk hi ih => rw [M.thin_yes hk hi]; rw [M.dropP_len xs hk] at ih; omega
  | case2 xs k hk hi ih => rw [M.thin_no hk (by simpa using hi)]; exact ih
  | case3 xs k hk => rw [M.thin_end hk]; exact Nat.le_refl _
/-- How a list stands in the course of the thinning of xs. -/
def M.thinIn (xs cur : List (Int × Int)) (k : Nat) : Prop := M.curveOk cur = true ∧ M.thinGo cur k = M.thinGo xs 0 ∧ M.rend cur 4001 = M.rend xs 4001
theorem M.thinIn_yes {xs cur : List (Int × Int)} {k : Nat} (h : M.thinIn xs cur k) (hk : k < cur.length) (hi : M.idle cur k = true) : M.thinIn xs (M.dropP cur k) 0 :=
  ⟨M.dropP_ok h.1 hk (M.idle_len hi), by rw [← M.thin_yes hk hi]; exact h.2.1, by rw [M.idle_rend hi]; exact h.2.2⟩
theorem M.thinIn_no {xs cur : List (Int × Int)} {k : Nat} (h : M.thinIn xs cur k) (hk : k < cur.length) (hi : M.idle cur k = false) : M.thinIn xs cur (k + 1) :=
  ⟨h.1, by rw [← M.thin_no hk hi]; exact h.2.1, h.2.2⟩
def sliceLen : Value → Nat
  | .slice _ n _ => n
  | _ => 0
def lenAt (w : World) (a : Addr) : Nat := match w.cell? a with
  | some v => sliceLen v
  | none => 0
theorem lenAt_eq {w : World} {a : Addr} {A : Option Addr} {n c : Nat} (h : w.cell? a = some (.slice A n c)) : lenAt w a = n := by simp [lenAt, h, sliceLen]
theorem impl_same (A A' : Option Addr) (n c n' c' : Nat) (xs ys : List Int) (w : World) (hx : RI w w.heap.size A n xs) (hy : RI w w.heap.size A' n' ys) (hn : n ≤ 1000000000) :
    Calls Tryz.prog 149 #[.slice A n c, .slice A' n' c'] w fun e w' => e = .returned (.bool (decide (xs = ys))) ∧ Below w.heap.size w w' := by
  have hl := Lib.hid hx.len
  have hl' := Lib.hid hy.len
  by_cases hnn : n = n'
  · subst hnn
    go_enter Tryz.func149, Tryz.ntmps149
    go_wp2
    go_loop [5, 6, 14] (fun _ _ i => ∃ k : Nat, i = .int .i64 k ∧ k ≤ n ∧ Hid (xs.take k = ys.take k)) (fun _ _ i => n - (intOf i).toNat)
    case atStart => exact ⟨0, rfl, by omega, Lib.hid (by simp)⟩
    case round =>
      obtain ⟨k, rfl, hk, H⟩ := hrel
      by_cases hlt : k < n
      · obtain ⟨ad, x, rfl, hab, X, hc⟩ := hx.at hlt
        obtain ⟨ad', y, rfl, hab', Y, hc'⟩ := hy.at hlt
        by_cases hxy : x = y
        · subst hxy
          go_wp2
          go_round
          case rel => exact ⟨k + 1, by go_num, by omega, Lib.hid (by rw [M.take_at X.out, M.take_at Y.out, H.out])⟩
          case measure => simp [intOf]; omega
        · have hne : (x != y) = true := by simpa using hxy
          have hno := Lib.hid (show ¬ xs = ys from fun e => by have h1 := X.out; rw [e, Y.out] at h1; injection h1 with h1; exact hxy h1.symm)
          go_wp2
          go_ret
          exact ⟨ret_bool (by simp [hno.out]), Below.refl _ _⟩
      · go_wp2
        go_ret
        have h1 : xs = ys := by have := H.out; rwa [List.take_of_length_le (by rw [hl.out]; omega), List.take_of_length_le (by rw [hl'.out]; omega)] at this
        exact ⟨ret_bool (by simp [h1]), Below.refl _ _⟩
  · have hne := Lib.hid (show ¬ xs = ys from fun e => hnn (by rw [← hl.out, ← hl'.out, e]))
    go_enter Tryz.func149, Tryz.ntmps149
    go_wp2
    go_ret
    exact ⟨ret_bool (by simp [hne.out]), Below.refl _ _⟩
end Go.Proofs.YtacgcagpaecncaaGreat
namespace Go.Proofs.YtacgcagpaecncaaGreat
open Go.RowKit
set_option maxHeartbeats 4000000
set_option maxRecDepth 100000
theorem impl_sameAll (A A' : Option Addr) (n c n' c' : Nat) (xs ys : List (List Int)) (w : World) (hx : tSS.R w w.heap.size [.slice A n c] xs) (hy : tSS.R w w.heap.size [.slice A' n' c'] ys) (hn : hSS.sz xs ≤ 100000000) :
    Calls Tryz.prog 148 #[.slice A n c, .slice A' n' c'] w fun e w' => e = .returned (.bool (decide (xs = ys))) ∧ Below w.heap.size w w' := by
  have rx := sl_R.1 hx
  have ry := sl_R.1 hy
  have hl := Lib.hid rx.cap.1
  have hl' := Lib.hid ry.cap.1
  have hm1 := Lib.hid (show xs.length + hS.szL xs ≤ 100000000 from hn)
  have hnb : n ≤ 1000000000 := by have := hm1.out; have := hl.out; omega
  clear hn hx hy
  by_cases hnn : n = n'
  · subst hnn
    go_enter Tryz.func148, Tryz.ntmps148
    go_wp2
    go_loopw [5, 6, 14] (fun _ _ i wr => ∃ k : Nat, i = .int .i64 k ∧ k ≤ n ∧ Hid (xs.take k = ys.take k) ∧ Below w.heap.size w wr) (fun _ _ i _ => n - (intOf i).toNat)
    case atStart => exact ⟨0, rfl, by omega, Lib.hid (by simp), Below.refl _ _⟩
    case round =>
      obtain ⟨k, rfl, hk, H, hb⟩ := hrel
      by_cases hlt : k < n
      · have hX := Lib.hid (List.getElem?_eq_getElem (l := xs) (i := k) (by rw [hl.out]; exact hlt))
        have hY := Lib.hid (List.getElem?_eq_getElem (l := ys) (i := k) (by rw [hl'.out]; exact hlt))
        obtain ⟨b, o1, cc, cs, hv, hab, -, hE, hcc⟩ := (rx.below hb).atX hX.out
        obtain ⟨b', o2, cc', cs', hv', hab', -, hE', hdd⟩ := (ry.below hb).atX hY.out
        simp only [Value.slice.injEq] at hv hv'
        obtain ⟨rfl, -, rfl⟩ := hv
        obtain ⟨rfl, -, rfl⟩ := hv'
        have hU := hS.szL_at hX.out
        generalize xs[k]'(by rw [hl.out]; exact hlt) = x at hX hE hU
        generalize ys[k]'(by rw [hl'.out]; exact hlt) = y at hY hE'
        obtain ⟨A1, n1, c1, rfl⟩ := open_sl hE
        obtain ⟨A2, n2, c2, rfl⟩ := open_sl hE'
        have e0 : wr.cell? ⟨b, o1 + k * 1, none⟩ = some (.slice A1 n1 c1) := hcc 0 _ rfl
        have f0 : wr.cell? ⟨b', o2 + k * 1, none⟩ = some (.slice A2 n2 c2) := hdd 0 _ rfl
        rw [Nat.mul_one] at e0 f0
        have hF := (tS_R.1 (tS.more hb.size hE)).ri
        have hF' := (tS_R.1 (tS.more hb.size hE')).ri
        have n1b : n1 ≤ 1000000000 := by have := tS_len hE; have := hm1.out; rw [hS_sz] at hU; omega
        clear hcc hdd hU hE hE'
        by_cases hp : x = y
        · have HD := Lib.hid (decide_eq_true hp)
          have HP := Lib.hid hp
          clear hp
          go_wp2_with (go_at_call 149; refine (impl_same _ _ _ _ _ _ _ _ _ hF hF' n1b).mono ?_; rw [HD.out]; rintro e w2 ⟨rfl, bel2⟩)
          go_roundw
          case rel => exact ⟨k + 1, by go_num, by omega, Lib.hid (by rw [M.take_at hX.out, M.take_at hY.out, H.out, HP.out]), bel_trans hb bel2⟩
          case measure => simp [intOf]; omega
        · have HD := Lib.hid (decide_eq_false hp)
          have R := Lib.hid (show decide (xs = ys) = false by
            rw [decide_eq_false_iff_not]
            intro e
            have h1 := hX.out
            rw [e, hY.out] at h1
            injection h1 with h1
            exact hp h1.symm)
          clear hp
          go_wp2_with (go_at_call 149; refine (impl_same _ _ _ _ _ _ _ _ _ hF hF' n1b).mono ?_; rw [HD.out]; rintro e w2 ⟨rfl, bel2⟩)
          go_ret
          exact ⟨ret_bool (by rw [R.out]), bel_trans hb bel2⟩
      · go_wp2
        go_ret
        have h1 : xs = ys := by have := H.out; rwa [List.take_of_length_le (by rw [hl.out]; omega), List.take_of_length_le (by rw [hl'.out]; omega)] at this
        exact ⟨ret_bool (by simp [h1]), hb⟩
  · have hne := Lib.hid (show ¬ xs = ys from fun e => hnn (by rw [← hl.out, ← hl'.out, e]))
    go_enter Tryz.func148, Tryz.ntmps148
    go_wp2
    go_ret
    exact ⟨ret_bool (by simp [hne.out]), Below.refl _ _⟩
end Go.Proofs.YtacgcagpaecncaaGreat
namespace Go.Proofs.YtacgcagpaecncaaGreat
open Go.RowKit Go.Sort
set_option maxHeartbeats 4000000
set_option maxRecDepth 100000
theorem node_no {a0 a1 a2 b0 b1 b2 : Int} {xs ys : List Int} (h : ¬ (a0 = b0 ∧ a1 = b1 ∧ a2 = b2)) : decide (((a0, a1, a2, xs) : Node) = (b0, b1, b2, ys)) = false := by
  rw [decide_eq_false_iff_not]
  intro e
  simp only [Prod.mk.injEq] at e
  exact h ⟨e.1, e.2.1, e.2.2.1⟩
theorem node_yes (a0 a1 a2 : Int) (xs ys : List Int) : decide (((a0, a1, a2, xs) : Node) = (a0, a1, a2, ys)) = decide (xs = ys) := by
  simp
theorem impl_sameNode (a0 a1 a2 b0 b1 b2 : Int) (A A' : Option Addr) (n c n' c' : Nat) (xs ys : List Int) (w : World) (hx : RI w w.heap.size A n xs) (hy : RI w w.heap.size A' n' ys) (hn : n ≤ 1000000000) :
    Calls Tryz.prog 150 #[.agg #[.int .i64 a0, .int .i64 a1, .int .i64 a2, .slice A n c], .agg #[.int .i64 b0, .int .i64 b1, .int .i64 b2, .slice A' n' c']] w fun e w' => e = .returned (.bool (decide (((a0, a1, a2, xs) : Node) = (b0, b1, b2, ys)))) ∧ Below w.heap.size w w' := by
  obtain ⟨W, hW⟩ : ∃ W, W = (w.alloc (.cells #[.int .i64 a0, .int .i64 a1, .int .i64 a2, .slice A n c] 70)).alloc (.cells #[.int .i64 b0, .int .i64 b1, .int .i64 b2, .slice A' n' c'] 70) := ⟨_, rfl⟩
  have B0 : Below w.heap.size w W := by rw [hW]; exact ((Below.refl _ _).alloc (Nat.le_refl _) _).alloc (by simp) _
  have rx := hx.later B0
  have ry := hy.later B0
  have HW := Lib.hid hW
  clear hW
  by_cases h0 : ¬ a0 = b0
  · have g0 : (a0 == b0) = false := by simpa using h0
    have R := Lib.hid (node_no (xs := xs) (ys := ys) (a0 := a0) (a1 := a1) (a2 := a2) (b0 := b0) (b1 := b1) (b2 := b2) (fun e => h0 e.1))
    go_enter Tryz.func150, Tryz.ntmps150
    go_wp2_with fail
    try rw [← HW.out]
    go_ret
    exact ⟨ret_bool (by rw [R.out]), B0⟩
  replace h0 : a0 = b0 := Decidable.not_not.1 h0
  subst h0
  by_cases h1 : ¬ a1 = b1
  · have g1 : (a1 == b1) = false := by simpa using h1
    have R := Lib.hid (node_no (xs := xs) (ys := ys) (a0 := a0) (a1 := a1) (a2 := a2) (b0 := a0) (b1 := b1) (b2 := b2) (fun e => h1 e.2.1))
    go_enter Tryz.func150, Tryz.ntmps150
    go_wp2_with fail
    try rw [← HW.out]
    go_ret
    exact ⟨ret_bool (by rw [R.out]), B0⟩
  replace h1 : a1 = b1 := Decidable.not_not.1 h1
  subst h1
  by_cases h2 : ¬ a2 = b2
  · have g2 : (a2 == b2) = false := by simpa using h2
    have R := Lib.hid (node_no (xs := xs) (ys := ys) (a0 := a0) (a1 := a1) (a2 := a2) (b0 := a0) (b1 := a1) (b2 := b2) (fun e => h2 e.2.2))
    go_enter Tryz.func150, Tryz.ntmps150
    go_wp2_with fail
    try rw [← HW.out]
    go_ret
    exact ⟨ret_bool (by rw [R.out]), B0⟩
  replace h2 : a2 = b2 := Decidable.not_not.1 h2
  subst h2
  rw [node_yes]
  go_enter Tryz.func150, Tryz.ntmps150
  go_wp2_with fail
  rw [← HW.out]
  refine (impl_same _ _ _ _ _ _ _ _ _ rx ry hn).mono ?_
  rintro e w2 ⟨rfl, bel2⟩
  go_wp2
  go_ret
  exact ⟨rfl, bel_trans B0 bel2⟩
end Go.Proofs.YtacgcagpaecncaaGreat
namespace Go.Proofs.YtacgcagpaecncaaGreat
open Go.RowKit Go.Sort
set_option maxHeartbeats 4000000
set_option maxRecDepth 100000
set_option synthInstance.maxSize 2000
set_option synthInstance.maxHeartbeats 400000
theorem impl_SamePatch (a0 b0 : Int) (A1 : Option Addr) (n1 c1 : Nat) (B1 : Option Addr) (m1 d1 : Nat) (A2 : Option Addr) (n2 c2 : Nat) (B2 : Option Addr) (m2 d2 : Nat) (A3 : Option Addr) (n3 c3 : Nat) (B3 : Option Addr) (m3 d3 : Nat) (x1 y1 : List (List Int)) (x2 y2 : List Node) (x3 y3 : List Int) (w : World) (h1 : tSS.R w w.heap.size [.slice A1 n1 c1] x1) (k1 : tSS.R w w.heap.size [.slice B1 m1 d1] y1) (h2 : tNS.R w w.heap.size [.slice A2 n2 c2] x2) (k2 : tNS.R w w.heap.size [.slice B2 m2 d2] y2) (h3 : tS.R w w.heap.size [.slice A3 n3 c3] x3) (k3 : tS.R w w.heap.size [.slice B3 m3 d3] y3) (hn : hP.sz ((a0, x1, x2, x3) : Patch) ≤ 100000000) (hn2 : hP.sz ((b0, y1, y2, y3) : Patch) ≤ 100000000) :
    Calls Tryz.prog 133 #[.agg #[.int .i64 a0, .slice A1 n1 c1, .slice A2 n2 c2, .slice A3 n3 c3], .agg #[.int .i64 b0, .slice B1 m1 d1, .slice B2 m2 d2, .slice B3 m3 d3]] w fun e w' => e = .returned (.bool (decide (((a0, x1, x2, x3) : Patch) = (b0, y1, y2, y3)))) ∧ Below w.heap.size w w' := by
  obtain ⟨W, hW⟩ : ∃ W, W = (w.alloc (.cells #[.int .i64 a0, .slice A1 n1 c1, .slice A2 n2 c2, .slice A3 n3 c3] 68)).alloc (.cells #[.int .i64 b0, .slice B1 m1 d1, .slice B2 m2 d2, .slice B3 m3 d3] 68) := ⟨_, rfl⟩
  have B0 : Below w.heap.size w W := by rw [hW]; exact ((Below.refl _ _).alloc (Nat.le_refl _) _).alloc (by simp) _
  have p0 : W.cell? ⟨w.heap.size, 0, none⟩ = some (.int .i64 a0) := by rw [hW]; simp [go_sem]
  have q0 : W.cell? ⟨w.heap.size + 1, 0, none⟩ = some (.int .i64 b0) := by rw [hW]; simp [go_sem]
  have p1 : W.cell? ⟨w.heap.size, 1, none⟩ = some (.slice A1 n1 c1) := by rw [hW]; simp [go_sem]
  have q1 : W.cell? ⟨w.heap.size + 1, 1, none⟩ = some (.slice B1 m1 d1) := by rw [hW]; simp [go_sem]
  have p2 : W.cell? ⟨w.heap.size, 2, none⟩ = some (.slice A2 n2 c2) := by rw [hW]; simp [go_sem]
  have q2 : W.cell? ⟨w.heap.size + 1, 2, none⟩ = some (.slice B2 m2 d2) := by rw [hW]; simp [go_sem]
  have p3 : W.cell? ⟨w.heap.size, 3, none⟩ = some (.slice A3 n3 c3) := by rw [hW]; simp [go_sem]
  have q3 : W.cell? ⟨w.heap.size + 1, 3, none⟩ = some (.slice B3 m3 d3) := by rw [hW]; simp [go_sem]
  have lx : w.heap.size + 1 < W.heap.size := by rw [hW]; simp
  have HW := Lib.hid hW
  have r1 := tSS.later h1 B0
  have s1 := tSS.later k1 B0
  have X1 := Lib.hid (sl_R.1 h1).cap.1
  have Y1 := Lib.hid (sl_R.1 k1).cap.1
  have r2 := tNS.later h2 B0
  have s2 := tNS.later k2 B0
  have X2 := Lib.hid (sl_R.1 h2).cap.1
  have Y2 := Lib.hid (sl_R.1 k2).cap.1
  have r3 := tS.later h3 B0
  have s3 := tS.later k3 B0
  have X3 := Lib.hid (sl_R.1 h3).cap.1
  have Y3 := Lib.hid (sl_R.1 k3).cap.1
  rw [hP_sz] at hn hn2
  have z1 : hSS.sz x1 ≤ 100000000 := by omega
  have v1 : hSS.sz y1 ≤ 100000000 := by omega
  have bn1 : n1 ≤ 100000000 := by have e : x1.length + hS.szL x1 = hSS.sz x1 := rfl; have := X1.out; omega
  have z2 : hNS.sz x2 ≤ 100000000 := by omega
  have v2 : hNS.sz y2 ≤ 100000000 := by omega
  have bn2 : n2 ≤ 100000000 := by have e : x2.length + hN.szL x2 = hNS.sz x2 := rfl; have := X2.out; omega
  have z3 : hS.sz x3 ≤ 100000000 := by omega
  have v3 : hS.sz y3 ≤ 100000000 := by omega
  have bn3 : n3 ≤ 100000000 := by have e : x3.length + hI.szL x3 = hS.sz x3 := rfl; have := X3.out; omega
  clear hW hn hn2 h1 k1 h2 k2 h3 k3
  by_cases e0 : ¬ a0 = b0
  · have g0 : (a0 != b0) = true := by simpa using e0
    have R := Lib.hid (show decide (((a0, x1, x2, x3) : Patch) = (b0, y1, y2, y3)) = false by rw [decide_eq_false_iff_not]; intro e; simp only [Prod.mk.injEq] at e; exact e0 e.1)
    go_enter Tryz.func133, Tryz.ntmps133
    go_wp2_with fail
    try rw [← HW.out]
    go_ret
    exact ⟨ret_bool (by rw [R.out]), B0⟩
  replace e0 : a0 = b0 := Decidable.not_not.1 e0
  subst e0
  go_enter Tryz.func133, Tryz.ntmps133
  go_wp2_with fail
  rw [← HW.out]
  by_cases e1 : ¬ x1 = y1
  · have HD := Lib.hid (decide_eq_false e1)
    have R := Lib.hid (show decide (((a0, x1, x2, x3) : Patch) = (a0, y1, y2, y3)) = false by rw [decide_eq_false_iff_not]; intro e; simp only [Prod.mk.injEq] at e; exact e1 e.2.1)
    refine (impl_sameAll _ _ _ _ _ _ _ _ _ r1 s1 z1).mono ?_
    rw [HD.out]
    rintro e u1 ⟨rfl, bel1⟩
    go_wp2
    go_ret
    exact ⟨ret_bool (by rw [R.out]), bel_trans B0 bel1⟩
  replace e1 : x1 = y1 := Decidable.not_not.1 e1
  have E1 := Lib.hid e1
  have HD1 := Lib.hid (decide_eq_true e1)
  clear e1
  refine (impl_sameAll _ _ _ _ _ _ _ _ _ r1 s1 z1).mono ?_
  rw [HD1.out]
  rintro e w1 ⟨rfl, bel1⟩
  have lx_w1 := Nat.lt_of_lt_of_le lx bel1.size
  have B_w1 := bel_trans B0 bel1
  have p0_w1 : w1.cell? ⟨w.heap.size, 0, none⟩ = some (.int .i64 a0) := by rw [bel1.cell (by show w.heap.size < _; have := lx; omega)]; exact p0
  have q0_w1 : w1.cell? ⟨w.heap.size + 1, 0, none⟩ = some (.int .i64 a0) := by rw [bel1.cell (by show w.heap.size + 1 < _; have := lx; omega)]; exact q0
  have p1_w1 : w1.cell? ⟨w.heap.size, 1, none⟩ = some (.slice A1 n1 c1) := by rw [bel1.cell (by show w.heap.size < _; have := lx; omega)]; exact p1
  have q1_w1 : w1.cell? ⟨w.heap.size + 1, 1, none⟩ = some (.slice B1 m1 d1) := by rw [bel1.cell (by show w.heap.size + 1 < _; have := lx; omega)]; exact q1
  have p2_w1 : w1.cell? ⟨w.heap.size, 2, none⟩ = some (.slice A2 n2 c2) := by rw [bel1.cell (by show w.heap.size < _; have := lx; omega)]; exact p2
  have q2_w1 : w1.cell? ⟨w.heap.size + 1, 2, none⟩ = some (.slice B2 m2 d2) := by rw [bel1.cell (by show w.heap.size + 1 < _; have := lx; omega)]; exact q2
  have p3_w1 : w1.cell? ⟨w.heap.size, 3, none⟩ = some (.slice A3 n3 c3) := by rw [bel1.cell (by show w.heap.size < _; have := lx; omega)]; exact p3
  have q3_w1 : w1.cell? ⟨w.heap.size + 1, 3, none⟩ = some (.slice B3 m3 d3) := by rw [bel1.cell (by show w.heap.size + 1 < _; have := lx; omega)]; exact q3
  have r1_w1 := tSS.later r1 bel1
  have s1_w1 := tSS.later s1 bel1
  have r2_w1 := tNS.later r2 bel1
  have s2_w1 := tNS.later s2 bel1
  have r3_w1 := tS.later r3 bel1
  have s3_w1 := tS.later s3 bel1
  clear p0 q0 p1 q1 p2 q2 p3 q3 r1 s1 r2 s2 r3 s3
  go_wp2_with fail
  by_cases e3 : ¬ x3 = y3
  · have HD := Lib.hid (decide_eq_false e3)
    have R := Lib.hid (show decide (((a0, x1, x2, x3) : Patch) = (a0, y1, y2, y3)) = false by rw [decide_eq_false_iff_not]; intro e; simp only [Prod.mk.injEq] at e; exact e3 e.2.2.2)
    refine (impl_same _ _ _ _ _ _ _ _ _ (tS_R.1 r3_w1).ri (tS_R.1 s3_w1).ri (by omega)).mono ?_
    rw [HD.out]
    rintro e u1 ⟨rfl, bel1⟩
    go_wp2
    go_ret
    exact ⟨ret_bool (by rw [R.out]), bel_trans B_w1 bel1⟩
  replace e3 : x3 = y3 := Decidable.not_not.1 e3
  have E3 := Lib.hid e3
  have HD2 := Lib.hid (decide_eq_true e3)
  clear e3
  refine (impl_same _ _ _ _ _ _ _ _ _ (tS_R.1 r3_w1).ri (tS_R.1 s3_w1).ri (by omega)).mono ?_
  rw [HD2.out]
  rintro e w2 ⟨rfl, bel2⟩
  have lx_w2 := Nat.lt_of_lt_of_le lx_w1 bel2.size
  have B_w2 := bel_trans B_w1 bel2
  have p0_w2 : w2.cell? ⟨w.heap.size, 0, none⟩ = some (.int .i64 a0) := by rw [bel2.cell (by show w.heap.size < _; have := lx_w1; omega)]; exact p0_w1
  have q0_w2 : w2.cell? ⟨w.heap.size + 1, 0, none⟩ = some (.int .i64 a0) := by rw [bel2.cell (by show w.heap.size + 1 < _; have := lx_w1; omega)]; exact q0_w1
  have p1_w2 : w2.cell? ⟨w.heap.size, 1, none⟩ = some (.slice A1 n1 c1) := by rw [bel2.cell (by show w.heap.size < _; have := lx_w1; omega)]; exact p1_w1
  have q1_w2 : w2.cell? ⟨w.heap.size + 1, 1, none⟩ = some (.slice B1 m1 d1) := by rw [bel2.cell (by show w.heap.size + 1 < _; have := lx_w1; omega)]; exact q1_w1
  have p2_w2 : w2.cell? ⟨w.heap.size, 2, none⟩ = some (.slice A2 n2 c2) := by rw [bel2.cell (by show w.heap.size < _; have := lx_w1; omega)]; exact p2_w1
  have q2_w2 : w2.cell? ⟨w.heap.size + 1, 2, none⟩ = some (.slice B2 m2 d2) := by rw [bel2.cell (by show w.heap.size + 1 < _; have := lx_w1; omega)]; exact q2_w1
  have p3_w2 : w2.cell? ⟨w.heap.size, 3, none⟩ = some (.slice A3 n3 c3) := by rw [bel2.cell (by show w.heap.size < _; have := lx_w1; omega)]; exact p3_w1
  have q3_w2 : w2.cell? ⟨w.heap.size + 1, 3, none⟩ = some (.slice B3 m3 d3) := by rw [bel2.cell (by show w.heap.size + 1 < _; have := lx_w1; omega)]; exact q3_w1
  have r1_w2 := tSS.later r1_w1 bel2
  have s1_w2 := tSS.later s1_w1 bel2
  have r2_w2 := tNS.later r2_w1 bel2
  have s2_w2 := tNS.later s2_w1 bel2
  have r3_w2 := tS.later r3_w1 bel2
  have s3_w2 := tS.later s3_w1 bel2
  clear p0_w1 q0_w1 p1_w1 q1_w1 p2_w1 q2_w1 p3_w1 q3_w1 r1_w1 s1_w1 r2_w1 s2_w1 r3_w1 s3_w1
  by_cases e2 : ¬ n2 = m2
  · have g2 : ((n2 : Int) != (m2 : Int)) = true := by simp; omega
    have R := Lib.hid (show decide (((a0, x1, x2, x3) : Patch) = (a0, y1, y2, y3)) = false by rw [decide_eq_false_iff_not]; intro e; simp only [Prod.mk.injEq] at e; exact e2 (by rw [← X2.out, ← Y2.out, e.2.2.1]))
    go_wp2_with fail
    go_ret
    exact ⟨ret_bool (by rw [R.out]), B_w2⟩
  replace e2 : n2 = m2 := Decidable.not_not.1 e2
  subst e2
  go_wp2
  go_loopw [5, 6, 40] (fun _ _ i wr => ∃ k : Nat, i = .int .i64 k ∧ k ≤ n2 ∧ Hid (x2.take k = y2.take k) ∧ Below w2.heap.size w2 wr) (fun _ _ i _ => n2 - (intOf i).toNat)
  case atStart => exact ⟨0, rfl, by omega, Lib.hid (by simp), Below.refl _ _⟩
  case round =>
    obtain ⟨k, rfl, hk, H, hb0⟩ := hrel
    obtain ⟨wo0, rfl⟩ : ∃ wo : World, wo = wr := ⟨_, rfl⟩
    have lx_wo0 := Nat.lt_of_lt_of_le lx_w2 hb0.size
    have B_wo0 := bel_trans B_w2 hb0
    have p0_wo0 : wo0.cell? ⟨w.heap.size, 0, none⟩ = some (.int .i64 a0) := by rw [hb0.cell (by show w.heap.size < _; have := lx_w2; omega)]; exact p0_w2
    have q0_wo0 : wo0.cell? ⟨w.heap.size + 1, 0, none⟩ = some (.int .i64 a0) := by rw [hb0.cell (by show w.heap.size + 1 < _; have := lx_w2; omega)]; exact q0_w2
    have p1_wo0 : wo0.cell? ⟨w.heap.size, 1, none⟩ = some (.slice A1 n1 c1) := by rw [hb0.cell (by show w.heap.size < _; have := lx_w2; omega)]; exact p1_w2
    have q1_wo0 : wo0.cell? ⟨w.heap.size + 1, 1, none⟩ = some (.slice B1 m1 d1) := by rw [hb0.cell (by show w.heap.size + 1 < _; have := lx_w2; omega)]; exact q1_w2
    have p2_wo0 : wo0.cell? ⟨w.heap.size, 2, none⟩ = some (.slice A2 n2 c2) := by rw [hb0.cell (by show w.heap.size < _; have := lx_w2; omega)]; exact p2_w2
    have q2_wo0 : wo0.cell? ⟨w.heap.size + 1, 2, none⟩ = some (.slice B2 n2 d2) := by rw [hb0.cell (by show w.heap.size + 1 < _; have := lx_w2; omega)]; exact q2_w2
    have p3_wo0 : wo0.cell? ⟨w.heap.size, 3, none⟩ = some (.slice A3 n3 c3) := by rw [hb0.cell (by show w.heap.size < _; have := lx_w2; omega)]; exact p3_w2
    have q3_wo0 : wo0.cell? ⟨w.heap.size + 1, 3, none⟩ = some (.slice B3 m3 d3) := by rw [hb0.cell (by show w.heap.size + 1 < _; have := lx_w2; omega)]; exact q3_w2
    have r1_wo0 := tSS.later r1_w2 hb0
    have s1_wo0 := tSS.later s1_w2 hb0
    have r2_wo0 := tNS.later r2_w2 hb0
    have s2_wo0 := tNS.later s2_w2 hb0
    have r3_wo0 := tS.later r3_w2 hb0
    have s3_wo0 := tS.later s3_w2 hb0
    clear p0_w2 q0_w2 p1_w2 q1_w2 p2_w2 q2_w2 p3_w2 q3_w2 r1_w2 s1_w2 r2_w2 s2_w2 r3_w2 s3_w2
    by_cases hlt : k < n2
    · have hX := Lib.hid (List.getElem?_eq_getElem (l := x2) (i := k) (by rw [X2.out]; exact hlt))
      have hY := Lib.hid (List.getElem?_eq_getElem (l := y2) (i := k) (by rw [Y2.out]; exact hlt))
      obtain ⟨b, o1, cc, cs, hv, hab, -, hE, hcc⟩ := (sl_R.1 r2_wo0).atX hX.out
      obtain ⟨b', o2, cc', cs', hv', hab', -, hE', hdd⟩ := (sl_R.1 s2_wo0).atX hY.out
      simp only [Value.slice.injEq] at hv hv'
      obtain ⟨rfl, -, rfl⟩ := hv
      obtain ⟨rfl, -, rfl⟩ := hv'
      have hU := hN.szL_at hX.out
      have hV := hN.szL_at hY.out
      generalize x2[k]'(by rw [X2.out]; exact hlt) = x at hX hE hU
      generalize y2[k]'(by rw [Y2.out]; exact hlt) = y at hY hE' hV
      have zz : x2.length + hN.szL x2 = hNS.sz x2 := rfl
      have zv : y2.length + hN.szL y2 = hNS.sz y2 := rfl
      have zx : hN.sz x ≤ 100000000 := by omega
      have zy : hN.sz y ≤ 100000000 := by omega
      clear zz zv hU hV
      obtain ⟨ua0, ua1, ua2, ua3⟩ := x
      obtain ⟨ub0, ub1, ub2, ub3⟩ := y
      obtain ⟨Ae3, ne3, ce3, rfl, hE3⟩ := tN_R.1 hE
      obtain ⟨Be3, me3, de3, rfl, hG3⟩ := tN_R.1 hE'
      have e0 : wo0.cell? ⟨b, o1 + k * 4, none⟩ = some (.int .i64 ua0) := hcc 0 _ rfl
      have f0 : wo0.cell? ⟨b', o2 + k * 4, none⟩ = some (.int .i64 ub0) := hdd 0 _ rfl
      have e1 : wo0.cell? ⟨b, o1 + k * 4 + 1, none⟩ = some (.int .i64 ua1) := hcc 1 _ rfl
      have f1 : wo0.cell? ⟨b', o2 + k * 4 + 1, none⟩ = some (.int .i64 ub1) := hdd 1 _ rfl
      have e2 : wo0.cell? ⟨b, o1 + k * 4 + 2, none⟩ = some (.int .i64 ua2) := hcc 2 _ rfl
      have f2 : wo0.cell? ⟨b', o2 + k * 4 + 2, none⟩ = some (.int .i64 ub2) := hdd 2 _ rfl
      have e3 : wo0.cell? ⟨b, o1 + k * 4 + 3, none⟩ = some (.slice Ae3 ne3 ce3) := hcc 3 _ rfl
      have f3 : wo0.cell? ⟨b', o2 + k * 4 + 3, none⟩ = some (.slice Be3 me3 de3) := hdd 3 _ rfl
      clear hcc hdd
      obtain ⟨U, hU⟩ : ∃ U, U = wo0.alloc (.cells #[.int .i64 ua0, .int .i64 ua1, .int .i64 ua2, .slice Ae3 ne3 ce3] 70) := ⟨_, rfl⟩
      have G0 : Below wo0.heap.size wo0 U := by rw [hU]; exact (Below.refl _ _).alloc (Nat.le_refl _) _
      have sU : wo0.heap.size < U.heap.size := by rw [hU]; simp
      have g0 : U.cell? ⟨wo0.heap.size, 0, none⟩ = some (.int .i64 ua0) := by rw [hU, cell_of_row _ wo0.heap.size 0 _ 70 (0, 0) (heap_alloc_new wo0 _)]; rfl
      have l0 : U.cell? ⟨b', o2 + k * 4, none⟩ = some (.int .i64 ub0) := by rw [G0.cell hab']; exact f0
      have g1 : U.cell? ⟨wo0.heap.size, 1, none⟩ = some (.int .i64 ua1) := by rw [hU, cell_of_row _ wo0.heap.size 1 _ 70 (0, 0) (heap_alloc_new wo0 _)]; rfl
      have l1 : U.cell? ⟨b', o2 + k * 4 + 1, none⟩ = some (.int .i64 ub1) := by rw [G0.cell hab']; exact f1
      have g2 : U.cell? ⟨wo0.heap.size, 2, none⟩ = some (.int .i64 ua2) := by rw [hU, cell_of_row _ wo0.heap.size 2 _ 70 (0, 0) (heap_alloc_new wo0 _)]; rfl
      have l2 : U.cell? ⟨b', o2 + k * 4 + 2, none⟩ = some (.int .i64 ub2) := by rw [G0.cell hab']; exact f2
      have g3 : U.cell? ⟨wo0.heap.size, 3, none⟩ = some (.slice Ae3 ne3 ce3) := by rw [hU, cell_of_row _ wo0.heap.size 3 _ 70 (0, 0) (heap_alloc_new wo0 _)]; rfl
      have l3 : U.cell? ⟨b', o2 + k * 4 + 3, none⟩ = some (.slice Be3 me3 de3) := by rw [G0.cell hab']; exact f3
      have qq : U.cell? ⟨w.heap.size + 1, 2, none⟩ = some (.slice (some ⟨b', o2, none⟩) n2 d2) := by rw [G0.cell lx_wo0]; exact q2_wo0
      have HU := Lib.hid hU
      clear hU
      replace hE3 := tS.later hE3 G0
      replace hG3 := tS.later hG3 G0
      rw [hN_sz, hS_sz] at zx zy
      have nb : ne3 ≤ 1000000000 := by have := tS_len hE3; omega
      have rg0 := cell_regrown g0
      have rl0 := cell_regrown l0
      have rg1 := cell_regrown g1
      have rl1 := cell_regrown l1
      have rg2 := cell_regrown g2
      have rl2 := cell_regrown l2
      have rg3 := cell_regrown g3
      have rl3 := cell_regrown l3
      have rqq := cell_regrown qq
      have cP : ∀ d os, Calls Tryz.prog 150 #[.agg #[.int .i64 ua0, .int .i64 ua1, .int .i64 ua2, .slice Ae3 ne3 ce3], .agg #[.int .i64 ub0, .int .i64 ub1, .int .i64 ub2, .slice Be3 me3 de3]] (grow (redrawn U d) os) fun e w'' => e = .returned (.bool (decide (((ua0, ua1, ua2, ua3) : Node) = (ub0, ub1, ub2, ub3)))) ∧ ∃ p : Regrown, w'' = grow (redrawn U p.d) p.os := fun d os => Calls.regrown_of (impl_sameNode _ _ _ _ _ _ _ _ _ _ _ _ _ _ _ (tS_R.1 (tS.later hE3 (below_regrown U d os))).ri (tS_R.1 (tS.later hG3 (below_regrown U d os))).ri nb)
      clear g0 l0 g1 l1 g2 l2 g3 l3 qq
      by_cases hp : ((ua0, ua1, ua2, ua3) : Node) = (ub0, ub1, ub2, ub3)
      · rw [decide_eq_true hp] at cP
        have HP := Lib.hid hp
        clear hp
        go_wp2
        rw [← HU.out]
        clear e0 f0 e1 f1 e2 f2 e3 f3
        (refine wp_region_quiet_below (by kernel_rfl) (by kernel_rfl) ?_; (repeat (go_big_quiet_step (exact cP _ _))); refine wpQuiet_nil ?_; intro _ hw'; obtain ⟨⟨dq, osq⟩, hw''⟩ := hw'; subst hw'')
        go_wp2
        go_roundw
        case rel => exact ⟨k + 1, by go_num, by omega, Lib.hid (by rw [M.take_at hX.out, M.take_at hY.out, H.out, HP.out]), bel_trans hb0 (bel_trans G0 (below_regrown U dq osq))⟩
        case measure => simp [intOf]; omega
      · rw [decide_eq_false hp] at cP
        have hxy : ¬ x2 = y2 := fun e => by have h1 := hX.out; rw [e, hY.out] at h1; injection h1 with h1; exact hp h1.symm
        have R := Lib.hid (show decide (((a0, x1, x2, x3) : Patch) = (a0, y1, y2, y3)) = false by rw [decide_eq_false_iff_not]; intro e; simp only [Prod.mk.injEq] at e; exact hxy e.2.2.1)
        clear hp hxy
        go_wp2
        rw [← HU.out]
        clear e0 f0 e1 f1 e2 f2 e3 f3
        (refine wp_region_quiet_below (by kernel_rfl) (by kernel_rfl) ?_; (repeat (go_big_quiet_step (exact cP _ _))); refine wpQuiet_nil ?_; intro _ hw'; obtain ⟨⟨dq, osq⟩, hw''⟩ := hw'; subst hw'')
        go_wp2
        go_ret
        exact ⟨ret_bool (by rw [R.out]), bel_trans B_wo0 (bel_trans G0 (below_regrown U dq osq))⟩
    have E2 := Lib.hid (show x2 = y2 by have := H.out; rwa [List.take_of_length_le (by rw [X2.out]; omega), List.take_of_length_le (by rw [Y2.out]; omega)] at this)
    clear H
    go_wp2
    clear hlt hk
    go_ret
    exact ⟨ret_bool (by rw [E1.out, E2.out, E3.out]; simp), B_wo0⟩
end Go.Proofs.YtacgcagpaecncaaGreat
namespace Go.Proofs.YtacgcagpaecncaaGreat
open Go.RowKit
set_option maxHeartbeats 1000000
set_option maxRecDepth 100000
theorem M.atGo_bd (qs : List (Int × Int)) (t : Int) (ht : 0 ≤ t ∧ t ≤ 4000) : ∀ p : Int × Int, M.ptOk p = true → (∀ q ∈ qs, M.ptOk q = true) → (p :: qs).Pairwise (fun p q => p.1 < q.1) → p.1 ≤ t → -600000000 ≤ M.atGo p qs t ∧ M.atGo p qs t ≤ 600000000 := by
  induction qs with
  | nil =>
    intro p hp _ _ _
    rw [M.ptOk, Bool.and_eq_true, M.inn_iff, M.inn_iff] at hp
    rw [M.atGo]
    omega
  | cons q qs ih =>
    intro p hp hq hs hpt
    have hq1 := hq q (by simp)
    rw [List.pairwise_cons] at hs
    have hlt := hs.1 q (by simp)
    rw [M.atGo]
    by_cases h : t < q.1
    · rw [if_pos h]
      rw [M.ptOk, Bool.and_eq_true, M.inn_iff, M.inn_iff] at hp hq1
      have h1 := M.mul_bound (a := q.2 - p.2) (b := t - p.1) (x := 131072) (y := 4000) (by omega) (by omega) (by omega)
      have h2 := M.div_small (a := (q.2 - p.2) * (t - p.1)) (b := q.1 - p.1) (c := 131072 * 4000) (by omega) (by omega) (by omega)
      unfold M.seg
      omega
    · rw [if_neg h]
      exact ih q hq1 (fun r hr => hq r (by simp [hr])) hs.2 (by omega)
theorem M.atC_bd {xs : List (Int × Int)} (h : M.curveOk xs = true) {t : Int} (ht : 0 ≤ t ∧ t ≤ 4000) : -600000000 ≤ M.atC xs t ∧ M.atC xs t ≤ 600000000 := by
  obtain ⟨h1, h2, h3, _⟩ := (M.curve_iff xs).1 h
  cases xs with
  | nil => simp at h3
  | cons p qs =>
    rw [M.atC]
    by_cases hp : t < p.1
    · rw [if_pos hp]
      have := h1 p (by simp)
      rw [M.ptOk, Bool.and_eq_true, M.inn_iff, M.inn_iff] at this
      omega
    · rw [if_neg hp]
      exact M.atGo_bd qs t ht p (h1 p (by simp)) (fun q hq => h1 q (by simp [hq])) h2 (by omega)
def M.applyL (zs : List Int) (xs : List (Int × Int)) : List Int := (List.range zs.length).map fun (i : Nat) => wrap32 ((zs[i]?).getD 0 * M.atC xs (i : Int) / 65536)
theorem M.applyL_len (zs : List Int) (xs : List (Int × Int)) : (M.applyL zs xs).length = zs.length := by simp [M.applyL]
theorem M.applyL_at {zs : List Int} {xs : List (Int × Int)} {i : Nat} {x : Int} (h : zs[i]? = some x) : (M.applyL zs xs)[i]? = some (wrap32 (x * M.atC xs (i : Int) / 65536)) := by
  have hi := (List.getElem?_eq_some_iff.1 h).1
  have hx := (List.getElem?_eq_some_iff.1 h).2
  simp [M.applyL, hi, hx]
def M.applyR (zs : List Int) (xs : List (Int × Int)) : List Int × Int := if M.curveOk xs && M.sig zs then (M.applyL zs xs, 0) else ([], 1)
theorem M.apply_facts {x v : Int} (hx : -2147483648 ≤ x ∧ x ≤ 2147483647) (hv : -600000000 ≤ v ∧ v ≤ 600000000) :
    IntKind.i64.wrap (x * v) = x * v ∧ wrap64 (x * v) = x * v ∧ (-9000000000000000000 ≤ x * v ∧ x * v ≤ 9000000000000000000) := by
  have h1 := M.mul_bound (a := x) (b := v) (x := 2147483648) (y := 600000000) (by omega) (by omega) (by omega)
  refine ⟨IntWalk.i64_in _ (by omega), ?_, by omega⟩
  unfold wrap64
  omega
end Go.Proofs.YtacgcagpaecncaaGreat
namespace Go.Proofs.YtacgcagpaecncaaGreat
open Go.RowKit
set_option maxHeartbeats 2000000
set_option maxRecDepth 100000
/-- A curve's value at a sample, and the code. -/
def M.valR (xs : List (Int × Int)) (t : Int) : Int × Int := if M.curveOk xs then (if M.inn t 0 4000 then (M.atC xs t, 0) else (0, 2)) else (0, 1)
end Go.Proofs.YtacgcagpaecncaaGreat
namespace Go.Proofs.YtacgcagpaecncaaGreat
open Go.RowKit
set_option maxHeartbeats 2000000
set_option maxRecDepth 100000
end Go.Proofs.YtacgcagpaecncaaGreat
namespace Go.Proofs.YtacgcagpaecncaaGreat
open Go.RowKit
set_option maxHeartbeats 2000000
set_option maxRecDepth 100000
def M.clampT (d : Int) : Int := max (-8000) (min 8000 d)
theorem M.clampT_bd (d : Int) : -8000 ≤ M.clampT d ∧ M.clampT d ≤ 8000 := by unfold M.clampT; omega
def M.shiftP (xs : List (Int × Int)) (d : Int) : List (Int × Int) := xs.map fun p => (p.1 + d, p.2)
def M.shiftR (xs : List (Int × Int)) (d : Int) : List (Int × Int) × Int := if M.curveOk xs then (if M.curveOk (M.shiftP xs (M.clampT d)) then (M.shiftP xs (M.clampT d), 0) else ([], 2)) else ([], 1)
theorem M.shiftP_len (xs : List (Int × Int)) (d : Int) : (M.shiftP xs d).length = xs.length := by simp [M.shiftP]
theorem M.shiftP_at {xs : List (Int × Int)} {k : Nat} {p : Int × Int} (d : Int) (h : xs[k]? = some p) : (M.shiftP xs d)[k]? = some (p.1 + d, p.2) := by simp [M.shiftP, h]
theorem M.seg_shift (p q : Int × Int) (t d : Int) : M.seg (p.1 + d, p.2) (q.1 + d, q.2) (t + d) = M.seg p q t := by
  unfold M.seg
  simp only
  rw [show t + d - (p.1 + d) = t - p.1 by omega, show q.1 + d - (p.1 + d) = q.1 - p.1 by omega]
theorem M.atGo_shift (qs : List (Int × Int)) (t d : Int) : ∀ p : Int × Int, M.atGo (p.1 + d, p.2) (M.shiftP qs d) (t + d) = M.atGo p qs t := by
  induction qs with
  | nil => intro p; rfl
  | cons q qs ih =>
    intro p
    show M.atGo (p.1 + d, p.2) ((q.1 + d, q.2) :: M.shiftP qs d) (t + d) = _
    rw [M.atGo, M.atGo, M.seg_shift, ih q]
    simp only
    by_cases h : t < q.1
    · rw [if_pos h, if_pos (by omega)]
    · rw [if_neg h, if_neg (by omega)]
theorem M.atC_shift (xs : List (Int × Int)) (t d : Int) : M.atC (M.shiftP xs d) (t + d) = M.atC xs t := by
  cases xs with
  | nil => rfl
  | cons p qs =>
    show M.atC ((p.1 + d, p.2) :: M.shiftP qs d) (t + d) = _
    rw [M.atC, M.atC, M.atGo_shift]
    simp only
    by_cases h : t < p.1
    · rw [if_pos h, if_pos (by omega)]
    · rw [if_neg h, if_neg (by omega)]
theorem M.shift_ok {xs : List (Int × Int)} {d : Int} (h : M.curveOk xs = true) (hb : ∀ p ∈ xs, 0 ≤ p.1 + d ∧ p.1 + d ≤ 4000) : M.curveOk (M.shiftP xs d) = true := by
  rw [M.curve_iff] at h ⊢
  obtain ⟨h1, h2, h3⟩ := h
  refine ⟨fun p hp => ?_, ?_, by rw [M.shiftP_len]; exact h3⟩
  · obtain ⟨q, hq, rfl⟩ := List.mem_map.1 hp
    have g1 := h1 q hq
    have g2 := hb q hq
    rw [M.ptOk, Bool.and_eq_true, M.inn_iff, M.inn_iff] at g1 ⊢
    exact ⟨g2, g1.2⟩
  · rw [M.shiftP, List.pairwise_map]
    exact h2.imp fun {a b} hab => by simp only; omega
theorem M.shift_back (xs : List (Int × Int)) (d : Int) : M.shiftP (M.shiftP xs d) (-d) = xs := by
  rw [M.shiftP, M.shiftP, List.map_map]
  conv => rhs; rw [← List.map_id xs]
  refine List.map_congr_left fun p _ => ?_
  simp only [Function.comp, id]
  rw [Int.add_neg_cancel_right]
/-- What FnShifted asks. -/
theorem M.shifted {xs : List (Int × Int)} {d : Int} (h : M.curveOk xs = true) (hb : ∀ p ∈ xs, p.1 ≤ 100) (hd : 0 ≤ d ∧ d ≤ 100) :
    M.curveOk (M.shiftP xs d) = true ∧ M.shiftR xs d = (M.shiftP xs d, 0) ∧ M.shiftR (M.shiftP xs d) (-d) = (xs, 0) := by
  have hp : ∀ p ∈ xs, 0 ≤ p.1 + d ∧ p.1 + d ≤ 4000 := fun p hp => by
    have h1 := ((M.curve_iff xs).1 h).1 p hp
    have h2 := hb p hp
    rw [M.ptOk, Bool.and_eq_true, M.inn_iff, M.inn_iff] at h1
    omega
  have h1 := M.shift_ok h hp
  have c1 : M.clampT d = d := by unfold M.clampT; omega
  have c2 : M.clampT (-d) = -d := by unfold M.clampT; omega
  refine ⟨h1, ?_, ?_⟩
  · rw [M.shiftR, h, c1, h1]; rfl
  · rw [M.shiftR, h1, c2, M.shift_back, h]; rfl
theorem M.apply_full {x : Int} (h : -2147483648 ≤ x ∧ x ≤ 2147483647) : wrap32 (x * 65536 / 65536) = x := by
  rw [Int.mul_ediv_cancel _ (by decide)]
  unfold wrap32
  omega
theorem M.apply_none (x : Int) : wrap32 (x * 0 / 65536) = 0 := by
  rw [Int.mul_zero, Int.zero_ediv]
  unfold wrap32
  omega
end Go.Proofs.YtacgcagpaecncaaGreat
namespace Go.Proofs.YtacgcagpaecncaaGreat
open Go.RowKit
set_option maxHeartbeats 1000000
set_option maxRecDepth 100000
/-- A byte. -/
def tU8 : Ty UInt8 := Ty.flat 1 (by decide) 0 (fun x => [.int .u8 (x.toNat : Int)]) (fun _ => rfl) (by simp [Value.oneCell'])
/-- An object that draws numbers out of code bytes: it lies in block b, the bytes in blocks below lo; at most K of them are drawn. -/
structure SrcP (w : World) (b lo : Nat) (A : Option Addr) (n c : Nat) (code : List UInt8) (K : Nat) (a z : Int) : Prop where
  c0 : w.cell? ⟨b, 0, none⟩ = some (.slice A n c)
  c1 : w.cell? ⟨b, 1, none⟩ = some (.int .i64 a)
  c2 : w.cell? ⟨b, 2, none⟩ = some (.int .u64 z)
  f1 : w.frozen? ⟨b, 1, none⟩ = false
  f2 : w.frozen? ⟨b, 2, none⟩ = false
  rd : RS tU8 w lo (.slice A n c) code
  ha : 0 ≤ a
  hK : a ≤ K
  hb : lo ≤ b
def Src (w : World) (b lo : Nat) (A : Option Addr) (n c : Nat) (code : List UInt8) (K : Nat) : Prop := ∃ a z, SrcP w b lo A n c code K a z
/-- What a drawing gives back: a number, and the object in its new state. -/
def Drew (b lo : Nat) (A : Option Addr) (n c : Nat) (code : List UInt8) (K : Nat) (P : Int → Prop) (w : World) (e : Ending) (w' : World) : Prop :=
  ∃ v, e = .returned (.int .i64 v) ∧ P v ∧ Src w' b lo A n c code K ∧ Mid b (b + 1) w w'
section
variable {w w' : World} {b lo n c K K' : Nat} {A : Option Addr} {code : List UInt8}
theorem Src.lt (h : Src w b lo A n c code K) : b < w.heap.size := by
  obtain ⟨a, z, h⟩ := h
  exact World.block_lt_of_cell? w _ h.c0
theorem Src.keep (h : Src w b lo A n c code K) (hk : ∀ k, k < b + 1 → w'.heap[k]? = w.heap[k]?) : Src w' b lo A n c code K := by
  obtain ⟨a, z, h⟩ := h
  have hb := hk b (by omega)
  refine ⟨a, z, ?_, ?_, ?_, ?_, ?_, h.rd.keep fun p hp => World.cell?_of_block (hk p.block (by have := h.hb; omega)), h.ha, h.hK, h.hb⟩
  · rw [World.cell?_of_block hb]; exact h.c0
  · rw [World.cell?_of_block hb]; exact h.c1
  · rw [World.cell?_of_block hb]; exact h.c2
  · rw [World.frozen?_of_block hb]; exact h.f1
  · rw [World.frozen?_of_block hb]; exact h.f2
theorem Src.below {B : Nat} (h : Src w b lo A n c code K) (hb : Below B w w') (hB : b < B) : Src w' b lo A n c code K := h.keep fun k hk => hb.block k (by omega)
theorem Src.mid {l r : Nat} (h : Src w b lo A n c code K) (hm : Mid l r w w') (hd : b < l) : Src w' b lo A n c code K := by
  have hlt := h.lt
  exact h.keep fun k hk => hm.block k (by omega) (.inl (by omega))
theorem Src.more (h : Src w b lo A n c code K) (hK : K ≤ K') : Src w b lo A n c code K' := by
  obtain ⟨a, z, h⟩ := h
  exact ⟨a, z, h.c0, h.c1, h.c2, h.f1, h.f2, h.rd, h.ha, by have := h.hK; omega, h.hb⟩
end
theorem SrcP.step {w : World} {b lo n c K K' : Nat} {A : Option Addr} {code : List UInt8} {a z : Int} (h : SrcP w b lo A n c code K a z) (m m' : Nat) (a' z' : Int) (ha : 0 ≤ a') (hK : a' ≤ K') :
    SrcP ((((w.drewN m).setCell ⟨b, 1, none⟩ (.int .i64 a')).setCell ⟨b, 2, none⟩ (.int .u64 z')).drewN m') b lo A n c code K' a' z' ∧ Mid b (b + 1) w ((((w.drewN m).setCell ⟨b, 1, none⟩ (.int .i64 a')).setCell ⟨b, 2, none⟩ (.int .u64 z')).drewN m') := by
  obtain ⟨h0, h1, h2, g1, g2, hr, _, _, hb⟩ := h
  have m0 : Mid b (b + 1) w (w.drewN m) := ⟨rfl, rfl, rfl, Nat.le_refl _, fun _ _ _ => rfl⟩
  have m1 : Mid b (b + 1) (w.drewN m) ((w.drewN m).setCell ⟨b, 1, none⟩ (.int .i64 a')) := Mid.of_grown (grown_setCell _ b 1 _) fun k hk => by injection hk with hk; omega
  have m2 : Mid b (b + 1) ((w.drewN m).setCell ⟨b, 1, none⟩ (.int .i64 a')) (((w.drewN m).setCell ⟨b, 1, none⟩ (.int .i64 a')).setCell ⟨b, 2, none⟩ (.int .u64 z')) := Mid.of_grown (grown_setCell _ b 2 _) fun k hk => by injection hk with hk; omega
  have m3 : Mid b (b + 1) (((w.drewN m).setCell ⟨b, 1, none⟩ (.int .i64 a')).setCell ⟨b, 2, none⟩ (.int .u64 z')) ((((w.drewN m).setCell ⟨b, 1, none⟩ (.int .i64 a')).setCell ⟨b, 2, none⟩ (.int .u64 z')).drewN m') := ⟨rfl, rfl, rfl, Nat.le_refl _, fun _ _ _ => rfl⟩
  have M := ((m0.trans m1).trans m2).trans m3
  refine ⟨⟨?_, ?_, ?_, ?_, ?_, hr.keep fun p hp => World.cell?_of_block (M.block p.block ?_ (.inl (by omega))), ha, hK, hb⟩, M⟩
  · simp [go_sem, *]
  · simp [go_sem, *]
  · simp [go_sem, *]
  · simp [go_sem, *]
  · simp [go_sem, *]
  · have := World.block_lt_of_cell? w _ h0
    simp only at this
    omega
theorem byte_low (n : Int) : 0 ≤ wrap64 (bits BinOp.and IntKind.u64 n 255) ∧ wrap64 (bits BinOp.and IntKind.u64 n 255) ≤ 255 := by
  have hx : ((BitVec.ofInt 64 n &&& BitVec.ofInt 64 255).toNat : Int) ≤ 255 := by
    rw [BitVec.toNat_and, show (BitVec.ofInt 64 255).toNat = 2 ^ 8 - 1 from by decide, Nat.and_two_pow_sub_one_eq_mod]
    omega
  have h2 : bits BinOp.and IntKind.u64 n 255 = ((BitVec.ofInt 64 n &&& BitVec.ofInt 64 255).toNat : Int) := by
    show IntKind.u64.wrap ((BitVec.ofInt 64 n &&& BitVec.ofInt 64 255).toNat : Int) = _
    rw [IntKind.wrap_u64]
    omega
  rw [h2]
  unfold wrap64
  omega
end Go.Proofs.YtacgcagpaecncaaGreat
namespace Go.Proofs.YtacgcagpaecncaaGreat
open Go.RowKit
set_option maxHeartbeats 1000000
set_option maxRecDepth 100000
end Go.Proofs.YtacgcagpaecncaaGreat
namespace Go.Proofs.YtacgcagpaecncaaGreat
open Go.RowKit
set_option maxHeartbeats 400000
end Go.Proofs.YtacgcagpaecncaaGreat
namespace Go.Proofs.YtacgcagpaecncaaGreat
open Go.RowKit
set_option maxHeartbeats 1000000
set_option maxRecDepth 100000
theorem OS.made0 {α : Type} (t : Ty α) (e : TypeId) (w : World) : OS t e (w.alloc (.cells #[] e)) (Iv w.heap.size (w.alloc (.cells #[] e)).heap.size) (.slice (some ⟨w.heap.size, 0, none⟩) 0 0) [] :=
  ⟨[], fun _ _ => False, World.ownsRow_made _ _ _ (Nat.zero_le _) (by simp [maxLen]) (by simp), rfl, fun g hg => by simp only [Value.ownBlock, Option.some.injEq] at hg; subst hg; exact ⟨Nat.le_refl _, by simp⟩, fun _ _ h => h.elim, fun _ _ _ _ h => h.elim, fun k h => by simp at h⟩
theorem ei_S : EI Tryz.prog 22 24 (.slice none 0 0) 1 24 := ⟨Tryz.underlying22, by kernel_rfl, rfl, by decide⟩
theorem cl_SS (x : List (List Int)) : hSS.cnt x ≤ hSS.sz x := by
  show hS.cntL x ≤ x.length + hS.szL x
  have : hS.cntL x ≤ hS.szL x := by
    induction x with
    | nil => exact Nat.le_refl _
    | cons y ys ih =>
      rw [Hs.cntL, Hs.szL, hS_cnt, hS_sz]
      omega
  omega
def M.phases (xs : List Int) (f : Nat) : List (List Int) := (List.range f).map fun r => M.decL xs f r
theorem M.phases_len (xs : List Int) (f : Nat) : (M.phases xs f).length = f := by simp [M.phases]
theorem M.phases_at {xs : List Int} {f r : Nat} (h : r < f) : (M.phases xs f)[r]? = some (M.decL xs f r) := by simp [M.phases, h]
def M.phasesR (xs : List Int) (f : Int) : List (List Int) × Int := if M.taps xs then (if M.fac f then (M.phases xs f.toNat, 0) else ([], 2)) else ([], 1)
/-- What a function of signals and a code gives back. -/
def RetSS (w : World) (r : List (List Int) × Int) (en : Ending) (w' : World) : Prop :=
  ∃ v, en = .returned (.tuple #[v, .int .i64 r.2]) ∧ OS tS 24 w' (Iv w.heap.size w'.heap.size) v r.1 ∧ Below w.heap.size w w'
theorem retSS_nf {w w' : World} {r : List (List Int) × Int} {en : Ending} (h : RetSS w r en w') :
    ∃ A n c, en = .returned (.tuple #[.slice A n c, .int .i64 r.2]) ∧ tSS.O w' (Iv w.heap.size w'.heap.size) [.slice A n c] r.1 ∧ Below w.heap.size w w' := by
  obtain ⟨v, rfl, own, bel⟩ := h
  obtain ⟨A, c, rfl⟩ := own.shape
  exact ⟨_, _, _, rfl, sl_O.2 own, bel⟩
theorem Iv.apart {a b c d : Nat} (h : b ≤ c) : ∀ k, Iv a b k → ¬ Iv c d k := fun k h1 h2 => by have := h1.2; have := h2.1; omega
theorem Iv.grow {a b c d : Nat} (h1 : a ≤ b) (h2 : b ≤ c) (h3 : c ≤ d) : ∀ k, (Iv a b k ∨ Iv b c k ∨ c < k ∧ k < d) → Iv a d k := by
  intro k h
  unfold Iv at *
  omega
end Go.Proofs.YtacgcagpaecncaaGreat
namespace Go.Proofs.YtacgcagpaecncaaGreat
open Go.RowKit
set_option maxHeartbeats 2000000
set_option maxRecDepth 100000
/-- A drawn list of points, all before 'a'. -/
def M.drawn (xs : List (Int × Int)) (a : Int) : Prop := (∀ p ∈ xs, 0 ≤ p.1 ∧ p.1 < a ∧ -65536 ≤ p.2 ∧ p.2 ≤ 65536) ∧ xs.Pairwise (fun p q => p.1 < q.1)
theorem M.drawn_nil (a : Int) : M.drawn [] a := ⟨by simp, by simp⟩
theorem M.drawn_step {xs : List (Int × Int)} {a v b : Int} (h : M.drawn xs a) (h0 : 0 ≤ a) (hv : -65536 ≤ v ∧ v ≤ 65536) (hb : a < b) : M.drawn (xs ++ [(a, v)]) b := by
  constructor
  · intro p hp
    rcases List.mem_append.1 hp with h1 | h1
    · have := h.1 p h1
      omega
    · simp only [List.mem_singleton] at h1
      subst h1
      simp only
      omega
  · rw [List.pairwise_append]
    refine ⟨h.2, by simp, fun p hp q hq => ?_⟩
    simp only [List.mem_singleton] at hq
    subst hq
    exact (h.1 p hp).2.1
theorem M.drawn_ok {xs : List (Int × Int)} {a : Int} (h : M.drawn xs a) (hl : 1 ≤ xs.length ∧ xs.length ≤ 24) (ha : a ≤ 100) : M.curveOk xs = true ∧ ∀ p ∈ xs, p.1 ≤ 100 := by
  refine ⟨(M.curve_iff xs).2 ⟨fun p hp => ?_, h.2, hl⟩, fun p hp => by have := h.1 p hp; omega⟩
  have := h.1 p hp
  rw [M.ptOk, Bool.and_eq_true, M.inn_iff, M.inn_iff]
  omega
section
variable {lo hi g o : Nat} {w w' : World}
theorem Mid.cellK {u : Option Value} (h : Mid lo hi w w') (hg : g < w.heap.size) (hd : g < lo ∨ hi ≤ g) (hc : w.cell? ⟨g, o, none⟩ = u) : w'.cell? ⟨g, o, none⟩ = u := by rw [World.cell?_of_block (h.block g hg hd)]; exact hc
theorem Mid.thenB' {a b c : World} {B : Nat} (h : Mid lo hi a b) (k : Below B b c) (hB : a.heap.size ≤ B) : Mid lo hi a c :=
  ⟨k.os.trans h.os, k.tape.trans h.tape, k.output.trans h.output, Nat.le_trans h.size k.size, fun i hi' hm => (k.block i (by omega)).trans (h.block i hi' hm)⟩
theorem Mid.frozK {u : Bool} (h : Mid lo hi w w') (hg : g < w.heap.size) (hd : g < lo ∨ hi ≤ g) (hc : w.frozen? ⟨g, o, none⟩ = u) : w'.frozen? ⟨g, o, none⟩ = u := by rw [World.frozen?_of_block (h.block g hg hd)]; exact hc
end
theorem spec_l00Min (a b : Int) (w : World) : Calls Tryz.prog 157 #[.int .i64 a, .int .i64 b] w fun e w' => e = .returned (.int .i64 (min a b)) ∧ w = w' := by
  by_cases h : a < b
  all_goals
    go_enter Tryz.func157, Tryz.ntmps157
    go_wp2
    go_ret
    exact ⟨ret_int (by omega), rfl⟩
end Go.Proofs.YtacgcagpaecncaaGreat
namespace Go.Proofs.YtacgcagpaecncaaGreat
open Go.RowKit
set_option maxHeartbeats 400000
end Go.Proofs.YtacgcagpaecncaaGreat
namespace Go.Proofs.YtacgcagpaecncaaGreat
open Go.RowKit
set_option maxHeartbeats 400000
set_option maxRecDepth 100000
end Go.Proofs.YtacgcagpaecncaaGreat
namespace Go.Proofs.YtacgcagpaecncaaGreat
open Go.RowKit
set_option maxHeartbeats 2000000
set_option maxRecDepth 100000
/-- What the drawing of a signal gives back. -/
def DrewL (b lo : Nat) (A : Option Addr) (n c : Nat) (code : List UInt8) (K m : Nat) (w : World) (e : Ending) (w' : World) : Prop :=
  ∃ v xs, e = .returned v ∧ OS tI 2 w' (Iv w.heap.size w'.heap.size) v xs ∧ xs.length ≤ m ∧ Hid (∀ x ∈ xs, M.smp x = true) ∧ Src w' b lo A n c code K ∧ Mid b (b + 1) w w'
/-- How the drawing of a signal stands. -/
structure DL (w : World) (b lo : Nat) (A : Option Addr) (n c : Nat) (code : List UInt8) (K : Nat) (xs : List Int) (v : Value) (wr : World) : Prop where
  own : OS tI 2 wr (Iv w.heap.size wr.heap.size) v xs
  src : Src wr b lo A n c code K
  mid : Mid b (b + 1) w wr
  sz : w.heap.size + 1 ≤ wr.heap.size
theorem DL.step {w wr w' : World} {b lo : Nat} {A : Option Addr} {n c : Nat} {code : List UInt8} {K K' : Nat} {xs : List Int} {v : Value} (h : DL w b lo A n c code K xs v wr) (hb : b < w.heap.size) (hs : Src w' b lo A n c code K') (hm : Mid b (b + 1) wr w') : DL w b lo A n c code K' xs v w' :=
  have hz := h.sz
  ⟨(h.own.mid hm (.inr (by omega)) (Nat.le_refl _)).iv (Nat.le_refl _) hm.size, hs, h.mid.trans hm, Nat.le_trans hz hm.size⟩
theorem DL.more {w wr : World} {b lo : Nat} {A : Option Addr} {n c : Nat} {code : List UInt8} {K K' : Nat} {xs : List Int} {v : Value} (h : DL w b lo A n c code K xs v wr) (hK : K ≤ K') : DL w b lo A n c code K' xs v wr :=
  ⟨h.own, h.src.more hK, h.mid, h.sz⟩
theorem M.smp_of {x : Int} (h0 : -2147483648 ≤ x) (h1 : x ≤ 2147483647) : M.smp x = true := by simp [M.smp, M.inn]; omega
end Go.Proofs.YtacgcagpaecncaaGreat
namespace Go.Proofs.YtacgcagpaecncaaGreat
open Go.RowKit
set_option maxHeartbeats 2000000
set_option maxRecDepth 100000
theorem byte_cell {w : World} {A : Option Addr} {n c : Nat} {code : List UInt8} (hr : RS tU8 w w.heap.size (.slice A n c) code) {k : Nat} (hk : k < n) :
    ∃ (bb o : Nat) (x : Int), A = some ⟨bb, o, none⟩ ∧ w.cell? ⟨bb, o + k, none⟩ = some (.int .u8 x) ∧ 0 ≤ x ∧ x ≤ 255 := by
  obtain rfl : code.length = n := hr.cap.1
  obtain ⟨bb, o, c1, cs, hv, hab, -, hE, hc⟩ := hr.at (k := k) (by omega)
  simp only [Value.slice.injEq] at hv
  obtain ⟨rfl, -, rfl⟩ := hv
  generalize code[k]'(by omega) = x at hE
  obtain rfl : cs = [.int .u8 (x.toNat : Int)] := hE
  have hx : w.cell? ⟨bb, o + k * 1, none⟩ = some (.int .u8 (x.toNat : Int)) := hc 0 _ rfl
  rw [Nat.mul_one] at hx
  exact ⟨bb, o, _, rfl, hx, by omega, by have := x.toNat_lt; omega⟩
def SigL (m : Nat) (w : World) (e : Ending) (w' : World) : Prop :=
  ∃ A1 c1 xs, e = .returned (.slice A1 (List.length xs) c1) ∧ RI w' w'.heap.size A1 xs.length xs ∧ xs.length ≤ m ∧ Hid (∀ x ∈ xs, M.smp x = true) ∧ Below w.heap.size w w'
def CurL (w : World) (e : Ending) (w' : World) : Prop :=
  ∃ A1 c1 xs, e = .returned (.agg #[.slice A1 (List.length xs) c1]) ∧ RA pt 2 w' w'.heap.size A1 xs.length xs ∧ Hid (M.curveOk xs = true ∧ ∀ p ∈ xs, p.1 ≤ 100) ∧ xs.length ≤ 24 ∧ xs.length ≤ c1 ∧ c1 ≤ maxLen ∧ Below w.heap.size w w'
theorem OA.cap {α : Type} {enc : α → List Value} {e : TypeId} {s lo hi n c : Nat} {w : World} {A : Option Addr} {xs : List α} (h : OA enc e s lo hi w (.slice A n c) xs) : n ≤ c ∧ c ≤ maxLen := by
  obtain ⟨A', c', hv, h1, h2, _⟩ := own_shape h.1
  simp only [Value.slice.injEq] at hv
  obtain ⟨rfl, rfl, rfl⟩ := hv
  exact ⟨h1, h2⟩
end Go.Proofs.YtacgcagpaecncaaGreat
namespace Go.Proofs.YtacgcagpaecncaaGreat
open Go.RowKit
set_option maxHeartbeats 4000000
set_option maxRecDepth 100000
theorem spec_l00MaxN (a b : Int) (w : World) : Calls Tryz.prog 158 #[.int .i64 a, .int .i64 b] w fun e w' => e = .returned (.int .i64 (max a b)) ∧ w = w' := by
  by_cases h : b < a
  all_goals
    go_enter Tryz.func158, Tryz.ntmps158
    go_wp2
    go_ret
    exact ⟨ret_int (by omega), rfl⟩
/-- The sum of two signals, the second one times a number. -/
def M.addS (xs ys : List Int) (g : Int) : List Int := (List.range (max xs.length ys.length)).map fun (i : Nat) => wrap32 (M.at_ xs (i : Int) + M.at_ ys (i : Int) * g)
theorem M.addS_len (xs ys : List Int) (g : Int) : (M.addS xs ys g).length = max xs.length ys.length := by simp [M.addS]
theorem M.addS_at {xs ys : List Int} {g : Int} {i : Nat} (h : i < max xs.length ys.length) : (M.addS xs ys g)[i]? = some (wrap32 (M.at_ xs (i : Int) + M.at_ ys (i : Int) * g)) := by simp [M.addS, h]
def M.addR (xs ys : List Int) : List Int × Int := if M.sig xs && M.sig ys then (M.addS xs ys 1, 0) else ([], 1)
theorem spec_ValidTrack (A : Option Addr) (n c : Nat) (xs : List Clip) (w : World) (hx : RA cl 5 w w.heap.size A n xs) (hn : n ≤ 1000000000) :
    Calls Tryz.prog 93 #[.agg #[.slice A n c]] w fun e w' => e = .returned (.bool (M.trackOk xs)) ∧ Below w.heap.size w w' := by
  have B0 : Below w.heap.size w (w.alloc (.cells #[.slice A n c] 95)) := (Below.refl _ _).alloc (Nat.le_refl _) _
  have hself := lay_cell w (.slice A n c) 95
  go_enter Tryz.func93, Tryz.ntmps93
  go_wp2_with fail
  refine (spec_l23Ok _ _ _ _ _ _ hself (hx.later B0) hn).mono ?_
  rintro e w2 ⟨rfl, b2⟩
  go_wp2
  go_ret
  exact ⟨rfl, bel_trans B0 b2⟩
end Go.Proofs.YtacgcagpaecncaaGreat
namespace Go.Proofs.YtacgcagpaecncaaGreat
open Go.RowKit Go.Sort
set_option maxHeartbeats 4000000
set_option maxRecDepth 100000
set_option linter.unusedVariables false
set_option linter.unusedSimpArgs false
theorem node_cell {w : World} {B : Nat} {A : Option Addr} {n c : Nat} {ns : List Node} (hr : RS tN w B (.slice A n c) ns) (hb : hNS.sz ns ≤ 100000000) {k : Nat} (hk : k < n) :
    ∃ (bb o : Nat) (a0 a1 a2 : Int) (A1 : Option Addr) (c1 : Nat) (x3 : List Int), A = some ⟨bb, o, none⟩ ∧ bb < B ∧ Hid (ns[k]? = some (a0, a1, a2, x3)) ∧ w.cell? ⟨bb, o + k * 4, none⟩ = some (.int .i64 a0) ∧ w.cell? ⟨bb, o + k * 4 + 1, none⟩ = some (.int .i64 a1) ∧ w.cell? ⟨bb, o + k * 4 + 2, none⟩ = some (.int .i64 a2) ∧ w.cell? ⟨bb, o + k * 4 + 3, none⟩ = some (.slice A1 x3.length c1) ∧ RI w B A1 x3.length x3 ∧ x3.length ≤ 100000000 := by
  obtain rfl : ns.length = n := hr.cap.1
  have hX := List.getElem?_eq_getElem hk
  obtain ⟨bb, o, c1, cs, hv, hab, -, hE, hc⟩ := hr.atX hX
  simp only [Value.slice.injEq] at hv
  obtain ⟨rfl, -, rfl⟩ := hv
  have hU := hN.szL_at hX
  have hU2 : ns.length + hN.szL ns ≤ 100000000 := hb
  generalize ns[k] = x at hX hE hU
  obtain ⟨a0, a1, a2, x3⟩ := x
  rw [hN_sz, hS_sz] at hU
  obtain ⟨A1, n1, c1, rfl, hS3⟩ := tN_R.1 hE
  obtain rfl : x3.length = n1 := tS_len hS3
  have e0 : w.cell? ⟨bb, o + k * 4, none⟩ = some (.int .i64 a0) := hc 0 _ rfl
  exact ⟨bb, o, a0, a1, a2, A1, c1, x3, rfl, hab, Lib.hid hX, e0, hc 1 _ rfl, hc 2 _ rfl, hc 3 _ rfl, (tS_R.1 hS3).ri, by omega⟩
theorem spec_l06Tables (A : Option Addr) (n c : Nat) (ts : List (List Int)) (w : World) (hx : RS tS w w.heap.size (.slice A n c) ts) (hb : Hid (∀ x ∈ ts, x.length ≤ 1000000000)) (hn : n ≤ 1000000000) :
    Calls Tryz.prog 122 #[.slice A n c] w fun e w' => e = .returned (.bool (M.tabsOk ts)) ∧ Below w.heap.size w w' := by
  have hl := Lib.hid hx.cap.1
  go_enter Tryz.func122, Tryz.ntmps122
  go_wp2
  go_loopw [3] (fun i wr => ∃ k : Nat, i = .int .i64 k ∧ k ≤ n ∧ Hid (ts.all M.tabOk = (ts.drop k).all M.tabOk) ∧ Below w.heap.size w wr) (fun i _ => n - (intOf i).toNat)
  case atStart => exact ⟨0, rfl, by omega, Lib.hid (by simp), Below.refl _ _⟩
  case round =>
    obtain ⟨k, rfl, hk, H, Bw⟩ := hrel
    by_cases hlt : k < n
    · have B1 : Below wr.heap.size wr (wr.alloc (.cells #[.int .i64 2, .int .i64 4, .int .i64 8, .int .i64 16] 2)) := (Below.refl _ _).alloc (Nat.le_refl _) _
      have hr4 : RI (wr.alloc (.cells #[.int .i64 2, .int .i64 4, .int .i64 8, .int .i64 16] 2)) (wr.alloc (.cells #[.int .i64 2, .int .i64 4, .int .i64 8, .int .i64 16] 2)).heap.size (some ⟨wr.heap.size, 0, none⟩) 4 [2, 4, 8, 16] := (RI_lit wr 2 [2, 4, 8, 16] _ rfl).more (by simp)
      obtain ⟨V, hV⟩ : ∃ V, V = wr.alloc (.cells #[.int .i64 2, .int .i64 4, .int .i64 8, .int .i64 16] 2) := ⟨_, rfl⟩
      have HV := Lib.hid hV
      rw [← hV] at B1 hr4
      have B2 := bel_trans Bw B1
      obtain ⟨bb, o, A1, c1, x, rfl, hbb, X, hc, hri, hxl⟩ := src_cell (hx.below B2) hb hlt
      have hri := hri.more B2.size
      have hd := Lib.hid (M.drop_at X.out)
      have hc0 := hc
      rw [hV] at hc0
      have HM := Lib.hid (show M.mem [2, 4, 8, 16] (x.length : Int) = (decide (x.length = 2) || decide (x.length = 4) || decide (x.length = 8) || decide (x.length = 16)) by
        rw [Bool.eq_iff_iff]
        simp only [M.mem, List.any_cons, List.any_nil, Bool.or_eq_true, decide_eq_true_eq, Bool.false_eq_true, or_false]
        omega)
      clear hV
      cases hs : (decide (x.length = 2) || decide (x.length = 4) || decide (x.length = 8) || decide (x.length = 16))
      · have R := Lib.hid (show M.tabsOk ts = false by rw [M.tabsOk, H.out, hd.out, List.all_cons, M.tabOk, hs]; rfl)
        have HS := Lib.hid hs
        clear hs
        go_wp2_with fail
        rw [← HV.out]
        refine (spec_l00Has _ _ _ _ _ _ hr4 (by omega)).mono ?_
        rw [HM.out, HS.out]
        rintro e w' ⟨rfl, rfl⟩
        clear hc0
        go_wp2
        go_ret
        exact ⟨ret_bool (by rw [R.out]), B2⟩
      · have HG := Lib.hid (M.tab_sig x hs)
        have HS := Lib.hid hs
        clear hs
        cases hq : x.all M.smp
        · have R := Lib.hid (show M.tabsOk ts = false by rw [M.tabsOk, H.out, hd.out, List.all_cons, M.tabOk, hq, Bool.and_false]; rfl)
          have HQ := Lib.hid hq
          clear hq
          go_wp2_with fail
          rw [← HV.out]
          refine (spec_l00Has _ _ _ _ _ _ hr4 (by omega)).mono ?_
          rw [HM.out, HS.out]
          rintro e w' ⟨rfl, rfl⟩
          clear hc0
          go_wp2_with fail
          refine (spec_l03Ok _ _ _ _ _ hri (by omega)).mono ?_
          rw [HG.out, HQ.out]
          rintro e w' ⟨rfl, rfl⟩
          go_wp2
          go_ret
          exact ⟨ret_bool (by rw [R.out]), B2⟩
        · have R := Lib.hid (show ts.all M.tabOk = (ts.drop (k + 1)).all M.tabOk by rw [H.out, hd.out, List.all_cons, M.tabOk, HS.out, hq]; rfl)
          have HQ := Lib.hid hq
          clear hq
          go_wp2_with fail
          rw [← HV.out]
          refine (spec_l00Has _ _ _ _ _ _ hr4 (by omega)).mono ?_
          rw [HM.out, HS.out]
          rintro e w' ⟨rfl, rfl⟩
          clear hc0
          go_wp2_with fail
          refine (spec_l03Ok _ _ _ _ _ hri (by omega)).mono ?_
          rw [HG.out, HQ.out]
          rintro e w' ⟨rfl, rfl⟩
          go_wp2
          go_roundw
          case rel => exact ⟨k + 1, by go_num, by omega, R, B2⟩
          case measure => simp [intOf]; omega
    · have R := Lib.hid (show M.tabsOk ts = decide (n ≤ 4) by rw [M.tabsOk, H.out, List.drop_eq_nil_of_le (by rw [hl.out]; omega), hl.out]; rfl)
      go_wp2
      go_ret
      exact ⟨ret_bool (by rw [R.out, Bool.eq_iff_iff]; simp; try omega), Bw⟩
theorem spec_l06Ok (b o : Nat) (a0 a1 a2 : Int) (A : Option Addr) (c : Nat) (xs : List Int) (tb : Int) (w : World) (p0 : w.cell? ⟨b, o, none⟩ = some (.int .i64 a0)) (p1 : w.cell? ⟨b, o + 1, none⟩ = some (.int .i64 a1)) (p2 : w.cell? ⟨b, o + 2, none⟩ = some (.int .i64 a2)) (p3 : w.cell? ⟨b, o + 3, none⟩ = some (.slice A xs.length c)) (hx : RI w w.heap.size A xs.length xs) (hn : xs.length ≤ 1000000000) (htb : 0 ≤ tb ∧ tb ≤ 1000000000) :
    Calls Tryz.prog 123 #[.pointer (some ⟨b, o, none⟩), .int .i64 tb] w fun e w' => e = .returned (.bool (M.nodeOk (a0, a1, a2, xs) tb)) ∧ Below w.heap.size w w' := by
  rw [← M.node_eq]
  have cK : ∀ d os, Calls Tryz.prog 143 #[.int .i64 a0] (grow (redrawn w d) os) fun e w'' => e = .returned (.bool (M.inn a0 1 17)) ∧ ∃ p : Regrown, w'' = grow (redrawn w p.d) p.os := fun d os => Calls.regrown_of (to_bel (spec_l06Kind a0 _))
  have pp0 := cell_regrown p0
  have pp1 := cell_regrown p1
  have pp2 := cell_regrown p2
  have pp3 := cell_regrown p3
  have cA : ∀ d os, Calls Tryz.prog 144 #[.pointer (some ⟨b, o, none⟩), .int .i64 tb] (grow (redrawn w d) os) fun e w'' => e = .returned (.bool (M.aS a0 a1 tb)) ∧ ∃ p : Regrown, w'' = grow (redrawn w p.d) p.os := fun d os => Calls.regrown_of (spec_l06A b o a0 a1 tb _ (cell_regrown p0 d os) (cell_regrown p1 d os) htb)
  clear p0 p1 p2 p3
  cases hk : M.inn a0 1 17
  · have R := Lib.hid (show M.nodeS (a0, a1, a2, xs) tb = false by rw [M.nodeS, hk]; rfl)
    rw [hk] at cK
    clear hk
    go_enter Tryz.func123, Tryz.ntmps123
    go_wp2_with fail
    (refine wp_region_quiet_below (by kernel_rfl) (by kernel_rfl) ?_; (repeat (go_big_quiet_step (exact cK _ _))); refine wpQuiet_nil ?_; intro _ hw'; obtain ⟨⟨dq, osq⟩, hw''⟩ := hw'; subst hw'')
    go_wp2
    go_ret
    exact ⟨ret_bool (by rw [R.out]), below_regrown w dq osq⟩
  · have hkb := M.inn_iff.1 hk
    have cR : ∀ d os, Calls Tryz.prog 145 #[.int .i64 a0] (grow (redrawn w d) os) fun e w'' => e = .returned (.int .i64 (M.ar a0.toNat)) ∧ ∃ p : Regrown, w'' = grow (redrawn w p.d) p.os := fun d os => Calls.regrown_of (spec_l06Arity a0 _ (by omega))
    rw [hk] at cK
    have HK := Lib.hid (show M.nodeS (a0, a1, a2, xs) tb = (M.aS a0 a1 tb && decide ((xs.length : Int) = M.ar a0.toNat) && xs.all M.from_ && (if a0 = 17 then M.inn a2 1 16 else decide (a2 = 0))) by rw [M.nodeS]; simp only [hk, Bool.true_and])
    generalize M.ar a0.toNat = ra at cR HK
    clear hk hkb
    cases ha : M.aS a0 a1 tb
    · have R := Lib.hid (show M.nodeS (a0, a1, a2, xs) tb = false by rw [HK.out, ha]; rfl)
      rw [ha] at cA
      clear ha
      go_enter Tryz.func123, Tryz.ntmps123
      go_wp2_with fail
      (refine wp_region_quiet_below (by kernel_rfl) (by kernel_rfl) ?_; (repeat (go_big_quiet_step ((first | exact cK _ _ | exact cA _ _ | exact cR _ _)))); refine wpQuiet_nil ?_; intro _ hw'; obtain ⟨⟨dq, osq⟩, hw''⟩ := hw'; subst hw'')
      go_wp2
      go_ret
      exact ⟨ret_bool (by rw [R.out]), below_regrown w dq osq⟩
    · rw [ha] at cA
      by_cases hl : (xs.length : Int) = ra
      · have HM := Lib.hid (show M.nodeS (a0, a1, a2, xs) tb = (xs.all M.from_ && (if a0 = 17 then M.inn a2 1 16 else decide (a2 = 0))) by rw [HK.out, ha, decide_eq_true hl]; rfl)
        rw [← hl] at cR
        have hxr := fun d os => hx.later (below_regrown w d os)
        clear ha hl HK
        go_enter Tryz.func123, Tryz.ntmps123
        go_wp2_with fail
        (refine wp_region_quiet_below (by kernel_rfl) (by kernel_rfl) ?_; (repeat (go_big_quiet_step ((first | exact cK _ _ | exact cA _ _ | exact cR _ _)))); refine wpQuiet_nil ?_; intro _ hw'; obtain ⟨⟨dq, osq⟩, hw''⟩ := hw'; subst hw'')
        replace pp0 := pp0 dq osq
        replace pp1 := pp1 dq osq
        replace pp2 := pp2 dq osq
        replace pp3 := pp3 dq osq
        replace hxr := hxr dq osq
        have BV := below_regrown w dq osq
        clear cK cA cR
        generalize grow (redrawn w dq) osq = V at pp0 pp1 pp2 pp3 hxr BV ⊢
        go_wp2_with fail
        go_loop [5] (fun i => ∃ k : Nat, i = .int .i64 k ∧ k ≤ xs.length ∧ Hid (xs.all M.from_ = (xs.drop k).all M.from_)) (fun i => xs.length - (intOf i).toNat)
        case atStart => exact ⟨0, rfl, by omega, Lib.hid (by simp)⟩
        case round =>
          obtain ⟨k, rfl, hk, H⟩ := hrel
          by_cases hlt : k < xs.length
          · obtain ⟨ad, x, rfl, hab, X, hc⟩ := hxr.at hlt
            have hd := Lib.hid (M.drop_at X.out)
            cases hs : M.inn x 0 23
            · have R := Lib.hid (show M.nodeS (a0, a1, a2, xs) tb = false by rw [HM.out, H.out, hd.out, List.all_cons, M.from_, hs]; rfl)
              go_wp2_with (go_at_call 37; refine (spec_l00In _ _ _ _).mono ?_; rintro e w' ⟨rfl, rfl⟩)
              go_ret
              exact ⟨ret_bool (by rw [R.out]), BV⟩
            · have R := Lib.hid (show xs.all M.from_ = (xs.drop (k + 1)).all M.from_ by rw [H.out, hd.out, List.all_cons, M.from_, hs]; rfl)
              go_wp2_with (go_at_call 37; refine (spec_l00In _ _ _ _).mono ?_; rintro e w' ⟨rfl, rfl⟩)
              go_round
              case rel => exact ⟨k + 1, by go_num, by omega, R⟩
              case measure => simp [intOf]; omega
          · have HF := Lib.hid (show xs.all M.from_ = true by rw [H.out, List.drop_eq_nil_of_le (by omega)]; rfl)
            clear H
            by_cases h17 : a0 = 17
            · have R := Lib.hid (show M.nodeS (a0, a1, a2, xs) tb = M.inn a2 1 16 by rw [HM.out, HF.out, if_pos h17]; rfl)
              clear HM
              subst h17
              go_wp2_with (go_at_call 37; refine (spec_l00In _ _ _ _).mono ?_; rintro e w' ⟨rfl, rfl⟩)
              go_ret
              exact ⟨ret_bool (by rw [R.out]), BV⟩
            · have R := Lib.hid (show M.nodeS (a0, a1, a2, xs) tb = decide (a2 = 0) by rw [HM.out, HF.out, if_neg h17]; rfl)
              have g17 : (a0 == 17) = false := by simpa using h17
              go_wp2_with (go_at_call 37; refine (spec_l00In _ _ _ _).mono ?_; rintro e w' ⟨rfl, rfl⟩)
              go_ret
              exact ⟨ret_bool (by rw [R.out, Bool.eq_iff_iff]; simp), BV⟩
      · have R := Lib.hid (show M.nodeS (a0, a1, a2, xs) tb = false by rw [HK.out, ha, decide_eq_false hl]; rfl)
        have gl : ((xs.length : Int) != ra) = true := by simpa using hl
        clear ha
        go_enter Tryz.func123, Tryz.ntmps123
        go_wp2_with fail
        (refine wp_region_quiet_below (by kernel_rfl) (by kernel_rfl) ?_; (repeat (go_big_quiet_step ((first | exact cK _ _ | exact cA _ _ | exact cR _ _)))); refine wpQuiet_nil ?_; intro _ hw'; obtain ⟨⟨dq, osq⟩, hw''⟩ := hw'; subst hw'')
        go_wp2
        go_ret
        exact ⟨ret_bool (by rw [R.out]), below_regrown w dq osq⟩
theorem spec_l07Waits (b o : Nat) (a0 a1 a2 : Int) (A : Option Addr) (c : Nat) (xs : List Int) (w : World) (p0 : w.cell? ⟨b, o, none⟩ = some (.int .i64 a0)) (p3 : w.cell? ⟨b, o + 3, none⟩ = some (.slice A xs.length c)) (hx : RI w w.heap.size A xs.length xs) :
    Calls Tryz.prog 125 #[.pointer (some ⟨b, o, none⟩)] w fun e w' => ∃ A' c', e = .returned (.slice A' (M.waits (a0, a1, a2, xs)).length c') ∧ RI w' w'.heap.size A' (M.waits (a0, a1, a2, xs)).length (M.waits (a0, a1, a2, xs)) ∧ Below w.heap.size w w' := by
  by_cases h : a0 = 6
  · have HW := Lib.hid (show M.waits (a0, a1, a2, xs) = [] by rw [M.waits, if_pos h])
    rw [HW.out]
    subst h
    go_enter Tryz.func125, Tryz.ntmps125
    go_wp2
    go_ret
    exact ⟨_, _, rfl, RI.nil _ _ _, (Below.refl _ _).alloc (Nat.le_refl _) _⟩
  · have HW := Lib.hid (show M.waits (a0, a1, a2, xs) = xs by rw [M.waits, if_neg h])
    rw [HW.out]
    have g : (a0 == 6) = false := by simpa using h
    go_enter Tryz.func125, Tryz.ntmps125
    go_wp2
    go_ret
    exact ⟨_, _, rfl, hx, Below.refl _ _⟩
theorem spec_l07All (A A' : Option Addr) (n c n' c' : Nat) (xs ys : List Int) (w : World) (hx : RI w w.heap.size A n xs) (hy : RI w w.heap.size A' n' ys) (hn : n ≤ 1000000000) (hn' : n' ≤ 1000000000) :
    Calls Tryz.prog 124 #[.slice A n c, .slice A' n' c'] w fun e w' => e = .returned (.bool (xs.all (M.mem ys))) ∧ w = w' := by
  have hl := Lib.hid hx.len
  go_enter Tryz.func124, Tryz.ntmps124
  go_wp2
  go_loop [5] (fun i => ∃ k : Nat, i = .int .i64 k ∧ k ≤ n ∧ Hid (xs.all (M.mem ys) = (xs.drop k).all (M.mem ys))) (fun i => n - (intOf i).toNat)
  case atStart => exact ⟨0, rfl, by omega, Lib.hid (by simp)⟩
  case round =>
    obtain ⟨k, rfl, hk, H⟩ := hrel
    by_cases hlt : k < n
    · obtain ⟨ad, x, rfl, hab, X, hc⟩ := hx.at hlt
      have hd := Lib.hid (M.drop_at X.out)
      cases hs : M.mem ys x
      · have R := Lib.hid (show xs.all (M.mem ys) = false by rw [H.out, hd.out, List.all_cons, hs]; rfl)
        have HS := Lib.hid hs
        clear hs
        go_wp2_with (go_at_call 78; refine (spec_l00Has _ _ _ _ _ _ hy (by omega)).mono ?_; rw [HS.out]; rintro e w' ⟨rfl, rfl⟩)
        go_ret
        exact ⟨ret_bool (by rw [R.out]), rfl⟩
      · have R := Lib.hid (show xs.all (M.mem ys) = (xs.drop (k + 1)).all (M.mem ys) by rw [H.out, hd.out, List.all_cons, hs]; rfl)
        have HS := Lib.hid hs
        clear hs
        go_wp2_with (go_at_call 78; refine (spec_l00Has _ _ _ _ _ _ hy (by omega)).mono ?_; rw [HS.out]; rintro e w' ⟨rfl, rfl⟩)
        go_round
        case rel => exact ⟨k + 1, by go_num, by omega, R⟩
        case measure => simp [intOf]; omega
    · have R := Lib.hid (show xs.all (M.mem ys) = true by rw [H.out, List.drop_eq_nil_of_le (by rw [hl.out]; omega)]; rfl)
      go_wp2
      go_ret
      exact ⟨ret_bool (by rw [R.out]), rfl⟩
end Go.Proofs.YtacgcagpaecncaaGreat
namespace Go.Proofs.YtacgcagpaecncaaGreat
open Go.RowKit Go.Sort
set_option maxHeartbeats 4000000
set_option maxRecDepth 100000
set_option linter.unusedVariables false
set_option linter.unusedSimpArgs false
theorem ret_tup {v : Value} {b c : Bool} (h : c = b) : Ending.returned (.tuple #[v, .bool b]) = .returned (.tuple #[v, .bool c]) := by rw [h]
def slLen : Value → Nat
  | .slice _ n _ => n
  | _ => 0
theorem spec_l07Order (b o : Nat) (A : Option Addr) (n c : Nat) (ns : List Node) (w : World) (p2 : w.cell? ⟨b, o + 2, none⟩ = some (.slice A n c)) (hx : RS tN w w.heap.size (.slice A n c) ns) (hb : hNS.sz ns ≤ 100000000) :
    Calls Tryz.prog 95 #[.pointer (some ⟨b, o, none⟩)] w fun e w' => ∃ v, e = .returned (.tuple #[v, .bool (decide ((M.ord ns).length = ns.length))]) ∧ ((M.ord ns).length = ns.length → OI 2 w.heap.size w' v (M.ord ns)) ∧ Below w.heap.size w w' := by
  have lx : b < w.heap.size := World.block_lt_of_cell? w _ p2
  have hl := Lib.hid hx.cap.1
  have hnb : n ≤ 100000000 := by have e : ns.length + hN.szL ns = hNS.sz ns := rfl; have := hl.out; omega
  have H0 : Below w.heap.size w (w.alloc (.cells #[] 2)) := (Below.refl _ _).alloc (Nat.le_refl _) _
  have O0 : OI 2 w.heap.size (w.alloc (.cells #[] 2)) (.slice (some ⟨w.heap.size, 0, none⟩) 0 0) [] := OI.made _ w
  go_enter Tryz.func95, Tryz.ntmps95
  go_wp2_with fail
  go_loopw [4, 5, 6] (fun v _ _ wr => ∃ (t : Nat) (O : List Int), t ≤ n ∧ Hid (O = M.ordN ns t) ∧ Hid (O.length = t) ∧ OI 2 w.heap.size wr v O ∧ Below w.heap.size w wr) (fun v _ _ _ => n - slLen v)
  case atStart => exact ⟨0, [], by omega, Lib.hid rfl, Lib.hid rfl, O0, H0⟩
  case round =>
    obtain ⟨t, O, ht, HO, HL, own, Bw⟩ := hrel
    obtain ⟨A2, c2, rfl, hri⟩ := own.shape
    rw [HL.out] at own hri ⊢
    have q2 : wr.cell? ⟨b, o + 2, none⟩ = some (.slice A n c) := by rw [Bw.cell lx]; exact p2
    by_cases hlt : t < n
    · go_wp2_with fail
      obtain ⟨wo, rfl⟩ : ∃ wo : World, wo = wr := ⟨_, rfl⟩
      go_loopw [5, 6] (fun q i wr => ((∃ k : Nat, q = .int .i64 (-1) ∧ i = .int .i64 k ∧ k ≤ n ∧ Hid (∀ j, j < k → M.rdy ns O j = false)) ∨ (∃ k : Nat, q = .int .i64 (k : Int) ∧ i = .int .i64 ((k : Int) + 1) ∧ k < n ∧ Hid (M.next ns O = some k))) ∧ Below wo.heap.size wo wr) (fun _ i _ => n + 1 - (intOf i).toNat)
      case atStart => exact ⟨.inl ⟨0, rfl, rfl, by omega, Lib.hid (by omega)⟩, Below.refl _ _⟩
      case round =>
        obtain ⟨hor, B2⟩ := hrel
        have BB := bel_trans Bw B2
        have q3 : wr.cell? ⟨b, o + 2, none⟩ = some (.slice A n c) := by rw [BB.cell lx]; exact p2
        have own2 := own.below B2
        rcases hor with ⟨k, rfl, rfl, hk, H⟩ | ⟨k, rfl, rfl, hk, H⟩
        · by_cases hlt2 : k < n
          · obtain ⟨bb, o1, a0, a1, a2, A1, c1, x3, rfl, hbb, X, e0, e1, e2, e3, hr3, h3b⟩ := node_cell (hx.below BB) hb hlt2
            have hrdy := Lib.hid (M.rdy_at (out := O) X.out)
            have hk0 : (0 : Int) ≤ (k : Int) := by omega
            have hkn : (k : Int) < (n : Int) := by omega
            have hriO := hri.later B2
            have hrx := hr3.more BB.size
            cases hm : M.mem O k
            · have HM := Lib.hid hm
              clear hm
              cases ha : (M.waits (a0, a1, a2, x3)).all (M.mem O)
              · have HA := Lib.hid ha
                have R := Lib.hid (show M.rdy ns O k = false by rw [hrdy.out, ha, Bool.and_false])
                clear ha
                go_wp2_with fail
                refine (spec_l00Has _ _ _ _ _ _ hriO (by omega)).mono ?_
                rw [HM.out]
                rintro e w' ⟨rfl, rfl⟩
                go_wp2_with fail
                refine (spec_l07Waits bb (o1 + k * 4) a0 a1 a2 A1 c1 x3 wr e0 e3 hrx).mono ?_
                rintro e w3 ⟨A5, c5, rfl, hr5, bel3⟩
                have hriO3 := hriO.later bel3
                have hwl : (M.waits (a0, a1, a2, x3)).length ≤ 1000000000 := by unfold M.waits; split <;> simp <;> omega
                go_wp2_with fail
                refine (spec_l07All _ _ _ _ _ _ _ _ _ hr5 hriO3 hwl (by omega)).mono ?_
                rw [HA.out]
                rintro e w' ⟨rfl, rfl⟩
                go_wp2
                go_roundw
                case rel => exact ⟨.inl ⟨k + 1, rfl, by go_num, by omega, Lib.hid (fun j hj => by rcases Nat.lt_succ_iff_lt_or_eq.1 hj with h | h; exact H.out j h; rw [h]; exact R.out)⟩, bel_trans B2 bel3⟩
                case measure => simp [intOf]; omega
              · have HA := Lib.hid ha
                have R := Lib.hid (show M.next ns O = some k from M.next_some (by rw [hl.out]; exact hlt2) (by rw [hrdy.out, ha, HM.out]; rfl) H.out)
                clear ha
                go_wp2_with fail
                refine (spec_l00Has _ _ _ _ _ _ hriO (by omega)).mono ?_
                rw [HM.out]
                rintro e w' ⟨rfl, rfl⟩
                go_wp2_with fail
                refine (spec_l07Waits bb (o1 + k * 4) a0 a1 a2 A1 c1 x3 wr e0 e3 hrx).mono ?_
                rintro e w3 ⟨A5, c5, rfl, hr5, bel3⟩
                have hriO3 := hriO.later bel3
                have hwl : (M.waits (a0, a1, a2, x3)).length ≤ 1000000000 := by unfold M.waits; split <;> simp <;> omega
                go_wp2_with fail
                refine (spec_l07All _ _ _ _ _ _ _ _ _ hr5 hriO3 hwl (by omega)).mono ?_
                rw [HA.out]
                rintro e w' ⟨rfl, rfl⟩
                go_wp2
                go_roundw
                case rel => exact ⟨.inr ⟨k, rfl, by go_num, hlt2, R⟩, bel_trans B2 bel3⟩
                case measure => simp [intOf]; omega
            · have HM := Lib.hid hm
              have R := Lib.hid (show M.rdy ns O k = false by rw [hrdy.out, hm]; rfl)
              clear hm
              go_wp2_with fail
              refine (spec_l00Has _ _ _ _ _ _ hriO (by omega)).mono ?_
              rw [HM.out]
              rintro e w' ⟨rfl, rfl⟩
              go_wp2
              go_roundw
              case rel => exact ⟨.inl ⟨k + 1, rfl, by go_num, by omega, Lib.hid (fun j hj => by rcases Nat.lt_succ_iff_lt_or_eq.1 hj with h | h; exact H.out j h; rw [h]; exact R.out)⟩, B2⟩
              case measure => simp [intOf]; omega
          · have hno := Lib.hid (M.next_none (ns := ns) (out := O) (fun j hj => H.out j (by rw [hl.out] at hj; omega)))
            have HR := Lib.hid (show M.ord ns = O by rw [HO.out]; exact M.ord_end (by rw [hl.out]; exact ht) (by rw [← HO.out]; exact hno.out))
            have R := Lib.hid (show ¬ (M.ord ns).length = ns.length by rw [HR.out, HL.out, hl.out]; omega)
            go_wp2
            go_ret2
            exact ⟨_, ret_tup (decide_eq_false R.out), fun h => absurd h R.out, BB⟩
        · by_cases hk1 : (k : Int) + 1 < n
          · have hd : decide ((k : Int) + 1 < n) = true := decide_eq_true hk1
            have hge : decide ((k : Int) < 0) = false := decide_eq_false (by omega)
            have hge2 : ¬ (k : Int) < 0 := by omega
            have hO1 : O.length ≤ t := by rw [HL.out]; omega
            have hO2 : t ≤ O.length := by rw [HL.out]; omega
            have HN := Lib.hid (show O ++ [(k : Int)] = M.ordN ns (t + 1) by rw [M.ordN_some (by rw [← HO.out]; exact H.out), ← HO.out])
            have HL2 := Lib.hid (show (O ++ [(k : Int)]).length = t + 1 by rw [List.length_append, HL.out]; rfl)
            go_wp2_with (at_builtin; refine wpList_push1 ei_i64 rfl _ _ rfl own2 rfl rfl rfl (by unfold maxLen; omega) (by omega) BB.size ?_; intro v1 w1 own1 gr1 bel1)
            go_roundw
            case rel => exact ⟨t + 1, O ++ [(k : Int)], by omega, HN, HL2, OI.push own1, BB.trans bel1⟩
            case measure => obtain ⟨A9, c9, rfl, -⟩ := (OI.push own1).shape; rw [HL2.out]; simp [slLen]; omega
          · have hd : decide ((k : Int) + 1 < n) = false := decide_eq_false hk1
            have hge2 : ¬ (k : Int) < 0 := by omega
            have hO1 : O.length ≤ t := by rw [HL.out]; omega
            have hO2 : t ≤ O.length := by rw [HL.out]; omega
            have HN := Lib.hid (show O ++ [(k : Int)] = M.ordN ns (t + 1) by rw [M.ordN_some (by rw [← HO.out]; exact H.out), ← HO.out])
            have HL2 := Lib.hid (show (O ++ [(k : Int)]).length = t + 1 by rw [List.length_append, HL.out]; rfl)
            go_wp2_with (at_builtin; refine wpList_push1 ei_i64 rfl _ _ rfl own2 rfl rfl rfl (by unfold maxLen; omega) (by omega) BB.size ?_; intro v1 w1 own1 gr1 bel1)
            go_roundw
            case rel => exact ⟨t + 1, O ++ [(k : Int)], by omega, HN, HL2, OI.push own1, BB.trans bel1⟩
            case measure => obtain ⟨A9, c9, rfl, -⟩ := (OI.push own1).shape; rw [HL2.out]; simp [slLen]; omega
    · have HR := Lib.hid (show M.ord ns = O by rw [HO.out, M.ord, hl.out, show n = t by omega])
      have R := Lib.hid (show (M.ord ns).length = ns.length by rw [HR.out, HL.out, hl.out]; omega)
      go_wp2
      go_ret2
      exact ⟨_, ret_tup (decide_eq_true R.out), fun _ => by rw [HR.out]; exact own, Bw⟩
end Go.Proofs.YtacgcagpaecncaaGreat
