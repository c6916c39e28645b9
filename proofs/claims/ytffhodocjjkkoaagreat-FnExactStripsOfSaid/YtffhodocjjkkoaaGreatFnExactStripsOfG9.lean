import Derived.Test.YtffhodocjjkkoaaGreatFnExactStripsOfG5
import Derived.Test.YtffhodocjjkkoaaGreatFnExactStripsOfG6
import Derived.Test.YtffhodocjjkkoaaGreatFnExactStripsOfG8
import Derived.Lib.QuietBelow
import Derived.Test.YtffhodocjjkkoaaGreatFnExactStripsOfG7
import Derived.Deep.QuietTactic
import Derived.RegionTactic
set_option linter.unusedVariables false
set_option linter.unusedSimpArgs false
namespace Go.Proofs.YtffhodocjjkkoaaGreat
open Go.RowKit Go.Sort
set_option maxHeartbeats 4000000
set_option maxRecDepth 100000
set_option linter.unusedVariables false
set_option linter.unusedSimpArgs false
theorem M.nodeOk_start {x : Node} {tb : Int} (h : M.nodeOk x tb = true) : M.inn x.1 1 17 = true ∧ (x.1 = 6 → 1 ≤ x.2.1 ∧ x.2.1 ≤ 16) ∧ (x.1 = 17 → 1 ≤ x.2.2.1 ∧ x.2.2.1 ≤ 16) := by
  obtain ⟨k, a, b, l⟩ := x
  rw [M.nodeOk] at h
  simp only [Bool.and_eq_true] at h
  refine ⟨h.1, fun e => ?_, fun e => ?_⟩
  · simp only at e
    subst e
    have h2 := h.2.1.1.1.1
    simp [M.aI, M.kd, M.kds, M.inn] at h2
    exact h2
  · simp only at e
    subst e
    have h2 := h.2.1.1.1.2
    simp [M.bI, M.kd, M.kds, M.inn] at h2
    exact h2
theorem OI_lit (w : World) (x : Int) : OI 2 w.heap.size (w.alloc (.cells #[.int .i64 x] 2)) (.slice (some ⟨w.heap.size, 0, none⟩) 1 1) [x] :=
  ⟨rfl, .inr ⟨w.heap.size, 1, #[.int .i64 x], rfl, Nat.le_refl _, heap_alloc_new w _, Nat.le_refl _, by simp [maxLen], rfl, rfl⟩⟩
theorem impl_start (a0 a1 a2 : Int) (A : Option Addr) (n c : Nat) (xs : List Int) (tb : Int) (w : World) (hok : M.nodeOk (a0, a1, a2, xs) tb = true) :
    Calls Tryz.prog 175 #[.agg #[.int .i64 a0, .int .i64 a1, .int .i64 a2, .slice A n c]] w (Ret1 2 w (M.start (a0, a1, a2, xs))) := by
  obtain ⟨hk, h6, h17⟩ := M.nodeOk_start hok
  simp only at hk h6 h17
  obtain ⟨W, hW⟩ : ∃ W, W = w.alloc (.cells #[.int .i64 a0, .int .i64 a1, .int .i64 a2, .slice A n c] 171) := ⟨_, rfl⟩
  have B0 : Below w.heap.size w W := by rw [hW]; exact (Below.refl _ _).alloc (Nat.le_refl _) _
  have p0 : W.cell? ⟨w.heap.size, 0, none⟩ = some (.int .i64 a0) := by rw [hW]; simp [go_sem]
  have p1 : W.cell? ⟨w.heap.size, 1, none⟩ = some (.int .i64 a1) := by rw [hW]; simp [go_sem]
  have p2 : W.cell? ⟨w.heap.size, 2, none⟩ = some (.int .i64 a2) := by rw [hW]; simp [go_sem]
  have lW : w.heap.size < W.heap.size := by rw [hW]; simp
  have HW := Lib.hid hW
  clear hW hok
  rcases M.kind_cases hk with rfl | rfl | rfl | rfl | rfl | rfl | rfl | rfl | rfl | rfl | rfl | rfl | rfl | rfl | rfl | rfl | rfl
  case inr.inr.inr.inr.inr.inl =>
    have h6' := h6 rfl
    go_enter Tryz.func175, Tryz.ntmps175
    go_wp2_with (go_at_call 98; rw [← HW.out]; refine (impl_zeros _ _ (by omega) (by omega)).mono ?_; rintro e w1 ⟨v1, rfl, own1, bel1⟩)
    go_ret
    exact ⟨_, rfl, own1.base (by omega), bel_trans B0 bel1⟩
  case inr.inr.inr.inr.inr.inr.inr.inr.inr.inr.inr.inr.inr.inr.inr.inr =>
    have h17' := h17 rfl
    go_enter Tryz.func175, Tryz.ntmps175
    go_wp2_with (go_at_call 98; rw [← HW.out]; refine (impl_zeros _ _ (by omega) (by omega)).mono ?_; rintro e w1 ⟨v1, rfl, own1, bel1⟩)
    go_ret
    exact ⟨_, rfl, own1.base (by omega), bel_trans B0 bel1⟩
  case inr.inr.inr.inr.inr.inr.inr.inr.inr.inr.inr.inl =>
    have O1 := OI_lit W a1
    have B1 : Below w.heap.size w (W.alloc (.cells #[.int .i64 a1] 2)) := B0.alloc B0.size _
    rw [HW.out] at O1 B1
    have hz : (w.alloc (.cells #[.int .i64 12, .int .i64 a1, .int .i64 a2, .slice A n c] 171)).heap.size = w.heap.size + 1 := by simp
    rw [hz] at O1
    go_enter Tryz.func175, Tryz.ntmps175
    go_wp2
    go_ret
    exact ⟨_, rfl, O1.base (by omega), B1⟩
  case inr.inr.inr.inr.inr.inr.inr.inr.inr.inr.inr.inr.inr.inl =>
    have O1 := OI_lit W a1
    have B1 : Below w.heap.size w (W.alloc (.cells #[.int .i64 a1] 2)) := B0.alloc B0.size _
    rw [HW.out] at O1 B1
    have hz : (w.alloc (.cells #[.int .i64 14, .int .i64 a1, .int .i64 a2, .slice A n c] 171)).heap.size = w.heap.size + 1 := by simp
    rw [hz] at O1
    go_enter Tryz.func175, Tryz.ntmps175
    go_wp2
    go_ret
    exact ⟨_, rfl, O1.base (by omega), B1⟩
  all_goals
    go_enter Tryz.func175, Tryz.ntmps175
    go_wp2_with (go_at_call 98; rw [← HW.out]; refine (impl_zeros _ _ (by omega) (by omega)).mono ?_; rintro e w1 ⟨v1, rfl, own1, bel1⟩)
    go_ret
    exact ⟨_, rfl, own1.base (by omega), bel_trans B0 bel1⟩
theorem spec_l06Start (b o : Nat) (a0 a1 a2 : Int) (xs : List Int) (tb : Int) (w : World) (p0 : w.cell? ⟨b, o, none⟩ = some (.int .i64 a0)) (p1 : w.cell? ⟨b, o + 1, none⟩ = some (.int .i64 a1)) (p2 : w.cell? ⟨b, o + 2, none⟩ = some (.int .i64 a2)) (hok : M.nodeOk (a0, a1, a2, xs) tb = true) :
    Calls Tryz.prog 167 #[.pointer (some ⟨b, o, none⟩)] w (Ret1 2 w (M.start (a0, a1, a2, xs))) := by
  obtain ⟨hk, h6, h17⟩ := M.nodeOk_start hok
  simp only at hk h6 h17
  clear hok
  have On : OI 2 w.heap.size (w.alloc (.cells #[] 2)) (.slice (some ⟨w.heap.size, 0, none⟩) 0 0) [] := OI.made _ _
  have Bn : ∀ cs, Below w.heap.size w (w.alloc (.cells cs 2)) := fun cs => (Below.refl _ _).alloc (Nat.le_refl _) _
  have O0 := OI_lit w 0
  have O1 := OI_lit w a1
  rcases M.kind_cases hk with rfl | rfl | rfl | rfl | rfl | rfl | rfl | rfl | rfl | rfl | rfl | rfl | rfl | rfl | rfl | rfl | rfl
  case inr.inr.inr.inr.inr.inl =>
    have h6' := h6 rfl
    obtain ⟨m, rfl⟩ : ∃ m : Nat, a1 = m := ⟨a1.toNat, by omega⟩
    go_enter Tryz.func167, Tryz.ntmps167
    go_wp2_with (go_at_call 90; refine (spec_l03ZerosN _ _ (by omega)).mono ?_; rintro e w1 ⟨v1, rfl, own1, bel1⟩)
    go_ret
    exact ⟨_, rfl, own1, bel1⟩
  case inr.inr.inr.inr.inr.inr.inr.inr.inr.inr.inr.inr.inr.inr.inr.inr =>
    have h17' := h17 rfl
    obtain ⟨m, rfl⟩ : ∃ m : Nat, a2 = m := ⟨a2.toNat, by omega⟩
    go_enter Tryz.func167, Tryz.ntmps167
    go_wp2_with (go_at_call 90; refine (spec_l03ZerosN _ _ (by omega)).mono ?_; rintro e w1 ⟨v1, rfl, own1, bel1⟩)
    go_ret
    exact ⟨_, rfl, own1, bel1⟩
  all_goals
    go_enter Tryz.func167, Tryz.ntmps167
    go_wp2
    go_ret
    first
      | exact ⟨_, rfl, On, Bn _⟩
      | exact ⟨_, rfl, O0, Bn _⟩
      | exact ⟨_, rfl, O1, Bn _⟩
/-- A list by indices. -/
def M.mapI (fs vs : List Int) : List Int := fs.map fun f => M.i_ vs f.toNat
theorem M.mapI_len (fs vs : List Int) : (M.mapI fs vs).length = fs.length := by simp [M.mapI]
theorem M.mapI_at {fs vs : List Int} {k : Nat} {f : Int} (h : fs[k]? = some f) : (M.mapI fs vs).take (k + 1) = (M.mapI fs vs).take k ++ [M.i_ vs f.toNat] := by
  rw [M.take_at]
  simp [M.mapI, h]
theorem i_get {vs : List Int} {k : Nat} {v : Int} (h : vs[k]? = some v) : M.i_ vs k = v := by rw [M.i_, h]; rfl
theorem impl_mapped (A A' : Option Addr) (n c n' c' : Nat) (fs vs : List Int) (w : World) (hx : RI w w.heap.size A n fs) (hv : RI w w.heap.size A' n' vs) (hn : n ≤ 1000000000) (hn' : n' ≤ 1000000000) (hr : Hid (∀ f ∈ fs, 0 ≤ f ∧ f < n')) :
    Calls Tryz.prog 198 #[.slice A n c, .slice A' n' c'] w (Ret1 2 w (M.mapI fs vs)) := by
  have hl := Lib.hid hx.len
  go_enter Tryz.func198, Tryz.ntmps198
  go_wp2_with fail
  go_loopw [5, 11] (fun v i wr => ∃ k : Nat, i = .int .i64 k ∧ k ≤ n ∧ OI 2 w.heap.size wr v ((M.mapI fs vs).take k) ∧ Below w.heap.size w wr) (fun _ i _ => n - (intOf i).toNat)
  case atStart => exact ⟨0, rfl, by omega, OI.made _ _, (Below.refl _ _).alloc (Nat.le_refl _) _⟩
  case round =>
    obtain ⟨k, rfl, hk, own, hb⟩ := hrel
    by_cases hlt : k < n
    · obtain ⟨ad, f, rfl, hab, X, hc⟩ := ((hx.below hb).more hb.size).at hlt
      have hfr := hr.out f (List.mem_of_getElem? X.out)
      obtain ⟨m, rfl⟩ : ∃ m : Nat, f = (m : Int) := ⟨f.toNat, by omega⟩
      obtain ⟨ad2, y, rfl, hab2, Y, hc2⟩ := ((hv.below hb).more hb.size).at (k := m) (by omega)
      have HT := Lib.hid (show (M.mapI fs vs).take (k + 1) = (M.mapI fs vs).take k ++ [y] by rw [M.mapI_at X.out, Int.toNat_natCast, i_get Y.out])
      have hk1 : ((M.mapI fs vs).take k).length ≤ 1000000000 := by rw [List.length_take]; omega
      have hm0 : (0 : Int) ≤ (m : Int) := by omega
      have hmn : (m : Int) < (n' : Int) := by omega
      clear hfr
      go_wp2_with (at_builtin; refine wpList_push1 ei_i64 rfl _ _ rfl own rfl rfl rfl (by unfold maxLen; omega) (by omega) hb.size ?_; intro v1 w1 own1 gr1 bel1)
      go_roundw
      case rel => exact ⟨k + 1, by go_num, by omega, by rw [HT.out]; exact OI.push own1, hb.trans bel1⟩
      case measure => simp [intOf]; omega
    · go_wp2
      go_ret
      rw [List.take_of_length_le (by rw [M.mapI_len, hl.out]; omega)] at own
      exact ⟨_, rfl, own, hb⟩
theorem spec_l07Map (A A' : Option Addr) (n c n' c' : Nat) (fs vs : List Int) (w : World) (hx : RI w w.heap.size A n fs) (hv : RI w w.heap.size A' n' vs) (hn : n ≤ 1000000000) (hn' : n' ≤ 1000000000) (hr : Hid (∀ f ∈ fs, 0 ≤ f ∧ f < n')) :
    Calls Tryz.prog 207 #[.slice A n c, .slice A' n' c'] w (Ret1 2 w (M.mapI fs vs)) := by
  have hl := Lib.hid hx.len
  go_enter Tryz.func207, Tryz.ntmps207
  go_wp2_with fail
  go_loopw [5, 6] (fun v i wr => ∃ k : Nat, i = .int .i64 k ∧ k ≤ n ∧ OI 2 w.heap.size wr v ((M.mapI fs vs).take k) ∧ Below w.heap.size w wr) (fun _ i _ => n - (intOf i).toNat)
  case atStart => exact ⟨0, rfl, by omega, OI.made _ _, (Below.refl _ _).alloc (Nat.le_refl _) _⟩
  case round =>
    obtain ⟨k, rfl, hk, own, hb⟩ := hrel
    by_cases hlt : k < n
    · obtain ⟨ad, f, rfl, hab, X, hc⟩ := ((hx.below hb).more hb.size).at hlt
      have hfr := hr.out f (List.mem_of_getElem? X.out)
      obtain ⟨m, rfl⟩ : ∃ m : Nat, f = (m : Int) := ⟨f.toNat, by omega⟩
      obtain ⟨ad2, y, rfl, hab2, Y, hc2⟩ := ((hv.below hb).more hb.size).at (k := m) (by omega)
      have HT := Lib.hid (show (M.mapI fs vs).take (k + 1) = (M.mapI fs vs).take k ++ [y] by rw [M.mapI_at X.out, Int.toNat_natCast, i_get Y.out])
      have hk1 : ((M.mapI fs vs).take k).length ≤ 1000000000 := by rw [List.length_take]; omega
      have hm0 : (0 : Int) ≤ (m : Int) := by omega
      have hmn : (m : Int) < (n' : Int) := by omega
      have hk0 : (0 : Int) ≤ (k : Int) := by omega
      have hkn : (k : Int) < (n : Int) := by omega
      clear hfr
      go_wp2_with (at_builtin; refine wpList_push1 ei_i64 rfl _ _ rfl own rfl rfl rfl (by unfold maxLen; omega) (by omega) hb.size ?_; intro v1 w1 own1 gr1 bel1)
      go_roundw
      case rel => exact ⟨k + 1, by go_num, by omega, by rw [HT.out]; exact OI.push own1, hb.trans bel1⟩
      case measure => simp [intOf]; omega
    · go_wp2
      go_ret
      rw [List.take_of_length_le (by rw [M.mapI_len, hl.out]; omega)] at own
      exact ⟨_, rfl, own, hb⟩
end Go.Proofs.YtffhodocjjkkoaaGreat
namespace Go.Proofs.YtffhodocjjkkoaaGreat
open Go.RowKit Go.Sort
set_option maxHeartbeats 4000000
set_option maxRecDepth 100000
set_option linter.unusedVariables false
set_option linter.unusedSimpArgs false
theorem ri_lit {w : World} {B : Nat} {A : Option Addr} {n : Nat} {xs : List Int} (h : RI w B A n xs) (hn : 0 < n) : ∃ b o, A = some ⟨b, o, none⟩ ∧ b < B ∧ ∀ k x, xs[k]? = some x → w.cell? ⟨b, o + k, none⟩ = some (.int .i64 x) := by
  obtain ⟨ad, rfl, hb, hc⟩ := h.2 hn
  have hl : 0 < xs.length := by rw [h.len]; exact hn
  have h0 := hc 0 (.int .i64 xs[0]) (by simp [hl])
  have hsp := spot_none h0
  have e : ad = ⟨ad.block, ad.off, none⟩ := by simpa [Addr.add] using hsp
  refine ⟨ad.block, ad.off, by rw [← e], hb, fun k x hx => ?_⟩
  have := hc k (.int .i64 x) (by simp [hx])
  rw [e, Addr.add_lit] at this
  exact this
def M.insLen (k : Int) : Nat := if k = 1 then 1 else (M.ar k.toNat).toNat
theorem len0 {xs : List Int} (h : xs.length = 0) : xs = [] := List.eq_nil_of_length_eq_zero h
theorem len1 {xs : List Int} (h : xs.length = 1) : ∃ a, xs = [a] := by
  match xs, h with
  | [a], _ => exact ⟨a, rfl⟩
theorem len2 {xs : List Int} (h : xs.length = 2) : ∃ a b, xs = [a, b] := by
  match xs, h with
  | [a, b], _ => exact ⟨a, b, rfl⟩
theorem len3 {xs : List Int} (h : xs.length = 3) : ∃ a b c, xs = [a, b, c] := by
  match xs, h with
  | [a, b, c], _ => exact ⟨a, b, c, rfl⟩
theorem and_one (n : Int) : bits .and .i64 n 1 = n % 2 := by
  have h0 : 0 ≤ n % 18446744073709551616 := Int.emod_nonneg _ (by decide)
  have hx : ((BitVec.ofInt 64 n &&& BitVec.ofInt 64 1).toNat : Int) = n % 2 := by
    rw [BitVec.toNat_and, show (BitVec.ofInt 64 1).toNat = 2 ^ 1 - 1 from by decide, Nat.and_two_pow_sub_one_eq_mod, BitVec.toNat_ofInt]
    omega
  show IntKind.i64.wrap ((BitVec.ofInt 64 n &&& BitVec.ofInt 64 1).toNat : Int) = _
  rw [hx, IntKind.wrap_i64]
  omega
theorem impl_unsigned (x : Int) (w : World) : Calls Tryz.prog 211 #[.int .i64 x] w fun e w' => e = .returned (.int .i64 (x % 4294967296)) ∧ w = w' := by
  go_enter Tryz.func211, Tryz.ntmps211
  go_wp2
  go_ret
  exact ⟨rfl, rfl⟩
theorem impl_isOdd (x : Int) (w : World) : Calls Tryz.prog 212 #[.int .i64 x] w fun e w' => e = .returned (.bool (decide (x % 2 = 1))) ∧ w = w' := by
  go_enter Tryz.func212, Tryz.ntmps212
  go_wp2
  go_ret
  exact ⟨ret_bool (by rw [and_one, Bool.eq_iff_iff]; simp), rfl⟩
theorem impl_noise (x : Int) (w : World) : Calls Tryz.prog 209 #[.int .i64 x] w fun e w' => e = .returned (.int .i64 (M.noise x)) ∧ w = w' := by
  obtain ⟨u, hu⟩ : ∃ u : Nat, x % 4294967296 = (u : Int) := ⟨(x % 4294967296).toNat, by omega⟩
  have HU := Lib.hid hu
  have hub : u < 4294967296 := by omega
  by_cases h : x % 2 = 1
  · have HD := Lib.hid (decide_eq_true h)
    have R := Lib.hid (show M.noise x = wrap32 (M.xorN ((u : Int) / 2)) by rw [M.noise, if_pos h, hu])
    clear h hu
    go_enter Tryz.func209, Tryz.ntmps209
    go_wp2_with (first
      | (go_at_call 211; refine (impl_unsigned _ _).mono ?_; rw [HU.out]; rintro e w' ⟨rfl, rfl⟩)
      | (go_at_call 212; refine (impl_isOdd _ _).mono ?_; rw [HD.out]; rintro e w' ⟨rfl, rfl⟩)
      | (go_at_call 109; refine (impl_Wrap _ _).mono ?_; rintro e w' ⟨rfl, rfl⟩))
    go_ret
    exact ⟨ret_int (by rw [R.out, M.xorN]), rfl⟩
  · have HD := Lib.hid (decide_eq_false h)
    have R := Lib.hid (show M.noise x = wrap32 ((u : Int) / 2) by rw [M.noise, if_neg h, hu])
    clear h hu
    go_enter Tryz.func209, Tryz.ntmps209
    go_wp2_with (first
      | (go_at_call 211; refine (impl_unsigned _ _).mono ?_; rw [HU.out]; rintro e w' ⟨rfl, rfl⟩)
      | (go_at_call 212; refine (impl_isOdd _ _).mono ?_; rw [HD.out]; rintro e w' ⟨rfl, rfl⟩)
      | (go_at_call 109; refine (impl_Wrap _ _).mono ?_; rintro e w' ⟨rfl, rfl⟩))
    go_ret
    exact ⟨ret_int (by rw [R.out]), rfl⟩
theorem spec_l06Noise (x : Int) (w : World) : Calls Tryz.prog 208 #[.int .i64 x] w fun e w' => e = .returned (.int .i64 (M.noise x)) ∧ w = w' := by
  have hl := M.and_low x
  have ho := and_one (x % 4294967296)
  by_cases h : x % 2 = 1
  · have R := Lib.hid (show M.noise x = wrap32 (M.xorN (x % 4294967296 / 2)) by rw [M.noise, if_pos h])
    have hd : (x % 4294967296 % 2 == 1) = true := by simp; omega
    clear h
    go_enter Tryz.func208, Tryz.ntmps208
    go_wp2_with (go_at_call 146; refine (spec_l01Wrap _ _).mono ?_; rintro e w' ⟨rfl, rfl⟩)
    go_ret
    exact ⟨ret_int (by rw [R.out, M.xorN]), rfl⟩
  · have R := Lib.hid (show M.noise x = wrap32 (x % 4294967296 / 2) by rw [M.noise, if_neg h])
    have hd : (x % 4294967296 % 2 == 1) = false := by simp; omega
    clear h
    go_enter Tryz.func208, Tryz.ntmps208
    go_wp2_with (go_at_call 146; refine (spec_l01Wrap _ _).mono ?_; rintro e w' ⟨rfl, rfl⟩)
    go_ret
    exact ⟨ret_int (by rw [R.out]), rfl⟩
theorem look_at (t : List Int) (x : Int) (hn : 1 ≤ t.length ∧ t.length ≤ 16) : ∃ (u q : Nat) (y : Int), x % 4294967296 = (u : Int) ∧ u < 4294967296 ∧ ((t.length : Int) * (u : Int)) / 4294967296 = (q : Int) ∧ q < t.length ∧ t[q]? = some y ∧ M.look t x = y := by
  obtain ⟨u, hu⟩ : ∃ u : Nat, x % 4294967296 = (u : Int) := ⟨(x % 4294967296).toNat, by omega⟩
  have hub : u < 4294967296 := by omega
  obtain ⟨q, hq⟩ : ∃ q : Nat, ((t.length : Int) * (u : Int)) / 4294967296 = (q : Int) := ⟨t.length * u / 4294967296, by simp⟩
  have hqt : q < t.length := by
    have h1 : t.length * u < t.length * 4294967296 := Nat.mul_lt_mul_of_pos_left hub (by omega)
    have h2 : ((t.length : Int) * (u : Int)) = ((t.length * u : Nat) : Int) := by simp
    rw [h2] at hq
    omega
  exact ⟨u, q, t[q], hu, hub, hq, hqt, List.getElem?_eq_getElem hqt, by rw [M.look, hu, hq, Int.toNat_natCast, i_get (List.getElem?_eq_getElem hqt)]⟩
theorem spec_l06Look (A : Option Addr) (n c : Nat) (t : List Int) (x : Int) (w : World) (ht : RI w w.heap.size A n t) (hn : 1 ≤ n ∧ n ≤ 16) : Calls Tryz.prog 206 #[.slice A n c, .int .i64 x] w fun e w' => e = .returned (.int .i64 (M.look t x)) ∧ w = w' := by
  have hl := ht.len
  obtain ⟨u, q, y, hu, hub, hq, hqn, hy, hM⟩ := look_at t x (by omega)
  rw [hl] at hq hqn
  obtain ⟨b, o, rfl, hb, hc⟩ := ri_lit ht (by omega)
  have c0 := hc q y hy
  have ha := M.and_low x
  rw [hu] at ha
  have h3 : n * u < n * 4294967296 := Nat.mul_lt_mul_of_pos_left hub (by omega)
  have hw : IntKind.i64.wrap ((n : Int) * (u : Int)) = (n : Int) * (u : Int) := IntWalk.i64_in _ (by
    have h2 : ((n : Int) * (u : Int)) = ((n * u : Nat) : Int) := by simp
    rw [h2]
    omega)
  have hw2 : wrap64 ((n : Int) * (u : Int)) = (n : Int) * (u : Int) := M.wrap64_in _ (by
    have h2 : ((n : Int) * (u : Int)) = ((n * u : Nat) : Int) := by simp
    rw [h2]
    omega)
  have hq0 : (0 : Int) ≤ (q : Int) := by omega
  have hqm : (q : Int) < (n : Int) := by omega
  have R := Lib.hid hM
  clear hc hM h3 ht hl
  go_enter Tryz.func206, Tryz.ntmps206
  go_wp2
  go_ret
  exact ⟨ret_int (by rw [R.out]), rfl⟩
theorem impl_out1 (a1 a2 : Int) (A : Option Addr) (n c : Nat) (b o ci : Nat) (i0 : Int) (At : Option Addr) (nt ct : Nat) (w : World) (c0 : w.cell? ⟨b, o, none⟩ = some (.int .i64 i0)) :
    Calls Tryz.prog 210 #[.agg #[.int .i64 1, .int .i64 a1, .int .i64 a2, .slice A n c], .slice At nt ct, .slice (some ⟨b, o, none⟩) 1 ci] w fun e w' => e = .returned (.int .i64 (i0)) ∧ Below w.heap.size w w' := by
  have lb : b < w.heap.size := World.block_lt_of_cell? w _ c0
  go_enter Tryz.func210, Tryz.ntmps210
  go_wp2
  go_ret
  exact ⟨rfl, (Below.refl _ _).alloc (Nat.le_refl _) _⟩
theorem impl_out2 (a1 a2 : Int) (A : Option Addr) (n c : Nat) (Ai : Option Addr) (ci : Nat) (At : Option Addr) (nt ct : Nat) (w : World) :
    Calls Tryz.prog 210 #[.agg #[.int .i64 2, .int .i64 a1, .int .i64 a2, .slice A n c], .slice At nt ct, .slice Ai 0 ci] w fun e w' => e = .returned (.int .i64 (a1)) ∧ Below w.heap.size w w' := by
  skip
  go_enter Tryz.func210, Tryz.ntmps210
  go_wp2
  go_ret
  exact ⟨rfl, (Below.refl _ _).alloc (Nat.le_refl _) _⟩
theorem impl_out3 (a1 a2 : Int) (A : Option Addr) (n c : Nat) (b o ci : Nat) (i0 i1 : Int) (At : Option Addr) (nt ct : Nat) (w : World) (c0 : w.cell? ⟨b, o, none⟩ = some (.int .i64 i0)) (c1 : w.cell? ⟨b, o + 1, none⟩ = some (.int .i64 i1)) (hi : -2147483648 ≤ i0 ∧ i0 ≤ 2147483647 ∧ -2147483648 ≤ i1 ∧ i1 ≤ 2147483647) :
    Calls Tryz.prog 210 #[.agg #[.int .i64 3, .int .i64 a1, .int .i64 a2, .slice A n c], .slice At nt ct, .slice (some ⟨b, o, none⟩) 2 ci] w fun e w' => e = .returned (.int .i64 (wrap32 (i0 + i1))) ∧ Below w.heap.size w w' := by
  have lb : b < w.heap.size := World.block_lt_of_cell? w _ c0
  go_enter Tryz.func210, Tryz.ntmps210
  go_wp2_with fail
  go_quiet (exact quiet_left (impl_Wrap _ _))
  go_wp2
  go_ret
  exact ⟨ret_int (by first | rfl | exact M.wrap32_64 _ | exact (M.wrap32_64 _).symm), below_drewN ((Below.refl _ _).alloc (Nat.le_refl _) _) _⟩
theorem impl_out4 (a1 a2 : Int) (A : Option Addr) (n c : Nat) (b o ci : Nat) (i0 i1 : Int) (At : Option Addr) (nt ct : Nat) (w : World) (c0 : w.cell? ⟨b, o, none⟩ = some (.int .i64 i0)) (c1 : w.cell? ⟨b, o + 1, none⟩ = some (.int .i64 i1)) (hi : -2147483648 ≤ i0 ∧ i0 ≤ 2147483647 ∧ -2147483648 ≤ i1 ∧ i1 ≤ 2147483647) :
    Calls Tryz.prog 210 #[.agg #[.int .i64 4, .int .i64 a1, .int .i64 a2, .slice A n c], .slice At nt ct, .slice (some ⟨b, o, none⟩) 2 ci] w fun e w' => e = .returned (.int .i64 (wrap32 (i0 - i1))) ∧ Below w.heap.size w w' := by
  have lb : b < w.heap.size := World.block_lt_of_cell? w _ c0
  go_enter Tryz.func210, Tryz.ntmps210
  go_wp2_with fail
  go_quiet (exact quiet_left (impl_Wrap _ _))
  go_wp2
  go_ret
  exact ⟨ret_int (by first | rfl | exact M.wrap32_64 _ | exact (M.wrap32_64 _).symm), below_drewN ((Below.refl _ _).alloc (Nat.le_refl _) _) _⟩
theorem impl_out5 (a1 a2 : Int) (A : Option Addr) (n c : Nat) (b o ci : Nat) (i0 : Int) (At : Option Addr) (nt ct : Nat) (w : World) (c0 : w.cell? ⟨b, o, none⟩ = some (.int .i64 i0)) (ha : -2147483648 ≤ a1 ∧ a1 ≤ 2147483647) (hi : -2147483648 ≤ i0 ∧ i0 ≤ 2147483647) :
    Calls Tryz.prog 210 #[.agg #[.int .i64 5, .int .i64 a1, .int .i64 a2, .slice A n c], .slice At nt ct, .slice (some ⟨b, o, none⟩) 1 ci] w fun e w' => e = .returned (.int .i64 (wrap32 (a1 * i0))) ∧ Below w.heap.size w w' := by
  have lb : b < w.heap.size := World.block_lt_of_cell? w _ c0
  go_enter Tryz.func210, Tryz.ntmps210
  go_wp2_with fail
  go_quiet (exact quiet_left (impl_Wrap _ _))
  go_wp2
  go_ret
  exact ⟨ret_int (by first | rfl | exact M.wrap32_64 _ | exact (M.wrap32_64 _).symm), below_drewN ((Below.refl _ _).alloc (Nat.le_refl _) _) _⟩
theorem impl_out9 (a1 a2 : Int) (A : Option Addr) (n c : Nat) (b o ci : Nat) (i0 i1 : Int) (At : Option Addr) (nt ct : Nat) (w : World) (c0 : w.cell? ⟨b, o, none⟩ = some (.int .i64 i0)) (c1 : w.cell? ⟨b, o + 1, none⟩ = some (.int .i64 i1)) (hi : -2147483648 ≤ i0 ∧ i0 ≤ 2147483647 ∧ -2147483648 ≤ i1 ∧ i1 ≤ 2147483647) :
    Calls Tryz.prog 210 #[.agg #[.int .i64 9, .int .i64 a1, .int .i64 a2, .slice A n c], .slice At nt ct, .slice (some ⟨b, o, none⟩) 2 ci] w fun e w' => e = .returned (.int .i64 (wrap32 (i0 * i1))) ∧ Below w.heap.size w w' := by
  have lb : b < w.heap.size := World.block_lt_of_cell? w _ c0
  go_enter Tryz.func210, Tryz.ntmps210
  go_wp2_with fail
  go_quiet (exact quiet_left (impl_Wrap _ _))
  go_wp2
  go_ret
  exact ⟨ret_int (by first | rfl | exact M.wrap32_64 _ | exact (M.wrap32_64 _).symm), below_drewN ((Below.refl _ _).alloc (Nat.le_refl _) _) _⟩
theorem impl_out10 (a1 a2 : Int) (A : Option Addr) (n c : Nat) (b o ci : Nat) (i0 : Int) (At : Option Addr) (nt ct : Nat) (w : World) (c0 : w.cell? ⟨b, o, none⟩ = some (.int .i64 i0)) (ha : 0 ≤ a1 ∧ a1 ≤ 31) (hi : -2147483648 ≤ i0 ∧ i0 ≤ 2147483647) :
    Calls Tryz.prog 210 #[.agg #[.int .i64 10, .int .i64 a1, .int .i64 a2, .slice A n c], .slice At nt ct, .slice (some ⟨b, o, none⟩) 1 ci] w fun e w' => e = .returned (.int .i64 (i0 / 2 ^ a1.toNat)) ∧ Below w.heap.size w w' := by
  have lb : b < w.heap.size := World.block_lt_of_cell? w _ c0
  go_enter Tryz.func210, Tryz.ntmps210
  go_wp2_with fail
  go_quiet (fail)
  go_wp2
  go_ret
  exact ⟨rfl, below_drewN ((Below.refl _ _).alloc (Nat.le_refl _) _) _⟩
theorem impl_out11 (a1 a2 : Int) (A : Option Addr) (n c : Nat) (b o ci : Nat) (i0 : Int) (At : Option Addr) (nt ct : Nat) (w : World) (c0 : w.cell? ⟨b, o, none⟩ = some (.int .i64 i0)) (ha : 0 ≤ a1 ∧ a1 ≤ 2147483647) (hi : -2147483648 ≤ i0 ∧ i0 ≤ 2147483647) :
    Calls Tryz.prog 210 #[.agg #[.int .i64 11, .int .i64 a1, .int .i64 a2, .slice A n c], .slice At nt ct, .slice (some ⟨b, o, none⟩) 1 ci] w fun e w' => e = .returned (.int .i64 (max (-a1) (min a1 i0))) ∧ Below w.heap.size w w' := by
  have lb : b < w.heap.size := World.block_lt_of_cell? w _ c0
  have hneg : wrap64 (-a1) = -a1 := M.wrap64_in _ (by omega)
  rcases (show (i0 < -a1) ∨ (-a1 ≤ i0 ∧ i0 < a1) ∨ (a1 ≤ i0) by omega) with h | h | h
  · have R := Lib.hid (show max (-a1) (min a1 i0) = -a1 by omega)
    have h1 : i0 < a1 := by omega
    have h2 : ¬ -a1 < i0 := by omega
    have h3 : ¬ a1 < i0 := by omega
    go_enter Tryz.func210, Tryz.ntmps210
    go_wp2_with fail
    go_quiet (fail)
    go_wp2
    all_goals
      go_ret
      exact ⟨ret_int (by omega), below_drewN ((Below.refl _ _).alloc (Nat.le_refl _) _) _⟩
  · have R := Lib.hid (show max (-a1) (min a1 i0) = i0 by omega)
    have h1 : i0 < a1 := by omega
    have h2 : ¬ i0 < -a1 := by omega
    have h3 : ¬ a1 < i0 := by omega
    go_enter Tryz.func210, Tryz.ntmps210
    go_wp2_with fail
    go_quiet (fail)
    go_wp2
    all_goals
      go_ret
      exact ⟨ret_int (by omega), below_drewN ((Below.refl _ _).alloc (Nat.le_refl _) _) _⟩
  · have R := Lib.hid (show max (-a1) (min a1 i0) = a1 by omega)
    have h1 : ¬ i0 < a1 := by omega
    have h2 : ¬ a1 < -a1 := by omega
    go_enter Tryz.func210, Tryz.ntmps210
    go_wp2_with fail
    go_quiet (fail)
    go_wp2
    all_goals
      go_ret
      exact ⟨ret_int (by omega), below_drewN ((Below.refl _ _).alloc (Nat.le_refl _) _) _⟩
theorem impl_out13 (a1 a2 : Int) (A : Option Addr) (n c : Nat) (b o ci : Nat) (i0 : Int) (bt ot nt ct : Nat) (A1 : Option Addr) (c1 j n2 : Nat) (t : List Int) (w : World) (c0 : w.cell? ⟨b, o, none⟩ = some (.int .i64 i0)) (ha : a1 = (j : Int) ∧ j < nt ∧ nt ≤ 4) (e0 : w.cell? ⟨bt, ot + j, none⟩ = some (.slice A1 n2 c1)) (ht : RI w w.heap.size A1 n2 t) (hn : 1 ≤ n2 ∧ n2 ≤ 16) :
    Calls Tryz.prog 210 #[.agg #[.int .i64 13, .int .i64 a1, .int .i64 a2, .slice A n c], .slice (some ⟨bt, ot, none⟩) nt ct, .slice (some ⟨b, o, none⟩) 1 ci] w fun e w' => e = .returned (.int .i64 (M.look t i0)) ∧ Below w.heap.size w w' := by
  have lb : b < w.heap.size := World.block_lt_of_cell? w _ c0
  have lbt : bt < w.heap.size := World.block_lt_of_cell? w _ e0
  obtain ⟨W, hW⟩ : ∃ W, W = w.alloc (.cells #[.int .i64 13, .int .i64 a1, .int .i64 a2, .slice A n c] 171) := ⟨_, rfl⟩
  obtain ⟨rfl, hj, hnt⟩ := ha
  have hj0 : (0 : Int) ≤ (j : Int) := by omega
  have hjn : (j : Int) < (nt : Int) := by omega
  have hl2 := ht.len
  obtain ⟨u, q, y, hu, hub, hq, hqn, hy, hM⟩ := look_at t i0 (by omega)
  rw [hl2] at hq hqn
  obtain ⟨b2, o2, rfl, hb2, hc2⟩ := ri_lit ht (by omega)
  have cy := hc2 q y hy
  have h3 : n2 * u < n2 * 4294967296 := Nat.mul_lt_mul_of_pos_left hub (by omega)
  have hw : IntKind.i64.wrap ((n2 : Int) * (u : Int)) = (n2 : Int) * (u : Int) := IntWalk.i64_in _ (by
    have h2 : ((n2 : Int) * (u : Int)) = ((n2 * u : Nat) : Int) := by simp
    rw [h2]
    omega)
  have hw2 : wrap64 ((n2 : Int) * (u : Int)) = (n2 : Int) * (u : Int) := M.wrap64_in _ (by
    have h2 : ((n2 : Int) * (u : Int)) = ((n2 * u : Nat) : Int) := by simp
    rw [h2]
    omega)
  have hq0 : (0 : Int) ≤ (q : Int) := by omega
  have hqm : (q : Int) < (n2 : Int) := by omega
  have R := Lib.hid hM
  have cU : ∀ w, Calls Tryz.prog 211 #[.int .i64 i0] w fun e w' => e = .returned (.int .i64 (u : Int)) ∧ w = w' := fun w => by rw [← hu]; exact impl_unsigned i0 w
  clear hc2 hM h3 ht hu hW W hl2
  go_enter Tryz.func210, Tryz.ntmps210
  go_wp2_with fail
  go_quiet (first | exact quiet_left (cU _) | exact quiet_left (impl_size_int64 _ _ _ _))
  go_wp2
  go_ret
  exact ⟨ret_int (by rw [R.out]), below_drewN ((Below.refl _ _).alloc (Nat.le_refl _) _) _⟩
theorem impl_out15 (a1 a2 : Int) (A : Option Addr) (n c : Nat) (b o ci : Nat) (i0 i1 i2 : Int) (At : Option Addr) (nt ct : Nat) (w : World) (c0 : w.cell? ⟨b, o, none⟩ = some (.int .i64 i0)) (c1 : w.cell? ⟨b, o + 1, none⟩ = some (.int .i64 i1)) (c2 : w.cell? ⟨b, o + 2, none⟩ = some (.int .i64 i2)) (hi : -2147483648 ≤ i0 ∧ i0 ≤ 2147483647 ∧ -2147483648 ≤ i1 ∧ i1 ≤ 2147483647 ∧ -2147483648 ≤ i2 ∧ i2 ≤ 2147483647) :
    Calls Tryz.prog 210 #[.agg #[.int .i64 15, .int .i64 a1, .int .i64 a2, .slice A n c], .slice At nt ct, .slice (some ⟨b, o, none⟩) 3 ci] w fun e w' => e = .returned (.int .i64 ((if 0 ≤ i0 then i1 else i2))) ∧ Below w.heap.size w w' := by
  have lb : b < w.heap.size := World.block_lt_of_cell? w _ c0
  by_cases h : 0 ≤ i0
  · have R := Lib.hid (show (if 0 ≤ i0 then i1 else i2) = i1 from if_pos h)
    go_enter Tryz.func210, Tryz.ntmps210
    go_wp2
    go_ret
    exact ⟨ret_int (by first | rfl | exact R.out | exact R.out.symm), (Below.refl _ _).alloc (Nat.le_refl _) _⟩
  · have R := Lib.hid (show (if 0 ≤ i0 then i1 else i2) = i2 from if_neg h)
    go_enter Tryz.func210, Tryz.ntmps210
    go_wp2
    go_ret
    exact ⟨ret_int (by first | rfl | exact R.out | exact R.out.symm), (Below.refl _ _).alloc (Nat.le_refl _) _⟩
theorem spec_out1 (bn on_ : Nat) (a1 : Int) (b o ci : Nat) (i0 : Int) (At : Option Addr) (nt ct : Nat) (As : Option Addr) (ns cs : Nat) (w : World) (c0 : w.cell? ⟨b, o, none⟩ = some (.int .i64 i0)) (p0 : w.cell? ⟨bn, on_, none⟩ = some (.int .i64 1)) (p1 : w.cell? ⟨bn, on_ + 1, none⟩ = some (.int .i64 a1)) :
    Calls Tryz.prog 193 #[.pointer (some ⟨bn, on_, none⟩), .slice At nt ct, .slice (some ⟨b, o, none⟩) 1 ci, .slice As ns cs] w fun e w' => e = .returned (.int .i64 (i0)) ∧ Below w.heap.size w w' := by
  go_enter Tryz.func193, Tryz.ntmps193
  go_wp2
  go_ret
  exact ⟨rfl, Below.refl _ _⟩
theorem spec_out2 (bn on_ : Nat) (a1 : Int) (Ai : Option Addr) (ci : Nat) (At : Option Addr) (nt ct : Nat) (As : Option Addr) (ns cs : Nat) (w : World) (p0 : w.cell? ⟨bn, on_, none⟩ = some (.int .i64 2)) (p1 : w.cell? ⟨bn, on_ + 1, none⟩ = some (.int .i64 a1)) :
    Calls Tryz.prog 193 #[.pointer (some ⟨bn, on_, none⟩), .slice At nt ct, .slice Ai 0 ci, .slice As ns cs] w fun e w' => e = .returned (.int .i64 (a1)) ∧ Below w.heap.size w w' := by
  go_enter Tryz.func193, Tryz.ntmps193
  go_wp2
  go_ret
  exact ⟨rfl, Below.refl _ _⟩
theorem spec_out3 (bn on_ : Nat) (a1 : Int) (b o ci : Nat) (i0 i1 : Int) (At : Option Addr) (nt ct : Nat) (As : Option Addr) (ns cs : Nat) (w : World) (c0 : w.cell? ⟨b, o, none⟩ = some (.int .i64 i0)) (c1 : w.cell? ⟨b, o + 1, none⟩ = some (.int .i64 i1)) (hi : -2147483648 ≤ i0 ∧ i0 ≤ 2147483647 ∧ -2147483648 ≤ i1 ∧ i1 ≤ 2147483647) (p0 : w.cell? ⟨bn, on_, none⟩ = some (.int .i64 3)) (p1 : w.cell? ⟨bn, on_ + 1, none⟩ = some (.int .i64 a1)) :
    Calls Tryz.prog 193 #[.pointer (some ⟨bn, on_, none⟩), .slice At nt ct, .slice (some ⟨b, o, none⟩) 2 ci, .slice As ns cs] w fun e w' => e = .returned (.int .i64 (wrap32 (i0 + i1))) ∧ Below w.heap.size w w' := by
  go_enter Tryz.func193, Tryz.ntmps193
  go_wp2_with fail
  go_quiet (exact quiet_left (spec_l01Add _ _ _))
  go_wp2
  go_ret
  exact ⟨rfl, below_drewN (Below.refl _ _) _⟩
theorem spec_out4 (bn on_ : Nat) (a1 : Int) (b o ci : Nat) (i0 i1 : Int) (At : Option Addr) (nt ct : Nat) (As : Option Addr) (ns cs : Nat) (w : World) (c0 : w.cell? ⟨b, o, none⟩ = some (.int .i64 i0)) (c1 : w.cell? ⟨b, o + 1, none⟩ = some (.int .i64 i1)) (hi : -2147483648 ≤ i0 ∧ i0 ≤ 2147483647 ∧ -2147483648 ≤ i1 ∧ i1 ≤ 2147483647) (p0 : w.cell? ⟨bn, on_, none⟩ = some (.int .i64 4)) (p1 : w.cell? ⟨bn, on_ + 1, none⟩ = some (.int .i64 a1)) :
    Calls Tryz.prog 193 #[.pointer (some ⟨bn, on_, none⟩), .slice At nt ct, .slice (some ⟨b, o, none⟩) 2 ci, .slice As ns cs] w fun e w' => e = .returned (.int .i64 (wrap32 (i0 - i1))) ∧ Below w.heap.size w w' := by
  go_enter Tryz.func193, Tryz.ntmps193
  go_wp2_with fail
  go_quiet (exact quiet_left (spec_l01Sub _ _ _))
  go_wp2
  go_ret
  exact ⟨rfl, below_drewN (Below.refl _ _) _⟩
theorem spec_out5 (bn on_ : Nat) (a1 : Int) (b o ci : Nat) (i0 : Int) (At : Option Addr) (nt ct : Nat) (As : Option Addr) (ns cs : Nat) (w : World) (c0 : w.cell? ⟨b, o, none⟩ = some (.int .i64 i0)) (ha : -2147483648 ≤ a1 ∧ a1 ≤ 2147483647) (hi : -2147483648 ≤ i0 ∧ i0 ≤ 2147483647) (p0 : w.cell? ⟨bn, on_, none⟩ = some (.int .i64 5)) (p1 : w.cell? ⟨bn, on_ + 1, none⟩ = some (.int .i64 a1)) :
    Calls Tryz.prog 193 #[.pointer (some ⟨bn, on_, none⟩), .slice At nt ct, .slice (some ⟨b, o, none⟩) 1 ci, .slice As ns cs] w fun e w' => e = .returned (.int .i64 (wrap32 (a1 * i0))) ∧ Below w.heap.size w w' := by
  go_enter Tryz.func193, Tryz.ntmps193
  go_wp2_with fail
  go_quiet (exact quiet_left (spec_l01Mul _ _ _))
  go_wp2
  go_ret
  exact ⟨rfl, below_drewN (Below.refl _ _) _⟩
theorem spec_out6 (bn on_ : Nat) (a1 : Int) (b o ci : Nat) (i0 : Int) (At : Option Addr) (nt ct : Nat) (bs os_ ns cs : Nat) (s0 : Int) (w : World) (c0 : w.cell? ⟨b, o, none⟩ = some (.int .i64 i0)) (d0 : w.cell? ⟨bs, os_, none⟩ = some (.int .i64 s0)) (hns : 1 ≤ ns) (hi : -2147483648 ≤ i0 ∧ i0 ≤ 2147483647) (hs : -2147483648 ≤ s0 ∧ s0 ≤ 2147483647) (p0 : w.cell? ⟨bn, on_, none⟩ = some (.int .i64 6)) (p1 : w.cell? ⟨bn, on_ + 1, none⟩ = some (.int .i64 a1)) :
    Calls Tryz.prog 193 #[.pointer (some ⟨bn, on_, none⟩), .slice At nt ct, .slice (some ⟨b, o, none⟩) 1 ci, .slice (some ⟨bs, os_, none⟩) ns cs] w fun e w' => e = .returned (.int .i64 (s0)) ∧ Below w.heap.size w w' := by
  go_enter Tryz.func193, Tryz.ntmps193
  go_wp2
  go_ret
  exact ⟨rfl, Below.refl _ _⟩
theorem spec_out7 (bn on_ : Nat) (a1 : Int) (b o ci : Nat) (i0 : Int) (At : Option Addr) (nt ct : Nat) (bs os_ ns cs : Nat) (s0 : Int) (w : World) (c0 : w.cell? ⟨b, o, none⟩ = some (.int .i64 i0)) (d0 : w.cell? ⟨bs, os_, none⟩ = some (.int .i64 s0)) (hns : 1 ≤ ns) (hi : -2147483648 ≤ i0 ∧ i0 ≤ 2147483647) (hs : -2147483648 ≤ s0 ∧ s0 ≤ 2147483647) (p0 : w.cell? ⟨bn, on_, none⟩ = some (.int .i64 7)) (p1 : w.cell? ⟨bn, on_ + 1, none⟩ = some (.int .i64 a1)) :
    Calls Tryz.prog 193 #[.pointer (some ⟨bn, on_, none⟩), .slice At nt ct, .slice (some ⟨b, o, none⟩) 1 ci, .slice (some ⟨bs, os_, none⟩) ns cs] w fun e w' => e = .returned (.int .i64 (wrap32 (s0 + i0))) ∧ Below w.heap.size w w' := by
  go_enter Tryz.func193, Tryz.ntmps193
  go_wp2_with fail
  go_quiet (exact quiet_left (spec_l01Add _ _ _))
  go_wp2
  go_ret
  exact ⟨rfl, below_drewN (Below.refl _ _) _⟩
theorem spec_out8 (bn on_ : Nat) (a1 : Int) (b o ci : Nat) (i0 : Int) (At : Option Addr) (nt ct : Nat) (bs os_ ns cs : Nat) (s0 : Int) (w : World) (c0 : w.cell? ⟨b, o, none⟩ = some (.int .i64 i0)) (d0 : w.cell? ⟨bs, os_, none⟩ = some (.int .i64 s0)) (hns : 1 ≤ ns) (hi : -2147483648 ≤ i0 ∧ i0 ≤ 2147483647) (hs : -2147483648 ≤ s0 ∧ s0 ≤ 2147483647) (p0 : w.cell? ⟨bn, on_, none⟩ = some (.int .i64 8)) (p1 : w.cell? ⟨bn, on_ + 1, none⟩ = some (.int .i64 a1)) :
    Calls Tryz.prog 193 #[.pointer (some ⟨bn, on_, none⟩), .slice At nt ct, .slice (some ⟨b, o, none⟩) 1 ci, .slice (some ⟨bs, os_, none⟩) ns cs] w fun e w' => e = .returned (.int .i64 (wrap32 (i0 - s0))) ∧ Below w.heap.size w w' := by
  go_enter Tryz.func193, Tryz.ntmps193
  go_wp2_with fail
  go_quiet (exact quiet_left (spec_l01Sub _ _ _))
  go_wp2
  go_ret
  exact ⟨rfl, below_drewN (Below.refl _ _) _⟩
theorem spec_out9 (bn on_ : Nat) (a1 : Int) (b o ci : Nat) (i0 i1 : Int) (At : Option Addr) (nt ct : Nat) (As : Option Addr) (ns cs : Nat) (w : World) (c0 : w.cell? ⟨b, o, none⟩ = some (.int .i64 i0)) (c1 : w.cell? ⟨b, o + 1, none⟩ = some (.int .i64 i1)) (hi : -2147483648 ≤ i0 ∧ i0 ≤ 2147483647 ∧ -2147483648 ≤ i1 ∧ i1 ≤ 2147483647) (p0 : w.cell? ⟨bn, on_, none⟩ = some (.int .i64 9)) (p1 : w.cell? ⟨bn, on_ + 1, none⟩ = some (.int .i64 a1)) :
    Calls Tryz.prog 193 #[.pointer (some ⟨bn, on_, none⟩), .slice At nt ct, .slice (some ⟨b, o, none⟩) 2 ci, .slice As ns cs] w fun e w' => e = .returned (.int .i64 (wrap32 (i0 * i1))) ∧ Below w.heap.size w w' := by
  go_enter Tryz.func193, Tryz.ntmps193
  go_wp2_with fail
  go_quiet (exact quiet_left (spec_l01Mul _ _ _))
  go_wp2
  go_ret
  exact ⟨rfl, below_drewN (Below.refl _ _) _⟩
theorem spec_out10 (bn on_ : Nat) (a1 : Int) (b o ci : Nat) (i0 : Int) (At : Option Addr) (nt ct : Nat) (As : Option Addr) (ns cs : Nat) (w : World) (c0 : w.cell? ⟨b, o, none⟩ = some (.int .i64 i0)) (ha : 0 ≤ a1 ∧ a1 ≤ 31) (hi : -2147483648 ≤ i0 ∧ i0 ≤ 2147483647) (p0 : w.cell? ⟨bn, on_, none⟩ = some (.int .i64 10)) (p1 : w.cell? ⟨bn, on_ + 1, none⟩ = some (.int .i64 a1)) :
    Calls Tryz.prog 193 #[.pointer (some ⟨bn, on_, none⟩), .slice At nt ct, .slice (some ⟨b, o, none⟩) 1 ci, .slice As ns cs] w fun e w' => e = .returned (.int .i64 (i0 / 2 ^ a1.toNat)) ∧ Below w.heap.size w w' := by
  go_enter Tryz.func193, Tryz.ntmps193
  go_wp2_with fail
  go_quiet (fail)
  go_wp2
  go_ret
  exact ⟨rfl, below_drewN (Below.refl _ _) _⟩
theorem spec_out11 (bn on_ : Nat) (a1 : Int) (b o ci : Nat) (i0 : Int) (At : Option Addr) (nt ct : Nat) (As : Option Addr) (ns cs : Nat) (w : World) (c0 : w.cell? ⟨b, o, none⟩ = some (.int .i64 i0)) (ha : 0 ≤ a1 ∧ a1 ≤ 2147483647) (hi : -2147483648 ≤ i0 ∧ i0 ≤ 2147483647) (p0 : w.cell? ⟨bn, on_, none⟩ = some (.int .i64 11)) (p1 : w.cell? ⟨bn, on_ + 1, none⟩ = some (.int .i64 a1)) :
    Calls Tryz.prog 193 #[.pointer (some ⟨bn, on_, none⟩), .slice At nt ct, .slice (some ⟨b, o, none⟩) 1 ci, .slice As ns cs] w fun e w' => e = .returned (.int .i64 (max (-a1) (min a1 i0))) ∧ Below w.heap.size w w' := by
  have hneg : wrap64 (-a1) = -a1 := M.wrap64_in _ (by omega)
  have h1 : min i0 a1 = min a1 i0 := by omega
  go_enter Tryz.func193, Tryz.ntmps193
  go_wp2_with fail
  go_quiet (first | exact quiet_left (spec_l00MinX _ _ _) | exact quiet_left (spec_l00MaxX _ _ _))
  go_wp2
  go_ret
  exact ⟨ret_int (by omega), below_drewN (Below.refl _ _) _⟩
theorem spec_out12 (bn on_ : Nat) (a1 : Int) (b o ci : Nat) (i0 : Int) (At : Option Addr) (nt ct : Nat) (bs os_ ns cs : Nat) (s0 : Int) (w : World) (c0 : w.cell? ⟨b, o, none⟩ = some (.int .i64 i0)) (d0 : w.cell? ⟨bs, os_, none⟩ = some (.int .i64 s0)) (hns : 1 ≤ ns) (hi : -2147483648 ≤ i0 ∧ i0 ≤ 2147483647) (hs : -2147483648 ≤ s0 ∧ s0 ≤ 2147483647) (p0 : w.cell? ⟨bn, on_, none⟩ = some (.int .i64 12)) (p1 : w.cell? ⟨bn, on_ + 1, none⟩ = some (.int .i64 a1)) :
    Calls Tryz.prog 193 #[.pointer (some ⟨bn, on_, none⟩), .slice At nt ct, .slice (some ⟨b, o, none⟩) 1 ci, .slice (some ⟨bs, os_, none⟩) ns cs] w fun e w' => e = .returned (.int .i64 (s0)) ∧ Below w.heap.size w w' := by
  go_enter Tryz.func193, Tryz.ntmps193
  go_wp2
  go_ret
  exact ⟨rfl, Below.refl _ _⟩
theorem spec_out13 (bn on_ : Nat) (a1 : Int) (b o ci : Nat) (i0 : Int) (bt ot nt ct : Nat) (A1 : Option Addr) (c1 j n2 : Nat) (t : List Int) (As : Option Addr) (ns cs : Nat) (w : World) (c0 : w.cell? ⟨b, o, none⟩ = some (.int .i64 i0)) (ha : a1 = (j : Int) ∧ j < nt ∧ nt ≤ 4) (e0 : w.cell? ⟨bt, ot + j, none⟩ = some (.slice A1 n2 c1)) (ht : RI w w.heap.size A1 n2 t) (hn : 1 ≤ n2 ∧ n2 ≤ 16) (p0 : w.cell? ⟨bn, on_, none⟩ = some (.int .i64 13)) (p1 : w.cell? ⟨bn, on_ + 1, none⟩ = some (.int .i64 a1)) :
    Calls Tryz.prog 193 #[.pointer (some ⟨bn, on_, none⟩), .slice (some ⟨bt, ot, none⟩) nt ct, .slice (some ⟨b, o, none⟩) 1 ci, .slice As ns cs] w fun e w' => e = .returned (.int .i64 (M.look t i0)) ∧ Below w.heap.size w w' := by
  obtain ⟨rfl, hj, hnt⟩ := ha
  have hj0 : (0 : Int) ≤ (j : Int) := by omega
  have hjn : (j : Int) < (nt : Int) := by omega
  go_enter Tryz.func193, Tryz.ntmps193
  go_wp2_with fail
  go_quiet (exact quiet_left (spec_l06Look _ _ _ _ _ _ (ht.later (below_drewN (Below.refl _ _) _)) hn))
  go_wp2
  go_ret
  exact ⟨rfl, below_drewN (Below.refl _ _) _⟩
theorem spec_out14 (bn on_ : Nat) (a1 : Int) (Ai : Option Addr) (ci : Nat) (At : Option Addr) (nt ct : Nat) (bs os_ ns cs : Nat) (s0 : Int) (w : World) (d0 : w.cell? ⟨bs, os_, none⟩ = some (.int .i64 s0)) (hns : 1 ≤ ns) (hs : -2147483648 ≤ s0 ∧ s0 ≤ 2147483647) (p0 : w.cell? ⟨bn, on_, none⟩ = some (.int .i64 14)) (p1 : w.cell? ⟨bn, on_ + 1, none⟩ = some (.int .i64 a1)) :
    Calls Tryz.prog 193 #[.pointer (some ⟨bn, on_, none⟩), .slice At nt ct, .slice Ai 0 ci, .slice (some ⟨bs, os_, none⟩) ns cs] w fun e w' => e = .returned (.int .i64 (s0)) ∧ Below w.heap.size w w' := by
  go_enter Tryz.func193, Tryz.ntmps193
  go_wp2
  go_ret
  exact ⟨rfl, Below.refl _ _⟩
theorem spec_out15 (bn on_ : Nat) (a1 : Int) (b o ci : Nat) (i0 i1 i2 : Int) (At : Option Addr) (nt ct : Nat) (As : Option Addr) (ns cs : Nat) (w : World) (c0 : w.cell? ⟨b, o, none⟩ = some (.int .i64 i0)) (c1 : w.cell? ⟨b, o + 1, none⟩ = some (.int .i64 i1)) (c2 : w.cell? ⟨b, o + 2, none⟩ = some (.int .i64 i2)) (hi : -2147483648 ≤ i0 ∧ i0 ≤ 2147483647 ∧ -2147483648 ≤ i1 ∧ i1 ≤ 2147483647 ∧ -2147483648 ≤ i2 ∧ i2 ≤ 2147483647) (p0 : w.cell? ⟨bn, on_, none⟩ = some (.int .i64 15)) (p1 : w.cell? ⟨bn, on_ + 1, none⟩ = some (.int .i64 a1)) :
    Calls Tryz.prog 193 #[.pointer (some ⟨bn, on_, none⟩), .slice At nt ct, .slice (some ⟨b, o, none⟩) 3 ci, .slice As ns cs] w fun e w' => e = .returned (.int .i64 ((if 0 ≤ i0 then i1 else i2))) ∧ Below w.heap.size w w' := by
  by_cases h : 0 ≤ i0
  · have R := Lib.hid (show (if 0 ≤ i0 then i1 else i2) = i1 from if_pos h)
    go_enter Tryz.func193, Tryz.ntmps193
    go_wp2
    go_ret
    exact ⟨ret_int (by first | rfl | exact R.out | exact R.out.symm), Below.refl _ _⟩
  · have R := Lib.hid (show (if 0 ≤ i0 then i1 else i2) = i2 from if_neg h)
    go_enter Tryz.func193, Tryz.ntmps193
    go_wp2
    go_ret
    exact ⟨ret_int (by first | rfl | exact R.out | exact R.out.symm), Below.refl _ _⟩
theorem spec_out16 (bn on_ : Nat) (a1 : Int) (b o ci : Nat) (i0 i1 : Int) (At : Option Addr) (nt ct : Nat) (bs os_ ns cs : Nat) (s0 : Int) (w : World) (c0 : w.cell? ⟨b, o, none⟩ = some (.int .i64 i0)) (c1 : w.cell? ⟨b, o + 1, none⟩ = some (.int .i64 i1)) (d0 : w.cell? ⟨bs, os_, none⟩ = some (.int .i64 s0)) (hns : 1 ≤ ns) (hi : -2147483648 ≤ i0 ∧ i0 ≤ 2147483647 ∧ -2147483648 ≤ i1 ∧ i1 ≤ 2147483647) (hs : -2147483648 ≤ s0 ∧ s0 ≤ 2147483647) (p0 : w.cell? ⟨bn, on_, none⟩ = some (.int .i64 16)) (p1 : w.cell? ⟨bn, on_ + 1, none⟩ = some (.int .i64 a1)) :
    Calls Tryz.prog 193 #[.pointer (some ⟨bn, on_, none⟩), .slice At nt ct, .slice (some ⟨b, o, none⟩) 2 ci, .slice (some ⟨bs, os_, none⟩) ns cs] w fun e w' => e = .returned (.int .i64 ((if 0 < i1 then i0 else s0))) ∧ Below w.heap.size w w' := by
  by_cases h : 0 < i1
  · have R := Lib.hid (show (if 0 < i1 then i0 else s0) = i0 from if_pos h)
    go_enter Tryz.func193, Tryz.ntmps193
    go_wp2
    go_ret
    exact ⟨ret_int (by first | rfl | exact R.out | exact R.out.symm), Below.refl _ _⟩
  · have R := Lib.hid (show (if 0 < i1 then i0 else s0) = s0 from if_neg h)
    go_enter Tryz.func193, Tryz.ntmps193
    go_wp2
    go_ret
    exact ⟨ret_int (by first | rfl | exact R.out | exact R.out.symm), Below.refl _ _⟩
theorem spec_out17 (bn on_ : Nat) (a1 : Int) (b o ci : Nat) (i0 : Int) (At : Option Addr) (nt ct : Nat) (bs os_ ns cs : Nat) (s0 : Int) (w : World) (c0 : w.cell? ⟨b, o, none⟩ = some (.int .i64 i0)) (d0 : w.cell? ⟨bs, os_, none⟩ = some (.int .i64 s0)) (hns : 1 ≤ ns) (ha : -2147483648 ≤ a1 ∧ a1 ≤ 2147483647) (hi : -2147483648 ≤ i0 ∧ i0 ≤ 2147483647) (hs : -2147483648 ≤ s0 ∧ s0 ≤ 2147483647) (p0 : w.cell? ⟨bn, on_, none⟩ = some (.int .i64 17)) (p1 : w.cell? ⟨bn, on_ + 1, none⟩ = some (.int .i64 a1)) :
    Calls Tryz.prog 193 #[.pointer (some ⟨bn, on_, none⟩), .slice At nt ct, .slice (some ⟨b, o, none⟩) 1 ci, .slice (some ⟨bs, os_, none⟩) ns cs] w fun e w' => e = .returned (.int .i64 (wrap32 (i0 + a1 * s0))) ∧ Below w.heap.size w w' := by
  go_enter Tryz.func193, Tryz.ntmps193
  go_wp2_with fail
  go_quiet (first | exact quiet_left (spec_l01Mul _ _ _) | exact quiet_left (spec_l01Add _ _ _))
  go_wp2
  go_ret
  exact ⟨ret_int (by rw [M.wrap32_addr]), below_drewN (Below.refl _ _) _⟩
end Go.Proofs.YtffhodocjjkkoaaGreat
namespace Go.Proofs.YtffhodocjjkkoaaGreat
open Go.RowKit Go.Sort
set_option maxHeartbeats 1000000
set_option maxRecDepth 100000
set_option linter.unusedVariables false
set_option linter.unusedSimpArgs false
theorem RI.tail1 {w : World} {B b o n c : Nat} {s0 : Int} {ss : List Int} (h : RI w B (some ⟨b, o, none⟩) n (s0 :: ss)) (hc : n ≤ c) : RI w B (if c = 1 then some ⟨b, o, none⟩ else some ⟨b, o + 1, none⟩) (n - 1) ss := by
  have hl := h.len
  simp only [List.length_cons] at hl
  have h2 := Reads.cut (k := 1) (cap := c) h (by omega) hc
  unfold RI
  simpa [Addr.add_lit] using h2
section
variable {P : Program} {t e : TypeId} {z : Value} {bytes : Nat}
/-- 'append(out, x)' whose element's cell lies in whatever block. -/
theorem wpList_push1_at (hE : EI P t e z 1 bytes) {w : World} {ops : Array Oper} {rest : List Oper} {o : Oper} {a : Act} {Q : Exit → Act → World → Prop} {u : Value}
    (hgd : o.guard = none) (s x : Operand) (ho : o.op = .call { callee := .builtin .append, args := #[s, x], argTypes := #[t, t] })
    {B : Nat} {v : Value} {n g : Nat} {xs : List Value} (hown : w.ownsRow B e 1 v n xs) (hs : a.eval s = v)
    (hx : a.eval x = .slice (some ⟨g, 0, none⟩) 1 1) (hg : w.cell? ⟨g, 0, none⟩ = some u) (h1 : u.oneCell' = true)
    (hn : n + 1 ≤ maxLen) (hbytes : (n + 1) * bytes ≤ 140737488355328) (hbase : B ≤ w.heap.size)
    (K : ∀ v' w', w'.ownsRow B e 1 v' (n + 1) (xs ++ [u]) → w.grownBy w' v.ownBlock → Below B w w' → wpList P ops Q rest (a.put o.dst v') w') :
    wpList P ops Q (o :: rest) a w := by
  obtain ⟨ht, hinfo, hzs, hsz⟩ := hE
  obtain ⟨i0, hi, hz0, hz1, hz2⟩ := info_parts hinfo
  refine wpList_append_own _ hgd s x t ho B e i0 z 1 bytes ht hi hz0 hz1 hz2 hzs hsz v n xs hs hown ⟨g, 0, none⟩ 1 1 [u] hx rfl ?_ (by simpa using h1) hn hbytes hbase ?_
  · intro j w hj
    match j, hj with
    | 0, hj => simp at hj; subst hj; simpa [Addr.add] using hg
  · intro v' w' h2 h3 _
    exact K v' w' h2 h3 ((Below.refl _ _).grown h3 hbase fun k hk => (hown.lt k hk).1)
end
theorem impl_step6 (a1 a2 : Int) (A : Option Addr) (n c : Nat) (T : Value) (bi oi ci bs os_ ns cs : Nat) (i0 s0 : Int) (ss : List Int) (w : World) (c0 : w.cell? ⟨bi, oi, none⟩ = some (.int .i64 i0)) (hs : RI w w.heap.size (some ⟨bs, os_, none⟩) ns (s0 :: ss)) (hns : ns ≤ 16) (hcs : ns ≤ cs) :
    Calls Tryz.prog 196 #[.agg #[.int .i64 6, .int .i64 a1, .int .i64 a2, .slice A n c], T, .slice (some ⟨bi, oi, none⟩) 1 ci, .slice (some ⟨bs, os_, none⟩) ns cs] w fun e w' => ∃ v, e = .returned (.tuple #[.int .i64 s0, v]) ∧ OI 2 w.heap.size w' v (ss ++ [i0]) ∧ Below w.heap.size w w' := by
  obtain ⟨W, hW⟩ : ∃ W, W = w.alloc (.cells #[.int .i64 6, .int .i64 a1, .int .i64 a2, .slice A n c] 171) := ⟨_, rfl⟩
  have B0 : Below w.heap.size w W := by rw [hW]; exact (Below.refl _ _).alloc (Nat.le_refl _) _
  have HW := Lib.hid hW
  have hl := hs.len
  simp only [List.length_cons] at hl
  obtain ⟨bs', os', e, hbs, hcc⟩ := ri_lit hs (by omega)
  simp only [Option.some.injEq, Addr.mk.injEq] at e
  obtain ⟨rfl, rfl, -⟩ := e
  have d0 : w.cell? ⟨bs, os_, none⟩ = some (.int .i64 s0) := hcc 0 s0 rfl
  have lb : bi < w.heap.size := World.block_lt_of_cell? w _ c0
  clear hcc
  have c0' : W.cell? ⟨bi, oi, none⟩ = some (.int .i64 i0) := by rw [B0.cell lb]; exact c0
  have d0' : W.cell? ⟨bs, os_, none⟩ = some (.int .i64 s0) := by rw [B0.cell hbs]; exact d0
  have cc0 := cell_regrown c0'
  have dd0 := cell_regrown d0'
  clear hW
  go_enter Tryz.func196, Tryz.ntmps196
  go_wp2_with fail
  rw [← HW.out]
  have D1 : Below W.heap.size W W.drew := below_drewN (Below.refl _ _) 1
  have ht := (hs.tail1 hcs).later B0
  have lW : w.heap.size ≤ W.heap.size := B0.size
  clear hs c0 d0 c0' d0'
  obtain ⟨A9, ht0, e9⟩ : ∃ A9, RI W W.heap.size A9 (ns - 1) ss ∧ ((cs = 1 ∧ A9 = some ⟨bs, os_, none⟩) ∨ (¬ cs = 1 ∧ A9 = some ⟨bs, os_ + 1, none⟩)) := by
    by_cases h : cs = 1
    · rw [if_pos h] at ht
      exact ⟨_, ht, .inl ⟨h, rfl⟩⟩
    · rw [if_neg h] at ht
      exact ⟨_, ht, .inr ⟨h, rfl⟩⟩
  rcases e9 with ⟨h1, rfl⟩ | ⟨h1, rfl⟩
  all_goals
    have ht := ht0.later D1
    (refine wp_region_fresh [0, 1, 3, 4, 6, 7] [2, 8] 3 (.two 5 (.one 9 (.one 10 .rest)) 9 (.one 5 (.one 10 .rest))) [11, 12] (by kernel_rfl) (by kernel_rfl) ?_; simp only [pickOps]; simp only [List.filterMap, List.getElem?_cons_succ, List.getElem?_cons_zero]; (repeat (go_big_quiet_step (fail))); refine wpQuiet_nil ?_; (repeat (go_big_quiet_step (fail))); refine wpQuiet_nil ?_)
    refine seqT_two rfl rfl ?_ ?_
    · go_wp2_with fail
      refine (impl_clone _ _ _ _ _ ht (by omega)).mono ?_
      rintro e w1 ⟨v1, rfl, own1, bel1⟩
      have B1 : Below W.heap.size W w1 := D1.trans bel1
      go_wp2_with fail
      refine ⟨regrown_of_below B1, seqT_one rfl ?_⟩
      go_wp2_with fail
      refine ⟨regrown_of_below (B1.alloc B1.size _), seqT_one rfl ?_⟩
      go_wp2_with (at_builtin; refine wpList_push1 ei_i64 rfl _ _ rfl own1 rfl rfl rfl (by unfold maxLen; omega) (by omega) B1.size ?_; intro v2 w2 own2 gr2 bel2)
      refine ⟨regrown_of_below (B1.trans bel2), seqT_rest ?_⟩
      go_wp2
      go_ret2
      exact ⟨_, rfl, (OI.push own2).base lW, B0.trans ((B1.trans bel2).mono lW)⟩
    · have B1 : Below W.heap.size W (W.alloc (.cells #[.int .i64 i0] 2)).drew := below_drewN ((Below.refl _ _).alloc (Nat.le_refl _) _) 1
      have ht2 : RI (W.alloc (.cells #[.int .i64 i0] 2)).drew (W.alloc (.cells #[.int .i64 i0] 2)).drew.heap.size _ (ns - 1) ss := ht0.later B1
      have hg1 : (W.alloc (.cells #[.int .i64 i0] 2)).drew.cell? ⟨W.heap.size, 0, none⟩ = some (.int .i64 i0) := cell_alloc1 _ _ _
      have hz1 : (W.alloc (.cells #[.int .i64 i0] 2)).drew.heap.size = W.heap.size + 1 := by show (W.alloc (.cells #[.int .i64 i0] 2)).heap.size = _; simp
      go_wp2_with fail
      refine ⟨regrown_of_below B1, seqT_one rfl ?_⟩
      go_wp2_with fail
      generalize (W.alloc (.cells #[.int .i64 i0] 2)).drew = V at B1 ht2 hg1 hz1 ⊢
      refine (impl_clone _ _ _ _ _ ht2 (by omega)).mono ?_
      rintro e w1 ⟨v1, rfl, own1, bel1⟩
      have B2 := bel_trans B1 bel1
      have hg2 : w1.cell? ⟨W.heap.size, 0, none⟩ = some (.int .i64 i0) := by rw [bel1.cell (by show W.heap.size < V.heap.size; omega)]; exact hg1
      go_wp2_with fail
      refine ⟨regrown_of_below B2, seqT_one rfl ?_⟩
      go_wp2_with (at_builtin; refine wpList_push1_at ei_i64 rfl _ _ rfl own1 rfl rfl hg2 rfl (by unfold maxLen; omega) (by omega) bel1.size ?_; intro v2 w2 own2 gr2 bel2)
      have B3 : Below W.heap.size W w2 := B2.trans (bel2.mono (by omega))
      refine ⟨regrown_of_below B3, seqT_rest ?_⟩
      go_wp2
      go_ret2
      exact ⟨_, rfl, (OI.push own2).base (by omega), B0.trans (B3.mono (by omega))⟩
theorem impl_step7 (a1 a2 : Int) (A : Option Addr) (n c : Nat) (T : Value) (bi oi ci : Nat) (i0 : Int) (bs os_ ns cs : Nat) (s0 : Int) (w : World) (c0 : w.cell? ⟨bi, oi, none⟩ = some (.int .i64 i0)) (d0 : w.cell? ⟨bs, os_, none⟩ = some (.int .i64 s0)) (hns : 1 ≤ ns) (hi : -2147483648 ≤ i0 ∧ i0 ≤ 2147483647) (hsb : -2147483648 ≤ s0 ∧ s0 ≤ 2147483647) :
    Calls Tryz.prog 196 #[.agg #[.int .i64 7, .int .i64 a1, .int .i64 a2, .slice A n c], T, .slice (some ⟨bi, oi, none⟩) 1 ci, .slice (some ⟨bs, os_, none⟩) ns cs] w fun e w' => ∃ v, e = .returned (.tuple #[.int .i64 (wrap32 (s0 + i0)), v]) ∧ OI 2 w.heap.size w' v ([wrap32 (s0 + i0)]) ∧ Below w.heap.size w w' := by
  obtain ⟨W, hW⟩ : ∃ W, W = w.alloc (.cells #[.int .i64 7, .int .i64 a1, .int .i64 a2, .slice A n c] 171) := ⟨_, rfl⟩
  have B0 : Below w.heap.size w W := by rw [hW]; exact (Below.refl _ _).alloc (Nat.le_refl _) _
  have lW : w.heap.size ≤ W.heap.size := B0.size
  have lb : bi < w.heap.size := World.block_lt_of_cell? w _ c0
  have hbs : bs < w.heap.size := World.block_lt_of_cell? w _ d0
  have c0' : W.cell? ⟨bi, oi, none⟩ = some (.int .i64 i0) := by rw [B0.cell lb]; exact c0
  have d0' : W.cell? ⟨bs, os_, none⟩ = some (.int .i64 s0) := by rw [B0.cell hbs]; exact d0
  have p1' : W.cell? ⟨w.heap.size, 1, none⟩ = some (.int .i64 a1) := by rw [hW]; simp [go_sem]
  have HW := Lib.hid hW
  clear hW
  have O1 := OI_lit W (wrap32 (s0 + i0))
  go_enter Tryz.func196, Tryz.ntmps196
  go_wp2_with fail
  rw [← HW.out]
  go_quiet (exact quiet_left (impl_Wrap _ _))
  have hw3 : wrap32 (wrap64 (s0 + i0)) = wrap32 (s0 + i0) := M.wrap32_64 _
  go_wp2
  go_ret2
  exact ⟨_, rfl, O1.base lW, below_drewN (B0.alloc lW _) _⟩
theorem impl_step8 (a1 a2 : Int) (A : Option Addr) (n c : Nat) (T : Value) (bi oi ci : Nat) (i0 : Int) (bs os_ ns cs : Nat) (s0 : Int) (w : World) (c0 : w.cell? ⟨bi, oi, none⟩ = some (.int .i64 i0)) (d0 : w.cell? ⟨bs, os_, none⟩ = some (.int .i64 s0)) (hns : 1 ≤ ns) (hi : -2147483648 ≤ i0 ∧ i0 ≤ 2147483647) (hsb : -2147483648 ≤ s0 ∧ s0 ≤ 2147483647) :
    Calls Tryz.prog 196 #[.agg #[.int .i64 8, .int .i64 a1, .int .i64 a2, .slice A n c], T, .slice (some ⟨bi, oi, none⟩) 1 ci, .slice (some ⟨bs, os_, none⟩) ns cs] w fun e w' => ∃ v, e = .returned (.tuple #[.int .i64 (wrap32 (i0 - s0)), v]) ∧ OI 2 w.heap.size w' v ([i0]) ∧ Below w.heap.size w w' := by
  obtain ⟨W, hW⟩ : ∃ W, W = w.alloc (.cells #[.int .i64 8, .int .i64 a1, .int .i64 a2, .slice A n c] 171) := ⟨_, rfl⟩
  have B0 : Below w.heap.size w W := by rw [hW]; exact (Below.refl _ _).alloc (Nat.le_refl _) _
  have lW : w.heap.size ≤ W.heap.size := B0.size
  have lb : bi < w.heap.size := World.block_lt_of_cell? w _ c0
  have hbs : bs < w.heap.size := World.block_lt_of_cell? w _ d0
  have c0' : W.cell? ⟨bi, oi, none⟩ = some (.int .i64 i0) := by rw [B0.cell lb]; exact c0
  have d0' : W.cell? ⟨bs, os_, none⟩ = some (.int .i64 s0) := by rw [B0.cell hbs]; exact d0
  have p1' : W.cell? ⟨w.heap.size, 1, none⟩ = some (.int .i64 a1) := by rw [hW]; simp [go_sem]
  have HW := Lib.hid hW
  have cc0 := cell_regrown c0'
  have dd0 := cell_regrown d0'
  clear hW c0 d0 c0' d0'
  have O1 := OI_lit W i0
  have hw3 : wrap32 (wrap64 (i0 - s0)) = wrap32 (i0 - s0) := M.wrap32_64 _
  have D1 : Below W.heap.size W W.drew := below_drewN (Below.refl _ _) 1
  have B1 : Below W.heap.size W (W.alloc (.cells #[.int .i64 i0] 2)).drew := below_drewN ((Below.refl _ _).alloc (Nat.le_refl _) _) 1
  go_enter Tryz.func196, Tryz.ntmps196
  go_wp2_with fail
  rw [← HW.out]
  (refine wp_region_fresh [0, 1, 3, 4, 8, 9] [2, 5, 6, 10] 3 (.two 7 (.two 11 (.one 12 .rest) 12 (.one 11 .rest)) 11 (.one 7 (.one 12 .rest))) [13] (by kernel_rfl) (by kernel_rfl) ?_; simp only [pickOps]; simp only [List.filterMap, List.getElem?_cons_succ, List.getElem?_cons_zero]; (repeat (go_big_quiet_step (fail))); refine wpQuiet_nil ?_; (repeat (go_big_quiet_step (fail))); refine wpQuiet_nil ?_)
  refine seqT_two rfl rfl ?_ ?_
  · go_wp2_with (go_at_call 109; refine (impl_Wrap _ _).mono ?_; rintro e w' ⟨rfl, rfl⟩)
    refine ⟨regrown_of_below D1, seqT_two rfl rfl ?_ ?_⟩
    · go_wp2_with fail
      refine ⟨regrown_of_below B1, seqT_one rfl ?_⟩
      go_wp2_with fail
      refine ⟨regrown_of_below B1, seqT_rest ?_⟩
      go_wp2
      go_ret2
      exact ⟨_, rfl, O1.base lW, B0.trans (B1.mono lW)⟩
    · go_wp2_with fail
      refine ⟨regrown_of_below D1, seqT_one rfl ?_⟩
      go_wp2_with fail
      refine ⟨regrown_of_below B1, seqT_rest ?_⟩
      go_wp2
      go_ret2
      exact ⟨_, rfl, O1.base lW, B0.trans (B1.mono lW)⟩
  · go_wp2_with fail
    refine ⟨regrown_of_below B1, seqT_one rfl ?_⟩
    go_wp2_with (go_at_call 109; refine (impl_Wrap _ _).mono ?_; rintro e w' ⟨rfl, rfl⟩)
    refine ⟨regrown_of_below B1, seqT_one rfl ?_⟩
    go_wp2_with fail
    refine ⟨regrown_of_below B1, seqT_rest ?_⟩
    go_wp2
    go_ret2
    exact ⟨_, rfl, O1.base lW, B0.trans (B1.mono lW)⟩
theorem impl_step12 (a1 a2 : Int) (A : Option Addr) (n c : Nat) (T : Value) (bi oi ci : Nat) (i0 : Int) (bs os_ ns cs : Nat) (s0 : Int) (w : World) (c0 : w.cell? ⟨bi, oi, none⟩ = some (.int .i64 i0)) (d0 : w.cell? ⟨bs, os_, none⟩ = some (.int .i64 s0)) (hns : 1 ≤ ns) (hi : -2147483648 ≤ i0 ∧ i0 ≤ 2147483647) (hsb : -2147483648 ≤ s0 ∧ s0 ≤ 2147483647) :
    Calls Tryz.prog 196 #[.agg #[.int .i64 12, .int .i64 a1, .int .i64 a2, .slice A n c], T, .slice (some ⟨bi, oi, none⟩) 1 ci, .slice (some ⟨bs, os_, none⟩) ns cs] w fun e w' => ∃ v, e = .returned (.tuple #[.int .i64 (s0), v]) ∧ OI 2 w.heap.size w' v ([wrap32 (s0 + i0)]) ∧ Below w.heap.size w w' := by
  obtain ⟨W, hW⟩ : ∃ W, W = w.alloc (.cells #[.int .i64 12, .int .i64 a1, .int .i64 a2, .slice A n c] 171) := ⟨_, rfl⟩
  have B0 : Below w.heap.size w W := by rw [hW]; exact (Below.refl _ _).alloc (Nat.le_refl _) _
  have lW : w.heap.size ≤ W.heap.size := B0.size
  have lb : bi < w.heap.size := World.block_lt_of_cell? w _ c0
  have hbs : bs < w.heap.size := World.block_lt_of_cell? w _ d0
  have c0' : W.cell? ⟨bi, oi, none⟩ = some (.int .i64 i0) := by rw [B0.cell lb]; exact c0
  have d0' : W.cell? ⟨bs, os_, none⟩ = some (.int .i64 s0) := by rw [B0.cell hbs]; exact d0
  have p1' : W.cell? ⟨w.heap.size, 1, none⟩ = some (.int .i64 a1) := by rw [hW]; simp [go_sem]
  have HW := Lib.hid hW
  have cc0 := cell_regrown c0'
  have dd0 := cell_regrown d0'
  clear hW c0 d0 c0' d0'
  have O1 := OI_lit W (wrap32 (s0 + i0))
  have hw3 : wrap32 (wrap64 (s0 + i0)) = wrap32 (s0 + i0) := M.wrap32_64 _
  have D1 : Below W.heap.size W W.drew := below_drewN (Below.refl _ _) 1
  have B1 : Below W.heap.size W (W.alloc (.cells #[.int .i64 (wrap32 (s0 + i0))] 2)).drew := below_drewN ((Below.refl _ _).alloc (Nat.le_refl _) _) 1
  go_enter Tryz.func196, Tryz.ntmps196
  go_wp2_with fail
  rw [← HW.out]
  (refine wp_region_fresh [0, 1, 3, 4, 6, 7] [2, 5, 8, 9] 3 (.one 10 (.two 11 (.one 12 .rest) 12 (.one 11 .rest))) [13] (by kernel_rfl) (by kernel_rfl) ?_; simp only [pickOps]; simp only [List.filterMap, List.getElem?_cons_succ, List.getElem?_cons_zero]; (repeat (go_big_quiet_step (fail))); refine wpQuiet_nil ?_; (repeat (go_big_quiet_step (fail))); refine wpQuiet_nil ?_)
  refine seqT_one rfl ?_
  go_wp2_with (go_at_call 109; refine (impl_Wrap _ _).mono ?_; rintro e w' ⟨rfl, rfl⟩)
  refine ⟨regrown_of_below D1, seqT_two rfl rfl ?_ ?_⟩
  · go_wp2_with fail
    refine ⟨regrown_of_below B1, seqT_one rfl ?_⟩
    go_wp2_with fail
    refine ⟨regrown_of_below B1, seqT_rest ?_⟩
    go_wp2
    go_ret2
    exact ⟨_, rfl, O1.base lW, B0.trans (B1.mono lW)⟩
  · go_wp2_with fail
    refine ⟨regrown_of_below D1, seqT_one rfl ?_⟩
    go_wp2_with fail
    refine ⟨regrown_of_below B1, seqT_rest ?_⟩
    go_wp2
    go_ret2
    exact ⟨_, rfl, O1.base lW, B0.trans (B1.mono lW)⟩
theorem impl_step14 (a1 a2 : Int) (A : Option Addr) (n c : Nat) (T : Value) (Ai : Option Addr) (ci : Nat) (bs os_ ns cs : Nat) (s0 : Int) (w : World) (d0 : w.cell? ⟨bs, os_, none⟩ = some (.int .i64 s0)) (hns : 1 ≤ ns) (hsb : -2147483648 ≤ s0 ∧ s0 ≤ 2147483647) :
    Calls Tryz.prog 196 #[.agg #[.int .i64 14, .int .i64 a1, .int .i64 a2, .slice A n c], T, .slice Ai 0 ci, .slice (some ⟨bs, os_, none⟩) ns cs] w fun e w' => ∃ v, e = .returned (.tuple #[.int .i64 (s0), v]) ∧ OI 2 w.heap.size w' v ([M.noise s0]) ∧ Below w.heap.size w w' := by
  obtain ⟨W, hW⟩ : ∃ W, W = w.alloc (.cells #[.int .i64 14, .int .i64 a1, .int .i64 a2, .slice A n c] 171) := ⟨_, rfl⟩
  have B0 : Below w.heap.size w W := by rw [hW]; exact (Below.refl _ _).alloc (Nat.le_refl _) _
  have lW : w.heap.size ≤ W.heap.size := B0.size
  have hbs : bs < w.heap.size := World.block_lt_of_cell? w _ d0
  have d0' : W.cell? ⟨bs, os_, none⟩ = some (.int .i64 s0) := by rw [B0.cell hbs]; exact d0
  have p1' : W.cell? ⟨w.heap.size, 1, none⟩ = some (.int .i64 a1) := by rw [hW]; simp [go_sem]
  have HW := Lib.hid hW
  have dd0 := cell_regrown d0'
  clear hW d0 d0'
  have O1 := OI_lit W (M.noise s0)
  have D1 : Below W.heap.size W W.drew := below_drewN (Below.refl _ _) 1
  have B1 : Below W.heap.size W (W.alloc (.cells #[.int .i64 (M.noise s0)] 2)).drew := below_drewN ((Below.refl _ _).alloc (Nat.le_refl _) _) 1
  go_enter Tryz.func196, Tryz.ntmps196
  go_wp2_with fail
  rw [← HW.out]
  (refine wp_region_fresh [0, 1, 3, 4] [2, 5] 3 (.one 6 (.two 7 (.one 8 .rest) 8 (.one 7 .rest))) [9] (by kernel_rfl) (by kernel_rfl) ?_; simp only [pickOps]; simp only [List.filterMap, List.getElem?_cons_succ, List.getElem?_cons_zero]; (repeat (go_big_quiet_step (fail))); refine wpQuiet_nil ?_; (repeat (go_big_quiet_step (fail))); refine wpQuiet_nil ?_)
  refine seqT_one rfl ?_
  go_wp2_with (go_at_call 209; refine (impl_noise _ _).mono ?_; rintro e w' ⟨rfl, rfl⟩)
  refine ⟨regrown_of_below D1, seqT_two rfl rfl ?_ ?_⟩
  · go_wp2_with fail
    refine ⟨regrown_of_below B1, seqT_one rfl ?_⟩
    go_wp2_with fail
    refine ⟨regrown_of_below B1, seqT_rest ?_⟩
    go_wp2
    go_ret2
    exact ⟨_, rfl, O1.base lW, B0.trans (B1.mono lW)⟩
  · go_wp2_with fail
    refine ⟨regrown_of_below D1, seqT_one rfl ?_⟩
    go_wp2_with fail
    refine ⟨regrown_of_below B1, seqT_rest ?_⟩
    go_wp2
    go_ret2
    exact ⟨_, rfl, O1.base lW, B0.trans (B1.mono lW)⟩
theorem impl_step16 (a1 a2 : Int) (A : Option Addr) (n c : Nat) (T : Value) (bi oi ci : Nat) (i0 i1 : Int) (bs os_ ns cs : Nat) (s0 : Int) (w : World) (c0 : w.cell? ⟨bi, oi, none⟩ = some (.int .i64 i0)) (c1 : w.cell? ⟨bi, oi + 1, none⟩ = some (.int .i64 i1)) (d0 : w.cell? ⟨bs, os_, none⟩ = some (.int .i64 s0)) (hns : 1 ≤ ns) (hi : -2147483648 ≤ i0 ∧ i0 ≤ 2147483647 ∧ -2147483648 ≤ i1 ∧ i1 ≤ 2147483647) (hsb : -2147483648 ≤ s0 ∧ s0 ≤ 2147483647) :
    Calls Tryz.prog 196 #[.agg #[.int .i64 16, .int .i64 a1, .int .i64 a2, .slice A n c], T, .slice (some ⟨bi, oi, none⟩) 2 ci, .slice (some ⟨bs, os_, none⟩) ns cs] w fun e w' => ∃ v, e = .returned (.tuple #[.int .i64 (if 0 < i1 then i0 else s0), v]) ∧ OI 2 w.heap.size w' v ([if 0 < i1 then i0 else s0]) ∧ Below w.heap.size w w' := by
  obtain ⟨W, hW⟩ : ∃ W, W = w.alloc (.cells #[.int .i64 16, .int .i64 a1, .int .i64 a2, .slice A n c] 171) := ⟨_, rfl⟩
  have B0 : Below w.heap.size w W := by rw [hW]; exact (Below.refl _ _).alloc (Nat.le_refl _) _
  have lW : w.heap.size ≤ W.heap.size := B0.size
  have lb : bi < w.heap.size := World.block_lt_of_cell? w _ c0
  have hbs : bs < w.heap.size := World.block_lt_of_cell? w _ d0
  have c0' : W.cell? ⟨bi, oi, none⟩ = some (.int .i64 i0) := by rw [B0.cell lb]; exact c0
  have c1' : W.cell? ⟨bi, oi + 1, none⟩ = some (.int .i64 i1) := by rw [B0.cell lb]; exact c1
  have d0' : W.cell? ⟨bs, os_, none⟩ = some (.int .i64 s0) := by rw [B0.cell hbs]; exact d0
  have p1' : W.cell? ⟨w.heap.size, 1, none⟩ = some (.int .i64 a1) := by rw [hW]; simp [go_sem]
  have HW := Lib.hid hW
  by_cases h : 0 < i1
  · have R := Lib.hid (show (if 0 < i1 then i0 else s0) = i0 from if_pos h)
    have O1 := OI_lit W (i0)
    have B1 : Below w.heap.size w (W.alloc (.cells #[.int .i64 i0] 2)) := B0.alloc lW _
    rw [R.out]
    rw [HW.out] at O1 B1
    have hz : (w.alloc (.cells #[.int .i64 16, .int .i64 a1, .int .i64 a2, .slice A n c] 171)).heap.size = w.heap.size + 1 := by simp
    rw [hz] at O1
    clear hW c0' c1' d0' p1' HW B0 lW W
    go_enter Tryz.func196, Tryz.ntmps196
    go_wp2
    go_ret2
    exact ⟨_, rfl, O1.base (by omega), B1⟩
  · have R := Lib.hid (show (if 0 < i1 then i0 else s0) = s0 from if_neg h)
    have O1 := OI_lit W (s0)
    have B1 : Below w.heap.size w (W.alloc (.cells #[.int .i64 s0] 2)) := B0.alloc lW _
    rw [R.out]
    rw [HW.out] at O1 B1
    have hz : (w.alloc (.cells #[.int .i64 16, .int .i64 a1, .int .i64 a2, .slice A n c] 171)).heap.size = w.heap.size + 1 := by simp
    rw [hz] at O1
    clear hW c0' c1' d0' p1' HW B0 lW W
    go_enter Tryz.func196, Tryz.ntmps196
    go_wp2
    go_ret2
    exact ⟨_, rfl, O1.base (by omega), B1⟩
theorem impl_step17 (a1 a2 : Int) (A : Option Addr) (n c : Nat) (T : Value) (bi oi ci : Nat) (i0 : Int) (bs os_ ns cs : Nat) (s0 : Int) (ss : List Int) (w : World) (c0 : w.cell? ⟨bi, oi, none⟩ = some (.int .i64 i0)) (hs : RI w w.heap.size (some ⟨bs, os_, none⟩) ns (s0 :: ss)) (hns : ns ≤ 16) (hcs : ns ≤ cs) (ha : -2147483648 ≤ a1 ∧ a1 ≤ 2147483647) (hi : -2147483648 ≤ i0 ∧ i0 ≤ 2147483647) (hsb : -2147483648 ≤ s0 ∧ s0 ≤ 2147483647) :
    Calls Tryz.prog 196 #[.agg #[.int .i64 17, .int .i64 a1, .int .i64 a2, .slice A n c], T, .slice (some ⟨bi, oi, none⟩) 1 ci, .slice (some ⟨bs, os_, none⟩) ns cs] w fun e w' => ∃ v, e = .returned (.tuple #[.int .i64 (wrap32 (i0 + a1 * s0)), v]) ∧ OI 2 w.heap.size w' v (ss ++ [wrap32 (i0 + a1 * s0)]) ∧ Below w.heap.size w w' := by
  obtain ⟨W, hW⟩ : ∃ W, W = w.alloc (.cells #[.int .i64 17, .int .i64 a1, .int .i64 a2, .slice A n c] 171) := ⟨_, rfl⟩
  have B0 : Below w.heap.size w W := by rw [hW]; exact (Below.refl _ _).alloc (Nat.le_refl _) _
  have lW : w.heap.size ≤ W.heap.size := B0.size
  have lb : bi < w.heap.size := World.block_lt_of_cell? w _ c0
  have hl := hs.len
  simp only [List.length_cons] at hl
  obtain ⟨bs', os', e, hbs, hcc⟩ := ri_lit hs (by omega)
  simp only [Option.some.injEq, Addr.mk.injEq] at e
  obtain ⟨rfl, rfl, -⟩ := e
  have d0 : w.cell? ⟨bs, os_, none⟩ = some (.int .i64 s0) := hcc 0 s0 rfl
  clear hcc
  have c0' : W.cell? ⟨bi, oi, none⟩ = some (.int .i64 i0) := by rw [B0.cell lb]; exact c0
  have d0' : W.cell? ⟨bs, os_, none⟩ = some (.int .i64 s0) := by rw [B0.cell hbs]; exact d0
  have p1' : W.cell? ⟨w.heap.size, 1, none⟩ = some (.int .i64 a1) := by rw [hW]; simp [go_sem]
  have HW := Lib.hid hW
  have hm : -4611686018427387904 ≤ a1 * s0 ∧ a1 * s0 ≤ 4611686018427387904 := M.wrap64_mul_bd _ _ ha hsb
  have hw3 : wrap64 (a1 * s0) = a1 * s0 := M.wrap64_in _ (by omega)
  have hw4 : wrap64 (i0 + a1 * s0) = i0 + a1 * s0 := M.wrap64_in _ (by omega)
  have ht0 := (hs.tail1 hcs).later B0
  clear hW hs
  obtain ⟨A9, ht0, e9⟩ : ∃ A9, RI W W.heap.size A9 (ns - 1) ss ∧ ((cs = 1 ∧ A9 = some ⟨bs, os_, none⟩) ∨ (¬ cs = 1 ∧ A9 = some ⟨bs, os_ + 1, none⟩)) := by
    by_cases h : cs = 1
    · rw [if_pos h] at ht0
      exact ⟨_, ht0, .inl ⟨h, rfl⟩⟩
    · rw [if_neg h] at ht0
      exact ⟨_, ht0, .inr ⟨h, rfl⟩⟩
  rcases e9 with ⟨h1, rfl⟩ | ⟨h1, rfl⟩
  all_goals
    go_enter Tryz.func196, Tryz.ntmps196
    go_wp2_with fail
    rw [← HW.out]
    go_quiet (exact quiet_left (impl_Wrap _ _))
    have D2 := fun m => below_drewN (Below.refl W.heap.size W) m
    have ht2 := fun m => ht0.later (D2 m)
    clear c0 d0 c0' d0' p1' HW
    go_wp2_with fail
    refine (impl_clone _ _ _ _ _ (ht2 _) (by omega)).mono ?_
    rintro e w1 ⟨v1, rfl, own1, bel1⟩
    have B1 : Below W.heap.size W w1 := (D2 _).trans bel1
    go_wp2_with (at_builtin; refine wpList_push1 ei_i64 rfl _ _ rfl own1 rfl rfl rfl (by unfold maxLen; omega) (by omega) B1.size ?_; intro v2 w2 own2 gr2 bel2)
    go_ret2
    exact ⟨_, rfl, (OI.push own2).base lW, B0.trans ((B1.trans bel2).mono lW)⟩
theorem impl_step_pure (k a1 a2 : Int) (A : Option Addr) (n c : Nat) (T I S : Value) (out : Int) (w : World) (hk : k = 1 ∨ k = 2 ∨ k = 3 ∨ k = 4 ∨ k = 5 ∨ k = 9 ∨ k = 10 ∨ k = 11 ∨ k = 13 ∨ k = 15)
    (hO : ∀ W, Below w.heap.size w W → Calls Tryz.prog 210 #[.agg #[.int .i64 k, .int .i64 a1, .int .i64 a2, .slice A n c], T, I] W fun e w' => e = .returned (.int .i64 out) ∧ Below W.heap.size W w') :
    Calls Tryz.prog 196 #[.agg #[.int .i64 k, .int .i64 a1, .int .i64 a2, .slice A n c], T, I, S] w fun e w' => ∃ v, e = .returned (.tuple #[.int .i64 out, v]) ∧ OI 2 w.heap.size w' v [] ∧ Below w.heap.size w w' := by
  obtain ⟨W, hW⟩ : ∃ W, W = w.alloc (.cells #[.int .i64 k, .int .i64 a1, .int .i64 a2, .slice A n c] 171) := ⟨_, rfl⟩
  have B0 : Below w.heap.size w W := by rw [hW]; exact (Below.refl _ _).alloc (Nat.le_refl _) _
  have HW := Lib.hid hW
  have hO2 := hO W B0
  clear hW hO
  rcases hk with rfl | rfl | rfl | rfl | rfl | rfl | rfl | rfl | rfl | rfl
  all_goals
    go_enter Tryz.func196, Tryz.ntmps196
    go_wp2_with fail
    rw [← HW.out]
    refine hO2.mono ?_
    rintro e w1 ⟨rfl, bel1⟩
    go_wp2_with (go_at_call 98; refine (impl_zeros _ _ (by omega) (by omega)).mono ?_; rintro e w2 ⟨v2, rfl, own2, bel2⟩)
    go_ret2
    exact ⟨_, rfl, own2.base (by have := B0.size; have := bel1.size; omega), bel_trans B0 (bel_trans bel1 bel2)⟩
theorem spec_next6 (bn on_ : Nat) (bi oi ci : Nat) (i0 : Int) (bs os_ ns cs : Nat) (s0 : Int) (ss : List Int) (out : Int) (w : World) (p0 : w.cell? ⟨bn, on_, none⟩ = some (.int .i64 6)) (c0 : w.cell? ⟨bi, oi, none⟩ = some (.int .i64 i0)) (hs : RI w w.heap.size (some ⟨bs, os_, none⟩) ns (s0 :: ss)) (hns : ns ≤ 16) (hcs : ns ≤ cs) :
    Calls Tryz.prog 195 #[.pointer (some ⟨bn, on_, none⟩), .slice (some ⟨bi, oi, none⟩) 1 ci, .slice (some ⟨bs, os_, none⟩) ns cs, .int .i64 out] w (Ret1 2 w (ss ++ [i0])) := by
  have cc0 := cell_regrown c0
  clear c0
  have hl := hs.len
  simp only [List.length_cons] at hl
  have D1 : Below w.heap.size w w.drew := below_drewN (Below.refl _ _) 1
  have ht0 := hs.tail1 hcs
  clear hs
  obtain ⟨A9, ht0, e9⟩ : ∃ A9, RI w w.heap.size A9 (ns - 1) ss ∧ ((cs = 1 ∧ A9 = some ⟨bs, os_, none⟩) ∨ (¬ cs = 1 ∧ A9 = some ⟨bs, os_ + 1, none⟩)) := by
    by_cases h : cs = 1
    · rw [if_pos h] at ht0
      exact ⟨_, ht0, .inl ⟨h, rfl⟩⟩
    · rw [if_neg h] at ht0
      exact ⟨_, ht0, .inr ⟨h, rfl⟩⟩
  rcases e9 with ⟨h1, rfl⟩ | ⟨h1, rfl⟩
  all_goals
    have ht := ht0.later D1
    go_enter Tryz.func195, Tryz.ntmps195
    go_wp2_with fail
    (refine wp_region_fresh [0, 1, 3, 4] [5] 3 (.two 2 (.one 6 (.one 7 .rest)) 6 (.one 2 (.one 7 .rest))) [8] (by kernel_rfl) (by kernel_rfl) ?_; simp only [pickOps]; simp only [List.filterMap, List.getElem?_cons_succ, List.getElem?_cons_zero]; (repeat (go_big_quiet_step (fail))); refine wpQuiet_nil ?_; (repeat (go_big_quiet_step (fail))); refine wpQuiet_nil ?_)
    refine seqT_two rfl rfl ?_ ?_
    · go_wp2_with fail
      refine (spec_l00Own _ _ _ _ _ ht (by omega)).mono ?_
      rintro e w1 ⟨v1, rfl, own1, bel1⟩
      have B1 : Below w.heap.size w w1 := D1.trans bel1
      go_wp2_with fail
      refine ⟨regrown_of_below B1, seqT_one rfl ?_⟩
      go_wp2_with fail
      refine ⟨regrown_of_below (B1.alloc B1.size _), seqT_one rfl ?_⟩
      go_wp2_with (at_builtin; refine wpList_push1 ei_i64 rfl _ _ rfl own1 rfl rfl rfl (by unfold maxLen; omega) (by omega) B1.size ?_; intro v2 w2 own2 gr2 bel2)
      refine ⟨regrown_of_below (B1.trans bel2), seqT_rest ?_⟩
      go_wp2
      go_ret
      exact ⟨_, rfl, OI.push own2, B1.trans bel2⟩
    · have B1 : Below w.heap.size w (w.alloc (.cells #[.int .i64 i0] 2)).drew := below_drewN ((Below.refl _ _).alloc (Nat.le_refl _) _) 1
      have ht2 : RI (w.alloc (.cells #[.int .i64 i0] 2)).drew (w.alloc (.cells #[.int .i64 i0] 2)).drew.heap.size _ (ns - 1) ss := ht0.later B1
      have hg1 : (w.alloc (.cells #[.int .i64 i0] 2)).drew.cell? ⟨w.heap.size, 0, none⟩ = some (.int .i64 i0) := cell_alloc1 _ _ _
      have hz1 : (w.alloc (.cells #[.int .i64 i0] 2)).drew.heap.size = w.heap.size + 1 := by show (w.alloc (.cells #[.int .i64 i0] 2)).heap.size = _; simp
      go_wp2_with fail
      refine ⟨regrown_of_below B1, seqT_one rfl ?_⟩
      go_wp2_with fail
      generalize (w.alloc (.cells #[.int .i64 i0] 2)).drew = V at B1 ht2 hg1 hz1 ⊢
      refine (spec_l00Own _ _ _ _ _ ht2 (by omega)).mono ?_
      rintro e w1 ⟨v1, rfl, own1, bel1⟩
      have B2 := bel_trans B1 bel1
      have hg2 : w1.cell? ⟨w.heap.size, 0, none⟩ = some (.int .i64 i0) := by rw [bel1.cell (by show w.heap.size < V.heap.size; omega)]; exact hg1
      go_wp2_with fail
      refine ⟨regrown_of_below B2, seqT_one rfl ?_⟩
      go_wp2_with (at_builtin; refine wpList_push1_at ei_i64 rfl _ _ rfl own1 rfl rfl hg2 rfl (by unfold maxLen; omega) (by omega) bel1.size ?_; intro v2 w2 own2 gr2 bel2)
      have B3 : Below w.heap.size w w2 := B2.trans (bel2.mono (by omega))
      refine ⟨regrown_of_below B3, seqT_rest ?_⟩
      go_wp2
      go_ret
      exact ⟨_, rfl, (OI.push own2).base (by omega), B3⟩
theorem spec_next17 (bn on_ : Nat) (I : Value) (i0 : Int) (bs os_ ns cs : Nat) (s0 : Int) (ss : List Int) (out : Int) (w : World) (p0 : w.cell? ⟨bn, on_, none⟩ = some (.int .i64 17)) (hs : RI w w.heap.size (some ⟨bs, os_, none⟩) ns (s0 :: ss)) (hns : ns ≤ 16) (hcs : ns ≤ cs) :
    Calls Tryz.prog 195 #[.pointer (some ⟨bn, on_, none⟩), I, .slice (some ⟨bs, os_, none⟩) ns cs, .int .i64 out] w (Ret1 2 w (ss ++ [out])) := by
  have hl := hs.len
  simp only [List.length_cons] at hl
  have D1 : Below w.heap.size w w.drew := below_drewN (Below.refl _ _) 1
  have ht0 := hs.tail1 hcs
  clear hs
  obtain ⟨A9, ht0, e9⟩ : ∃ A9, RI w w.heap.size A9 (ns - 1) ss ∧ ((cs = 1 ∧ A9 = some ⟨bs, os_, none⟩) ∨ (¬ cs = 1 ∧ A9 = some ⟨bs, os_ + 1, none⟩)) := by
    by_cases h : cs = 1
    · rw [if_pos h] at ht0
      exact ⟨_, ht0, .inl ⟨h, rfl⟩⟩
    · rw [if_neg h] at ht0
      exact ⟨_, ht0, .inr ⟨h, rfl⟩⟩
  rcases e9 with ⟨h1, rfl⟩ | ⟨h1, rfl⟩
  all_goals
    go_enter Tryz.func195, Tryz.ntmps195
    go_wp2_with (first
      | (go_at_call 178; refine (spec_l00Own _ _ _ _ _ ht0 (by omega)).mono ?_; rintro e w1 ⟨v1, rfl, own1, bel1⟩)
      | (at_builtin; refine wpList_push1 ei_i64 rfl _ _ rfl own1 rfl rfl rfl (by unfold maxLen; omega) (by omega) bel1.size ?_; intro v2 w2 own2 gr2 bel2))
    go_ret
    exact ⟨_, rfl, OI.push own2, bel1.trans bel2⟩
theorem spec_next7 (bn on_ : Nat) (I : Value) (i0 : Int) (S : Value) (s0 : Int) (out : Int) (w : World) (p0 : w.cell? ⟨bn, on_, none⟩ = some (.int .i64 7))  :
    Calls Tryz.prog 195 #[.pointer (some ⟨bn, on_, none⟩), I, S, .int .i64 out] w (Ret1 2 w ([out])) := by
  have O1 := OI_lit w out
  go_enter Tryz.func195, Tryz.ntmps195
  go_wp2
  go_ret
  exact ⟨_, rfl, O1, (Below.refl _ _).alloc (Nat.le_refl _) _⟩
theorem spec_next16 (bn on_ : Nat) (I : Value) (i0 : Int) (S : Value) (s0 : Int) (out : Int) (w : World) (p0 : w.cell? ⟨bn, on_, none⟩ = some (.int .i64 16))  :
    Calls Tryz.prog 195 #[.pointer (some ⟨bn, on_, none⟩), I, S, .int .i64 out] w (Ret1 2 w ([out])) := by
  have O1 := OI_lit w out
  go_enter Tryz.func195, Tryz.ntmps195
  go_wp2
  go_ret
  exact ⟨_, rfl, O1, (Below.refl _ _).alloc (Nat.le_refl _) _⟩
theorem spec_next8 (bn on_ : Nat) (bi oi ci : Nat) (i0 : Int) (S : Value) (s0 : Int) (out : Int) (w : World) (p0 : w.cell? ⟨bn, on_, none⟩ = some (.int .i64 8)) (c0 : w.cell? ⟨bi, oi, none⟩ = some (.int .i64 i0))  :
    Calls Tryz.prog 195 #[.pointer (some ⟨bn, on_, none⟩), .slice (some ⟨bi, oi, none⟩) 1 ci, S, .int .i64 out] w (Ret1 2 w ([i0])) := by
  have O1 := OI_lit w i0
  go_enter Tryz.func195, Tryz.ntmps195
  go_wp2
  go_ret
  exact ⟨_, rfl, O1, (Below.refl _ _).alloc (Nat.le_refl _) _⟩
theorem spec_next14 (bn on_ : Nat) (I : Value) (i0 : Int) (bs os_ ns cs : Nat) (s0 : Int) (out : Int) (w : World) (p0 : w.cell? ⟨bn, on_, none⟩ = some (.int .i64 14)) (d0 : w.cell? ⟨bs, os_, none⟩ = some (.int .i64 s0)) (hns : 1 ≤ ns) :
    Calls Tryz.prog 195 #[.pointer (some ⟨bn, on_, none⟩), I, .slice (some ⟨bs, os_, none⟩) ns cs, .int .i64 out] w (Ret1 2 w ([M.noise s0])) := by
  have O1 := OI_lit w (M.noise s0)
  go_enter Tryz.func195, Tryz.ntmps195
  go_wp2_with (go_at_call 208; refine (spec_l06Noise _ _).mono ?_; rintro e w' ⟨rfl, rfl⟩)
  go_ret
  exact ⟨_, rfl, O1, (Below.refl _ _).alloc (Nat.le_refl _) _⟩
theorem spec_next12 (bn on_ : Nat) (bi oi ci : Nat) (i0 : Int) (bs os_ ns cs : Nat) (s0 : Int) (out : Int) (w : World) (p0 : w.cell? ⟨bn, on_, none⟩ = some (.int .i64 12)) (c0 : w.cell? ⟨bi, oi, none⟩ = some (.int .i64 i0)) (d0 : w.cell? ⟨bs, os_, none⟩ = some (.int .i64 s0)) (hns : 1 ≤ ns) :
    Calls Tryz.prog 195 #[.pointer (some ⟨bn, on_, none⟩), .slice (some ⟨bi, oi, none⟩) 1 ci, .slice (some ⟨bs, os_, none⟩) ns cs, .int .i64 out] w (Ret1 2 w ([wrap32 (s0 + i0)])) := by
  have cc0 := cell_regrown c0
  have dd0 := cell_regrown d0
  clear c0 d0
  have O1 := OI_lit w (wrap32 (s0 + i0))
  have D1 : Below w.heap.size w w.drew := below_drewN (Below.refl _ _) 1
  have B1 : Below w.heap.size w (w.alloc (.cells #[.int .i64 (wrap32 (s0 + i0))] 2)).drew := below_drewN ((Below.refl _ _).alloc (Nat.le_refl _) _) 1
  go_enter Tryz.func195, Tryz.ntmps195
  go_wp2_with fail
  (refine wp_region_fresh [0, 1, 3, 4] [2, 5] 2 (.one 6 (.one 7 .rest)) [8] (by kernel_rfl) (by kernel_rfl) ?_; simp only [pickOps]; simp only [List.filterMap, List.getElem?_cons_succ, List.getElem?_cons_zero]; (repeat (go_big_quiet_step (fail))); refine wpQuiet_nil ?_; (repeat (go_big_quiet_step (fail))); refine wpQuiet_nil ?_)
  refine seqT_one rfl ?_
  go_wp2_with (go_at_call 106; refine (spec_l01Add _ _ _).mono ?_; rintro e w' ⟨rfl, rfl⟩)
  refine ⟨regrown_of_below D1, seqT_one rfl ?_⟩
  go_wp2_with fail
  refine ⟨regrown_of_below B1, seqT_rest ?_⟩
  go_wp2
  go_ret
  exact ⟨_, rfl, O1, B1⟩
theorem spec_next_pure (k : Int) (bn on_ : Nat) (I S : Value) (out : Int) (w : World) (p0 : w.cell? ⟨bn, on_, none⟩ = some (.int .i64 k)) (hk : k = 1 ∨ k = 2 ∨ k = 3 ∨ k = 4 ∨ k = 5 ∨ k = 9 ∨ k = 10 ∨ k = 11 ∨ k = 13 ∨ k = 15) :
    Calls Tryz.prog 195 #[.pointer (some ⟨bn, on_, none⟩), I, S, .int .i64 out] w (Ret1 2 w []) := by
  have O1 : OI 2 w.heap.size (w.alloc (.cells #[] 2)) (.slice (some ⟨w.heap.size, 0, none⟩) 0 0) [] := OI.made _ _
  rcases hk with rfl | rfl | rfl | rfl | rfl | rfl | rfl | rfl | rfl | rfl
  all_goals
    go_enter Tryz.func195, Tryz.ntmps195
    go_wp2
    go_ret
    exact ⟨_, rfl, O1, (Below.refl _ _).alloc (Nat.le_refl _) _⟩
end Go.Proofs.YtffhodocjjkkoaaGreat
