import Derived.Test.YtffhodocjjkkoaaGreatFnExactStemOfG5
import Derived.Test.YtffhodocjjkkoaaGreatFnExactStemOfG7
import Derived.Lib.QuietBelow
import Derived.Test.YtffhodocjjkkoaaGreatFnExactStemOfG6
import Derived.Deep.QuietTactic
import Derived.RegionTactic
set_option linter.unusedVariables false
set_option linter.unusedSimpArgs false
set_option maxRecDepth 100000
set_option maxHeartbeats 4000000
namespace Go.Proofs.YtffhodocjjkkoaaGreat
section
open Go.RowKit Go.Sort
theorem zea {x : Node} {tb : Int} (h : zai x tb = true) : M.inn x.1 1 17 = true ∧ (x.1 = 6 → 1 ≤ x.2.1 ∧ x.2.1 ≤ 16) ∧ (x.1 = 17 → 1 ≤ x.2.2.1 ∧ x.2.2.1 ≤ 16) := by
 obtain ⟨k, a, b, l⟩ := x
 rw [zai] at h
 simp only [Bool.and_eq_true] at h
 refine ⟨h.1, fun e => ?_, fun e => ?_⟩
 · simp only at e
   subst e
   have h2 := h.2.1.1.1.1
   simp [M.aI, M.kd, zfu, M.inn] at h2
   exact h2
 · simp only at e
   subst e
   have h2 := h.2.1.1.1.2
   simp [M.bI, M.kd, zfu, M.inn] at h2
   exact h2
theorem zdt (w : World) (x : Int) : OI 2 w.heap.size (w.alloc (.cells #[.int .i64 x] 2)) (.slice (some ⟨w.heap.size, 0, none⟩) 1 1) [x] :=
 ⟨rfl, .inr ⟨w.heap.size, 1, #[.int .i64 x], rfl, Nat.le_refl _, heap_alloc_new w _, Nat.le_refl _, by simp [maxLen], rfl, rfl⟩⟩
theorem zrw (a0 a1 a2 : Int) (A : Option Addr) (n c : Nat) (xs : List Int) (tb : Int) (w : World) (hok : zai (a0, a1, a2, xs) tb = true) :
 Calls Tryz.prog 175 #[.agg #[.int .i64 a0, .int .i64 a1, .int .i64 a2, .slice A n c]] w (Ret1 2 w (zbd (a0, a1, a2, xs))) := by
 obtain ⟨hk, h6, h17⟩ := zea hok
 simp only at hk h6 h17
 obtain ⟨W, hW⟩ : ∃ W, W = w.alloc (.cells #[.int .i64 a0, .int .i64 a1, .int .i64 a2, .slice A n c] 171) := ⟨_, rfl⟩
 have B0 : Below w.heap.size w W := by rw [hW]; exact (Below.refl _ _).alloc (Nat.le_refl _) _
 have p0 : W.cell? ⟨w.heap.size, 0, none⟩ = some (.int .i64 a0) := by rw [hW]; simp [go_sem]
 have p1 : W.cell? ⟨w.heap.size, 1, none⟩ = some (.int .i64 a1) := by rw [hW]; simp [go_sem]
 have p2 : W.cell? ⟨w.heap.size, 2, none⟩ = some (.int .i64 a2) := by rw [hW]; simp [go_sem]
 have lW : w.heap.size < W.heap.size := by rw [hW]; simp
 have HW := Lib.hid hW
 clear hW hok
 rcases ze3 hk with rfl | rfl | rfl | rfl | rfl | rfl | rfl | rfl | rfl | rfl | rfl | rfl | rfl | rfl | rfl | rfl | rfl
 case inr.inr.inr.inr.inr.inl =>
  have h6' := h6 rfl
  go_enter Tryz.func175, Tryz.ntmps175
  go_wp2_with (go_at_call 98; rw [← HW.out]; refine (zc5 _ _ (by omega) (by omega)).mono ?_; rintro e w1 ⟨v1, rfl, own1, bel1⟩)
  go_ret
  exact ⟨_, rfl, own1.base (by omega), zaa B0 bel1⟩
 case inr.inr.inr.inr.inr.inr.inr.inr.inr.inr.inr.inr.inr.inr.inr.inr =>
  have h17' := h17 rfl
  go_enter Tryz.func175, Tryz.ntmps175
  go_wp2_with (go_at_call 98; rw [← HW.out]; refine (zc5 _ _ (by omega) (by omega)).mono ?_; rintro e w1 ⟨v1, rfl, own1, bel1⟩)
  go_ret
  exact ⟨_, rfl, own1.base (by omega), zaa B0 bel1⟩
 case inr.inr.inr.inr.inr.inr.inr.inr.inr.inr.inr.inl =>
  have O1 := zdt W a1
  have B1 : Below w.heap.size w (W.alloc (.cells #[.int .i64 a1] 2)) := B0.alloc B0.size _
  rw [HW.out] at O1 B1
  have hz : (w.alloc (.cells #[.int .i64 12, .int .i64 a1, .int .i64 a2, .slice A n c] 171)).heap.size = w.heap.size + 1 := by simp
  rw [hz] at O1
  go_enter Tryz.func175, Tryz.ntmps175
  go_wp2
  go_ret
  exact ⟨_, rfl, O1.base (by omega), B1⟩
 case inr.inr.inr.inr.inr.inr.inr.inr.inr.inr.inr.inr.inr.inl =>
  have O1 := zdt W a1
  have B1 : Below w.heap.size w (W.alloc (.cells #[.int .i64 a1] 2)) := B0.alloc B0.size _
  rw [HW.out] at O1 B1
  have hz : (w.alloc (.cells #[.int .i64 14, .int .i64 a1, .int .i64 a2, .slice A n c] 171)).heap.size = w.heap.size + 1 := by simp
  rw [hz] at O1
  go_enter Tryz.func175, Tryz.ntmps175
  go_wp2
  go_ret
  exact ⟨_, rfl, O1.base (by omega), B1⟩
 all_goals
  go_enter Tryz.func175, Tryz.ntmps175
  go_wp2_with (go_at_call 98; rw [← HW.out]; refine (zc5 _ _ (by omega) (by omega)).mono ?_; rintro e w1 ⟨v1, rfl, own1, bel1⟩)
  go_ret
  exact ⟨_, rfl, own1.base (by omega), zaa B0 bel1⟩
theorem zrx (b o : Nat) (a0 a1 a2 : Int) (xs : List Int) (tb : Int) (w : World) (p0 : w.cell? ⟨b, o, none⟩ = some (.int .i64 a0)) (p1 : w.cell? ⟨b, o + 1, none⟩ = some (.int .i64 a1)) (p2 : w.cell? ⟨b, o + 2, none⟩ = some (.int .i64 a2)) (hok : zai (a0, a1, a2, xs) tb = true) :
 Calls Tryz.prog 167 #[.pointer (some ⟨b, o, none⟩)] w (Ret1 2 w (zbd (a0, a1, a2, xs))) := by
 obtain ⟨hk, h6, h17⟩ := zea hok
 simp only at hk h6 h17
 clear hok
 have On : OI 2 w.heap.size (w.alloc (.cells #[] 2)) (.slice (some ⟨w.heap.size, 0, none⟩) 0 0) [] := OI.made _ _
 have Bn : ∀ cs, Below w.heap.size w (w.alloc (.cells cs 2)) := fun cs => (Below.refl _ _).alloc (Nat.le_refl _) _
 have O0 := zdt w 0
 have O1 := zdt w a1
 rcases ze3 hk with rfl | rfl | rfl | rfl | rfl | rfl | rfl | rfl | rfl | rfl | rfl | rfl | rfl | rfl | rfl | rfl | rfl
 case inr.inr.inr.inr.inr.inl =>
  have h6' := h6 rfl
  obtain ⟨m, rfl⟩ : ∃ m : Nat, a1 = m := ⟨a1.toNat, by omega⟩
  go_enter Tryz.func167, Tryz.ntmps167
  go_wp2_with (go_at_call 90; refine (zgu _ _ (by omega)).mono ?_; rintro e w1 ⟨v1, rfl, own1, bel1⟩)
  go_ret
  exact ⟨_, rfl, own1, bel1⟩
 case inr.inr.inr.inr.inr.inr.inr.inr.inr.inr.inr.inr.inr.inr.inr.inr =>
  have h17' := h17 rfl
  obtain ⟨m, rfl⟩ : ∃ m : Nat, a2 = m := ⟨a2.toNat, by omega⟩
  go_enter Tryz.func167, Tryz.ntmps167
  go_wp2_with (go_at_call 90; refine (zgu _ _ (by omega)).mono ?_; rintro e w1 ⟨v1, rfl, own1, bel1⟩)
  go_ret
  exact ⟨_, rfl, own1, bel1⟩
 all_goals
  go_enter Tryz.func167, Tryz.ntmps167
  go_wp2
  go_ret
  first
   | exact ⟨_, rfl, On, Bn _⟩
   | exact ⟨_, rfl, O0, Bn _⟩
   | exact ⟨_, rfl, O1, Bn _⟩
def zcl (fs vs : List Int) : List Int := fs.map fun f => M.i_ vs f.toNat
theorem zme (fs vs : List Int) : (zcl fs vs).length = fs.length := by simp [zcl]
theorem zmf {fs vs : List Int} {k : Nat} {f : Int} (h : fs[k]? = some f) : (zcl fs vs).take (k + 1) = (zcl fs vs).take k ++ [M.i_ vs f.toNat] := by
 rw [M.take_at]
 simp [zcl, h]
theorem zgv {vs : List Int} {k : Nat} {v : Int} (h : vs[k]? = some v) : M.i_ vs k = v := by rw [M.i_, h]; rfl
theorem zmg (A A' : Option Addr) (n c n' c' : Nat) (fs vs : List Int) (w : World) (hx : RI w w.heap.size A n fs) (hv : RI w w.heap.size A' n' vs) (hn : n ≤ 1000000000) (hn' : n' ≤ 1000000000) (hr : Hid (∀ f ∈ fs, 0 ≤ f ∧ f < n')) :
 Calls Tryz.prog 198 #[.slice A n c, .slice A' n' c'] w (Ret1 2 w (zcl fs vs)) := by
 have hl := Lib.hid hx.len
 go_enter Tryz.func198, Tryz.ntmps198
 go_wp2_with fail
 go_loopw [5, 11] (fun v i wr => ∃ k : Nat, i = .int .i64 k ∧ k ≤ n ∧ OI 2 w.heap.size wr v ((zcl fs vs).take k) ∧ Below w.heap.size w wr) (fun _ i _ => n - (intOf i).toNat)
 case atStart => exact ⟨0, rfl, by omega, OI.made _ _, (Below.refl _ _).alloc (Nat.le_refl _) _⟩
 case round =>
  obtain ⟨k, rfl, hk, own, hb⟩ := hrel
  by_cases hlt : k < n
  · obtain ⟨ad, f, rfl, hab, X, hc⟩ := ((hx.below hb).more hb.size).at hlt
    have hfr := hr.out f (List.mem_of_getElem? X.out)
    obtain ⟨m, rfl⟩ : ∃ m : Nat, f = (m : Int) := ⟨f.toNat, by omega⟩
    obtain ⟨ad2, y, rfl, hab2, Y, hc2⟩ := ((hv.below hb).more hb.size).at (k := m) (by omega)
    have HT := Lib.hid (show (zcl fs vs).take (k + 1) = (zcl fs vs).take k ++ [y] by rw [zmf X.out, Int.toNat_natCast, zgv Y.out])
    have hk1 : ((zcl fs vs).take k).length ≤ 1000000000 := by rw [List.length_take]; omega
    have hm0 : (0 : Int) ≤ (m : Int) := by omega
    have hmn : (m : Int) < (n' : Int) := by omega
    clear hfr
    go_wp2_with (at_builtin; refine zdy zbs rfl _ _ rfl own rfl rfl rfl (by unfold maxLen; omega) (by omega) hb.size ?_; intro v1 w1 own1 gr1 bel1)
    go_roundw
    case rel => exact ⟨k + 1, by go_num, by omega, by rw [HT.out]; exact OI.push own1, hb.trans bel1⟩
    case measure => simp [intOf]; omega
  · go_wp2
    go_ret
    rw [List.take_of_length_le (by rw [zme, hl.out]; omega)] at own
    exact ⟨_, rfl, own, hb⟩
theorem zry (A A' : Option Addr) (n c n' c' : Nat) (fs vs : List Int) (w : World) (hx : RI w w.heap.size A n fs) (hv : RI w w.heap.size A' n' vs) (hn : n ≤ 1000000000) (hn' : n' ≤ 1000000000) (hr : Hid (∀ f ∈ fs, 0 ≤ f ∧ f < n')) :
 Calls Tryz.prog 207 #[.slice A n c, .slice A' n' c'] w (Ret1 2 w (zcl fs vs)) := by
 have hl := Lib.hid hx.len
 go_enter Tryz.func207, Tryz.ntmps207
 go_wp2_with fail
 go_loopw [5, 6] (fun v i wr => ∃ k : Nat, i = .int .i64 k ∧ k ≤ n ∧ OI 2 w.heap.size wr v ((zcl fs vs).take k) ∧ Below w.heap.size w wr) (fun _ i _ => n - (intOf i).toNat)
 case atStart => exact ⟨0, rfl, by omega, OI.made _ _, (Below.refl _ _).alloc (Nat.le_refl _) _⟩
 case round =>
  obtain ⟨k, rfl, hk, own, hb⟩ := hrel
  by_cases hlt : k < n
  · obtain ⟨ad, f, rfl, hab, X, hc⟩ := ((hx.below hb).more hb.size).at hlt
    have hfr := hr.out f (List.mem_of_getElem? X.out)
    obtain ⟨m, rfl⟩ : ∃ m : Nat, f = (m : Int) := ⟨f.toNat, by omega⟩
    obtain ⟨ad2, y, rfl, hab2, Y, hc2⟩ := ((hv.below hb).more hb.size).at (k := m) (by omega)
    have HT := Lib.hid (show (zcl fs vs).take (k + 1) = (zcl fs vs).take k ++ [y] by rw [zmf X.out, Int.toNat_natCast, zgv Y.out])
    have hk1 : ((zcl fs vs).take k).length ≤ 1000000000 := by rw [List.length_take]; omega
    have hm0 : (0 : Int) ≤ (m : Int) := by omega
    have hmn : (m : Int) < (n' : Int) := by omega
    have hk0 : (0 : Int) ≤ (k : Int) := by omega
    have hkn : (k : Int) < (n : Int) := by omega
    clear hfr
    go_wp2_with (at_builtin; refine zdy zbs rfl _ _ rfl own rfl rfl rfl (by unfold maxLen; omega) (by omega) hb.size ?_; intro v1 w1 own1 gr1 bel1)
    go_roundw
    case rel => exact ⟨k + 1, by go_num, by omega, by rw [HT.out]; exact OI.push own1, hb.trans bel1⟩
    case measure => simp [intOf]; omega
  · go_wp2
    go_ret
    rw [List.take_of_length_le (by rw [zme, hl.out]; omega)] at own
    exact ⟨_, rfl, own, hb⟩
end
section
open Go.RowKit Go.Sort
theorem zam {w : World} {B : Nat} {A : Option Addr} {n : Nat} {xs : List Int} (h : RI w B A n xs) (hn : 0 < n) : ∃ b o, A = some ⟨b, o, none⟩ ∧ b < B ∧ ∀ k x, xs[k]? = some x → w.cell? ⟨b, o + k, none⟩ = some (.int .i64 x) := by
 obtain ⟨ad, rfl, hb, hc⟩ := h.2 hn
 have hl : 0 < xs.length := by rw [h.len]; exact hn
 have h0 := hc 0 (.int .i64 xs[0]) (by simp [hl])
 have hsp := zg7 h0
 have e : ad = ⟨ad.block, ad.off, none⟩ := by simpa [Addr.add] using hsp
 refine ⟨ad.block, ad.off, by rw [← e], hb, fun k x hx => ?_⟩
 have := hc k (.int .i64 x) (by simp [hx])
 rw [e, Addr.add_lit] at this
 exact this
def zf4 (k : Int) : Nat := if k = 1 then 1 else (M.ar k.toNat).toNat
theorem len0 {xs : List Int} (h : xs.length = 0) : xs = [] := List.eq_nil_of_length_eq_zero h
theorem len1 {xs : List Int} (h : xs.length = 1) : ∃ a, xs = [a] := by
 match xs, h with
 | [a], _ => exact ⟨a, rfl⟩
theorem len2 {xs : List Int} (h : xs.length = 2) : ∃ a b, xs = [a, b] := by
 match xs, h with
 | [a, b], _ => exact ⟨a, b, rfl⟩
theorem len3 {xs : List Int} (h : xs.length = 3) : ∃ a b c, xs = [a, b, c] := by
 match xs, h with
 | [a, b, c], _ => exact ⟨a, b, c, rfl⟩
theorem zrz (n : Int) : bits .and .i64 n 1 = n % 2 := by
 have h0 : 0 ≤ n % 18446744073709551616 := Int.emod_nonneg _ (by decide)
 have hx : ((BitVec.ofInt 64 n &&& BitVec.ofInt 64 1).toNat : Int) = n % 2 := by
  rw [BitVec.toNat_and, show (BitVec.ofInt 64 1).toNat = 2 ^ 1 - 1 from by decide, Nat.and_two_pow_sub_one_eq_mod, BitVec.toNat_ofInt]
  omega
 show IntKind.i64.wrap ((BitVec.ofInt 64 n &&& BitVec.ofInt 64 1).toNat : Int) = _
 rw [hx, IntKind.wrap_i64]
 omega
theorem zjb (x : Int) (w : World) : Calls Tryz.prog 211 #[.int .i64 x] w fun e w' => e = .returned (.int .i64 (x % 4294967296)) ∧ w = w' := by
 go_enter Tryz.func211, Tryz.ntmps211
 go_wp2
 go_ret
 exact ⟨rfl, rfl⟩
theorem zmh (x : Int) (w : World) : Calls Tryz.prog 212 #[.int .i64 x] w fun e w' => e = .returned (.bool (decide (x % 2 = 1))) ∧ w = w' := by
 go_enter Tryz.func212, Tryz.ntmps212
 go_wp2
 go_ret
 exact ⟨zab (by rw [zrz, Bool.eq_iff_iff]; simp), rfl⟩
theorem zr0 (x : Int) (w : World) : Calls Tryz.prog 209 #[.int .i64 x] w fun e w' => e = .returned (.int .i64 (zd6 x)) ∧ w = w' := by
 obtain ⟨u, hu⟩ : ∃ u : Nat, x % 4294967296 = (u : Int) := ⟨(x % 4294967296).toNat, by omega⟩
 have HU := Lib.hid hu
 have hub : u < 4294967296 := by omega
 by_cases h : x % 2 = 1
 · have HD := Lib.hid (decide_eq_true h)
   have R := Lib.hid (show zd6 x = wrap32 (zi1 ((u : Int) / 2)) by rw [zd6, if_pos h, hu])
   clear h hu
   go_enter Tryz.func209, Tryz.ntmps209
   go_wp2_with (first
    | (go_at_call 211; refine (zjb _ _).mono ?_; rw [HU.out]; rintro e w' ⟨rfl, rfl⟩)
    | (go_at_call 212; refine (zmh _ _).mono ?_; rw [HD.out]; rintro e w' ⟨rfl, rfl⟩)
    | (go_at_call 109; refine (zdh _ _).mono ?_; rintro e w' ⟨rfl, rfl⟩))
   go_ret
   exact ⟨zar (by rw [R.out, zi1]), rfl⟩
 · have HD := Lib.hid (decide_eq_false h)
   have R := Lib.hid (show zd6 x = wrap32 ((u : Int) / 2) by rw [zd6, if_neg h, hu])
   clear h hu
   go_enter Tryz.func209, Tryz.ntmps209
   go_wp2_with (first
    | (go_at_call 211; refine (zjb _ _).mono ?_; rw [HU.out]; rintro e w' ⟨rfl, rfl⟩)
    | (go_at_call 212; refine (zmh _ _).mono ?_; rw [HD.out]; rintro e w' ⟨rfl, rfl⟩)
    | (go_at_call 109; refine (zdh _ _).mono ?_; rintro e w' ⟨rfl, rfl⟩))
   go_ret
   exact ⟨zar (by rw [R.out]), rfl⟩
theorem zmi (t : List Int) (x : Int) (hn : 1 ≤ t.length ∧ t.length ≤ 16) : ∃ (u q : Nat) (y : Int), x % 4294967296 = (u : Int) ∧ u < 4294967296 ∧ ((t.length : Int) * (u : Int)) / 4294967296 = (q : Int) ∧ q < t.length ∧ t[q]? = some y ∧ zfg t x = y := by
 obtain ⟨u, hu⟩ : ∃ u : Nat, x % 4294967296 = (u : Int) := ⟨(x % 4294967296).toNat, by omega⟩
 have hub : u < 4294967296 := by omega
 obtain ⟨q, hq⟩ : ∃ q : Nat, ((t.length : Int) * (u : Int)) / 4294967296 = (q : Int) := ⟨t.length * u / 4294967296, by simp⟩
 have hqt : q < t.length := by
  have h1 : t.length * u < t.length * 4294967296 := Nat.mul_lt_mul_of_pos_left hub (by omega)
  have h2 : ((t.length : Int) * (u : Int)) = ((t.length * u : Nat) : Int) := by simp
  rw [h2] at hq
  omega
 exact ⟨u, q, t[q], hu, hub, hq, hqt, List.getElem?_eq_getElem hqt, by rw [zfg, hu, hq, Int.toNat_natCast, zgv (List.getElem?_eq_getElem hqt)]⟩
theorem zr1 (A : Option Addr) (n c : Nat) (t : List Int) (x : Int) (w : World) (ht : RI w w.heap.size A n t) (hn : 1 ≤ n ∧ n ≤ 16) : Calls Tryz.prog 206 #[.slice A n c, .int .i64 x] w fun e w' => e = .returned (.int .i64 (zfg t x)) ∧ w = w' := by
 have hl := ht.len
 obtain ⟨u, q, y, hu, hub, hq, hqn, hy, hM⟩ := zmi t x (by omega)
 rw [hl] at hq hqn
 obtain ⟨b, o, rfl, hb, hc⟩ := zam ht (by omega)
 have c0 := hc q y hy
 have ha := M.and_low x
 rw [hu] at ha
 have h3 : n * u < n * 4294967296 := Nat.mul_lt_mul_of_pos_left hub (by omega)
 have hw : IntKind.i64.wrap ((n : Int) * (u : Int)) = (n : Int) * (u : Int) := IntWalk.i64_in _ (by
  have h2 : ((n : Int) * (u : Int)) = ((n * u : Nat) : Int) := by simp
  rw [h2]
  omega)
 have hw2 : wrap64 ((n : Int) * (u : Int)) = (n : Int) * (u : Int) := M.wrap64_in _ (by
  have h2 : ((n : Int) * (u : Int)) = ((n * u : Nat) : Int) := by simp
  rw [h2]
  omega)
 have hq0 : (0 : Int) ≤ (q : Int) := by omega
 have hqm : (q : Int) < (n : Int) := by omega
 have R := Lib.hid hM
 clear hc hM h3 ht hl
 go_enter Tryz.func206, Tryz.ntmps206
 go_wp2
 go_ret
 exact ⟨zar (by rw [R.out]), rfl⟩
theorem zr2 (a1 a2 : Int) (A : Option Addr) (n c : Nat) (b o ci : Nat) (i0 : Int) (At : Option Addr) (nt ct : Nat) (w : World) (c0 : w.cell? ⟨b, o, none⟩ = some (.int .i64 i0)) :
 Calls Tryz.prog 210 #[.agg #[.int .i64 1, .int .i64 a1, .int .i64 a2, .slice A n c], .slice At nt ct, .slice (some ⟨b, o, none⟩) 1 ci] w fun e w' => e = .returned (.int .i64 (i0)) ∧ Below w.heap.size w w' := by
 have lb : b < w.heap.size := World.block_lt_of_cell? w _ c0
 go_enter Tryz.func210, Tryz.ntmps210
 go_wp2
 go_ret
 exact ⟨rfl, (Below.refl _ _).alloc (Nat.le_refl _) _⟩
theorem zr3 (a1 a2 : Int) (A : Option Addr) (n c : Nat) (Ai : Option Addr) (ci : Nat) (At : Option Addr) (nt ct : Nat) (w : World) :
 Calls Tryz.prog 210 #[.agg #[.int .i64 2, .int .i64 a1, .int .i64 a2, .slice A n c], .slice At nt ct, .slice Ai 0 ci] w fun e w' => e = .returned (.int .i64 (a1)) ∧ Below w.heap.size w w' := by
 skip
 go_enter Tryz.func210, Tryz.ntmps210
 go_wp2
 go_ret
 exact ⟨rfl, (Below.refl _ _).alloc (Nat.le_refl _) _⟩
theorem zr4 (a1 a2 : Int) (A : Option Addr) (n c : Nat) (b o ci : Nat) (i0 i1 : Int) (At : Option Addr) (nt ct : Nat) (w : World) (c0 : w.cell? ⟨b, o, none⟩ = some (.int .i64 i0)) (c1 : w.cell? ⟨b, o + 1, none⟩ = some (.int .i64 i1)) (hi : -2147483648 ≤ i0 ∧ i0 ≤ 2147483647 ∧ -2147483648 ≤ i1 ∧ i1 ≤ 2147483647) :
 Calls Tryz.prog 210 #[.agg #[.int .i64 3, .int .i64 a1, .int .i64 a2, .slice A n c], .slice At nt ct, .slice (some ⟨b, o, none⟩) 2 ci] w fun e w' => e = .returned (.int .i64 (wrap32 (i0 + i1))) ∧ Below w.heap.size w w' := by
 have lb : b < w.heap.size := World.block_lt_of_cell? w _ c0
 go_enter Tryz.func210, Tryz.ntmps210
 go_wp2_with fail
 go_quiet (exact zaz (zdh _ _))
 go_wp2
 go_ret
 exact ⟨zar (by first | rfl | exact M.wrap32_64 _ | exact (M.wrap32_64 _).symm), zac ((Below.refl _ _).alloc (Nat.le_refl _) _) _⟩
theorem zr5 (a1 a2 : Int) (A : Option Addr) (n c : Nat) (b o ci : Nat) (i0 i1 : Int) (At : Option Addr) (nt ct : Nat) (w : World) (c0 : w.cell? ⟨b, o, none⟩ = some (.int .i64 i0)) (c1 : w.cell? ⟨b, o + 1, none⟩ = some (.int .i64 i1)) (hi : -2147483648 ≤ i0 ∧ i0 ≤ 2147483647 ∧ -2147483648 ≤ i1 ∧ i1 ≤ 2147483647) :
 Calls Tryz.prog 210 #[.agg #[.int .i64 4, .int .i64 a1, .int .i64 a2, .slice A n c], .slice At nt ct, .slice (some ⟨b, o, none⟩) 2 ci] w fun e w' => e = .returned (.int .i64 (wrap32 (i0 - i1))) ∧ Below w.heap.size w w' := by
 have lb : b < w.heap.size := World.block_lt_of_cell? w _ c0
 go_enter Tryz.func210, Tryz.ntmps210
 go_wp2_with fail
 go_quiet (exact zaz (zdh _ _))
 go_wp2
 go_ret
 exact ⟨zar (by first | rfl | exact M.wrap32_64 _ | exact (M.wrap32_64 _).symm), zac ((Below.refl _ _).alloc (Nat.le_refl _) _) _⟩
theorem zr6 (a1 a2 : Int) (A : Option Addr) (n c : Nat) (b o ci : Nat) (i0 : Int) (At : Option Addr) (nt ct : Nat) (w : World) (c0 : w.cell? ⟨b, o, none⟩ = some (.int .i64 i0)) (ha : -2147483648 ≤ a1 ∧ a1 ≤ 2147483647) (hi : -2147483648 ≤ i0 ∧ i0 ≤ 2147483647) :
 Calls Tryz.prog 210 #[.agg #[.int .i64 5, .int .i64 a1, .int .i64 a2, .slice A n c], .slice At nt ct, .slice (some ⟨b, o, none⟩) 1 ci] w fun e w' => e = .returned (.int .i64 (wrap32 (a1 * i0))) ∧ Below w.heap.size w w' := by
 have lb : b < w.heap.size := World.block_lt_of_cell? w _ c0
 go_enter Tryz.func210, Tryz.ntmps210
 go_wp2_with fail
 go_quiet (exact zaz (zdh _ _))
 go_wp2
 go_ret
 exact ⟨zar (by first | rfl | exact M.wrap32_64 _ | exact (M.wrap32_64 _).symm), zac ((Below.refl _ _).alloc (Nat.le_refl _) _) _⟩
theorem zr7 (a1 a2 : Int) (A : Option Addr) (n c : Nat) (b o ci : Nat) (i0 i1 : Int) (At : Option Addr) (nt ct : Nat) (w : World) (c0 : w.cell? ⟨b, o, none⟩ = some (.int .i64 i0)) (c1 : w.cell? ⟨b, o + 1, none⟩ = some (.int .i64 i1)) (hi : -2147483648 ≤ i0 ∧ i0 ≤ 2147483647 ∧ -2147483648 ≤ i1 ∧ i1 ≤ 2147483647) :
 Calls Tryz.prog 210 #[.agg #[.int .i64 9, .int .i64 a1, .int .i64 a2, .slice A n c], .slice At nt ct, .slice (some ⟨b, o, none⟩) 2 ci] w fun e w' => e = .returned (.int .i64 (wrap32 (i0 * i1))) ∧ Below w.heap.size w w' := by
 have lb : b < w.heap.size := World.block_lt_of_cell? w _ c0
 go_enter Tryz.func210, Tryz.ntmps210
 go_wp2_with fail
 go_quiet (exact zaz (zdh _ _))
 go_wp2
 go_ret
 exact ⟨zar (by first | rfl | exact M.wrap32_64 _ | exact (M.wrap32_64 _).symm), zac ((Below.refl _ _).alloc (Nat.le_refl _) _) _⟩
theorem zr8 (a1 a2 : Int) (A : Option Addr) (n c : Nat) (b o ci : Nat) (i0 : Int) (At : Option Addr) (nt ct : Nat) (w : World) (c0 : w.cell? ⟨b, o, none⟩ = some (.int .i64 i0)) (ha : 0 ≤ a1 ∧ a1 ≤ 31) (hi : -2147483648 ≤ i0 ∧ i0 ≤ 2147483647) :
 Calls Tryz.prog 210 #[.agg #[.int .i64 10, .int .i64 a1, .int .i64 a2, .slice A n c], .slice At nt ct, .slice (some ⟨b, o, none⟩) 1 ci] w fun e w' => e = .returned (.int .i64 (i0 / 2 ^ a1.toNat)) ∧ Below w.heap.size w w' := by
 have lb : b < w.heap.size := World.block_lt_of_cell? w _ c0
 go_enter Tryz.func210, Tryz.ntmps210
 go_wp2_with fail
 go_quiet (fail)
 go_wp2
 go_ret
 exact ⟨rfl, zac ((Below.refl _ _).alloc (Nat.le_refl _) _) _⟩
theorem zr9 (a1 a2 : Int) (A : Option Addr) (n c : Nat) (b o ci : Nat) (i0 : Int) (At : Option Addr) (nt ct : Nat) (w : World) (c0 : w.cell? ⟨b, o, none⟩ = some (.int .i64 i0)) (ha : 0 ≤ a1 ∧ a1 ≤ 2147483647) (hi : -2147483648 ≤ i0 ∧ i0 ≤ 2147483647) :
 Calls Tryz.prog 210 #[.agg #[.int .i64 11, .int .i64 a1, .int .i64 a2, .slice A n c], .slice At nt ct, .slice (some ⟨b, o, none⟩) 1 ci] w fun e w' => e = .returned (.int .i64 (max (-a1) (min a1 i0))) ∧ Below w.heap.size w w' := by
 have lb : b < w.heap.size := World.block_lt_of_cell? w _ c0
 have hneg : wrap64 (-a1) = -a1 := M.wrap64_in _ (by omega)
 rcases (show (i0 < -a1) ∨ (-a1 ≤ i0 ∧ i0 < a1) ∨ (a1 ≤ i0) by omega) with h | h | h
 · have R := Lib.hid (show max (-a1) (min a1 i0) = -a1 by omega)
   have h1 : i0 < a1 := by omega
   have h2 : ¬ -a1 < i0 := by omega
   have h3 : ¬ a1 < i0 := by omega
   go_enter Tryz.func210, Tryz.ntmps210
   go_wp2_with fail
   go_quiet (fail)
   go_wp2
   all_goals
    go_ret
    exact ⟨zar (by omega), zac ((Below.refl _ _).alloc (Nat.le_refl _) _) _⟩
 · have R := Lib.hid (show max (-a1) (min a1 i0) = i0 by omega)
   have h1 : i0 < a1 := by omega
   have h2 : ¬ i0 < -a1 := by omega
   have h3 : ¬ a1 < i0 := by omega
   go_enter Tryz.func210, Tryz.ntmps210
   go_wp2_with fail
   go_quiet (fail)
   go_wp2
   all_goals
    go_ret
    exact ⟨zar (by omega), zac ((Below.refl _ _).alloc (Nat.le_refl _) _) _⟩
 · have R := Lib.hid (show max (-a1) (min a1 i0) = a1 by omega)
   have h1 : ¬ i0 < a1 := by omega
   have h2 : ¬ a1 < -a1 := by omega
   go_enter Tryz.func210, Tryz.ntmps210
   go_wp2_with fail
   go_quiet (fail)
   go_wp2
   all_goals
    go_ret
    exact ⟨zar (by omega), zac ((Below.refl _ _).alloc (Nat.le_refl _) _) _⟩
theorem zsa (a1 a2 : Int) (A : Option Addr) (n c : Nat) (b o ci : Nat) (i0 : Int) (bt ot nt ct : Nat) (A1 : Option Addr) (c1 j n2 : Nat) (t : List Int) (w : World) (c0 : w.cell? ⟨b, o, none⟩ = some (.int .i64 i0)) (ha : a1 = (j : Int) ∧ j < nt ∧ nt ≤ 4) (e0 : w.cell? ⟨bt, ot + j, none⟩ = some (.slice A1 n2 c1)) (ht : RI w w.heap.size A1 n2 t) (hn : 1 ≤ n2 ∧ n2 ≤ 16) :
 Calls Tryz.prog 210 #[.agg #[.int .i64 13, .int .i64 a1, .int .i64 a2, .slice A n c], .slice (some ⟨bt, ot, none⟩) nt ct, .slice (some ⟨b, o, none⟩) 1 ci] w fun e w' => e = .returned (.int .i64 (zfg t i0)) ∧ Below w.heap.size w w' := by
 have lb : b < w.heap.size := World.block_lt_of_cell? w _ c0
 have lbt : bt < w.heap.size := World.block_lt_of_cell? w _ e0
 obtain ⟨W, hW⟩ : ∃ W, W = w.alloc (.cells #[.int .i64 13, .int .i64 a1, .int .i64 a2, .slice A n c] 171) := ⟨_, rfl⟩
 obtain ⟨rfl, hj, hnt⟩ := ha
 have hj0 : (0 : Int) ≤ (j : Int) := by omega
 have hjn : (j : Int) < (nt : Int) := by omega
 have hl2 := ht.len
 obtain ⟨u, q, y, hu, hub, hq, hqn, hy, hM⟩ := zmi t i0 (by omega)
 rw [hl2] at hq hqn
 obtain ⟨b2, o2, rfl, hb2, hc2⟩ := zam ht (by omega)
 have cy := hc2 q y hy
 have h3 : n2 * u < n2 * 4294967296 := Nat.mul_lt_mul_of_pos_left hub (by omega)
 have hw : IntKind.i64.wrap ((n2 : Int) * (u : Int)) = (n2 : Int) * (u : Int) := IntWalk.i64_in _ (by
  have h2 : ((n2 : Int) * (u : Int)) = ((n2 * u : Nat) : Int) := by simp
  rw [h2]
  omega)
 have hw2 : wrap64 ((n2 : Int) * (u : Int)) = (n2 : Int) * (u : Int) := M.wrap64_in _ (by
  have h2 : ((n2 : Int) * (u : Int)) = ((n2 * u : Nat) : Int) := by simp
  rw [h2]
  omega)
 have hq0 : (0 : Int) ≤ (q : Int) := by omega
 have hqm : (q : Int) < (n2 : Int) := by omega
 have R := Lib.hid hM
 have cU : ∀ w, Calls Tryz.prog 211 #[.int .i64 i0] w fun e w' => e = .returned (.int .i64 (u : Int)) ∧ w = w' := fun w => by rw [← hu]; exact zjb i0 w
 clear hc2 hM h3 ht hu hW W hl2
 go_enter Tryz.func210, Tryz.ntmps210
 go_wp2_with fail
 go_quiet (first | exact zaz (cU _) | exact zaz (zbt _ _ _ _))
 go_wp2
 go_ret
 exact ⟨zar (by rw [R.out]), zac ((Below.refl _ _).alloc (Nat.le_refl _) _) _⟩
theorem zsb (a1 a2 : Int) (A : Option Addr) (n c : Nat) (b o ci : Nat) (i0 i1 i2 : Int) (At : Option Addr) (nt ct : Nat) (w : World) (c0 : w.cell? ⟨b, o, none⟩ = some (.int .i64 i0)) (c1 : w.cell? ⟨b, o + 1, none⟩ = some (.int .i64 i1)) (c2 : w.cell? ⟨b, o + 2, none⟩ = some (.int .i64 i2)) (hi : -2147483648 ≤ i0 ∧ i0 ≤ 2147483647 ∧ -2147483648 ≤ i1 ∧ i1 ≤ 2147483647 ∧ -2147483648 ≤ i2 ∧ i2 ≤ 2147483647) :
 Calls Tryz.prog 210 #[.agg #[.int .i64 15, .int .i64 a1, .int .i64 a2, .slice A n c], .slice At nt ct, .slice (some ⟨b, o, none⟩) 3 ci] w fun e w' => e = .returned (.int .i64 ((if 0 ≤ i0 then i1 else i2))) ∧ Below w.heap.size w w' := by
 have lb : b < w.heap.size := World.block_lt_of_cell? w _ c0
 by_cases h : 0 ≤ i0
 · have R := Lib.hid (show (if 0 ≤ i0 then i1 else i2) = i1 from if_pos h)
   go_enter Tryz.func210, Tryz.ntmps210
   go_wp2
   go_ret
   exact ⟨zar (by first | rfl | exact R.out | exact R.out.symm), (Below.refl _ _).alloc (Nat.le_refl _) _⟩
 · have R := Lib.hid (show (if 0 ≤ i0 then i1 else i2) = i2 from if_neg h)
   go_enter Tryz.func210, Tryz.ntmps210
   go_wp2
   go_ret
   exact ⟨zar (by first | rfl | exact R.out | exact R.out.symm), (Below.refl _ _).alloc (Nat.le_refl _) _⟩
theorem zsc (bn on_ : Nat) (a1 : Int) (b o ci : Nat) (i0 : Int) (At : Option Addr) (nt ct : Nat) (As : Option Addr) (ns cs : Nat) (w : World) (c0 : w.cell? ⟨b, o, none⟩ = some (.int .i64 i0)) (p0 : w.cell? ⟨bn, on_, none⟩ = some (.int .i64 1)) (p1 : w.cell? ⟨bn, on_ + 1, none⟩ = some (.int .i64 a1)) :
 Calls Tryz.prog 193 #[.pointer (some ⟨bn, on_, none⟩), .slice At nt ct, .slice (some ⟨b, o, none⟩) 1 ci, .slice As ns cs] w fun e w' => e = .returned (.int .i64 (i0)) ∧ Below w.heap.size w w' := by
 go_enter Tryz.func193, Tryz.ntmps193
 go_wp2
 go_ret
 exact ⟨rfl, Below.refl _ _⟩
theorem zsd (bn on_ : Nat) (a1 : Int) (Ai : Option Addr) (ci : Nat) (At : Option Addr) (nt ct : Nat) (As : Option Addr) (ns cs : Nat) (w : World) (p0 : w.cell? ⟨bn, on_, none⟩ = some (.int .i64 2)) (p1 : w.cell? ⟨bn, on_ + 1, none⟩ = some (.int .i64 a1)) :
 Calls Tryz.prog 193 #[.pointer (some ⟨bn, on_, none⟩), .slice At nt ct, .slice Ai 0 ci, .slice As ns cs] w fun e w' => e = .returned (.int .i64 (a1)) ∧ Below w.heap.size w w' := by
 go_enter Tryz.func193, Tryz.ntmps193
 go_wp2
 go_ret
 exact ⟨rfl, Below.refl _ _⟩
theorem zse (bn on_ : Nat) (a1 : Int) (b o ci : Nat) (i0 i1 : Int) (At : Option Addr) (nt ct : Nat) (As : Option Addr) (ns cs : Nat) (w : World) (c0 : w.cell? ⟨b, o, none⟩ = some (.int .i64 i0)) (c1 : w.cell? ⟨b, o + 1, none⟩ = some (.int .i64 i1)) (hi : -2147483648 ≤ i0 ∧ i0 ≤ 2147483647 ∧ -2147483648 ≤ i1 ∧ i1 ≤ 2147483647) (p0 : w.cell? ⟨bn, on_, none⟩ = some (.int .i64 3)) (p1 : w.cell? ⟨bn, on_ + 1, none⟩ = some (.int .i64 a1)) :
 Calls Tryz.prog 193 #[.pointer (some ⟨bn, on_, none⟩), .slice At nt ct, .slice (some ⟨b, o, none⟩) 2 ci, .slice As ns cs] w fun e w' => e = .returned (.int .i64 (wrap32 (i0 + i1))) ∧ Below w.heap.size w w' := by
 go_enter Tryz.func193, Tryz.ntmps193
 go_wp2_with fail
 go_quiet (exact zaz (zgo _ _ _))
 go_wp2
 go_ret
 exact ⟨rfl, zac (Below.refl _ _) _⟩
theorem zsf (bn on_ : Nat) (a1 : Int) (b o ci : Nat) (i0 i1 : Int) (At : Option Addr) (nt ct : Nat) (As : Option Addr) (ns cs : Nat) (w : World) (c0 : w.cell? ⟨b, o, none⟩ = some (.int .i64 i0)) (c1 : w.cell? ⟨b, o + 1, none⟩ = some (.int .i64 i1)) (hi : -2147483648 ≤ i0 ∧ i0 ≤ 2147483647 ∧ -2147483648 ≤ i1 ∧ i1 ≤ 2147483647) (p0 : w.cell? ⟨bn, on_, none⟩ = some (.int .i64 4)) (p1 : w.cell? ⟨bn, on_ + 1, none⟩ = some (.int .i64 a1)) :
 Calls Tryz.prog 193 #[.pointer (some ⟨bn, on_, none⟩), .slice At nt ct, .slice (some ⟨b, o, none⟩) 2 ci, .slice As ns cs] w fun e w' => e = .returned (.int .i64 (wrap32 (i0 - i1))) ∧ Below w.heap.size w w' := by
 go_enter Tryz.func193, Tryz.ntmps193
 go_wp2_with fail
 go_quiet (exact zaz (zlz _ _ _))
 go_wp2
 go_ret
 exact ⟨rfl, zac (Below.refl _ _) _⟩
theorem zsg (bn on_ : Nat) (a1 : Int) (b o ci : Nat) (i0 : Int) (At : Option Addr) (nt ct : Nat) (As : Option Addr) (ns cs : Nat) (w : World) (c0 : w.cell? ⟨b, o, none⟩ = some (.int .i64 i0)) (ha : -2147483648 ≤ a1 ∧ a1 ≤ 2147483647) (hi : -2147483648 ≤ i0 ∧ i0 ≤ 2147483647) (p0 : w.cell? ⟨bn, on_, none⟩ = some (.int .i64 5)) (p1 : w.cell? ⟨bn, on_ + 1, none⟩ = some (.int .i64 a1)) :
 Calls Tryz.prog 193 #[.pointer (some ⟨bn, on_, none⟩), .slice At nt ct, .slice (some ⟨b, o, none⟩) 1 ci, .slice As ns cs] w fun e w' => e = .returned (.int .i64 (wrap32 (a1 * i0))) ∧ Below w.heap.size w w' := by
 go_enter Tryz.func193, Tryz.ntmps193
 go_wp2_with fail
 go_quiet (exact zaz (zgp _ _ _))
 go_wp2
 go_ret
 exact ⟨rfl, zac (Below.refl _ _) _⟩
theorem zsh (bn on_ : Nat) (a1 : Int) (b o ci : Nat) (i0 : Int) (At : Option Addr) (nt ct : Nat) (bs os_ ns cs : Nat) (s0 : Int) (w : World) (c0 : w.cell? ⟨b, o, none⟩ = some (.int .i64 i0)) (d0 : w.cell? ⟨bs, os_, none⟩ = some (.int .i64 s0)) (hns : 1 ≤ ns) (hi : -2147483648 ≤ i0 ∧ i0 ≤ 2147483647) (hs : -2147483648 ≤ s0 ∧ s0 ≤ 2147483647) (p0 : w.cell? ⟨bn, on_, none⟩ = some (.int .i64 6)) (p1 : w.cell? ⟨bn, on_ + 1, none⟩ = some (.int .i64 a1)) :
 Calls Tryz.prog 193 #[.pointer (some ⟨bn, on_, none⟩), .slice At nt ct, .slice (some ⟨b, o, none⟩) 1 ci, .slice (some ⟨bs, os_, none⟩) ns cs] w fun e w' => e = .returned (.int .i64 (s0)) ∧ Below w.heap.size w w' := by
 go_enter Tryz.func193, Tryz.ntmps193
 go_wp2
 go_ret
 exact ⟨rfl, Below.refl _ _⟩
theorem zsi (bn on_ : Nat) (a1 : Int) (b o ci : Nat) (i0 : Int) (At : Option Addr) (nt ct : Nat) (bs os_ ns cs : Nat) (s0 : Int) (w : World) (c0 : w.cell? ⟨b, o, none⟩ = some (.int .i64 i0)) (d0 : w.cell? ⟨bs, os_, none⟩ = some (.int .i64 s0)) (hns : 1 ≤ ns) (hi : -2147483648 ≤ i0 ∧ i0 ≤ 2147483647) (hs : -2147483648 ≤ s0 ∧ s0 ≤ 2147483647) (p0 : w.cell? ⟨bn, on_, none⟩ = some (.int .i64 7)) (p1 : w.cell? ⟨bn, on_ + 1, none⟩ = some (.int .i64 a1)) :
 Calls Tryz.prog 193 #[.pointer (some ⟨bn, on_, none⟩), .slice At nt ct, .slice (some ⟨b, o, none⟩) 1 ci, .slice (some ⟨bs, os_, none⟩) ns cs] w fun e w' => e = .returned (.int .i64 (wrap32 (s0 + i0))) ∧ Below w.heap.size w w' := by
 go_enter Tryz.func193, Tryz.ntmps193
 go_wp2_with fail
 go_quiet (exact zaz (zgo _ _ _))
 go_wp2
 go_ret
 exact ⟨rfl, zac (Below.refl _ _) _⟩
theorem zsj (bn on_ : Nat) (a1 : Int) (b o ci : Nat) (i0 : Int) (At : Option Addr) (nt ct : Nat) (bs os_ ns cs : Nat) (s0 : Int) (w : World) (c0 : w.cell? ⟨b, o, none⟩ = some (.int .i64 i0)) (d0 : w.cell? ⟨bs, os_, none⟩ = some (.int .i64 s0)) (hns : 1 ≤ ns) (hi : -2147483648 ≤ i0 ∧ i0 ≤ 2147483647) (hs : -2147483648 ≤ s0 ∧ s0 ≤ 2147483647) (p0 : w.cell? ⟨bn, on_, none⟩ = some (.int .i64 8)) (p1 : w.cell? ⟨bn, on_ + 1, none⟩ = some (.int .i64 a1)) :
 Calls Tryz.prog 193 #[.pointer (some ⟨bn, on_, none⟩), .slice At nt ct, .slice (some ⟨b, o, none⟩) 1 ci, .slice (some ⟨bs, os_, none⟩) ns cs] w fun e w' => e = .returned (.int .i64 (wrap32 (i0 - s0))) ∧ Below w.heap.size w w' := by
 go_enter Tryz.func193, Tryz.ntmps193
 go_wp2_with fail
 go_quiet (exact zaz (zlz _ _ _))
 go_wp2
 go_ret
 exact ⟨rfl, zac (Below.refl _ _) _⟩
theorem zsk (bn on_ : Nat) (a1 : Int) (b o ci : Nat) (i0 i1 : Int) (At : Option Addr) (nt ct : Nat) (As : Option Addr) (ns cs : Nat) (w : World) (c0 : w.cell? ⟨b, o, none⟩ = some (.int .i64 i0)) (c1 : w.cell? ⟨b, o + 1, none⟩ = some (.int .i64 i1)) (hi : -2147483648 ≤ i0 ∧ i0 ≤ 2147483647 ∧ -2147483648 ≤ i1 ∧ i1 ≤ 2147483647) (p0 : w.cell? ⟨bn, on_, none⟩ = some (.int .i64 9)) (p1 : w.cell? ⟨bn, on_ + 1, none⟩ = some (.int .i64 a1)) :
 Calls Tryz.prog 193 #[.pointer (some ⟨bn, on_, none⟩), .slice At nt ct, .slice (some ⟨b, o, none⟩) 2 ci, .slice As ns cs] w fun e w' => e = .returned (.int .i64 (wrap32 (i0 * i1))) ∧ Below w.heap.size w w' := by
 go_enter Tryz.func193, Tryz.ntmps193
 go_wp2_with fail
 go_quiet (exact zaz (zgp _ _ _))
 go_wp2
 go_ret
 exact ⟨rfl, zac (Below.refl _ _) _⟩
theorem zsl (bn on_ : Nat) (a1 : Int) (b o ci : Nat) (i0 : Int) (At : Option Addr) (nt ct : Nat) (As : Option Addr) (ns cs : Nat) (w : World) (c0 : w.cell? ⟨b, o, none⟩ = some (.int .i64 i0)) (ha : 0 ≤ a1 ∧ a1 ≤ 31) (hi : -2147483648 ≤ i0 ∧ i0 ≤ 2147483647) (p0 : w.cell? ⟨bn, on_, none⟩ = some (.int .i64 10)) (p1 : w.cell? ⟨bn, on_ + 1, none⟩ = some (.int .i64 a1)) :
 Calls Tryz.prog 193 #[.pointer (some ⟨bn, on_, none⟩), .slice At nt ct, .slice (some ⟨b, o, none⟩) 1 ci, .slice As ns cs] w fun e w' => e = .returned (.int .i64 (i0 / 2 ^ a1.toNat)) ∧ Below w.heap.size w w' := by
 go_enter Tryz.func193, Tryz.ntmps193
 go_wp2_with fail
 go_quiet (fail)
 go_wp2
 go_ret
 exact ⟨rfl, zac (Below.refl _ _) _⟩
theorem zsm (bn on_ : Nat) (a1 : Int) (b o ci : Nat) (i0 : Int) (At : Option Addr) (nt ct : Nat) (As : Option Addr) (ns cs : Nat) (w : World) (c0 : w.cell? ⟨b, o, none⟩ = some (.int .i64 i0)) (ha : 0 ≤ a1 ∧ a1 ≤ 2147483647) (hi : -2147483648 ≤ i0 ∧ i0 ≤ 2147483647) (p0 : w.cell? ⟨bn, on_, none⟩ = some (.int .i64 11)) (p1 : w.cell? ⟨bn, on_ + 1, none⟩ = some (.int .i64 a1)) :
 Calls Tryz.prog 193 #[.pointer (some ⟨bn, on_, none⟩), .slice At nt ct, .slice (some ⟨b, o, none⟩) 1 ci, .slice As ns cs] w fun e w' => e = .returned (.int .i64 (max (-a1) (min a1 i0))) ∧ Below w.heap.size w w' := by
 have hneg : wrap64 (-a1) = -a1 := M.wrap64_in _ (by omega)
 have h1 : min i0 a1 = min a1 i0 := by omega
 go_enter Tryz.func193, Tryz.ntmps193
 go_wp2_with fail
 go_quiet (first | exact zaz (zlv _ _ _) | exact zaz (zlw _ _ _))
 go_wp2
 go_ret
 exact ⟨zar (by omega), zac (Below.refl _ _) _⟩
theorem zsn (bn on_ : Nat) (a1 : Int) (b o ci : Nat) (i0 : Int) (At : Option Addr) (nt ct : Nat) (bs os_ ns cs : Nat) (s0 : Int) (w : World) (c0 : w.cell? ⟨b, o, none⟩ = some (.int .i64 i0)) (d0 : w.cell? ⟨bs, os_, none⟩ = some (.int .i64 s0)) (hns : 1 ≤ ns) (hi : -2147483648 ≤ i0 ∧ i0 ≤ 2147483647) (hs : -2147483648 ≤ s0 ∧ s0 ≤ 2147483647) (p0 : w.cell? ⟨bn, on_, none⟩ = some (.int .i64 12)) (p1 : w.cell? ⟨bn, on_ + 1, none⟩ = some (.int .i64 a1)) :
 Calls Tryz.prog 193 #[.pointer (some ⟨bn, on_, none⟩), .slice At nt ct, .slice (some ⟨b, o, none⟩) 1 ci, .slice (some ⟨bs, os_, none⟩) ns cs] w fun e w' => e = .returned (.int .i64 (s0)) ∧ Below w.heap.size w w' := by
 go_enter Tryz.func193, Tryz.ntmps193
 go_wp2
 go_ret
 exact ⟨rfl, Below.refl _ _⟩
theorem zso (bn on_ : Nat) (a1 : Int) (b o ci : Nat) (i0 : Int) (bt ot nt ct : Nat) (A1 : Option Addr) (c1 j n2 : Nat) (t : List Int) (As : Option Addr) (ns cs : Nat) (w : World) (c0 : w.cell? ⟨b, o, none⟩ = some (.int .i64 i0)) (ha : a1 = (j : Int) ∧ j < nt ∧ nt ≤ 4) (e0 : w.cell? ⟨bt, ot + j, none⟩ = some (.slice A1 n2 c1)) (ht : RI w w.heap.size A1 n2 t) (hn : 1 ≤ n2 ∧ n2 ≤ 16) (p0 : w.cell? ⟨bn, on_, none⟩ = some (.int .i64 13)) (p1 : w.cell? ⟨bn, on_ + 1, none⟩ = some (.int .i64 a1)) :
 Calls Tryz.prog 193 #[.pointer (some ⟨bn, on_, none⟩), .slice (some ⟨bt, ot, none⟩) nt ct, .slice (some ⟨b, o, none⟩) 1 ci, .slice As ns cs] w fun e w' => e = .returned (.int .i64 (zfg t i0)) ∧ Below w.heap.size w w' := by
 obtain ⟨rfl, hj, hnt⟩ := ha
 have hj0 : (0 : Int) ≤ (j : Int) := by omega
 have hjn : (j : Int) < (nt : Int) := by omega
 go_enter Tryz.func193, Tryz.ntmps193
 go_wp2_with fail
 go_quiet (exact zaz (zr1 _ _ _ _ _ _ (ht.later (zac (Below.refl _ _) _)) hn))
 go_wp2
 go_ret
 exact ⟨rfl, zac (Below.refl _ _) _⟩
theorem zsp (bn on_ : Nat) (a1 : Int) (Ai : Option Addr) (ci : Nat) (At : Option Addr) (nt ct : Nat) (bs os_ ns cs : Nat) (s0 : Int) (w : World) (d0 : w.cell? ⟨bs, os_, none⟩ = some (.int .i64 s0)) (hns : 1 ≤ ns) (hs : -2147483648 ≤ s0 ∧ s0 ≤ 2147483647) (p0 : w.cell? ⟨bn, on_, none⟩ = some (.int .i64 14)) (p1 : w.cell? ⟨bn, on_ + 1, none⟩ = some (.int .i64 a1)) :
 Calls Tryz.prog 193 #[.pointer (some ⟨bn, on_, none⟩), .slice At nt ct, .slice Ai 0 ci, .slice (some ⟨bs, os_, none⟩) ns cs] w fun e w' => e = .returned (.int .i64 (s0)) ∧ Below w.heap.size w w' := by
 go_enter Tryz.func193, Tryz.ntmps193
 go_wp2
 go_ret
 exact ⟨rfl, Below.refl _ _⟩
theorem zsq (bn on_ : Nat) (a1 : Int) (b o ci : Nat) (i0 i1 i2 : Int) (At : Option Addr) (nt ct : Nat) (As : Option Addr) (ns cs : Nat) (w : World) (c0 : w.cell? ⟨b, o, none⟩ = some (.int .i64 i0)) (c1 : w.cell? ⟨b, o + 1, none⟩ = some (.int .i64 i1)) (c2 : w.cell? ⟨b, o + 2, none⟩ = some (.int .i64 i2)) (hi : -2147483648 ≤ i0 ∧ i0 ≤ 2147483647 ∧ -2147483648 ≤ i1 ∧ i1 ≤ 2147483647 ∧ -2147483648 ≤ i2 ∧ i2 ≤ 2147483647) (p0 : w.cell? ⟨bn, on_, none⟩ = some (.int .i64 15)) (p1 : w.cell? ⟨bn, on_ + 1, none⟩ = some (.int .i64 a1)) :
 Calls Tryz.prog 193 #[.pointer (some ⟨bn, on_, none⟩), .slice At nt ct, .slice (some ⟨b, o, none⟩) 3 ci, .slice As ns cs] w fun e w' => e = .returned (.int .i64 ((if 0 ≤ i0 then i1 else i2))) ∧ Below w.heap.size w w' := by
 by_cases h : 0 ≤ i0
 · have R := Lib.hid (show (if 0 ≤ i0 then i1 else i2) = i1 from if_pos h)
   go_enter Tryz.func193, Tryz.ntmps193
   go_wp2
   go_ret
   exact ⟨zar (by first | rfl | exact R.out | exact R.out.symm), Below.refl _ _⟩
 · have R := Lib.hid (show (if 0 ≤ i0 then i1 else i2) = i2 from if_neg h)
   go_enter Tryz.func193, Tryz.ntmps193
   go_wp2
   go_ret
   exact ⟨zar (by first | rfl | exact R.out | exact R.out.symm), Below.refl _ _⟩
theorem zsr (bn on_ : Nat) (a1 : Int) (b o ci : Nat) (i0 i1 : Int) (At : Option Addr) (nt ct : Nat) (bs os_ ns cs : Nat) (s0 : Int) (w : World) (c0 : w.cell? ⟨b, o, none⟩ = some (.int .i64 i0)) (c1 : w.cell? ⟨b, o + 1, none⟩ = some (.int .i64 i1)) (d0 : w.cell? ⟨bs, os_, none⟩ = some (.int .i64 s0)) (hns : 1 ≤ ns) (hi : -2147483648 ≤ i0 ∧ i0 ≤ 2147483647 ∧ -2147483648 ≤ i1 ∧ i1 ≤ 2147483647) (hs : -2147483648 ≤ s0 ∧ s0 ≤ 2147483647) (p0 : w.cell? ⟨bn, on_, none⟩ = some (.int .i64 16)) (p1 : w.cell? ⟨bn, on_ + 1, none⟩ = some (.int .i64 a1)) :
 Calls Tryz.prog 193 #[.pointer (some ⟨bn, on_, none⟩), .slice At nt ct, .slice (some ⟨b, o, none⟩) 2 ci, .slice (some ⟨bs, os_, none⟩) ns cs] w fun e w' => e = .returned (.int .i64 ((if 0 < i1 then i0 else s0))) ∧ Below w.heap.size w w' := by
 by_cases h : 0 < i1
 · have R := Lib.hid (show (if 0 < i1 then i0 else s0) = i0 from if_pos h)
   go_enter Tryz.func193, Tryz.ntmps193
   go_wp2
   go_ret
   exact ⟨zar (by first | rfl | exact R.out | exact R.out.symm), Below.refl _ _⟩
 · have R := Lib.hid (show (if 0 < i1 then i0 else s0) = s0 from if_neg h)
   go_enter Tryz.func193, Tryz.ntmps193
   go_wp2
   go_ret
   exact ⟨zar (by first | rfl | exact R.out | exact R.out.symm), Below.refl _ _⟩
theorem zss (bn on_ : Nat) (a1 : Int) (b o ci : Nat) (i0 : Int) (At : Option Addr) (nt ct : Nat) (bs os_ ns cs : Nat) (s0 : Int) (w : World) (c0 : w.cell? ⟨b, o, none⟩ = some (.int .i64 i0)) (d0 : w.cell? ⟨bs, os_, none⟩ = some (.int .i64 s0)) (hns : 1 ≤ ns) (ha : -2147483648 ≤ a1 ∧ a1 ≤ 2147483647) (hi : -2147483648 ≤ i0 ∧ i0 ≤ 2147483647) (hs : -2147483648 ≤ s0 ∧ s0 ≤ 2147483647) (p0 : w.cell? ⟨bn, on_, none⟩ = some (.int .i64 17)) (p1 : w.cell? ⟨bn, on_ + 1, none⟩ = some (.int .i64 a1)) :
 Calls Tryz.prog 193 #[.pointer (some ⟨bn, on_, none⟩), .slice At nt ct, .slice (some ⟨b, o, none⟩) 1 ci, .slice (some ⟨bs, os_, none⟩) ns cs] w fun e w' => e = .returned (.int .i64 (wrap32 (i0 + a1 * s0))) ∧ Below w.heap.size w w' := by
 go_enter Tryz.func193, Tryz.ntmps193
 go_wp2_with fail
 go_quiet (first | exact zaz (zgp _ _ _) | exact zaz (zgo _ _ _))
 go_wp2
 go_ret
 exact ⟨zar (by rw [M.wrap32_addr]), zac (Below.refl _ _) _⟩
end
section
open Go.RowKit Go.Sort
theorem RI.tail1 {w : World} {B b o n c : Nat} {s0 : Int} {ss : List Int} (h : RI w B (some ⟨b, o, none⟩) n (s0 :: ss)) (hc : n ≤ c) : RI w B (if c = 1 then some ⟨b, o, none⟩ else some ⟨b, o + 1, none⟩) (n - 1) ss := by
 have hl := h.len
 simp only [List.length_cons] at hl
 have h2 := Reads.cut (k := 1) (cap := c) h (by omega) hc
 unfold RI
 simpa [Addr.add_lit] using h2
section
variable {P : Program} {t e : TypeId} {z : Value} {bytes : Nat}
theorem zst (hE : EI P t e z 1 bytes) {w : World} {ops : Array Oper} {rest : List Oper} {o : Oper} {a : Act} {Q : Exit → Act → World → Prop} {u : Value}
 (hgd : o.guard = none) (s x : Operand) (ho : o.op = .call { callee := .builtin .append, args := #[s, x], argTypes := #[t, t] })
 {B : Nat} {v : Value} {n g : Nat} {xs : List Value} (hown : w.ownsRow B e 1 v n xs) (hs : a.eval s = v)
 (hx : a.eval x = .slice (some ⟨g, 0, none⟩) 1 1) (hg : w.cell? ⟨g, 0, none⟩ = some u) (h1 : u.oneCell' = true)
 (hn : n + 1 ≤ maxLen) (hbytes : (n + 1) * bytes ≤ 140737488355328) (hbase : B ≤ w.heap.size)
 (K : ∀ v' w', w'.ownsRow B e 1 v' (n + 1) (xs ++ [u]) → w.grownBy w' v.ownBlock → Below B w w' → wpList P ops Q rest (a.put o.dst v') w') :
 wpList P ops Q (o :: rest) a w := by
 obtain ⟨ht, hinfo, hzs, hsz⟩ := hE
 obtain ⟨i0, hi, hz0, hz1, hz2⟩ := info_parts hinfo
 refine wpList_append_own _ hgd s x t ho B e i0 z 1 bytes ht hi hz0 hz1 hz2 hzs hsz v n xs hs hown ⟨g, 0, none⟩ 1 1 [u] hx rfl ?_ (by simpa using h1) hn hbytes hbase ?_
 · intro j w hj
   match j, hj with
   | 0, hj => simp at hj; subst hj; simpa [Addr.add] using hg
 · intro v' w' h2 h3 _
   exact K v' w' h2 h3 ((Below.refl _ _).grown h3 hbase fun k hk => (hown.lt k hk).1)
end
theorem zmj (a1 a2 : Int) (A : Option Addr) (n c : Nat) (T : Value) (bi oi ci bs os_ ns cs : Nat) (i0 s0 : Int) (ss : List Int) (w : World) (c0 : w.cell? ⟨bi, oi, none⟩ = some (.int .i64 i0)) (hs : RI w w.heap.size (some ⟨bs, os_, none⟩) ns (s0 :: ss)) (hns : ns ≤ 16) (hcs : ns ≤ cs) :
 Calls Tryz.prog 196 #[.agg #[.int .i64 6, .int .i64 a1, .int .i64 a2, .slice A n c], T, .slice (some ⟨bi, oi, none⟩) 1 ci, .slice (some ⟨bs, os_, none⟩) ns cs] w fun e w' => ∃ v, e = .returned (.tuple #[.int .i64 s0, v]) ∧ OI 2 w.heap.size w' v (ss ++ [i0]) ∧ Below w.heap.size w w' := by
 obtain ⟨W, hW⟩ : ∃ W, W = w.alloc (.cells #[.int .i64 6, .int .i64 a1, .int .i64 a2, .slice A n c] 171) := ⟨_, rfl⟩
 have B0 : Below w.heap.size w W := by rw [hW]; exact (Below.refl _ _).alloc (Nat.le_refl _) _
 have HW := Lib.hid hW
 have hl := hs.len
 simp only [List.length_cons] at hl
 obtain ⟨bs', os', e, hbs, hcc⟩ := zam hs (by omega)
 simp only [Option.some.injEq, Addr.mk.injEq] at e
 obtain ⟨rfl, rfl, -⟩ := e
 have d0 : w.cell? ⟨bs, os_, none⟩ = some (.int .i64 s0) := hcc 0 s0 rfl
 have lb : bi < w.heap.size := World.block_lt_of_cell? w _ c0
 clear hcc
 have c0' : W.cell? ⟨bi, oi, none⟩ = some (.int .i64 i0) := by rw [B0.cell lb]; exact c0
 have d0' : W.cell? ⟨bs, os_, none⟩ = some (.int .i64 s0) := by rw [B0.cell hbs]; exact d0
 have cc0 := cell_regrown c0'
 have dd0 := cell_regrown d0'
 clear hW
 go_enter Tryz.func196, Tryz.ntmps196
 go_wp2_with fail
 rw [← HW.out]
 have D1 : Below W.heap.size W W.drew := zac (Below.refl _ _) 1
 have ht := (hs.tail1 hcs).later B0
 have lW : w.heap.size ≤ W.heap.size := B0.size
 clear hs c0 d0 c0' d0'
 obtain ⟨A9, ht0, e9⟩ : ∃ A9, RI W W.heap.size A9 (ns - 1) ss ∧ ((cs = 1 ∧ A9 = some ⟨bs, os_, none⟩) ∨ (¬ cs = 1 ∧ A9 = some ⟨bs, os_ + 1, none⟩)) := by
  by_cases h : cs = 1
  · rw [if_pos h] at ht
    exact ⟨_, ht, .inl ⟨h, rfl⟩⟩
  · rw [if_neg h] at ht
    exact ⟨_, ht, .inr ⟨h, rfl⟩⟩
 rcases e9 with ⟨h1, rfl⟩ | ⟨h1, rfl⟩
 all_goals
  have ht := ht0.later D1
  (refine zcq [0, 1, 3, 4, 6, 7] [2, 8] 3 (.two 5 (.one 9 (.one 10 .rest)) 9 (.one 5 (.one 10 .rest))) [11, 12] (by kernel_rfl) (by kernel_rfl) ?_; simp only [zaj]; simp only [List.filterMap, List.getElem?_cons_succ, List.getElem?_cons_zero]; (repeat (go_big_quiet_step (fail))); refine wpQuiet_nil ?_; (repeat (go_big_quiet_step (fail))); refine wpQuiet_nil ?_)
  refine zc9 rfl rfl ?_ ?_
  · go_wp2_with fail
    refine (zd1 _ _ _ _ _ ht (by omega)).mono ?_
    rintro e w1 ⟨v1, rfl, own1, bel1⟩
    have B1 : Below W.heap.size W w1 := D1.trans bel1
    go_wp2_with fail
    refine ⟨regrown_of_below B1, zao rfl ?_⟩
    go_wp2_with fail
    refine ⟨regrown_of_below (B1.alloc B1.size _), zao rfl ?_⟩
    go_wp2_with (at_builtin; refine zdy zbs rfl _ _ rfl own1 rfl rfl rfl (by unfold maxLen; omega) (by omega) B1.size ?_; intro v2 w2 own2 gr2 bel2)
    refine ⟨regrown_of_below (B1.trans bel2), zbi ?_⟩
    go_wp2
    go_ret2
    exact ⟨_, rfl, (OI.push own2).base lW, B0.trans ((B1.trans bel2).mono lW)⟩
  · have B1 : Below W.heap.size W (W.alloc (.cells #[.int .i64 i0] 2)).drew := zac ((Below.refl _ _).alloc (Nat.le_refl _) _) 1
    have ht2 : RI (W.alloc (.cells #[.int .i64 i0] 2)).drew (W.alloc (.cells #[.int .i64 i0] 2)).drew.heap.size _ (ns - 1) ss := ht0.later B1
    have hg1 : (W.alloc (.cells #[.int .i64 i0] 2)).drew.cell? ⟨W.heap.size, 0, none⟩ = some (.int .i64 i0) := zh9 _ _ _
    have hz1 : (W.alloc (.cells #[.int .i64 i0] 2)).drew.heap.size = W.heap.size + 1 := by show (W.alloc (.cells #[.int .i64 i0] 2)).heap.size = _; simp
    go_wp2_with fail
    refine ⟨regrown_of_below B1, zao rfl ?_⟩
    go_wp2_with fail
    generalize (W.alloc (.cells #[.int .i64 i0] 2)).drew = V at B1 ht2 hg1 hz1 ⊢
    refine (zd1 _ _ _ _ _ ht2 (by omega)).mono ?_
    rintro e w1 ⟨v1, rfl, own1, bel1⟩
    have B2 := zaa B1 bel1
    have hg2 : w1.cell? ⟨W.heap.size, 0, none⟩ = some (.int .i64 i0) := by rw [bel1.cell (by show W.heap.size < V.heap.size; omega)]; exact hg1
    go_wp2_with fail
    refine ⟨regrown_of_below B2, zao rfl ?_⟩
    go_wp2_with (at_builtin; refine zst zbs rfl _ _ rfl own1 rfl rfl hg2 rfl (by unfold maxLen; omega) (by omega) bel1.size ?_; intro v2 w2 own2 gr2 bel2)
    have B3 : Below W.heap.size W w2 := B2.trans (bel2.mono (by omega))
    refine ⟨regrown_of_below B3, zbi ?_⟩
    go_wp2
    go_ret2
    exact ⟨_, rfl, (OI.push own2).base (by omega), B0.trans (B3.mono (by omega))⟩
theorem zsu (a1 a2 : Int) (A : Option Addr) (n c : Nat) (T : Value) (bi oi ci : Nat) (i0 : Int) (bs os_ ns cs : Nat) (s0 : Int) (w : World) (c0 : w.cell? ⟨bi, oi, none⟩ = some (.int .i64 i0)) (d0 : w.cell? ⟨bs, os_, none⟩ = some (.int .i64 s0)) (hns : 1 ≤ ns) (hi : -2147483648 ≤ i0 ∧ i0 ≤ 2147483647) (hsb : -2147483648 ≤ s0 ∧ s0 ≤ 2147483647) :
 Calls Tryz.prog 196 #[.agg #[.int .i64 7, .int .i64 a1, .int .i64 a2, .slice A n c], T, .slice (some ⟨bi, oi, none⟩) 1 ci, .slice (some ⟨bs, os_, none⟩) ns cs] w fun e w' => ∃ v, e = .returned (.tuple #[.int .i64 (wrap32 (s0 + i0)), v]) ∧ OI 2 w.heap.size w' v ([wrap32 (s0 + i0)]) ∧ Below w.heap.size w w' := by
 obtain ⟨W, hW⟩ : ∃ W, W = w.alloc (.cells #[.int .i64 7, .int .i64 a1, .int .i64 a2, .slice A n c] 171) := ⟨_, rfl⟩
 have B0 : Below w.heap.size w W := by rw [hW]; exact (Below.refl _ _).alloc (Nat.le_refl _) _
 have lW : w.heap.size ≤ W.heap.size := B0.size
 have lb : bi < w.heap.size := World.block_lt_of_cell? w _ c0
 have hbs : bs < w.heap.size := World.block_lt_of_cell? w _ d0
 have c0' : W.cell? ⟨bi, oi, none⟩ = some (.int .i64 i0) := by rw [B0.cell lb]; exact c0
 have d0' : W.cell? ⟨bs, os_, none⟩ = some (.int .i64 s0) := by rw [B0.cell hbs]; exact d0
 have p1' : W.cell? ⟨w.heap.size, 1, none⟩ = some (.int .i64 a1) := by rw [hW]; simp [go_sem]
 have HW := Lib.hid hW
 clear hW
 have O1 := zdt W (wrap32 (s0 + i0))
 go_enter Tryz.func196, Tryz.ntmps196
 go_wp2_with fail
 rw [← HW.out]
 go_quiet (exact zaz (zdh _ _))
 have hw3 : wrap32 (wrap64 (s0 + i0)) = wrap32 (s0 + i0) := M.wrap32_64 _
 go_wp2
 go_ret2
 exact ⟨_, rfl, O1.base lW, zac (B0.alloc lW _) _⟩
theorem zsv (a1 a2 : Int) (A : Option Addr) (n c : Nat) (T : Value) (bi oi ci : Nat) (i0 : Int) (bs os_ ns cs : Nat) (s0 : Int) (w : World) (c0 : w.cell? ⟨bi, oi, none⟩ = some (.int .i64 i0)) (d0 : w.cell? ⟨bs, os_, none⟩ = some (.int .i64 s0)) (hns : 1 ≤ ns) (hi : -2147483648 ≤ i0 ∧ i0 ≤ 2147483647) (hsb : -2147483648 ≤ s0 ∧ s0 ≤ 2147483647) :
 Calls Tryz.prog 196 #[.agg #[.int .i64 8, .int .i64 a1, .int .i64 a2, .slice A n c], T, .slice (some ⟨bi, oi, none⟩) 1 ci, .slice (some ⟨bs, os_, none⟩) ns cs] w fun e w' => ∃ v, e = .returned (.tuple #[.int .i64 (wrap32 (i0 - s0)), v]) ∧ OI 2 w.heap.size w' v ([i0]) ∧ Below w.heap.size w w' := by
 obtain ⟨W, hW⟩ : ∃ W, W = w.alloc (.cells #[.int .i64 8, .int .i64 a1, .int .i64 a2, .slice A n c] 171) := ⟨_, rfl⟩
 have B0 : Below w.heap.size w W := by rw [hW]; exact (Below.refl _ _).alloc (Nat.le_refl _) _
 have lW : w.heap.size ≤ W.heap.size := B0.size
 have lb : bi < w.heap.size := World.block_lt_of_cell? w _ c0
 have hbs : bs < w.heap.size := World.block_lt_of_cell? w _ d0
 have c0' : W.cell? ⟨bi, oi, none⟩ = some (.int .i64 i0) := by rw [B0.cell lb]; exact c0
 have d0' : W.cell? ⟨bs, os_, none⟩ = some (.int .i64 s0) := by rw [B0.cell hbs]; exact d0
 have p1' : W.cell? ⟨w.heap.size, 1, none⟩ = some (.int .i64 a1) := by rw [hW]; simp [go_sem]
 have HW := Lib.hid hW
 have cc0 := cell_regrown c0'
 have dd0 := cell_regrown d0'
 clear hW c0 d0 c0' d0'
 have O1 := zdt W i0
 have hw3 : wrap32 (wrap64 (i0 - s0)) = wrap32 (i0 - s0) := M.wrap32_64 _
 have D1 : Below W.heap.size W W.drew := zac (Below.refl _ _) 1
 have B1 : Below W.heap.size W (W.alloc (.cells #[.int .i64 i0] 2)).drew := zac ((Below.refl _ _).alloc (Nat.le_refl _) _) 1
 go_enter Tryz.func196, Tryz.ntmps196
 go_wp2_with fail
 rw [← HW.out]
 (refine zcq [0, 1, 3, 4, 8, 9] [2, 5, 6, 10] 3 (.two 7 (.two 11 (.one 12 .rest) 12 (.one 11 .rest)) 11 (.one 7 (.one 12 .rest))) [13] (by kernel_rfl) (by kernel_rfl) ?_; simp only [zaj]; simp only [List.filterMap, List.getElem?_cons_succ, List.getElem?_cons_zero]; (repeat (go_big_quiet_step (fail))); refine wpQuiet_nil ?_; (repeat (go_big_quiet_step (fail))); refine wpQuiet_nil ?_)
 refine zc9 rfl rfl ?_ ?_
 · go_wp2_with (go_at_call 109; refine (zdh _ _).mono ?_; rintro e w' ⟨rfl, rfl⟩)
   refine ⟨regrown_of_below D1, zc9 rfl rfl ?_ ?_⟩
   · go_wp2_with fail
     refine ⟨regrown_of_below B1, zao rfl ?_⟩
     go_wp2_with fail
     refine ⟨regrown_of_below B1, zbi ?_⟩
     go_wp2
     go_ret2
     exact ⟨_, rfl, O1.base lW, B0.trans (B1.mono lW)⟩
   · go_wp2_with fail
     refine ⟨regrown_of_below D1, zao rfl ?_⟩
     go_wp2_with fail
     refine ⟨regrown_of_below B1, zbi ?_⟩
     go_wp2
     go_ret2
     exact ⟨_, rfl, O1.base lW, B0.trans (B1.mono lW)⟩
 · go_wp2_with fail
   refine ⟨regrown_of_below B1, zao rfl ?_⟩
   go_wp2_with (go_at_call 109; refine (zdh _ _).mono ?_; rintro e w' ⟨rfl, rfl⟩)
   refine ⟨regrown_of_below B1, zao rfl ?_⟩
   go_wp2_with fail
   refine ⟨regrown_of_below B1, zbi ?_⟩
   go_wp2
   go_ret2
   exact ⟨_, rfl, O1.base lW, B0.trans (B1.mono lW)⟩
theorem zsw (a1 a2 : Int) (A : Option Addr) (n c : Nat) (T : Value) (bi oi ci : Nat) (i0 : Int) (bs os_ ns cs : Nat) (s0 : Int) (w : World) (c0 : w.cell? ⟨bi, oi, none⟩ = some (.int .i64 i0)) (d0 : w.cell? ⟨bs, os_, none⟩ = some (.int .i64 s0)) (hns : 1 ≤ ns) (hi : -2147483648 ≤ i0 ∧ i0 ≤ 2147483647) (hsb : -2147483648 ≤ s0 ∧ s0 ≤ 2147483647) :
 Calls Tryz.prog 196 #[.agg #[.int .i64 12, .int .i64 a1, .int .i64 a2, .slice A n c], T, .slice (some ⟨bi, oi, none⟩) 1 ci, .slice (some ⟨bs, os_, none⟩) ns cs] w fun e w' => ∃ v, e = .returned (.tuple #[.int .i64 (s0), v]) ∧ OI 2 w.heap.size w' v ([wrap32 (s0 + i0)]) ∧ Below w.heap.size w w' := by
 obtain ⟨W, hW⟩ : ∃ W, W = w.alloc (.cells #[.int .i64 12, .int .i64 a1, .int .i64 a2, .slice A n c] 171) := ⟨_, rfl⟩
 have B0 : Below w.heap.size w W := by rw [hW]; exact (Below.refl _ _).alloc (Nat.le_refl _) _
 have lW : w.heap.size ≤ W.heap.size := B0.size
 have lb : bi < w.heap.size := World.block_lt_of_cell? w _ c0
 have hbs : bs < w.heap.size := World.block_lt_of_cell? w _ d0
 have c0' : W.cell? ⟨bi, oi, none⟩ = some (.int .i64 i0) := by rw [B0.cell lb]; exact c0
 have d0' : W.cell? ⟨bs, os_, none⟩ = some (.int .i64 s0) := by rw [B0.cell hbs]; exact d0
 have p1' : W.cell? ⟨w.heap.size, 1, none⟩ = some (.int .i64 a1) := by rw [hW]; simp [go_sem]
 have HW := Lib.hid hW
 have cc0 := cell_regrown c0'
 have dd0 := cell_regrown d0'
 clear hW c0 d0 c0' d0'
 have O1 := zdt W (wrap32 (s0 + i0))
 have hw3 : wrap32 (wrap64 (s0 + i0)) = wrap32 (s0 + i0) := M.wrap32_64 _
 have D1 : Below W.heap.size W W.drew := zac (Below.refl _ _) 1
 have B1 : Below W.heap.size W (W.alloc (.cells #[.int .i64 (wrap32 (s0 + i0))] 2)).drew := zac ((Below.refl _ _).alloc (Nat.le_refl _) _) 1
 go_enter Tryz.func196, Tryz.ntmps196
 go_wp2_with fail
 rw [← HW.out]
 (refine zcq [0, 1, 3, 4, 6, 7] [2, 5, 8, 9] 3 (.one 10 (.two 11 (.one 12 .rest) 12 (.one 11 .rest))) [13] (by kernel_rfl) (by kernel_rfl) ?_; simp only [zaj]; simp only [List.filterMap, List.getElem?_cons_succ, List.getElem?_cons_zero]; (repeat (go_big_quiet_step (fail))); refine wpQuiet_nil ?_; (repeat (go_big_quiet_step (fail))); refine wpQuiet_nil ?_)
 refine zao rfl ?_
 go_wp2_with (go_at_call 109; refine (zdh _ _).mono ?_; rintro e w' ⟨rfl, rfl⟩)
 refine ⟨regrown_of_below D1, zc9 rfl rfl ?_ ?_⟩
 · go_wp2_with fail
   refine ⟨regrown_of_below B1, zao rfl ?_⟩
   go_wp2_with fail
   refine ⟨regrown_of_below B1, zbi ?_⟩
   go_wp2
   go_ret2
   exact ⟨_, rfl, O1.base lW, B0.trans (B1.mono lW)⟩
 · go_wp2_with fail
   refine ⟨regrown_of_below D1, zao rfl ?_⟩
   go_wp2_with fail
   refine ⟨regrown_of_below B1, zbi ?_⟩
   go_wp2
   go_ret2
   exact ⟨_, rfl, O1.base lW, B0.trans (B1.mono lW)⟩
theorem zsx (a1 a2 : Int) (A : Option Addr) (n c : Nat) (T : Value) (Ai : Option Addr) (ci : Nat) (bs os_ ns cs : Nat) (s0 : Int) (w : World) (d0 : w.cell? ⟨bs, os_, none⟩ = some (.int .i64 s0)) (hns : 1 ≤ ns) (hsb : -2147483648 ≤ s0 ∧ s0 ≤ 2147483647) :
 Calls Tryz.prog 196 #[.agg #[.int .i64 14, .int .i64 a1, .int .i64 a2, .slice A n c], T, .slice Ai 0 ci, .slice (some ⟨bs, os_, none⟩) ns cs] w fun e w' => ∃ v, e = .returned (.tuple #[.int .i64 (s0), v]) ∧ OI 2 w.heap.size w' v ([zd6 s0]) ∧ Below w.heap.size w w' := by
 obtain ⟨W, hW⟩ : ∃ W, W = w.alloc (.cells #[.int .i64 14, .int .i64 a1, .int .i64 a2, .slice A n c] 171) := ⟨_, rfl⟩
 have B0 : Below w.heap.size w W := by rw [hW]; exact (Below.refl _ _).alloc (Nat.le_refl _) _
 have lW : w.heap.size ≤ W.heap.size := B0.size
 have hbs : bs < w.heap.size := World.block_lt_of_cell? w _ d0
 have d0' : W.cell? ⟨bs, os_, none⟩ = some (.int .i64 s0) := by rw [B0.cell hbs]; exact d0
 have p1' : W.cell? ⟨w.heap.size, 1, none⟩ = some (.int .i64 a1) := by rw [hW]; simp [go_sem]
 have HW := Lib.hid hW
 have dd0 := cell_regrown d0'
 clear hW d0 d0'
 have O1 := zdt W (zd6 s0)
 have D1 : Below W.heap.size W W.drew := zac (Below.refl _ _) 1
 have B1 : Below W.heap.size W (W.alloc (.cells #[.int .i64 (zd6 s0)] 2)).drew := zac ((Below.refl _ _).alloc (Nat.le_refl _) _) 1
 go_enter Tryz.func196, Tryz.ntmps196
 go_wp2_with fail
 rw [← HW.out]
 (refine zcq [0, 1, 3, 4] [2, 5] 3 (.one 6 (.two 7 (.one 8 .rest) 8 (.one 7 .rest))) [9] (by kernel_rfl) (by kernel_rfl) ?_; simp only [zaj]; simp only [List.filterMap, List.getElem?_cons_succ, List.getElem?_cons_zero]; (repeat (go_big_quiet_step (fail))); refine wpQuiet_nil ?_; (repeat (go_big_quiet_step (fail))); refine wpQuiet_nil ?_)
 refine zao rfl ?_
 go_wp2_with (go_at_call 209; refine (zr0 _ _).mono ?_; rintro e w' ⟨rfl, rfl⟩)
 refine ⟨regrown_of_below D1, zc9 rfl rfl ?_ ?_⟩
 · go_wp2_with fail
   refine ⟨regrown_of_below B1, zao rfl ?_⟩
   go_wp2_with fail
   refine ⟨regrown_of_below B1, zbi ?_⟩
   go_wp2
   go_ret2
   exact ⟨_, rfl, O1.base lW, B0.trans (B1.mono lW)⟩
 · go_wp2_with fail
   refine ⟨regrown_of_below D1, zao rfl ?_⟩
   go_wp2_with fail
   refine ⟨regrown_of_below B1, zbi ?_⟩
   go_wp2
   go_ret2
   exact ⟨_, rfl, O1.base lW, B0.trans (B1.mono lW)⟩
theorem zsy (a1 a2 : Int) (A : Option Addr) (n c : Nat) (T : Value) (bi oi ci : Nat) (i0 i1 : Int) (bs os_ ns cs : Nat) (s0 : Int) (w : World) (c0 : w.cell? ⟨bi, oi, none⟩ = some (.int .i64 i0)) (c1 : w.cell? ⟨bi, oi + 1, none⟩ = some (.int .i64 i1)) (d0 : w.cell? ⟨bs, os_, none⟩ = some (.int .i64 s0)) (hns : 1 ≤ ns) (hi : -2147483648 ≤ i0 ∧ i0 ≤ 2147483647 ∧ -2147483648 ≤ i1 ∧ i1 ≤ 2147483647) (hsb : -2147483648 ≤ s0 ∧ s0 ≤ 2147483647) :
 Calls Tryz.prog 196 #[.agg #[.int .i64 16, .int .i64 a1, .int .i64 a2, .slice A n c], T, .slice (some ⟨bi, oi, none⟩) 2 ci, .slice (some ⟨bs, os_, none⟩) ns cs] w fun e w' => ∃ v, e = .returned (.tuple #[.int .i64 (if 0 < i1 then i0 else s0), v]) ∧ OI 2 w.heap.size w' v ([if 0 < i1 then i0 else s0]) ∧ Below w.heap.size w w' := by
 obtain ⟨W, hW⟩ : ∃ W, W = w.alloc (.cells #[.int .i64 16, .int .i64 a1, .int .i64 a2, .slice A n c] 171) := ⟨_, rfl⟩
 have B0 : Below w.heap.size w W := by rw [hW]; exact (Below.refl _ _).alloc (Nat.le_refl _) _
 have lW : w.heap.size ≤ W.heap.size := B0.size
 have lb : bi < w.heap.size := World.block_lt_of_cell? w _ c0
 have hbs : bs < w.heap.size := World.block_lt_of_cell? w _ d0
 have c0' : W.cell? ⟨bi, oi, none⟩ = some (.int .i64 i0) := by rw [B0.cell lb]; exact c0
 have c1' : W.cell? ⟨bi, oi + 1, none⟩ = some (.int .i64 i1) := by rw [B0.cell lb]; exact c1
 have d0' : W.cell? ⟨bs, os_, none⟩ = some (.int .i64 s0) := by rw [B0.cell hbs]; exact d0
 have p1' : W.cell? ⟨w.heap.size, 1, none⟩ = some (.int .i64 a1) := by rw [hW]; simp [go_sem]
 have HW := Lib.hid hW
 by_cases h : 0 < i1
 · have R := Lib.hid (show (if 0 < i1 then i0 else s0) = i0 from if_pos h)
   have O1 := zdt W (i0)
   have B1 : Below w.heap.size w (W.alloc (.cells #[.int .i64 i0] 2)) := B0.alloc lW _
   rw [R.out]
   rw [HW.out] at O1 B1
   have hz : (w.alloc (.cells #[.int .i64 16, .int .i64 a1, .int .i64 a2, .slice A n c] 171)).heap.size = w.heap.size + 1 := by simp
   rw [hz] at O1
   clear hW c0' c1' d0' p1' HW B0 lW W
   go_enter Tryz.func196, Tryz.ntmps196
   go_wp2
   go_ret2
   exact ⟨_, rfl, O1.base (by omega), B1⟩
 · have R := Lib.hid (show (if 0 < i1 then i0 else s0) = s0 from if_neg h)
   have O1 := zdt W (s0)
   have B1 : Below w.heap.size w (W.alloc (.cells #[.int .i64 s0] 2)) := B0.alloc lW _
   rw [R.out]
   rw [HW.out] at O1 B1
   have hz : (w.alloc (.cells #[.int .i64 16, .int .i64 a1, .int .i64 a2, .slice A n c] 171)).heap.size = w.heap.size + 1 := by simp
   rw [hz] at O1
   clear hW c0' c1' d0' p1' HW B0 lW W
   go_enter Tryz.func196, Tryz.ntmps196
   go_wp2
   go_ret2
   exact ⟨_, rfl, O1.base (by omega), B1⟩
theorem zsz (a1 a2 : Int) (A : Option Addr) (n c : Nat) (T : Value) (bi oi ci : Nat) (i0 : Int) (bs os_ ns cs : Nat) (s0 : Int) (ss : List Int) (w : World) (c0 : w.cell? ⟨bi, oi, none⟩ = some (.int .i64 i0)) (hs : RI w w.heap.size (some ⟨bs, os_, none⟩) ns (s0 :: ss)) (hns : ns ≤ 16) (hcs : ns ≤ cs) (ha : -2147483648 ≤ a1 ∧ a1 ≤ 2147483647) (hi : -2147483648 ≤ i0 ∧ i0 ≤ 2147483647) (hsb : -2147483648 ≤ s0 ∧ s0 ≤ 2147483647) :
 Calls Tryz.prog 196 #[.agg #[.int .i64 17, .int .i64 a1, .int .i64 a2, .slice A n c], T, .slice (some ⟨bi, oi, none⟩) 1 ci, .slice (some ⟨bs, os_, none⟩) ns cs] w fun e w' => ∃ v, e = .returned (.tuple #[.int .i64 (wrap32 (i0 + a1 * s0)), v]) ∧ OI 2 w.heap.size w' v (ss ++ [wrap32 (i0 + a1 * s0)]) ∧ Below w.heap.size w w' := by
 obtain ⟨W, hW⟩ : ∃ W, W = w.alloc (.cells #[.int .i64 17, .int .i64 a1, .int .i64 a2, .slice A n c] 171) := ⟨_, rfl⟩
 have B0 : Below w.heap.size w W := by rw [hW]; exact (Below.refl _ _).alloc (Nat.le_refl _) _
 have lW : w.heap.size ≤ W.heap.size := B0.size
 have lb : bi < w.heap.size := World.block_lt_of_cell? w _ c0
 have hl := hs.len
 simp only [List.length_cons] at hl
 obtain ⟨bs', os', e, hbs, hcc⟩ := zam hs (by omega)
 simp only [Option.some.injEq, Addr.mk.injEq] at e
 obtain ⟨rfl, rfl, -⟩ := e
 have d0 : w.cell? ⟨bs, os_, none⟩ = some (.int .i64 s0) := hcc 0 s0 rfl
 clear hcc
 have c0' : W.cell? ⟨bi, oi, none⟩ = some (.int .i64 i0) := by rw [B0.cell lb]; exact c0
 have d0' : W.cell? ⟨bs, os_, none⟩ = some (.int .i64 s0) := by rw [B0.cell hbs]; exact d0
 have p1' : W.cell? ⟨w.heap.size, 1, none⟩ = some (.int .i64 a1) := by rw [hW]; simp [go_sem]
 have HW := Lib.hid hW
 have hm : -4611686018427387904 ≤ a1 * s0 ∧ a1 * s0 ≤ 4611686018427387904 := M.wrap64_mul_bd _ _ ha hsb
 have hw3 : wrap64 (a1 * s0) = a1 * s0 := M.wrap64_in _ (by omega)
 have hw4 : wrap64 (i0 + a1 * s0) = i0 + a1 * s0 := M.wrap64_in _ (by omega)
 have ht0 := (hs.tail1 hcs).later B0
 clear hW hs
 obtain ⟨A9, ht0, e9⟩ : ∃ A9, RI W W.heap.size A9 (ns - 1) ss ∧ ((cs = 1 ∧ A9 = some ⟨bs, os_, none⟩) ∨ (¬ cs = 1 ∧ A9 = some ⟨bs, os_ + 1, none⟩)) := by
  by_cases h : cs = 1
  · rw [if_pos h] at ht0
    exact ⟨_, ht0, .inl ⟨h, rfl⟩⟩
  · rw [if_neg h] at ht0
    exact ⟨_, ht0, .inr ⟨h, rfl⟩⟩
 rcases e9 with ⟨h1, rfl⟩ | ⟨h1, rfl⟩
 all_goals
  go_enter Tryz.func196, Tryz.ntmps196
  go_wp2_with fail
  rw [← HW.out]
  go_quiet (exact zaz (zdh _ _))
  have D2 := fun m => zac (Below.refl W.heap.size W) m
  have ht2 := fun m => ht0.later (D2 m)
  clear c0 d0 c0' d0' p1' HW
  go_wp2_with fail
  refine (zd1 _ _ _ _ _ (ht2 _) (by omega)).mono ?_
  rintro e w1 ⟨v1, rfl, own1, bel1⟩
  have B1 : Below W.heap.size W w1 := (D2 _).trans bel1
  go_wp2_with (at_builtin; refine zdy zbs rfl _ _ rfl own1 rfl rfl rfl (by unfold maxLen; omega) (by omega) B1.size ?_; intro v2 w2 own2 gr2 bel2)
  go_ret2
  exact ⟨_, rfl, (OI.push own2).base lW, B0.trans ((B1.trans bel2).mono lW)⟩
theorem zem (k a1 a2 : Int) (A : Option Addr) (n c : Nat) (T I S : Value) (out : Int) (w : World) (hk : k = 1 ∨ k = 2 ∨ k = 3 ∨ k = 4 ∨ k = 5 ∨ k = 9 ∨ k = 10 ∨ k = 11 ∨ k = 13 ∨ k = 15)
 (hO : ∀ W, Below w.heap.size w W → Calls Tryz.prog 210 #[.agg #[.int .i64 k, .int .i64 a1, .int .i64 a2, .slice A n c], T, I] W fun e w' => e = .returned (.int .i64 out) ∧ Below W.heap.size W w') :
 Calls Tryz.prog 196 #[.agg #[.int .i64 k, .int .i64 a1, .int .i64 a2, .slice A n c], T, I, S] w fun e w' => ∃ v, e = .returned (.tuple #[.int .i64 out, v]) ∧ OI 2 w.heap.size w' v [] ∧ Below w.heap.size w w' := by
 obtain ⟨W, hW⟩ : ∃ W, W = w.alloc (.cells #[.int .i64 k, .int .i64 a1, .int .i64 a2, .slice A n c] 171) := ⟨_, rfl⟩
 have B0 : Below w.heap.size w W := by rw [hW]; exact (Below.refl _ _).alloc (Nat.le_refl _) _
 have HW := Lib.hid hW
 have hO2 := hO W B0
 clear hW hO
 rcases hk with rfl | rfl | rfl | rfl | rfl | rfl | rfl | rfl | rfl | rfl
 all_goals
  go_enter Tryz.func196, Tryz.ntmps196
  go_wp2_with fail
  rw [← HW.out]
  refine hO2.mono ?_
  rintro e w1 ⟨rfl, bel1⟩
  go_wp2_with (go_at_call 98; refine (zc5 _ _ (by omega) (by omega)).mono ?_; rintro e w2 ⟨v2, rfl, own2, bel2⟩)
  go_ret2
  exact ⟨_, rfl, own2.base (by have := B0.size; have := bel1.size; omega), zaa B0 (zaa bel1 bel2)⟩
end
section
open Go.RowKit Go.Sort
theorem zgw {a0 a1 a2 : Int} {xs : List Int} {tb : Int} (h : zai (a0, a1, a2, xs) tb = true) :
 (a0 = 5 → -2147483648 ≤ a1 ∧ a1 ≤ 2147483647) ∧ (a0 = 10 → 0 ≤ a1 ∧ a1 ≤ 31) ∧ (a0 = 11 → 0 ≤ a1 ∧ a1 ≤ 2147483647) ∧ (a0 = 13 → 0 ≤ a1 ∧ a1 ≤ 3 ∧ a1 < tb) ∧ (a0 = 17 → -2147483648 ≤ a1 ∧ a1 ≤ 2147483647) ∧ (a0 = 2 → -2147483648 ≤ a1 ∧ a1 ≤ 2147483647) ∧ (a0 = 12 → -2147483648 ≤ a1 ∧ a1 ≤ 2147483647) ∧ (a0 = 14 → -2147483648 ≤ a1 ∧ a1 ≤ 2147483647) ∧ (a0 = 1 → 0 ≤ a1 ∧ a1 ≤ 3) := by
 rw [zai] at h
 simp only [Bool.and_eq_true] at h
 have hA := h.2.1.1.1.1
 have hL := h.2.2
 refine ⟨?_, ?_, ?_, ?_, ?_, ?_, ?_, ?_, ?_⟩ <;> rintro rfl <;> simp [M.aI, M.kd, zfu, M.inn] at hA hL <;> omega
theorem zs0 {a0 a1 a2 : Int} {xs : List Int} {tb : Int} (h : zai (a0, a1, a2, xs) tb = true) : a0 ≠ 1 → xs.length = zf4 a0 := by
 obtain ⟨hk, -, -⟩ := zea h
 rw [zai] at h
 simp only [Bool.and_eq_true] at h
 have hL := h.2.1.2
 simp only at hk
 rcases ze3 hk with rfl | rfl | rfl | rfl | rfl | rfl | rfl | rfl | rfl | rfl | rfl | rfl | rfl | rfl | rfl | rfl | rfl
 all_goals
  simp [M.kd, zfu, zf4, M.ar, zhh] at hL ⊢
  try omega
theorem zgx {ts : List (List Int)} (h : zb4 ts = true) {k : Nat} {t : List Int} (ht : ts[k]? = some t) : (1 ≤ t.length ∧ t.length ≤ 16) ∧ t.all M.smp = true ∧ ts.length ≤ 4 := by
 rw [zb4, Bool.and_eq_true] at h
 have h2 := List.all_eq_true.1 h.1 t (List.mem_of_getElem? ht)
 rw [zc1, Bool.and_eq_true] at h2
 refine ⟨?_, h2.2, of_decide_eq_true h.2⟩
 have := h2.1
 simp at this
 omega
theorem smp_bd {x : Int} (h : M.smp x = true) : -2147483648 ≤ x ∧ x ≤ 2147483647 := zby.1 h
theorem zaq {xs : List Int} (h : xs.all M.smp = true) {k : Nat} {x : Int} (hx : xs[k]? = some x) : -2147483648 ≤ x ∧ x ≤ 2147483647 := smp_bd (List.all_eq_true.1 h x (List.mem_of_getElem? hx))
theorem zgy {xs : List Int} (h : 1 ≤ xs.length) : ∃ a zs, xs = a :: zs := by
 match xs, h with
 | a :: zs, _ => exact ⟨a, zs, rfl⟩
theorem zs1 (a0 a1 a2 : Int) (A : Option Addr) (n c : Nat) (xs : List Int) (At : Option Addr) (nt ct : Nat) (tb : List (List Int)) (Ai : Option Addr) (ni ci : Nat) (ins : List Int) (As : Option Addr) (ns cs : Nat) (s : List Int) (w : World) (ht : RS tS w w.heap.size (.slice At nt ct) tb) (htb : zb4 tb = true) (hi : RI w w.heap.size Ai ni ins) (hs : RI w w.heap.size As ns s) (hcs : ns ≤ cs)
 (hok : zai (a0, a1, a2, xs) nt = true) (hil : ins.length = zf4 a0) (hia : ins.all M.smp = true) (hsl : s.length = zcp (a0, a1, a2, xs)) (hsa : s.all M.smp = true) :
 Calls Tryz.prog 196 #[.agg #[.int .i64 a0, .int .i64 a1, .int .i64 a2, .slice A n c], .slice At nt ct, .slice Ai ni ci, .slice As ns cs] w fun e w' => ∃ v, e = .returned (.tuple #[.int .i64 (zah (a0, a1, a2, xs) tb ins s), v]) ∧ OI 2 w.heap.size w' v (zak (a0, a1, a2, xs) ins s (zah (a0, a1, a2, xs) tb ins s)) ∧ Below w.heap.size w w' := by
 obtain ⟨hk, h6, h17⟩ := zea hok
 obtain ⟨hb5, hb10, hb11, hb13, hb17, -⟩ := zgw hok
 have hnt : tb.length = nt := ht.cap.1
 simp only at hk h6 h17
 rcases ze3 hk with rfl | rfl | rfl | rfl | rfl | rfl | rfl | rfl | rfl | rfl | rfl | rfl | rfl | rfl | rfl | rfl | rfl
 case inl =>
  obtain ⟨i0, rfl⟩ := len1 (show ins.length = 1 from hil)
  have hn := hi.len
  simp only [List.length_cons, List.length_nil] at hn
  subst hn
  obtain ⟨bi, oi, rfl, hbi, hci⟩ := zam hi (by omega)
  have c0 : w.cell? ⟨bi, oi, none⟩ = some (.int .i64 i0) := hci 0 _ rfl
  have e0 := zaq hia (k := 0) (x := i0) rfl
  exact (zem _ _ _ _ _ _ _ _ _ _ w (by simp) (fun W hB => zr2 _ _ _ _ _ _ _ _ _ _ _ _ W (by rw [hB.cell hbi]; exact c0))).mono fun e w' h => by simpa [zah, zak, M.i_] using h
 case inr.inl =>
  obtain rfl := len0 (show ins.length = 0 from hil)
  have hn := hi.len
  simp only [List.length_nil] at hn
  subst hn
  exact (zem _ _ _ _ _ _ _ _ _ _ w (by simp) (fun W hB => zr3 _ _ _ _ _ _ _ _ _ _ W)).mono fun e w' h => by simpa [zah, zak, M.i_] using h
 case inr.inr.inl =>
  obtain ⟨i0, i1, rfl⟩ := len2 (show ins.length = 2 from hil)
  have hn := hi.len
  simp only [List.length_cons, List.length_nil] at hn
  subst hn
  obtain ⟨bi, oi, rfl, hbi, hci⟩ := zam hi (by omega)
  have c0 : w.cell? ⟨bi, oi, none⟩ = some (.int .i64 i0) := hci 0 _ rfl
  have c1 : w.cell? ⟨bi, oi + 1, none⟩ = some (.int .i64 i1) := hci 1 _ rfl
  have e0 := zaq hia (k := 0) (x := i0) rfl
  have e1 := zaq hia (k := 1) (x := i1) rfl
  exact (zem _ _ _ _ _ _ _ _ _ _ w (by simp) (fun W hB => zr4 _ _ _ _ _ _ _ _ _ _  _ _ _ W (by rw [hB.cell hbi]; exact c0) (by rw [hB.cell hbi]; exact c1) ⟨e0.1, e0.2, e1.1, e1.2⟩)).mono fun e w' h => by simpa [zah, zak, M.i_] using h
 case inr.inr.inr.inl =>
  obtain ⟨i0, i1, rfl⟩ := len2 (show ins.length = 2 from hil)
  have hn := hi.len
  simp only [List.length_cons, List.length_nil] at hn
  subst hn
  obtain ⟨bi, oi, rfl, hbi, hci⟩ := zam hi (by omega)
  have c0 : w.cell? ⟨bi, oi, none⟩ = some (.int .i64 i0) := hci 0 _ rfl
  have c1 : w.cell? ⟨bi, oi + 1, none⟩ = some (.int .i64 i1) := hci 1 _ rfl
  have e0 := zaq hia (k := 0) (x := i0) rfl
  have e1 := zaq hia (k := 1) (x := i1) rfl
  exact (zem _ _ _ _ _ _ _ _ _ _ w (by simp) (fun W hB => zr5 _ _ _ _ _ _ _ _ _ _  _ _ _ W (by rw [hB.cell hbi]; exact c0) (by rw [hB.cell hbi]; exact c1) ⟨e0.1, e0.2, e1.1, e1.2⟩)).mono fun e w' h => by simpa [zah, zak, M.i_] using h
 case inr.inr.inr.inr.inl =>
  obtain ⟨i0, rfl⟩ := len1 (show ins.length = 1 from hil)
  have hn := hi.len
  simp only [List.length_cons, List.length_nil] at hn
  subst hn
  obtain ⟨bi, oi, rfl, hbi, hci⟩ := zam hi (by omega)
  have c0 : w.cell? ⟨bi, oi, none⟩ = some (.int .i64 i0) := hci 0 _ rfl
  have e0 := zaq hia (k := 0) (x := i0) rfl
  exact (zem _ _ _ _ _ _ _ _ _ _ w (by simp) (fun W hB => zr6 _ _ _ _ _ _ _ _ _ _ _ _ W (by rw [hB.cell hbi]; exact c0) (hb5 rfl) e0)).mono fun e w' h => by simpa [zah, zak, M.i_] using h
 case inr.inr.inr.inr.inr.inl =>
  obtain ⟨i0, rfl⟩ := len1 (show ins.length = 1 from hil)
  have hn := hi.len
  simp only [List.length_cons, List.length_nil] at hn
  subst hn
  obtain ⟨bi, oi, rfl, hbi, hci⟩ := zam hi (by omega)
  have c0 : w.cell? ⟨bi, oi, none⟩ = some (.int .i64 i0) := hci 0 _ rfl
  have e0 := zaq hia (k := 0) (x := i0) rfl
  have hsl2 : s.length = a1.toNat := hsl
  have hsr := h6 rfl
  obtain ⟨s0, ss, rfl⟩ := zgy (xs := s) (by omega)
  have hm := hs.len
  simp only [List.length_cons] at hm hsl2
  obtain ⟨bs, os_, rfl, hbs, hcs0⟩ := zam hs (by omega)
  have d0 : w.cell? ⟨bs, os_, none⟩ = some (.int .i64 s0) := hcs0 0 _ rfl
  have f0 := zaq hsa (k := 0) (x := s0) rfl
  exact (zmj _ _ _ _ _ _ _ _ _ _ _ _ _ _ _ _ w c0 hs (by omega) hcs).mono fun e w' h => by simpa [zah, zak, M.i_] using h
 case inr.inr.inr.inr.inr.inr.inl =>
  obtain ⟨i0, rfl⟩ := len1 (show ins.length = 1 from hil)
  have hn := hi.len
  simp only [List.length_cons, List.length_nil] at hn
  subst hn
  obtain ⟨bi, oi, rfl, hbi, hci⟩ := zam hi (by omega)
  have c0 : w.cell? ⟨bi, oi, none⟩ = some (.int .i64 i0) := hci 0 _ rfl
  have e0 := zaq hia (k := 0) (x := i0) rfl
  obtain ⟨s0, rfl⟩ := len1 (show s.length = 1 from hsl)
  have hm := hs.len
  simp only [List.length_cons, List.length_nil] at hm
  obtain ⟨bs, os_, rfl, hbs, hcs0⟩ := zam hs (by omega)
  have d0 : w.cell? ⟨bs, os_, none⟩ = some (.int .i64 s0) := hcs0 0 _ rfl
  have f0 := zaq hsa (k := 0) (x := s0) rfl
  exact (zsu _ _ _ _ _ _ _ _ _ _ _ _ _ _ _ w c0 d0 (by omega) e0 f0).mono fun e w' h => by simpa [zah, zak, M.i_] using h
 case inr.inr.inr.inr.inr.inr.inr.inl =>
  obtain ⟨i0, rfl⟩ := len1 (show ins.length = 1 from hil)
  have hn := hi.len
  simp only [List.length_cons, List.length_nil] at hn
  subst hn
  obtain ⟨bi, oi, rfl, hbi, hci⟩ := zam hi (by omega)
  have c0 : w.cell? ⟨bi, oi, none⟩ = some (.int .i64 i0) := hci 0 _ rfl
  have e0 := zaq hia (k := 0) (x := i0) rfl
  obtain ⟨s0, rfl⟩ := len1 (show s.length = 1 from hsl)
  have hm := hs.len
  simp only [List.length_cons, List.length_nil] at hm
  obtain ⟨bs, os_, rfl, hbs, hcs0⟩ := zam hs (by omega)
  have d0 : w.cell? ⟨bs, os_, none⟩ = some (.int .i64 s0) := hcs0 0 _ rfl
  have f0 := zaq hsa (k := 0) (x := s0) rfl
  exact (zsv _ _ _ _ _ _ _ _ _ _ _ _ _ _ _ w c0 d0 (by omega) e0 f0).mono fun e w' h => by simpa [zah, zak, M.i_] using h
 case inr.inr.inr.inr.inr.inr.inr.inr.inl =>
  obtain ⟨i0, i1, rfl⟩ := len2 (show ins.length = 2 from hil)
  have hn := hi.len
  simp only [List.length_cons, List.length_nil] at hn
  subst hn
  obtain ⟨bi, oi, rfl, hbi, hci⟩ := zam hi (by omega)
  have c0 : w.cell? ⟨bi, oi, none⟩ = some (.int .i64 i0) := hci 0 _ rfl
  have c1 : w.cell? ⟨bi, oi + 1, none⟩ = some (.int .i64 i1) := hci 1 _ rfl
  have e0 := zaq hia (k := 0) (x := i0) rfl
  have e1 := zaq hia (k := 1) (x := i1) rfl
  exact (zem _ _ _ _ _ _ _ _ _ _ w (by simp) (fun W hB => zr7 _ _ _ _ _ _ _ _ _ _  _ _ _ W (by rw [hB.cell hbi]; exact c0) (by rw [hB.cell hbi]; exact c1) ⟨e0.1, e0.2, e1.1, e1.2⟩)).mono fun e w' h => by simpa [zah, zak, M.i_] using h
 case inr.inr.inr.inr.inr.inr.inr.inr.inr.inl =>
  obtain ⟨i0, rfl⟩ := len1 (show ins.length = 1 from hil)
  have hn := hi.len
  simp only [List.length_cons, List.length_nil] at hn
  subst hn
  obtain ⟨bi, oi, rfl, hbi, hci⟩ := zam hi (by omega)
  have c0 : w.cell? ⟨bi, oi, none⟩ = some (.int .i64 i0) := hci 0 _ rfl
  have e0 := zaq hia (k := 0) (x := i0) rfl
  exact (zem _ _ _ _ _ _ _ _ _ _ w (by simp) (fun W hB => zr8 _ _ _ _ _ _ _ _ _ _ _ _ W (by rw [hB.cell hbi]; exact c0) (hb10 rfl) e0)).mono fun e w' h => by simpa [zah, zak, M.i_] using h
 case inr.inr.inr.inr.inr.inr.inr.inr.inr.inr.inl =>
  obtain ⟨i0, rfl⟩ := len1 (show ins.length = 1 from hil)
  have hn := hi.len
  simp only [List.length_cons, List.length_nil] at hn
  subst hn
  obtain ⟨bi, oi, rfl, hbi, hci⟩ := zam hi (by omega)
  have c0 : w.cell? ⟨bi, oi, none⟩ = some (.int .i64 i0) := hci 0 _ rfl
  have e0 := zaq hia (k := 0) (x := i0) rfl
  exact (zem _ _ _ _ _ _ _ _ _ _ w (by simp) (fun W hB => zr9 _ _ _ _ _ _ _ _ _ _ _ _ W (by rw [hB.cell hbi]; exact c0) (hb11 rfl) e0)).mono fun e w' h => by simpa [zah, zak, M.i_] using h
 case inr.inr.inr.inr.inr.inr.inr.inr.inr.inr.inr.inl =>
  obtain ⟨i0, rfl⟩ := len1 (show ins.length = 1 from hil)
  have hn := hi.len
  simp only [List.length_cons, List.length_nil] at hn
  subst hn
  obtain ⟨bi, oi, rfl, hbi, hci⟩ := zam hi (by omega)
  have c0 : w.cell? ⟨bi, oi, none⟩ = some (.int .i64 i0) := hci 0 _ rfl
  have e0 := zaq hia (k := 0) (x := i0) rfl
  obtain ⟨s0, rfl⟩ := len1 (show s.length = 1 from hsl)
  have hm := hs.len
  simp only [List.length_cons, List.length_nil] at hm
  obtain ⟨bs, os_, rfl, hbs, hcs0⟩ := zam hs (by omega)
  have d0 : w.cell? ⟨bs, os_, none⟩ = some (.int .i64 s0) := hcs0 0 _ rfl
  have f0 := zaq hsa (k := 0) (x := s0) rfl
  exact (zsw _ _ _ _ _ _ _ _ _ _ _ _ _ _ _ w c0 d0 (by omega) e0 f0).mono fun e w' h => by simpa [zah, zak, M.i_] using h
 case inr.inr.inr.inr.inr.inr.inr.inr.inr.inr.inr.inr.inl =>
  obtain ⟨i0, rfl⟩ := len1 (show ins.length = 1 from hil)
  have hn := hi.len
  simp only [List.length_cons, List.length_nil] at hn
  subst hn
  obtain ⟨bi, oi, rfl, hbi, hci⟩ := zam hi (by omega)
  have c0 : w.cell? ⟨bi, oi, none⟩ = some (.int .i64 i0) := hci 0 _ rfl
  have e0 := zaq hia (k := 0) (x := i0) rfl
  have h13 := hb13 rfl
  obtain ⟨j, rfl⟩ : ∃ j : Nat, a1 = (j : Int) := ⟨a1.toNat, by omega⟩
  have hjn : j < nt := by omega
  obtain ⟨bt, ot, A1, c1, t, rfl, hbt, X, hct, hrt, -⟩ := zdr ht (Lib.hid (fun x hx => by obtain ⟨k, hk⟩ := List.getElem?_of_mem hx; have := (zgx htb hk).1; omega)) hjn
  obtain ⟨htl, -, ht4⟩ := zgx htb X.out
  have hcel : zaf tb j = t := by rw [zaf, X.out]; rfl
  exact (zem _ _ _ _ _ _ _ _ _ _ w (by simp) (fun W hB => zsa _ _ _ _ _ _ _ _ _ _ _ _ _ _ _ _ _ t W (by rw [hB.cell hbi]; exact c0) ⟨rfl, by omega, by omega⟩ (by rw [hB.cell hbt]; exact hct) (hrt.later hB) htl)).mono fun e w' h => by simpa [zah, zak, M.i_, hcel] using h
 case inr.inr.inr.inr.inr.inr.inr.inr.inr.inr.inr.inr.inr.inl =>
  obtain rfl := len0 (show ins.length = 0 from hil)
  have hn := hi.len
  simp only [List.length_nil] at hn
  subst hn
  obtain ⟨s0, rfl⟩ := len1 (show s.length = 1 from hsl)
  have hm := hs.len
  simp only [List.length_cons, List.length_nil] at hm
  obtain ⟨bs, os_, rfl, hbs, hcs0⟩ := zam hs (by omega)
  have d0 : w.cell? ⟨bs, os_, none⟩ = some (.int .i64 s0) := hcs0 0 _ rfl
  have f0 := zaq hsa (k := 0) (x := s0) rfl
  exact (zsx _ _ _ _ _ _ _ _ _ _ _ _ _ w d0 (by omega) f0).mono fun e w' h => by simpa [zah, zak, M.i_] using h
 case inr.inr.inr.inr.inr.inr.inr.inr.inr.inr.inr.inr.inr.inr.inl =>
  obtain ⟨i0, i1, i2, rfl⟩ := len3 (show ins.length = 3 from hil)
  have hn := hi.len
  simp only [List.length_cons, List.length_nil] at hn
  subst hn
  obtain ⟨bi, oi, rfl, hbi, hci⟩ := zam hi (by omega)
  have c0 : w.cell? ⟨bi, oi, none⟩ = some (.int .i64 i0) := hci 0 _ rfl
  have c1 : w.cell? ⟨bi, oi + 1, none⟩ = some (.int .i64 i1) := hci 1 _ rfl
  have c2 : w.cell? ⟨bi, oi + 2, none⟩ = some (.int .i64 i2) := hci 2 _ rfl
  have e0 := zaq hia (k := 0) (x := i0) rfl
  have e1 := zaq hia (k := 1) (x := i1) rfl
  have e2 := zaq hia (k := 2) (x := i2) rfl
  exact (zem _ _ _ _ _ _ _ _ _ _ w (by simp) (fun W hB => zsb _ _ _ _ _ _ _ _ _ _ _  _ _ _ W (by rw [hB.cell hbi]; exact c0) (by rw [hB.cell hbi]; exact c1) (by rw [hB.cell hbi]; exact c2) ⟨e0.1, e0.2, e1.1, e1.2, e2.1, e2.2⟩)).mono fun e w' h => by simpa [zah, zak, M.i_] using h
 case inr.inr.inr.inr.inr.inr.inr.inr.inr.inr.inr.inr.inr.inr.inr.inl =>
  obtain ⟨i0, i1, rfl⟩ := len2 (show ins.length = 2 from hil)
  have hn := hi.len
  simp only [List.length_cons, List.length_nil] at hn
  subst hn
  obtain ⟨bi, oi, rfl, hbi, hci⟩ := zam hi (by omega)
  have c0 : w.cell? ⟨bi, oi, none⟩ = some (.int .i64 i0) := hci 0 _ rfl
  have c1 : w.cell? ⟨bi, oi + 1, none⟩ = some (.int .i64 i1) := hci 1 _ rfl
  have e0 := zaq hia (k := 0) (x := i0) rfl
  have e1 := zaq hia (k := 1) (x := i1) rfl
  obtain ⟨s0, rfl⟩ := len1 (show s.length = 1 from hsl)
  have hm := hs.len
  simp only [List.length_cons, List.length_nil] at hm
  obtain ⟨bs, os_, rfl, hbs, hcs0⟩ := zam hs (by omega)
  have d0 : w.cell? ⟨bs, os_, none⟩ = some (.int .i64 s0) := hcs0 0 _ rfl
  have f0 := zaq hsa (k := 0) (x := s0) rfl
  exact (zsy _ _ _ _ _ _ _ _ _ _ _ _ _ _ _ _ w c0 c1 d0 (by omega) ⟨e0.1, e0.2, e1.1, e1.2⟩ f0).mono fun e w' h => by simpa [zah, zak, M.i_] using h
 case inr.inr.inr.inr.inr.inr.inr.inr.inr.inr.inr.inr.inr.inr.inr.inr =>
  obtain ⟨i0, rfl⟩ := len1 (show ins.length = 1 from hil)
  have hn := hi.len
  simp only [List.length_cons, List.length_nil] at hn
  subst hn
  obtain ⟨bi, oi, rfl, hbi, hci⟩ := zam hi (by omega)
  have c0 : w.cell? ⟨bi, oi, none⟩ = some (.int .i64 i0) := hci 0 _ rfl
  have e0 := zaq hia (k := 0) (x := i0) rfl
  have hsl2 : s.length = a2.toNat := hsl
  have hsr := h17 rfl
  obtain ⟨s0, ss, rfl⟩ := zgy (xs := s) (by omega)
  have hm := hs.len
  simp only [List.length_cons] at hm hsl2
  obtain ⟨bs, os_, rfl, hbs, hcs0⟩ := zam hs (by omega)
  have d0 : w.cell? ⟨bs, os_, none⟩ = some (.int .i64 s0) := hcs0 0 _ rfl
  have f0 := zaq hsa (k := 0) (x := s0) rfl
  exact (zsz _ _ _ _ _ _ _ _ _ _ _ _ _ _ _ _ w c0 hs (by omega) hcs (hb17 rfl) e0 f0).mono fun e w' h => by simpa [zah, zak, M.i_] using h
theorem zs2 (bn on_ : Nat) (a0 a1 a2 : Int) (xs : List Int) (At : Option Addr) (nt ct : Nat) (tb : List (List Int)) (Ai : Option Addr) (ni ci : Nat) (ins : List Int) (As : Option Addr) (ns cs : Nat) (s : List Int) (w : World) (ht : RS tS w w.heap.size (.slice At nt ct) tb) (htb : zb4 tb = true) (hi : RI w w.heap.size Ai ni ins) (hs : RI w w.heap.size As ns s) (hcs : ns ≤ cs)
 (hok : zai (a0, a1, a2, xs) nt = true) (hil : ins.length = zf4 a0) (hia : ins.all M.smp = true) (hsl : s.length = zcp (a0, a1, a2, xs)) (hsa : s.all M.smp = true) (p0 : w.cell? ⟨bn, on_, none⟩ = some (.int .i64 a0)) (p1 : w.cell? ⟨bn, on_ + 1, none⟩ = some (.int .i64 a1)) :
 Calls Tryz.prog 193 #[.pointer (some ⟨bn, on_, none⟩), .slice At nt ct, .slice Ai ni ci, .slice As ns cs] w fun e w' => e = .returned (.int .i64 (zah (a0, a1, a2, xs) tb ins s)) ∧ Below w.heap.size w w' := by
 obtain ⟨hk, h6, h17⟩ := zea hok
 obtain ⟨hb5, hb10, hb11, hb13, hb17, -⟩ := zgw hok
 have hnt : tb.length = nt := ht.cap.1
 simp only at hk h6 h17
 rcases ze3 hk with rfl | rfl | rfl | rfl | rfl | rfl | rfl | rfl | rfl | rfl | rfl | rfl | rfl | rfl | rfl | rfl | rfl
 case inl =>
  obtain ⟨i0, rfl⟩ := len1 (show ins.length = 1 from hil)
  have hn := hi.len
  simp only [List.length_cons, List.length_nil] at hn
  subst hn
  obtain ⟨bi, oi, rfl, hbi, hci⟩ := zam hi (by omega)
  have c0 : w.cell? ⟨bi, oi, none⟩ = some (.int .i64 i0) := hci 0 _ rfl
  have e0 := zaq hia (k := 0) (x := i0) rfl
  exact (zsc _ _ _ _ _ _ _ _ _ _ _ _ _ w c0 p0 p1).mono fun e w' h => by simpa [zah, zak, M.i_] using h
 case inr.inl =>
  obtain rfl := len0 (show ins.length = 0 from hil)
  have hn := hi.len
  simp only [List.length_nil] at hn
  subst hn
  exact (zsd _ _ _ _ _ _ _ _ _ _ _ w  p0 p1).mono fun e w' h => by simpa [zah, zak, M.i_] using h
 case inr.inr.inl =>
  obtain ⟨i0, i1, rfl⟩ := len2 (show ins.length = 2 from hil)
  have hn := hi.len
  simp only [List.length_cons, List.length_nil] at hn
  subst hn
  obtain ⟨bi, oi, rfl, hbi, hci⟩ := zam hi (by omega)
  have c0 : w.cell? ⟨bi, oi, none⟩ = some (.int .i64 i0) := hci 0 _ rfl
  have c1 : w.cell? ⟨bi, oi + 1, none⟩ = some (.int .i64 i1) := hci 1 _ rfl
  have e0 := zaq hia (k := 0) (x := i0) rfl
  have e1 := zaq hia (k := 1) (x := i1) rfl
  exact (zse _ _ _ _ _ _ _ _ _ _ _ _ _ _ w c0 c1 ⟨e0.1, e0.2, e1.1, e1.2⟩ p0 p1).mono fun e w' h => by simpa [zah, zak, M.i_] using h
 case inr.inr.inr.inl =>
  obtain ⟨i0, i1, rfl⟩ := len2 (show ins.length = 2 from hil)
  have hn := hi.len
  simp only [List.length_cons, List.length_nil] at hn
  subst hn
  obtain ⟨bi, oi, rfl, hbi, hci⟩ := zam hi (by omega)
  have c0 : w.cell? ⟨bi, oi, none⟩ = some (.int .i64 i0) := hci 0 _ rfl
  have c1 : w.cell? ⟨bi, oi + 1, none⟩ = some (.int .i64 i1) := hci 1 _ rfl
  have e0 := zaq hia (k := 0) (x := i0) rfl
  have e1 := zaq hia (k := 1) (x := i1) rfl
  exact (zsf _ _ _ _ _ _ _ _ _ _ _ _ _ _ w c0 c1 ⟨e0.1, e0.2, e1.1, e1.2⟩ p0 p1).mono fun e w' h => by simpa [zah, zak, M.i_] using h
 case inr.inr.inr.inr.inl =>
  obtain ⟨i0, rfl⟩ := len1 (show ins.length = 1 from hil)
  have hn := hi.len
  simp only [List.length_cons, List.length_nil] at hn
  subst hn
  obtain ⟨bi, oi, rfl, hbi, hci⟩ := zam hi (by omega)
  have c0 : w.cell? ⟨bi, oi, none⟩ = some (.int .i64 i0) := hci 0 _ rfl
  have e0 := zaq hia (k := 0) (x := i0) rfl
  exact (zsg _ _ _ _ _ _ _ _ _ _ _ _ _ w c0 (hb5 rfl) e0 p0 p1).mono fun e w' h => by simpa [zah, zak, M.i_] using h
 case inr.inr.inr.inr.inr.inl =>
  obtain ⟨i0, rfl⟩ := len1 (show ins.length = 1 from hil)
  have hn := hi.len
  simp only [List.length_cons, List.length_nil] at hn
  subst hn
  obtain ⟨bi, oi, rfl, hbi, hci⟩ := zam hi (by omega)
  have c0 : w.cell? ⟨bi, oi, none⟩ = some (.int .i64 i0) := hci 0 _ rfl
  have e0 := zaq hia (k := 0) (x := i0) rfl
  have hsl2 : s.length = a1.toNat := hsl
  have hsr := h6 rfl
  obtain ⟨s0, ss, rfl⟩ := zgy (xs := s) (by omega)
  have hm := hs.len
  simp only [List.length_cons] at hm hsl2
  obtain ⟨bs, os_, rfl, hbs, hcs0⟩ := zam hs (by omega)
  have d0 : w.cell? ⟨bs, os_, none⟩ = some (.int .i64 s0) := hcs0 0 _ rfl
  have f0 := zaq hsa (k := 0) (x := s0) rfl
  exact (zsh _ _ _ _ _ _ _ _ _ _ _ _ _ _ _ w c0 d0 (by omega) e0 f0 p0 p1).mono fun e w' h => by simpa [zah, zak, M.i_] using h
 case inr.inr.inr.inr.inr.inr.inl =>
  obtain ⟨i0, rfl⟩ := len1 (show ins.length = 1 from hil)
  have hn := hi.len
  simp only [List.length_cons, List.length_nil] at hn
  subst hn
  obtain ⟨bi, oi, rfl, hbi, hci⟩ := zam hi (by omega)
  have c0 : w.cell? ⟨bi, oi, none⟩ = some (.int .i64 i0) := hci 0 _ rfl
  have e0 := zaq hia (k := 0) (x := i0) rfl
  obtain ⟨s0, rfl⟩ := len1 (show s.length = 1 from hsl)
  have hm := hs.len
  simp only [List.length_cons, List.length_nil] at hm
  obtain ⟨bs, os_, rfl, hbs, hcs0⟩ := zam hs (by omega)
  have d0 : w.cell? ⟨bs, os_, none⟩ = some (.int .i64 s0) := hcs0 0 _ rfl
  have f0 := zaq hsa (k := 0) (x := s0) rfl
  exact (zsi _ _ _ _ _ _ _ _ _ _ _ _ _ _ _ w c0 d0 (by omega) e0 f0 p0 p1).mono fun e w' h => by simpa [zah, zak, M.i_] using h
 case inr.inr.inr.inr.inr.inr.inr.inl =>
  obtain ⟨i0, rfl⟩ := len1 (show ins.length = 1 from hil)
  have hn := hi.len
  simp only [List.length_cons, List.length_nil] at hn
  subst hn
  obtain ⟨bi, oi, rfl, hbi, hci⟩ := zam hi (by omega)
  have c0 : w.cell? ⟨bi, oi, none⟩ = some (.int .i64 i0) := hci 0 _ rfl
  have e0 := zaq hia (k := 0) (x := i0) rfl
  obtain ⟨s0, rfl⟩ := len1 (show s.length = 1 from hsl)
  have hm := hs.len
  simp only [List.length_cons, List.length_nil] at hm
  obtain ⟨bs, os_, rfl, hbs, hcs0⟩ := zam hs (by omega)
  have d0 : w.cell? ⟨bs, os_, none⟩ = some (.int .i64 s0) := hcs0 0 _ rfl
  have f0 := zaq hsa (k := 0) (x := s0) rfl
  exact (zsj _ _ _ _ _ _ _ _ _ _ _ _ _ _ _ w c0 d0 (by omega) e0 f0 p0 p1).mono fun e w' h => by simpa [zah, zak, M.i_] using h
 case inr.inr.inr.inr.inr.inr.inr.inr.inl =>
  obtain ⟨i0, i1, rfl⟩ := len2 (show ins.length = 2 from hil)
  have hn := hi.len
  simp only [List.length_cons, List.length_nil] at hn
  subst hn
  obtain ⟨bi, oi, rfl, hbi, hci⟩ := zam hi (by omega)
  have c0 : w.cell? ⟨bi, oi, none⟩ = some (.int .i64 i0) := hci 0 _ rfl
  have c1 : w.cell? ⟨bi, oi + 1, none⟩ = some (.int .i64 i1) := hci 1 _ rfl
  have e0 := zaq hia (k := 0) (x := i0) rfl
  have e1 := zaq hia (k := 1) (x := i1) rfl
  exact (zsk _ _ _ _ _ _ _ _ _ _ _ _ _ _ w c0 c1 ⟨e0.1, e0.2, e1.1, e1.2⟩ p0 p1).mono fun e w' h => by simpa [zah, zak, M.i_] using h
 case inr.inr.inr.inr.inr.inr.inr.inr.inr.inl =>
  obtain ⟨i0, rfl⟩ := len1 (show ins.length = 1 from hil)
  have hn := hi.len
  simp only [List.length_cons, List.length_nil] at hn
  subst hn
  obtain ⟨bi, oi, rfl, hbi, hci⟩ := zam hi (by omega)
  have c0 : w.cell? ⟨bi, oi, none⟩ = some (.int .i64 i0) := hci 0 _ rfl
  have e0 := zaq hia (k := 0) (x := i0) rfl
  exact (zsl _ _ _ _ _ _ _ _ _ _ _ _ _ w c0 (hb10 rfl) e0 p0 p1).mono fun e w' h => by simpa [zah, zak, M.i_] using h
 case inr.inr.inr.inr.inr.inr.inr.inr.inr.inr.inl =>
  obtain ⟨i0, rfl⟩ := len1 (show ins.length = 1 from hil)
  have hn := hi.len
  simp only [List.length_cons, List.length_nil] at hn
  subst hn
  obtain ⟨bi, oi, rfl, hbi, hci⟩ := zam hi (by omega)
  have c0 : w.cell? ⟨bi, oi, none⟩ = some (.int .i64 i0) := hci 0 _ rfl
  have e0 := zaq hia (k := 0) (x := i0) rfl
  exact (zsm _ _ _ _ _ _ _ _ _ _ _ _ _ w c0 (hb11 rfl) e0 p0 p1).mono fun e w' h => by simpa [zah, zak, M.i_] using h
 case inr.inr.inr.inr.inr.inr.inr.inr.inr.inr.inr.inl =>
  obtain ⟨i0, rfl⟩ := len1 (show ins.length = 1 from hil)
  have hn := hi.len
  simp only [List.length_cons, List.length_nil] at hn
  subst hn
  obtain ⟨bi, oi, rfl, hbi, hci⟩ := zam hi (by omega)
  have c0 : w.cell? ⟨bi, oi, none⟩ = some (.int .i64 i0) := hci 0 _ rfl
  have e0 := zaq hia (k := 0) (x := i0) rfl
  obtain ⟨s0, rfl⟩ := len1 (show s.length = 1 from hsl)
  have hm := hs.len
  simp only [List.length_cons, List.length_nil] at hm
  obtain ⟨bs, os_, rfl, hbs, hcs0⟩ := zam hs (by omega)
  have d0 : w.cell? ⟨bs, os_, none⟩ = some (.int .i64 s0) := hcs0 0 _ rfl
  have f0 := zaq hsa (k := 0) (x := s0) rfl
  exact (zsn _ _ _ _ _ _ _ _ _ _ _ _ _ _ _ w c0 d0 (by omega) e0 f0 p0 p1).mono fun e w' h => by simpa [zah, zak, M.i_] using h
 case inr.inr.inr.inr.inr.inr.inr.inr.inr.inr.inr.inr.inl =>
  obtain ⟨i0, rfl⟩ := len1 (show ins.length = 1 from hil)
  have hn := hi.len
  simp only [List.length_cons, List.length_nil] at hn
  subst hn
  obtain ⟨bi, oi, rfl, hbi, hci⟩ := zam hi (by omega)
  have c0 : w.cell? ⟨bi, oi, none⟩ = some (.int .i64 i0) := hci 0 _ rfl
  have e0 := zaq hia (k := 0) (x := i0) rfl
  have h13 := hb13 rfl
  obtain ⟨j, rfl⟩ : ∃ j : Nat, a1 = (j : Int) := ⟨a1.toNat, by omega⟩
  have hjn : j < nt := by omega
  obtain ⟨bt, ot, A1, c1, t, rfl, hbt, X, hct, hrt, -⟩ := zdr ht (Lib.hid (fun x hx => by obtain ⟨k, hk⟩ := List.getElem?_of_mem hx; have := (zgx htb hk).1; omega)) hjn
  obtain ⟨htl, -, ht4⟩ := zgx htb X.out
  have hcel : zaf tb j = t := by rw [zaf, X.out]; rfl
  exact (zso _ _ _ _ _ _ _ _ _ _ _ _ _ _ _ _ _ _ _ w c0 ⟨rfl, by omega, by omega⟩ hct hrt htl p0 p1).mono fun e w' h => by simpa [zah, zak, M.i_, hcel] using h
 case inr.inr.inr.inr.inr.inr.inr.inr.inr.inr.inr.inr.inr.inl =>
  obtain rfl := len0 (show ins.length = 0 from hil)
  have hn := hi.len
  simp only [List.length_nil] at hn
  subst hn
  obtain ⟨s0, rfl⟩ := len1 (show s.length = 1 from hsl)
  have hm := hs.len
  simp only [List.length_cons, List.length_nil] at hm
  obtain ⟨bs, os_, rfl, hbs, hcs0⟩ := zam hs (by omega)
  have d0 : w.cell? ⟨bs, os_, none⟩ = some (.int .i64 s0) := hcs0 0 _ rfl
  have f0 := zaq hsa (k := 0) (x := s0) rfl
  exact (zsp _ _ _ _ _ _ _ _ _ _ _ _ _ w d0 (by omega) f0 p0 p1).mono fun e w' h => by simpa [zah, zak, M.i_] using h
 case inr.inr.inr.inr.inr.inr.inr.inr.inr.inr.inr.inr.inr.inr.inl =>
  obtain ⟨i0, i1, i2, rfl⟩ := len3 (show ins.length = 3 from hil)
  have hn := hi.len
  simp only [List.length_cons, List.length_nil] at hn
  subst hn
  obtain ⟨bi, oi, rfl, hbi, hci⟩ := zam hi (by omega)
  have c0 : w.cell? ⟨bi, oi, none⟩ = some (.int .i64 i0) := hci 0 _ rfl
  have c1 : w.cell? ⟨bi, oi + 1, none⟩ = some (.int .i64 i1) := hci 1 _ rfl
  have c2 : w.cell? ⟨bi, oi + 2, none⟩ = some (.int .i64 i2) := hci 2 _ rfl
  have e0 := zaq hia (k := 0) (x := i0) rfl
  have e1 := zaq hia (k := 1) (x := i1) rfl
  have e2 := zaq hia (k := 2) (x := i2) rfl
  exact (zsq _ _ _ _ _ _ _ _ _ _ _ _ _ _ _ w c0 c1 c2 ⟨e0.1, e0.2, e1.1, e1.2, e2.1, e2.2⟩ p0 p1).mono fun e w' h => by simpa [zah, zak, M.i_] using h
 case inr.inr.inr.inr.inr.inr.inr.inr.inr.inr.inr.inr.inr.inr.inr.inl =>
  obtain ⟨i0, i1, rfl⟩ := len2 (show ins.length = 2 from hil)
  have hn := hi.len
  simp only [List.length_cons, List.length_nil] at hn
  subst hn
  obtain ⟨bi, oi, rfl, hbi, hci⟩ := zam hi (by omega)
  have c0 : w.cell? ⟨bi, oi, none⟩ = some (.int .i64 i0) := hci 0 _ rfl
  have c1 : w.cell? ⟨bi, oi + 1, none⟩ = some (.int .i64 i1) := hci 1 _ rfl
  have e0 := zaq hia (k := 0) (x := i0) rfl
  have e1 := zaq hia (k := 1) (x := i1) rfl
  obtain ⟨s0, rfl⟩ := len1 (show s.length = 1 from hsl)
  have hm := hs.len
  simp only [List.length_cons, List.length_nil] at hm
  obtain ⟨bs, os_, rfl, hbs, hcs0⟩ := zam hs (by omega)
  have d0 : w.cell? ⟨bs, os_, none⟩ = some (.int .i64 s0) := hcs0 0 _ rfl
  have f0 := zaq hsa (k := 0) (x := s0) rfl
  exact (zsr _ _ _ _ _ _ _ _ _ _ _ _ _ _ _ _ w c0 c1 d0 (by omega) ⟨e0.1, e0.2, e1.1, e1.2⟩ f0 p0 p1).mono fun e w' h => by simpa [zah, zak, M.i_] using h
 case inr.inr.inr.inr.inr.inr.inr.inr.inr.inr.inr.inr.inr.inr.inr.inr =>
  obtain ⟨i0, rfl⟩ := len1 (show ins.length = 1 from hil)
  have hn := hi.len
  simp only [List.length_cons, List.length_nil] at hn
  subst hn
  obtain ⟨bi, oi, rfl, hbi, hci⟩ := zam hi (by omega)
  have c0 : w.cell? ⟨bi, oi, none⟩ = some (.int .i64 i0) := hci 0 _ rfl
  have e0 := zaq hia (k := 0) (x := i0) rfl
  have hsl2 : s.length = a2.toNat := hsl
  have hsr := h17 rfl
  obtain ⟨s0, ss, rfl⟩ := zgy (xs := s) (by omega)
  have hm := hs.len
  simp only [List.length_cons] at hm hsl2
  obtain ⟨bs, os_, rfl, hbs, hcs0⟩ := zam hs (by omega)
  have d0 : w.cell? ⟨bs, os_, none⟩ = some (.int .i64 s0) := hcs0 0 _ rfl
  have f0 := zaq hsa (k := 0) (x := s0) rfl
  exact (zss _ _ _ _ _ _ _ _ _ _ _ _ _ _ _ w c0 d0 (by omega) (hb17 rfl) e0 f0 p0 p1).mono fun e w' h => by simpa [zah, zak, M.i_] using h
end
end Go.Proofs.YtffhodocjjkkoaaGreat
