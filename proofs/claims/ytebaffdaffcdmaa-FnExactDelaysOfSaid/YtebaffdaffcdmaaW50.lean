import Derived.Test.YtebaffdaffcdmaaW41
namespace Go.Proofs.Ytebaffdaffcdmaa
open Go.RowKit
set_option maxHeartbeats 1000000
set_option maxRecDepth 100000
section
variable {α : Type} {t : Ty α} {e : TypeId} {w : World} {B : Nat} {F : Nat → Prop} {v : Value} {xs : List α}
theorem sl_R : (t.sl e).R w B [v] xs ↔ RS t w B v xs := ⟨fun ⟨v, h, h'⟩ => by injection h with h; rw [h]; exact h', fun h => ⟨_, rfl, h⟩⟩
theorem sl_O : (t.sl e).O w F [v] xs ↔ OS t e w F v xs := ⟨fun ⟨v, h, h'⟩ => by injection h with h; rw [h]; exact h', fun h => ⟨_, rfl, h⟩⟩
end
theorem open_S {w : World} {B : Nat} {cs : List Value} {x : List Int} (h : tS.R w B cs x) : ∃ A n c, cs = [.slice A n c] := by
  obtain ⟨v, rfl, hr⟩ := h
  obtain ⟨A, c, rfl⟩ := hr.shape
  exact ⟨_, _, _, rfl⟩
theorem keptB_all {B : Nat} {w w1 w2 : World} (h1 : Below B w1 w2) (hB : B = w1.heap.size) (h0 : Below w.heap.size w w1) : Below w.heap.size w w2 := by
  subst hB
  exact h0.trans (h1.mono h0.size)
theorem keptB {B : Nat} {w w1 w2 : World} {b o : Nat} {u : Value} (h1 : Below B w1 w2) (hB : B = w1.heap.size) (h0 : Below w.heap.size w w1) (h : w.cell? ⟨b, o, none⟩ = some u) (hb : b < w.heap.size) : w2.cell? ⟨b, o, none⟩ = some u := by
  subst hB
  rw [h1.cell (by simpa using Nat.lt_of_lt_of_le hb h0.size), h0.cell (by simpa using hb)]
  exact h
theorem OS.openAt {α : Type} {t : Ty α} {e : TypeId} {w : World} {F : Nat → Prop} {v : Value} {xs : List α} (h : OS t e w F v xs) {k : Nat} {x : α} (hx : xs[k]? = some x) : ∃ css Fs, OH t e w F v xs css Fs k ∧ ∃ cs, css[k]? = some cs ∧ t.O w (Fs k) cs x := by
  obtain ⟨hk, rfl⟩ := List.getElem?_eq_some_iff.1 hx
  exact h.open hk
theorem RS.atX {α : Type} {t : Ty α} {w : World} {B : Nat} {v : Value} {xs : List α} (h : RS t w B v xs) {k : Nat} {x : α} (hx : xs[k]? = some x) : ∃ b o c cs, v = .slice (some ⟨b, o, none⟩) xs.length c ∧ b < B ∧ cs.length = t.s ∧ t.R w B cs x ∧ ∀ j u, cs[j]? = some u → w.cell? ⟨b, o + k * t.s + j, none⟩ = some u := by
  obtain ⟨hk, rfl⟩ := List.getElem?_eq_some_iff.1 hx
  exact h.at hk
theorem nat_le_cast {a b : Nat} (h : a ≤ b) : (a : Int) ≤ (b : Int) := by omega
abbrev tSS : Ty (List (List Int)) := tS.sl 41
abbrev hSS : Hs (List (List Int)) := hS.sl
theorem nf_eq_SS (A A' : Option Addr) (n c n' c' : Nat) (xs : List (List Int)) (w : World) (hx : tSS.R w w.heap.size [.slice A n c] xs) (hy : tSS.R w w.heap.size [.slice A' n' c'] xs) (hn : hSS.sz xs ≤ 100000000) :
    Calls Try.prog 34 #[.slice A n c, .slice A' n' c'] w fun e w' => e = .returned (.bool true) ∧ Below w.heap.size w w' := by
  have hr := sl_R.1 hx
  have hr' := sl_R.1 hy
  obtain rfl : xs.length = n := hr.cap.1
  obtain rfl : xs.length = n' := hr'.cap.1
  have hsz : xs.length + hS.szL xs ≤ 100000000 := hn
  clear hx hy hn
  go_enter Try.func34, Try.ntmps34
  go_wp2
  go_loopw [5] (fun i wr => ∃ k : Nat, i = .int .i64 k ∧ k ≤ xs.length ∧ Below w.heap.size w wr) (fun i _ => xs.length - (intOf i).toNat)
  case atStart => exact ⟨0, rfl, by omega, Below.refl _ _⟩
  case round =>
    obtain ⟨k, rfl, hk, hb⟩ := hrel
    by_cases hlt : k < xs.length
    · obtain ⟨b, o, c1, cs, hv, hab, -, hE, hc⟩ := (hr.below hb).at hlt
      obtain ⟨b', o', c1', cs', hv', hab', -, hE', hc'⟩ := (hr'.below hb).at hlt
      simp only [Value.slice.injEq] at hv hv'
      obtain ⟨rfl, -, rfl⟩ := hv
      obtain ⟨rfl, -, rfl⟩ := hv'
      obtain ⟨A1, n1, c1, rfl⟩ := open_S hE
      obtain ⟨A2, n2, c2, rfl⟩ := open_S hE'
      have hc0 : wr.cell? ⟨b, o + k * 1, none⟩ = some (.slice A1 n1 c1) := hc 0 _ rfl
      have hd0 : wr.cell? ⟨b', o' + k * 1, none⟩ = some (.slice A2 n2 c2) := hc' 0 _ rfl
      have hbr : b < wr.heap.size := Nat.lt_of_lt_of_le hab hb.size
      have hbr' : b' < wr.heap.size := Nat.lt_of_lt_of_le hab' hb.size
      have hs1 : hS.sz xs[k] ≤ 100000000 := by have := hS.szL_at (List.getElem?_eq_getElem hlt); omega
      have hF := tS.later (tS.more hb.size hE) (below_drewN (Below.refl _ _) 1)
      have hF' := tS.later (tS.more hb.size hE') (below_drewN (Below.refl _ _) 1)
      clear hc hc' hE hE'
      rw [Nat.mul_one] at hc0 hd0
      go_wp2
      go_region_held3 (fun w' => Below wr.heap.size wr w' ∧ w'.cell? ⟨b, o + k, none⟩ = some (.slice A1 n1 c1) ∧ w'.cell? ⟨b', o' + k, none⟩ = some (.slice A2 n2 c2))
        (first
          | exact ⟨below_drewN (Below.refl _ _) _, hc0, hd0⟩
          | exact ⟨keptB_all bel2 rfl (And.left (by assumption)), keptB bel2 rfl (And.left (by assumption)) hc0 hbr, keptB bel2 rfl (And.left (by assumption)) hd0 hbr'⟩)
        (first | (go_at_call 28; refine (nf_eq_S _ _ _ _ _ _ _ _ hF hF' hs1).mono ?_; rintro e w2 ⟨rfl, bel2⟩))
      go_wp2
      go_roundw
      case rel => exact ⟨k + 1, by go_num, by omega, hb.trans ((keptB_all bel2 rfl (below_drewN (Below.refl _ _) _)).mono hb.size)⟩
      case measure => simp [intOf]; omega
    · go_wp2
      go_ret
      exact ⟨rfl, hb⟩
theorem nf_mark_SS (A : Option Addr) (n c : Nat) (k : Int) (xs : List (List Int)) (w : World) (F : Nat → Prop) (hx : tSS.O w F [.slice A n c] xs) (hk : 0 ≤ k ∧ k + (hSS.cnt xs : Int) ≤ 1000000000) :
    Calls Try.prog 35 #[.slice A n c, .int .i64 k] w fun e w' => e = .returned (.int .i64 (k + hSS.cnt xs)) ∧ tSS.O w' F [.slice A n c] (hSS.mark k xs) ∧ Chg F w w' := by
  have ow := sl_O.1 hx
  have hcap := ow.read.cap
  obtain rfl : xs.length = n := hcap.1
  have hl : xs.length ≤ 9223372036854775807 := by have h1 := hcap.2; unfold maxLen at h1; omega
  clear hcap
  have hcn : k + (hS.cntL xs : Int) ≤ 1000000000 := hk.2
  clear hx
  go_enter Try.func35, Try.ntmps35
  go_wp2
  go_loopw [1, 5] (fun q i wr => ∃ j : Nat, i = .int .i64 j ∧ j ≤ xs.length ∧ q = .int .i64 (k + (hS.cntL (xs.take j) : Int)) ∧ OS tS 41 wr F (.slice A xs.length c) ((hS.mkL k xs).take j ++ xs.drop j) ∧ Chg F w wr)
    (fun _ i _ => xs.length - (intOf i).toNat)
  case atStart => exact ⟨0, rfl, by omega, by simp [Hs.cntL], by simpa using ow, Chg.refl _ _⟩
  case round =>
    obtain ⟨j, rfl, hj, rfl, own, hg⟩ := hrel
    have hct := hS.cntL_mono xs j
    by_cases hlt : j < xs.length
    · have hml := hS.mkL_len k xs
      have hyj := Lib.hid (show ((hS.mkL k xs).take j ++ xs.drop j)[j]? = some xs[j] by rw [M.mid_at hml]; exact List.getElem?_eq_getElem hlt)
      obtain ⟨css, Fs, hole, cs, hcs, hE⟩ := own.openAt hyj.out
      obtain ⟨A1, n1, c1, rfl⟩ := open_S (tS.read hE)
      obtain ⟨g, rfl, hFg, hFn, hgl, -⟩ := hole.form (List.getElem?_eq_some_iff.1 hyj.out).1
      have hc0 : wr.cell? ⟨g, j * 1 + 0, none⟩ = some (.slice A1 n1 c1) := (hole.cell hcs (j := 0) rfl).1
      rw [Nat.mul_one, Nat.add_zero] at hc0
      have hc1 := hS.cntL_at (List.getElem?_eq_getElem hlt)
      have hmk := Lib.hid (hS.mkL_at k (List.getElem?_eq_getElem hlt))
      have hct2 := Lib.hid (hS.cntL_take (List.getElem?_eq_getElem hlt))
      have hml' := Lib.hid hml
      clear hml
      go_wp2_with (go_at_call 30; refine (nf_mark_S _ _ _ _ _ _ _ hE (by omega)).mono ?_; rintro e w2 ⟨rfl, o2, ch⟩)
      go_roundw
      case rel =>
        have h3 := (hole.chg ch).fill hcs o2
        rw [M.set_mid hml'.out hmk.out] at h3
        exact ⟨j + 1, by go_num, by omega, by rw [hct2.out]; go_num, h3, hg.trans (ch.wide hole.fits)⟩
      case measure => simp [intOf]; omega
    · obtain rfl : xs.length = j := by omega
      go_wp2
      go_ret
      rw [List.take_of_length_le (by rw [Hs.mkL_len]; omega), List.drop_eq_nil_of_le (by omega), List.append_nil] at own
      exact ⟨by rw [List.take_of_length_le (Nat.le_refl _)]; rfl, sl_O.2 own, hg⟩
theorem nf_held_SS (A : Option Addr) (n c : Nat) (k : Int) (xs : List (List Int)) (w : World) (hx : tSS.R w w.heap.size [.slice A n c] (hSS.mark k xs)) (hk : 0 ≤ k ∧ k + (hSS.cnt xs : Int) ≤ 1000000000) :
    Calls Try.prog 36 #[.slice A n c, .int .i64 k] w fun e w' => e = .returned (.int .i64 (k + hSS.cnt xs)) ∧ Below w.heap.size w w' := by
  have hr : RS tS w w.heap.size (.slice A n c) (hS.mkL k xs) := sl_R.1 hx
  obtain rfl : xs.length = n := by rw [← hr.cap.1, Hs.mkL_len]
  have hl : xs.length ≤ 9223372036854775807 := by have h1 := hr.cap.2; unfold maxLen at h1; omega
  have hcn : k + (hS.cntL xs : Int) ≤ 1000000000 := hk.2
  have hml := Lib.hid (hS.mkL_len k xs)
  clear hx
  go_enter Try.func36, Try.ntmps36
  go_wp2
  go_loopw [1, 5] (fun q i wr => ∃ j : Nat, i = .int .i64 j ∧ j ≤ xs.length ∧ q = .int .i64 (k + (hS.cntL (xs.take j) : Int)) ∧ Below w.heap.size w wr) (fun _ i _ => xs.length - (intOf i).toNat)
  case atStart => exact ⟨0, rfl, by omega, by simp [Hs.cntL], Below.refl _ _⟩
  case round =>
    obtain ⟨j, rfl, hj, rfl, hb⟩ := hrel
    have hct := hS.cntL_mono xs j
    by_cases hlt : j < xs.length
    · obtain ⟨b, o, c1, cs, hv, hab, -, hE, hc⟩ := (hr.below hb).at (k := j) (by rw [hml.out]; exact hlt)
      simp only [Value.slice.injEq] at hv
      obtain ⟨rfl, -, rfl⟩ := hv
      obtain ⟨A1, n1, c1, rfl⟩ := open_S hE
      have hc0 : wr.cell? ⟨b, o + j * 1, none⟩ = some (.slice A1 n1 c1) := hc 0 _ rfl
      rw [Nat.mul_one] at hc0
      have hmk := hS.mkL_at k (List.getElem?_eq_getElem hlt)
      rw [List.getElem?_eq_getElem (by rw [hml.out]; exact hlt), Option.some.injEq] at hmk
      rw [hmk] at hE
      have hF := tS.more hb.size hE
      have hc1 := hS.cntL_at (List.getElem?_eq_getElem hlt)
      have hct2 := Lib.hid (hS.cntL_take (List.getElem?_eq_getElem hlt))
      clear hc hE hmk
      go_wp2_with (go_at_call 31; refine (nf_held_S _ _ _ _ _ _ hF (by omega)).mono ?_; rintro e w2 ⟨rfl, bel2⟩)
      go_roundw
      case rel => exact ⟨j + 1, by go_num, by omega, by rw [hct2.out]; go_num, hb.trans (bel2.mono hb.size)⟩
      case measure => simp [intOf]; omega
    · obtain rfl : xs.length = j := by omega
      go_wp2
      go_ret
      exact ⟨by rw [List.take_of_length_le (Nat.le_refl _)]; rfl, hb⟩
end Go.Proofs.Ytebaffdaffcdmaa
