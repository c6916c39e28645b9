import Derived.Test.YtafbhangjeddaaaW50
import Derived.Test.YtafbhangjeddaaaW4
namespace Go.Proofs.Ytafbhangjeddaaa
open Go.RowKit
set_option maxHeartbeats 1000000
set_option maxRecDepth 100000
theorem OS.made0 {α : Type} (t : Ty α) (e : TypeId) (w : World) : OS t e (w.alloc (.cells #[] e)) (Iv w.heap.size (w.alloc (.cells #[] e)).heap.size) (.slice (some ⟨w.heap.size, 0, none⟩) 0 0) [] :=
  ⟨[], fun _ _ => False, World.ownsRow_made _ _ _ (Nat.zero_le _) (by simp [maxLen]) (by simp), rfl, fun g hg => by simp only [Value.ownBlock, Option.some.injEq] at hg; subst hg; exact ⟨Nat.le_refl _, by simp⟩, fun _ _ h => h.elim, fun _ _ _ _ h => h.elim, fun k h => by simp at h⟩
theorem ei_S : EI Try.prog 29 22 (.slice none 0 0) 1 24 := ⟨Try.underlying29, by kernel_rfl, rfl, by decide⟩
theorem cl_SS (x : List (List Int)) : hSS.cnt x ≤ hSS.sz x := by
  show hS.cntL x ≤ x.length + hS.szL x
  have : hS.cntL x ≤ hS.szL x := by
    induction x with
    | nil => exact Nat.le_refl _
    | cons y ys ih =>
      rw [Hs.cntL, Hs.szL, hS_cnt, hS_sz]
      omega
  omega
def M.phases (xs : List Int) (f : Nat) : List (List Int) := (List.range f).map fun r => M.decL xs f r
theorem M.phases_len (xs : List Int) (f : Nat) : (M.phases xs f).length = f := by simp [M.phases]
theorem M.phases_at {xs : List Int} {f r : Nat} (h : r < f) : (M.phases xs f)[r]? = some (M.decL xs f r) := by simp [M.phases, h]
def M.phasesR (xs : List Int) (f : Int) : List (List Int) × Int := if M.taps xs then (if M.fac f then (M.phases xs f.toNat, 0) else ([], 2)) else ([], 1)
/-- What a function of signals and a code gives back. -/
def RetSS (w : World) (r : List (List Int) × Int) (en : Ending) (w' : World) : Prop :=
  ∃ v, en = .returned (.tuple #[v, .int .i64 r.2]) ∧ OS tS 22 w' (Iv w.heap.size w'.heap.size) v r.1 ∧ Below w.heap.size w w'
theorem retSS_nf {w w' : World} {r : List (List Int) × Int} {en : Ending} (h : RetSS w r en w') :
    ∃ A n c, en = .returned (.tuple #[.slice A n c, .int .i64 r.2]) ∧ tSS.O w' (Iv w.heap.size w'.heap.size) [.slice A n c] r.1 ∧ Below w.heap.size w w' := by
  obtain ⟨v, rfl, own, bel⟩ := h
  obtain ⟨A, c, rfl⟩ := own.shape
  exact ⟨_, _, _, rfl, sl_O.2 own, bel⟩
theorem Iv.apart {a b c d : Nat} (h : b ≤ c) : ∀ k, Iv a b k → ¬ Iv c d k := fun k h1 h2 => by have := h1.2; have := h2.1; omega
theorem Iv.grow {a b c d : Nat} (h1 : a ≤ b) (h2 : b ≤ c) (h3 : c ≤ d) : ∀ k, (Iv a b k ∨ Iv b c k ∨ c < k ∧ k < d) → Iv a d k := by
  intro k h
  unfold Iv at *
  omega
theorem impl_PhasesOf (A : Option Addr) (n c : Nat) (xs : List Int) (f : Int) (w : World) (hx : RI w w.heap.size A n xs) (hn : n ≤ 1000000000) :
    Calls Try.prog 19 #[.slice A n c, .int .i64 f] w (RetSS w (M.phasesR xs f)) := by
  cases ht : M.taps xs
  · have hr := Lib.hid (show M.phasesR xs f = ([], 1) by rw [M.phasesR, ht]; rfl)
    go_enter Try.func19, Try.ntmps19
    go_wp2_with (go_at_call 51; refine (impl_areTaps _ _ _ _ _ hx (by omega)).mono ?_; rw [ht]; rintro e w' ⟨rfl, rfl⟩)
    go_ret2
    rw [hr.out]; exact ⟨_, rfl, OS.nil _ _ _ _, Below.refl _ _⟩
  · cases hf : M.fac f
    · have hr := Lib.hid (show M.phasesR xs f = ([], 2) by rw [M.phasesR, ht, hf]; rfl)
      go_enter Try.func19, Try.ntmps19
      go_wp2_with (first | (go_at_call 51; refine (impl_areTaps _ _ _ _ _ hx (by omega)).mono ?_; rw [ht]; rintro e w' ⟨rfl, rfl⟩) | (go_at_call 52; refine (impl_isFactor _ _).mono ?_; rw [hf]; rintro e w' ⟨rfl, rfl⟩))
      go_ret2
      rw [hr.out]; exact ⟨_, rfl, OS.nil _ _ _ _, Below.refl _ _⟩
    · have hf' : 1 ≤ f ∧ f ≤ 16 := by simp [M.fac, M.inn] at hf; omega
      obtain ⟨m, rfl⟩ : ∃ m : Nat, f = m := ⟨f.toNat, by omega⟩
      have hr := Lib.hid (show M.phasesR xs m = (M.phases xs m, 0) by rw [M.phasesR, ht, hf]; rfl)
      have hm : m ≤ 16 := by omega
      have ht' := Lib.hid ht
      have hf'' := Lib.hid hf
      clear ht hf
      go_enter Try.func19, Try.ntmps19
      go_wp2_with (first | (go_at_call 51; refine (impl_areTaps _ _ _ _ _ hx (by omega)).mono ?_; rw [ht'.out]; rintro e w' ⟨rfl, rfl⟩) | (go_at_call 52; refine (impl_isFactor _ _).mono ?_; rw [hf''.out]; rintro e w' ⟨rfl, rfl⟩))
      go_loopw [6, 7, 16] (fun v _ i wr => ∃ k : Nat, i = .int .i64 k ∧ k ≤ m ∧ OS tS 22 wr (Iv w.heap.size wr.heap.size) v ((M.phases xs m).take k) ∧ Below w.heap.size w wr)
        (fun v _ i wr => m - (intOf i).toNat)
      case atStart => exact ⟨0, rfl, by omega, OS.made0 _ _ _, (Below.refl _ _).alloc (Nat.le_refl _) _⟩
      case round =>
        obtain ⟨k, rfl, hk, own, hb⟩ := hrel
        have hsb := hb.size
        have hpl : ((M.phases xs m).take k).length ≤ 16 := by rw [List.length_take]; omega
        by_cases hlt : k < m
        · have hpt := Lib.hid (M.take_at (M.phases_at (xs := xs) hlt))
          go_wp2_with (first | (go_at_call 53; refine (impl_decimate _ _ _ _ _ _ _ (hx.later hb) hn hf' ⟨by omega, by omega⟩).mono ?_; rw [Int.toNat_natCast, Int.toNat_natCast]; rintro e w2 ⟨v2, rfl, own2, bel2⟩; obtain ⟨A2, c2, rfl, _⟩ := own2.shape; have ow := own.below bel2 (Nat.le_refl _); have os2 := tS_O.2 own2.os; have s2 := bel2.size) | (at_builtin; refine wpList_pushS ei_S #[.slice A2 (M.decL xs m k).length c2] rfl _ _ rfl ow os2 (Iv.apart (Nat.le_refl _)) rfl rfl (by unfold maxLen; omega) (by omega) ?_; intro v3 w3 own3 ch3; obtain ⟨A3, c3, rfl⟩ := own3.shape))
          go_roundw
          case rel =>
            refine ⟨k + 1, by go_num, by omega, ?_, (hb.trans (bel2.mono hsb)).trans (ch3.toBelow (fun b hb => hb.1) (by omega))⟩
            rw [hpt.out]
            have h9 := own3.wide (Iv.grow hsb s2 ch3.size)
            rw [List.length_append, List.length_take, List.length_singleton] at h9
            exact h9
          case measure => simp [intOf]; omega
        · go_wp2
          go_ret2
          rw [List.take_of_length_le (by rw [M.phases_len]; omega)] at own
          rw [hr.out]; exact ⟨_, rfl, own, hb⟩
theorem spec_PhasesOf (A : Option Addr) (n c : Nat) (xs : List Int) (f : Int) (w : World) (hx : RI w w.heap.size A n xs) (hn : n ≤ 1000000000) :
    Calls Try.prog 18 #[.slice A n c, .int .i64 f] w (RetSS w (M.phasesR xs f)) := by
  cases ht : M.taps xs
  · have hr := Lib.hid (show M.phasesR xs f = ([], 1) by rw [M.phasesR, ht]; rfl)
    go_enter Try.func18, Try.ntmps18
    go_wp2_with (go_at_call 48; refine (spec_l28Taps _ _ _ _ _ hx (by omega)).mono ?_; rw [ht]; rintro e w' ⟨rfl, rfl⟩)
    go_ret2
    rw [hr.out]; exact ⟨_, rfl, OS.nil _ _ _ _, Below.refl _ _⟩
  · cases hf : M.fac f
    · have hr := Lib.hid (show M.phasesR xs f = ([], 2) by rw [M.phasesR, ht, hf]; rfl)
      go_enter Try.func18, Try.ntmps18
      go_wp2_with (first | (go_at_call 48; refine (spec_l28Taps _ _ _ _ _ hx (by omega)).mono ?_; rw [ht]; rintro e w' ⟨rfl, rfl⟩) | (go_at_call 49; refine (spec_l28Factor _ _).mono ?_; rw [hf]; rintro e w' ⟨rfl, rfl⟩))
      go_ret2
      rw [hr.out]; exact ⟨_, rfl, OS.nil _ _ _ _, Below.refl _ _⟩
    · have hf' : 1 ≤ f ∧ f ≤ 16 := by simp [M.fac, M.inn] at hf; omega
      obtain ⟨m, rfl⟩ : ∃ m : Nat, f = m := ⟨f.toNat, by omega⟩
      have hr := Lib.hid (show M.phasesR xs m = (M.phases xs m, 0) by rw [M.phasesR, ht, hf]; rfl)
      have hm : m ≤ 16 := by omega
      have ht' := Lib.hid ht
      have hf'' := Lib.hid hf
      clear ht hf
      go_enter Try.func18, Try.ntmps18
      go_wp2_with (first | (go_at_call 48; refine (spec_l28Taps _ _ _ _ _ hx (by omega)).mono ?_; rw [ht'.out]; rintro e w' ⟨rfl, rfl⟩) | (go_at_call 49; refine (spec_l28Factor _ _).mono ?_; rw [hf''.out]; rintro e w' ⟨rfl, rfl⟩))
      go_loopw [6, 7] (fun v i wr => ∃ k : Nat, i = .int .i64 k ∧ k ≤ m ∧ OS tS 22 wr (Iv w.heap.size wr.heap.size) v ((M.phases xs m).take k) ∧ Below w.heap.size w wr)
        (fun v i wr => m - (intOf i).toNat)
      case atStart => exact ⟨0, rfl, by omega, OS.made0 _ _ _, (Below.refl _ _).alloc (Nat.le_refl _) _⟩
      case round =>
        obtain ⟨k, rfl, hk, own, hb⟩ := hrel
        have hsb := hb.size
        have hpl : ((M.phases xs m).take k).length ≤ 16 := by rw [List.length_take]; omega
        by_cases hlt : k < m
        · have hpt := Lib.hid (M.take_at (M.phases_at (xs := xs) hlt))
          go_wp2_with (first | (go_at_call 50; refine (spec_l28Decimate _ _ _ _ _ _ _ (hx.later hb) hn hf' ⟨by omega, by omega⟩).mono ?_; rw [Int.toNat_natCast, Int.toNat_natCast]; rintro e w2 ⟨v2, rfl, own2, bel2⟩; obtain ⟨A2, c2, rfl, _⟩ := own2.shape; have ow := own.below bel2 (Nat.le_refl _); have os2 := tS_O.2 own2.os; have s2 := bel2.size) | (at_builtin; refine wpList_pushS ei_S #[.slice A2 (M.decL xs m k).length c2] rfl _ _ rfl ow os2 (Iv.apart (Nat.le_refl _)) rfl rfl (by unfold maxLen; omega) (by omega) ?_; intro v3 w3 own3 ch3; obtain ⟨A3, c3, rfl⟩ := own3.shape))
          go_roundw
          case rel =>
            refine ⟨k + 1, by go_num, by omega, ?_, (hb.trans (bel2.mono hsb)).trans (ch3.toBelow (fun b hb => hb.1) (by omega))⟩
            rw [hpt.out]
            have h9 := own3.wide (Iv.grow hsb s2 ch3.size)
            rw [List.length_append, List.length_take, List.length_singleton] at h9
            exact h9
          case measure => simp [intOf]; omega
        · go_wp2
          go_ret2
          rw [List.take_of_length_le (by rw [M.phases_len]; omega)] at own
          rw [hr.out]; exact ⟨_, rfl, own, hb⟩
end Go.Proofs.Ytafbhangjeddaaa
