import Derived.Test.YtckihflfjecpbaaW63
namespace Go.Proofs.Ytckihflfjecpbaa
open Go.RowKit
set_option maxHeartbeats 1000000
set_option maxRecDepth 100000
def M.joins (c d : Clip) : Bool := d.1 == c.1 && d.2.2.2.2 == c.2.2.2.2 && d.2.1 == c.2.1 + c.2.2.1 && d.2.2.2.1 == c.2.2.2.1 + c.2.2.1
theorem M.find_some {α : Type} {p : α → Bool} {xs : List α} {k : Nat} {x : α} (hx : xs[k]? = some x) (hp : p x = true) (h : ∀ j, j < k → ∀ y, xs[j]? = some y → p y = false) : xs.findIdx? p = some k := by
  obtain ⟨hk, rfl⟩ := List.getElem?_eq_some_iff.1 hx
  rw [List.findIdx?_eq_some_iff_getElem]
  exact ⟨hk, hp, fun j hj => by rw [h j hj _ (List.getElem?_eq_getElem (by omega))]; exact Bool.false_ne_true⟩
theorem M.find_none {α : Type} {p : α → Bool} {xs : List α} (h : ∀ j, j < xs.length → ∀ y, xs[j]? = some y → p y = false) : xs.findIdx? p = none := by
  rw [List.findIdx?_eq_none_iff]
  intro x hx
  obtain ⟨i, hi, rfl⟩ := List.getElem_of_mem hx
  exact h i hi _ (List.getElem?_eq_getElem hi)
def M.grow (c : Clip) (l : Int) : Clip := (c.1, c.2.1, c.2.2.1 + l, c.2.2.2.1, c.2.2.2.2)
def M.mergeAt (xs : List Clip) (k i : Nat) : List Clip := M.dropP (xs.set k (M.grow ((xs[k]?).getD M.cz) ((xs[i]?).getD M.cz).2.2.1)) i
def M.mergeR (xs : List Clip) (k : Int) : List Clip × Int :=
  if M.askT xs k = 0 then (match xs.findIdx? (M.joins ((xs[k.toNat]?).getD M.cz)) with
    | some i => (M.mergeAt xs k.toNat i, 0)
    | none => ([], 3)) else ([], M.askT xs k)
theorem M.track_len {xs : List Clip} (h : M.trackOk xs = true) : xs.length ≤ 12 := by
  rw [M.trackOk, Bool.and_eq_true, decide_eq_true_iff] at h
  exact h.2
theorem M.track_clip {xs : List Clip} (h : M.trackOk xs = true) {k : Nat} {p : Clip} (hk : xs[k]? = some p) : M.clipOk p = true := by
  rw [M.trackOk, Bool.and_eq_true, List.all_eq_true] at h
  have := h.1 k (List.mem_range.2 (List.getElem?_eq_some_iff.1 hk).1)
  rw [M.stepT, Bool.and_eq_true, hk] at this
  exact this.1
theorem M.clip_bd {p : Clip} (h : M.clipOk p = true) : (0 ≤ p.1 ∧ p.1 ≤ 5) ∧ (1 ≤ p.2.2.1 ∧ p.2.2.1 ≤ 4000) ∧ (0 ≤ p.2.1 ∧ p.2.1 ≤ 4000 - p.2.2.1) ∧ (0 ≤ p.2.2.2.1 ∧ p.2.2.2.1 ≤ 4000 - p.2.2.1) ∧ (-2147483648 ≤ p.2.2.2.2 ∧ p.2.2.2.2 ≤ 2147483647) := by
  simp only [M.clipOk, Bool.and_eq_true, M.inn_iff] at h
  exact ⟨h.1.1.1.1, h.1.1.1.2, h.1.1.2, h.1.2, M.smp_bd h.2⟩
theorem impl_MergeClips_1 (b : Nat) (c0 c1 c2 c3 c4 d0 d1 d2 d3 d4 : Int) (w : World) (h1 : 0 ≤ c1 ∧ c1 ≤ 4000) (h2 : 1 ≤ c2 ∧ c2 ≤ 4000) (h3 : 0 ≤ c3 ∧ c3 ≤ 4000)
    (g0 : w.cell? ⟨b, 0, none⟩ = some (.int .i64 c0)) (g1 : w.cell? ⟨b, 1, none⟩ = some (.int .i64 c1)) (g2 : w.cell? ⟨b, 2, none⟩ = some (.int .i64 c2)) (g3 : w.cell? ⟨b, 3, none⟩ = some (.int .i64 c3)) (g4 : w.cell? ⟨b, 4, none⟩ = some (.int .i64 c4)) :
    Calls Try.prog 112 #[.agg #[.int .i64 d0, .int .i64 d1, .int .i64 d2, .int .i64 d3, .int .i64 d4], .pointer (some ⟨b, 0, none⟩)] w fun e w' => e = .returned (.bool (M.joins (c0, c1, c2, c3, c4) (d0, d1, d2, d3, d4))) ∧ Below w.heap.size w w' := by
  have hb : b < w.heap.size := World.block_lt_of_cell? w _ g0
  have fin : Below w.heap.size w (w.alloc (.cells #[.int .i64 d0, .int .i64 d1, .int .i64 d2, .int .i64 d3, .int .i64 d4] 78)) := (Below.refl _ _).alloc (Nat.le_refl _) _
  by_cases e1 : d0 = c0
  · subst e1
    by_cases e2 : d4 = c4
    · subst e2
      by_cases e3 : d1 = c1 + c2
      · subst e3
        by_cases e4 : d3 = c3 + c2
        · subst e4
          go_enter Try.func112, Try.ntmps112
          go_wp2
          go_ret
          exact ⟨ret_bool (by simp [M.joins]), fin⟩
        · have f4 : (d3 == c3 + c2) = false := by simpa using e4
          go_enter Try.func112, Try.ntmps112
          go_wp2
          go_ret
          exact ⟨ret_bool (by simp [M.joins, e4]), fin⟩
      · have f3 : (d1 == c1 + c2) = false := by simpa using e3
        go_enter Try.func112, Try.ntmps112
        go_wp2
        go_ret
        exact ⟨ret_bool (by simp [M.joins, e3]), fin⟩
    · have f2 : (d4 == c4) = false := by simpa using e2
      go_enter Try.func112, Try.ntmps112
      go_wp2
      go_ret
      exact ⟨ret_bool (by simp [M.joins, e2]), fin⟩
  · have f1 : (d0 == c0) = false := by simpa using e1
    go_enter Try.func112, Try.ntmps112
    go_wp2
    go_ret
    exact ⟨ret_bool (by simp [M.joins, e1]), fin⟩
def idxInt : Option Nat → Int
  | some i => i
  | none => -1
theorem IndexFunc_merge (bb : Nat) (c : Clip) (A : Option Addr) (n cap : Nat) (xs : List Clip) (w : World) (hx : RA cl 5 w w.heap.size A n xs) (hn : n ≤ 1000000000) (h1 : 0 ≤ c.2.1 ∧ c.2.1 ≤ 4000) (h2 : 1 ≤ c.2.2.1 ∧ c.2.2.1 ≤ 4000) (h3 : 0 ≤ c.2.2.2.1 ∧ c.2.2.2.1 ≤ 4000)
    (hg : ∀ j u, (cl c)[j]? = some u → w.cell? ⟨bb, j, none⟩ = some u) :
    Calls Try.prog 111 #[.slice A n cap, .func (.func 112) #[] #[.pointer (some ⟨bb, 0, none⟩)]] w fun e w' => e = .returned (.int .i64 (idxInt (xs.findIdx? (M.joins c)))) ∧ Below w.heap.size w w' := by
  have hl := Lib.hid hx.len
  have hg' := Lib.hid hg
  have hbb : bb < w.heap.size := World.block_lt_of_cell? w _ (hg 0 _ rfl)
  obtain ⟨c0, c1, c2, c3, c4⟩ := c
  simp only at h1 h2 h3
  clear hg
  go_enter Try.func111, Try.ntmps111
  go_wp2
  go_loopw [5, 8] (fun _ i wr => ∃ k : Nat, i = .int .i64 k ∧ k ≤ n ∧ Hid (∀ j, j < k → ∀ y, xs[j]? = some y → M.joins (c0, c1, c2, c3, c4) y = false) ∧ Below w.heap.size w wr) (fun _ i _ => n - (intOf i).toNat)
  case atStart => exact ⟨0, rfl, by omega, Lib.hid (by omega), Below.refl _ _⟩
  case round =>
    obtain ⟨k, rfl, hk, H, hb⟩ := hrel
    by_cases hlt : k < n
    · obtain ⟨b, o, ⟨p0, p1, p2, p3, p4⟩, rfl, hab, X, hc⟩ := (hx.below hb).at cl_len (by decide) hlt
      have hc0 : wr.cell? ⟨b, o + k * 5, none⟩ = some (.int .i64 p0) := hc 0 _ rfl
      have hc1 : wr.cell? ⟨b, o + k * 5 + 1, none⟩ = some (.int .i64 p1) := hc 1 _ rfl
      have hc2 : wr.cell? ⟨b, o + k * 5 + 2, none⟩ = some (.int .i64 p2) := hc 2 _ rfl
      have hc3 : wr.cell? ⟨b, o + k * 5 + 3, none⟩ = some (.int .i64 p3) := hc 3 _ rfl
      have hc4 : wr.cell? ⟨b, o + k * 5 + 4, none⟩ = some (.int .i64 p4) := hc 4 _ rfl
      clear hc
      have G : ∀ j u, (cl (c0, c1, c2, c3, c4))[j]? = some u → wr.cell? ⟨bb, j, none⟩ = some u := fun j u hu => by rw [hb.cell (by simpa using hbb)]; exact hg'.out j u hu
      have cP := Lib.hid (impl_MergeClips_1 bb c0 c1 c2 c3 c4 p0 p1 p2 p3 p4 wr h1 h2 h3 (G 0 _ rfl) (G 1 _ rfl) (G 2 _ rfl) (G 3 _ rfl) (G 4 _ rfl))
      clear G
      cases hj : M.joins (c0, c1, c2, c3, c4) (p0, p1, p2, p3, p4)
      · have hj' := Lib.hid hj
        clear hj
        go_wp2_with (go_at_call 112; refine (cP.out).mono ?_; rw [hj'.out]; rintro e w2 ⟨rfl, bel2⟩)
        go_roundw
        case rel => exact ⟨k + 1, by go_num, by omega, Lib.hid (fun j hj y hy => by rcases Nat.lt_succ_iff_lt_or_eq.1 hj with h | h; exact H.out j h y hy; subst h; rw [X.out] at hy; injection hy with hy; rw [← hy]; exact hj'.out), hb.trans (bel2.mono hb.size)⟩
        case measure => simp [intOf]; omega
      · have hf := Lib.hid (M.find_some X.out hj H.out)
        have hj' := Lib.hid hj
        clear hj
        go_wp2_with (go_at_call 112; refine (cP.out).mono ?_; rw [hj'.out]; rintro e w2 ⟨rfl, bel2⟩)
        go_ret
        exact ⟨by rw [hf.out]; rfl, hb.trans (bel2.mono hb.size)⟩
    · have hf := Lib.hid (M.find_none (xs := xs) (p := M.joins (c0, c1, c2, c3, c4)) (fun j hj y hy => H.out j (by rw [hl.out] at hj; omega) y hy))
      go_wp2
      go_ret
      exact ⟨by rw [hf.out]; rfl, hb⟩
end Go.Proofs.Ytckihflfjecpbaa
