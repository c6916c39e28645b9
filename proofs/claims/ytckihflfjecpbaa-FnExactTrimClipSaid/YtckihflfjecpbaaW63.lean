import Derived.Test.YtckihflfjecpbaaW62
namespace Go.Proofs.Ytckihflfjecpbaa
open Go.RowKit
set_option maxHeartbeats 1000000
set_option maxRecDepth 100000
def M.askT (xs : List Clip) (k : Int) : Int := if M.trackOk xs then (if M.inn k 0 ((xs.length : Int) - 1) then 0 else 2) else 1
theorem M.askT_zero {xs : List Clip} {k : Int} (h : M.askT xs k = 0) : M.trackOk xs = true ∧ 0 ≤ k ∧ k < xs.length ∧ xs.length ≤ 12 := by
  unfold M.askT at h
  split at h
  · rename_i hok
    split at h
    · rename_i hin
      have := M.inn_iff.1 hin
      have h2 := hok
      rw [M.trackOk, Bool.and_eq_true, decide_eq_true_iff] at h2
      exact ⟨hok, this.1, by omega, h2.2⟩
    · simp at h
  · simp at h
/-- What a function of a track and a code gives back. -/
def RetT (e : TypeId) (w : World) (r : List Clip × Int) (en : Ending) (w' : World) : Prop :=
  ∃ v, en = .returned (.tuple #[.agg #[v], .int .i64 r.2]) ∧ OA cl e 5 w.heap.size w'.heap.size w' v r.1 ∧ Below w.heap.size w w'
theorem impl_size_impl_Clip (A : Option Addr) (n c : Nat) (w : World) : Calls Try.prog 139 #[.slice A n c] w fun e w' => e = .returned (.int .i64 n) ∧ w = w' := by
  go_enter Try.func139, Try.ntmps139
  go_wp2
  go_ret
  exact ⟨rfl, rfl⟩
theorem impl_clipCode (A : Option Addr) (n c : Nat) (xs : List Clip) (k : Int) (w : World) (hx : RA cl 5 w w.heap.size A n xs) (hn : n ≤ 1000000000) :
    Calls Try.prog 106 #[.agg #[.slice A n c], .int .i64 k] w fun e w' => e = .returned (.int .i64 (M.askT xs k)) ∧ Below w.heap.size w w' := by
  have hl := Lib.hid hx.len
  have hb1 : Below w.heap.size w (w.alloc (.cells #[.slice A n c] 65)) := (Below.refl _ _).alloc (Nat.le_refl _) _
  have hx1 := hx.later hb1
  have hself := lay_cell w (.slice A n c) 65
  cases hok : M.trackOk xs
  · go_enter Try.func106, Try.ntmps106
    go_wp2_with (go_at_call 123; refine (impl_isTrack _ _ _ _ _ hx1 hn).mono ?_; rw [hok]; rintro e w2 ⟨rfl, bel2⟩)
    go_ret
    exact ⟨by rw [M.askT, hok]; rfl, hb1.trans (bel2.mono hb1.size)⟩
  · cases hin : M.inn k 0 ((n : Int) - 1)
    all_goals
      go_enter Try.func106, Try.ntmps106
      go_wp2_with (first | (go_at_call 139; refine (impl_size_impl_Clip _ _ _ _).mono ?_; rintro e w' ⟨rfl, rfl⟩) | (go_at_call 123; refine (impl_isTrack _ _ _ _ _ hx1 hn).mono ?_; rw [hok]; rintro e w2 ⟨rfl, bel2⟩; have hv2 : w2.cell? ⟨w.heap.size, 0, none⟩ = some (.slice A n c) := (by rw [bel2.cell (by simp)]; exact hself)) | (go_at_call 81; refine (impl_within _ _ _ _).mono ?_; rw [hin]; rintro e w' ⟨rfl, rfl⟩))
      go_ret
      exact ⟨by rw [M.askT, hok, hl.out, hin]; rfl, hb1.trans (bel2.mono hb1.size)⟩
theorem spec_l23Ask (vb : Nat) (A : Option Addr) (n c : Nat) (xs : List Clip) (k : Int) (w : World) (hv0 : w.cell? ⟨vb, 0, none⟩ = some (.slice A n c)) (hx : RA cl 5 w w.heap.size A n xs) (hn : n ≤ 1000000000) :
    Calls Try.prog 103 #[.pointer (some ⟨vb, 0, none⟩), .int .i64 k] w fun e w' => e = .returned (.int .i64 (M.askT xs k)) ∧ Below w.heap.size w w' := by
  have hl := Lib.hid hx.len
  have hvb : vb < w.heap.size := World.block_lt_of_cell? w _ hv0
  cases hok : M.trackOk xs
  · go_enter Try.func103, Try.ntmps103
    go_wp2_with (go_at_call 119; refine (spec_l23Ok _ _ _ _ _ _ hv0 hx hn).mono ?_; rw [hok]; rintro e w2 ⟨rfl, bel2⟩)
    go_ret
    exact ⟨by rw [M.askT, hok]; rfl, bel2⟩
  · cases hin : M.inn k 0 ((n : Int) - 1)
    all_goals
      go_enter Try.func103, Try.ntmps103
      go_wp2_with (first | (go_at_call 119; refine (spec_l23Ok _ _ _ _ _ _ hv0 hx hn).mono ?_; rw [hok]; rintro e w2 ⟨rfl, bel2⟩; have hv2 : w2.cell? ⟨vb, 0, none⟩ = some (.slice A n c) := (by rw [bel2.cell (by simpa using hvb)]; exact hv0)) | (go_at_call 79; refine (spec_l00In _ _ _ _).mono ?_; rw [hin]; rintro e w' ⟨rfl, rfl⟩))
      go_ret
      exact ⟨by rw [M.askT, hok, hl.out, hin]; rfl, bel2⟩
def M.removeR (xs : List Clip) (k : Int) : List Clip × Int := if M.askT xs k = 0 then (M.dropP xs k.toNat, 0) else ([], M.askT xs k)
theorem removed_len (xs : List Clip) (k : Int) : (M.removeR xs k).1.length ≤ 12 := by
  unfold M.removeR
  split
  · rename_i h
    obtain ⟨_, h1, h2, h3⟩ := M.askT_zero h
    show (M.dropP xs k.toNat).length ≤ 12
    rw [M.dropP_len xs (by omega)]
    omega
  · simp
theorem impl_RemoveClip (A : Option Addr) (n c : Nat) (xs : List Clip) (k : Int) (w : World) (hx : RA cl 5 w w.heap.size A n xs) (hn : n ≤ 1000000000) (hc : n ≤ c) (hm : c ≤ maxLen) :
    Calls Try.prog 48 #[.agg #[.slice A n c], .int .i64 k] w (RetT 78 w (M.removeR xs k)) := by
  have hl := Lib.hid hx.len
  have hb2 : Below w.heap.size w ((w.alloc (.cells #[.slice A n c] 65)).alloc (.cells #[.slice none 0 0] 65)) := ((Below.refl _ _).alloc (Nat.le_refl _) _).alloc (by simp) _
  have hx1 := hx.later hb2
  have hself : ((w.alloc (.cells #[.slice A n c] 65)).alloc (.cells #[.slice none 0 0] 65)).cell? ⟨w.heap.size, 0, none⟩ = some (.slice A n c) := by simp [go_sem]
  by_cases hask : M.askT xs k = 0
  · have hr := Lib.hid (show M.removeR xs k = (M.dropP xs k.toNat, 0) by rw [M.removeR, if_pos hask])
    obtain ⟨-, hk0, hk1, -⟩ := M.askT_zero hask
    obtain ⟨k, rfl⟩ : ∃ q : Nat, k = q := ⟨k.toNat, by omega⟩
    have hk : k < n := by rw [hl.out] at hk1; omega
    have hask' := Lib.hid hask
    clear hask
    go_enter Try.func48, Try.ntmps48
    go_wp2_with (first | (go_at_call 106; refine (impl_clipCode _ _ _ _ _ _ hx1 hn).mono ?_; rw [hask'.out]; rintro e w2 ⟨rfl, bel2⟩; have hq : w2.cell? ⟨w.heap.size + 1, 0, none⟩ = some (.slice none 0 0) := (by rw [bel2.cell (by simp)]; simp [go_sem]); have hf : w2.frozen? ⟨w.heap.size + 1, 0, none⟩ = false := (by rw [bel2.frozen (by simp)]; simp [go_sem]); have hs2 : w.heap.size + 1 + 1 ≤ w2.heap.size := (by have := bel2.size; simpa using this); have hv2 : w2.cell? ⟨w.heap.size, 0, none⟩ = some (.slice A n c) := (by rw [bel2.cell (by simp; omega)]; exact hself)) | (go_at_call 107; refine (impl_Track_without _ _ _ _ _ _ (hx1.later bel2) hn hk).mono ?_; rintro e w3 ⟨v3, rfl, own3, bel3⟩; obtain ⟨A3, c3', rfl, -⟩ := own3.shape; have hq3 : w3.cell? ⟨w.heap.size + 1, 0, none⟩ = some (.slice none 0 0) := (by rw [bel3.cell (by simp; omega)]; exact hq); have hf3 : w3.frozen? ⟨w.heap.size + 1, 0, none⟩ = false := (by rw [bel3.frozen (by simp; omega)]; exact hf)))
    refine bodyPost_ret (v := .tuple #[.agg #[.slice A3 (M.dropP xs k).length c3'], .int .i64 0]) (by simp [results, Try.results48, go_sem, hq3, hf3]) rfl ?_
    rw [hr.out]
    have B3 := hb2.trans (bel2.mono hb2.size)
    exact ⟨_, rfl, (own3.mid (Mid.cell w3 (w.heap.size + 1) 0 (.slice A3 (M.dropP xs k).length c3')) (.inr hs2) (Nat.le_refl _)).wide (by omega) (by simp), (bel_trans B3 bel3).setCell (by simp) _⟩
  · have hr := Lib.hid (show M.removeR xs k = ([], M.askT xs k) by rw [M.removeR, if_neg hask])
    have hne : (M.askT xs k != 0) = true := by simpa using hask
    clear hask
    generalize hq : M.askT xs k = q at *
    have hq' := Lib.hid hq
    clear hq
    go_enter Try.func48, Try.ntmps48
    go_wp2_with (go_at_call 106; refine (impl_clipCode _ _ _ _ _ _ hx1 hn).mono ?_; rw [hq'.out]; rintro e w2 ⟨rfl, bel2⟩; have hq : w2.cell? ⟨w.heap.size + 1, 0, none⟩ = some (.slice none 0 0) := (by rw [bel2.cell (by simp)]; simp [go_sem]); have hf : w2.frozen? ⟨w.heap.size + 1, 0, none⟩ = false := (by rw [bel2.frozen (by simp)]; simp [go_sem]); have hs2 : w.heap.size + 1 + 1 ≤ w2.heap.size := (by have := bel2.size; simpa using this); have hv2 : w2.cell? ⟨w.heap.size, 0, none⟩ = some (.slice A n c) := (by rw [bel2.cell (by simp; omega)]; exact hself))
    refine bodyPost_ret (v := .tuple #[.agg #[.slice none 0 0], .int .i64 q]) (by simp [results, Try.results48, go_sem, hq, hf]) rfl ?_
    rw [hr.out]
    exact ⟨_, rfl, OA.nil _, (hb2.trans (bel2.mono hb2.size)).setCell (by simp) _⟩
theorem spec_RemoveClip (A : Option Addr) (n c : Nat) (xs : List Clip) (k : Int) (w : World) (hx : RA cl 5 w w.heap.size A n xs) (hn : n ≤ 1000000000) (hc : n ≤ c) (hm : c ≤ maxLen) :
    Calls Try.prog 46 #[.agg #[.slice A n c], .int .i64 k] w (RetT 78 w (M.removeR xs k)) := by
  have hl := Lib.hid hx.len
  have hb2 : Below w.heap.size w ((w.alloc (.cells #[.slice A n c] 65)).alloc (.cells #[.slice none 0 0] 65)) := ((Below.refl _ _).alloc (Nat.le_refl _) _).alloc (by simp) _
  have hx1 := hx.later hb2
  have hself : ((w.alloc (.cells #[.slice A n c] 65)).alloc (.cells #[.slice none 0 0] 65)).cell? ⟨w.heap.size, 0, none⟩ = some (.slice A n c) := by simp [go_sem]
  by_cases hask : M.askT xs k = 0
  · have hr := Lib.hid (show M.removeR xs k = (M.dropP xs k.toNat, 0) by rw [M.removeR, if_pos hask])
    obtain ⟨-, hk0, hk1, -⟩ := M.askT_zero hask
    obtain ⟨k, rfl⟩ : ∃ q : Nat, k = q := ⟨k.toNat, by omega⟩
    have hk : k < n := by rw [hl.out] at hk1; omega
    have hask' := Lib.hid hask
    clear hask
    go_enter Try.func46, Try.ntmps46
    go_wp2_with (first | (go_at_call 103; refine (spec_l23Ask _ _ _ _ _ _ _ hself hx1 hn).mono ?_; rw [hask'.out]; rintro e w2 ⟨rfl, bel2⟩; have hq : w2.cell? ⟨w.heap.size + 1, 0, none⟩ = some (.slice none 0 0) := (by rw [bel2.cell (by simp)]; simp [go_sem]); have hf : w2.frozen? ⟨w.heap.size + 1, 0, none⟩ = false := (by rw [bel2.frozen (by simp)]; simp [go_sem]); have hs2 : w.heap.size + 1 + 1 ≤ w2.heap.size := (by have := bel2.size; simpa using this); have hv2 : w2.cell? ⟨w.heap.size, 0, none⟩ = some (.slice A n c) := (by rw [bel2.cell (by simp; omega)]; exact hself)) | (go_at_call 104; refine (spec_l23Drop _ _ _ _ _ _ (hx1.later bel2) hn hk hc hm).mono ?_; rintro e w3 ⟨v3, rfl, own3, bel3⟩; obtain ⟨A3, c3', rfl, -⟩ := own3.shape; have hq3 : w3.cell? ⟨w.heap.size + 1, 0, none⟩ = some (.slice none 0 0) := (by rw [bel3.cell (by simp; omega)]; exact hq); have hf3 : w3.frozen? ⟨w.heap.size + 1, 0, none⟩ = false := (by rw [bel3.frozen (by simp; omega)]; exact hf)))
    refine bodyPost_ret (v := .tuple #[.agg #[.slice A3 (M.dropP xs k).length c3'], .int .i64 0]) (by simp [results, Try.results46, go_sem, hq3, hf3]) rfl ?_
    rw [hr.out]
    have B3 := hb2.trans (bel2.mono hb2.size)
    exact ⟨_, rfl, (own3.mid (Mid.cell w3 (w.heap.size + 1) 0 (.slice A3 (M.dropP xs k).length c3')) (.inr hs2) (Nat.le_refl _)).wide (by omega) (by simp), (bel_trans B3 bel3).setCell (by simp) _⟩
  · have hr := Lib.hid (show M.removeR xs k = ([], M.askT xs k) by rw [M.removeR, if_neg hask])
    have hne : (M.askT xs k != 0) = true := by simpa using hask
    clear hask
    generalize hq : M.askT xs k = q at *
    have hq' := Lib.hid hq
    clear hq
    go_enter Try.func46, Try.ntmps46
    go_wp2_with (go_at_call 103; refine (spec_l23Ask _ _ _ _ _ _ _ hself hx1 hn).mono ?_; rw [hq'.out]; rintro e w2 ⟨rfl, bel2⟩; have hq : w2.cell? ⟨w.heap.size + 1, 0, none⟩ = some (.slice none 0 0) := (by rw [bel2.cell (by simp)]; simp [go_sem]); have hf : w2.frozen? ⟨w.heap.size + 1, 0, none⟩ = false := (by rw [bel2.frozen (by simp)]; simp [go_sem]); have hs2 : w.heap.size + 1 + 1 ≤ w2.heap.size := (by have := bel2.size; simpa using this); have hv2 : w2.cell? ⟨w.heap.size, 0, none⟩ = some (.slice A n c) := (by rw [bel2.cell (by simp; omega)]; exact hself))
    refine bodyPost_ret (v := .tuple #[.agg #[.slice none 0 0], .int .i64 q]) (by simp [results, Try.results46, go_sem, hq, hf]) rfl ?_
    rw [hr.out]
    exact ⟨_, rfl, OA.nil _, (hb2.trans (bel2.mono hb2.size)).setCell (by simp) _⟩
end Go.Proofs.Ytckihflfjecpbaa
