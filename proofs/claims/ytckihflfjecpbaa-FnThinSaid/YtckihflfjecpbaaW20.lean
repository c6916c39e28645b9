import Derived.Test.YtckihflfjecpbaaProg
import Derived.Test.YtckihflfjecpbaaK2
import Derived.Test.YtckihflfjecpbaaW3
namespace Go.Proofs.Ytckihflfjecpbaa
open Go.RowKit
set_option maxHeartbeats 400000
set_option maxRecDepth 100000
theorem ei_pt : EI Try.prog 28 34 (.agg #[.int .i64 0, .int .i64 0]) 2 16 := ⟨Try.underlying28, by kernel_rfl, rfl, by decide⟩
def pt (p : Int × Int) : List Value := [.int .i64 p.1, .int .i64 p.2]
theorem pt_len (p : Int × Int) : (pt p).length = 2 := rfl
def rampP (k : Int) (n : Nat) : List (Int × Int) := (List.range n).map fun (i : Nat) => (k + 2 * (i : Int), k + 2 * (i : Int) + 1)
theorem rampP_len (k : Int) (n : Nat) : (rampP k n).length = n := by simp [rampP]
theorem rampP_at {k : Int} {n j : Nat} (h : j < n) : (rampP k n)[j]? = some (k + 2 * (j : Int), k + 2 * (j : Int) + 1) := by simp [rampP, h]
theorem ret_agg2 {a b a' b' : Int} (h : a = a') (h' : b = b') : Ending.returned (.agg #[.int .i64 a, .int .i64 b]) = .returned (.agg #[.int .i64 a', .int .i64 b']) := by rw [h, h']
theorem laws_toCurvePoint (a b : Int) (w : World) :
    Calls Try.prog 20 #[.agg #[.int .i64 a, .int .i64 b]] w fun e w' => e = .returned (.agg #[.int .i64 a, .int .i64 b]) ∧ Below w.heap.size w w' := by
  go_enter Try.func20, Try.ntmps20
  go_wp2
  exact bodyPost_ret (v := .agg #[.int .i64 a, .int .i64 b]) (by simp [results, Try.results20, go_sem]) rfl ⟨rfl, (((Below.refl _ _).alloc (Nat.le_refl _) _).alloc (by simp) _).alloc (by simp; omega) _⟩
theorem laws_szCurvePointS (A : Option Addr) (n c : Nat) (l : Int) (w : World) (hl : 0 ≤ l ∧ l ≤ 1000000000) (hn : n ≤ 9223372036854775807) :
    Calls Try.prog 70 #[.slice A n c, .int .i64 l] w fun e w' => e = .returned (.int .i64 (if (n : Int) ≤ l then l - n else -1)) ∧ w = w' := by
  by_cases h : (n : Int) ≤ l
  all_goals
    go_enter Try.func70, Try.ntmps70
    go_wp2
    go_ret
    exact ⟨rfl, rfl⟩
theorem laws_szCurve (A : Option Addr) (n c : Nat) (l : Int) (w : World) (hl : 0 ≤ l ∧ l ≤ 1000000000) (hn : n ≤ 9223372036854775807) :
    Calls Try.prog 17 #[.agg #[.slice A n c], .int .i64 l] w fun e w' => e = .returned (.int .i64 (if (n : Int) ≤ l then l - n else -1)) ∧ Below w.heap.size w w' := by
  by_cases h : (n : Int) ≤ l
  · have hi := Lib.hid (show (if (n : Int) ≤ l then l - n else -1) = l - n by rw [if_pos h])
    go_enter Try.func17, Try.ntmps17
    go_wp2_with (go_at_call 70; refine (laws_szCurvePointS _ _ _ _ _ hl hn).mono ?_; rw [hi.out]; rintro e w' ⟨rfl, rfl⟩)
    go_ret
    exact ⟨rfl, (Below.refl _ _).alloc (Nat.le_refl _) _⟩
  · have hi := Lib.hid (show (if (n : Int) ≤ l then l - n else -1) = -1 by rw [if_neg h])
    go_enter Try.func17, Try.ntmps17
    go_wp2_with (go_at_call 70; refine (laws_szCurvePointS _ _ _ _ _ hl hn).mono ?_; rw [hi.out]; rintro e w' ⟨rfl, rfl⟩)
    go_ret
    exact ⟨rfl, (Below.refl _ _).alloc (Nat.le_refl _) _⟩
theorem laws_toCurvePointS (A : Option Addr) (n c : Nat) (xs : List (Int × Int)) (w : World) (hx : RA pt 2 w w.heap.size A n xs) (hn : n ≤ 1000000000) :
    Calls Try.prog 73 #[.slice A n c] w fun e w' => ∃ v, e = .returned v ∧ OA pt 34 2 w.heap.size w'.heap.size w' v xs ∧ Below w.heap.size w w' := by
  have hl := Lib.hid hx.len
  go_enter Try.func73, Try.ntmps73
  go_wp2_with (at_make; refine wpList_mk ei_pt rfl _ _ rfl n _ _ rfl rfl rfl rfl (by omega) (by unfold maxLen; omega) ?_; intro w1 own1 bel1)
  have hs1 : w.heap.size + 1 ≤ w1.heap.size := (World.ownsRow.lt own1 _ rfl).2
  have own2 : OA pt 34 2 w.heap.size (w.heap.size + 1) w1 (.slice (some ⟨w.heap.size, 0, none⟩) n n) (List.replicate n ((0 : Int), (0 : Int))) :=
    OA.made pt_len (by decide) rfl own1 (fun k hk => by simp [Value.ownBlock] at hk; omega)
  clear own1
  go_loopw [4] (fun i wr => ∃ k : Nat, i = .int .i64 k ∧ k ≤ n ∧ OA pt 34 2 w.heap.size (w.heap.size + 1) wr (.slice (some ⟨w.heap.size, 0, none⟩) n n) (xs.take k ++ (List.replicate n ((0 : Int), (0 : Int))).drop k) ∧ w.heap.size + 1 ≤ wr.heap.size ∧ Below w.heap.size w wr)
    (fun i _ => n - (intOf i).toNat)
  case atStart => exact ⟨0, rfl, by omega, by simpa using own2, hs1, bel1⟩
  case round =>
    obtain ⟨k, rfl, hk, own, hsz, hb⟩ := hrel
    by_cases hlt : k < n
    · obtain ⟨b, o, ⟨p0, p1⟩, rfl, hab, X, hc⟩ := (hx.below hb).at pt_len (by decide) hlt
      have hc0 : wr.cell? ⟨b, o + k * 2, none⟩ = some (.int .i64 p0) := hc 0 _ rfl
      have hc1 : wr.cell? ⟨b, o + k * 2 + 1, none⟩ = some (.int .i64 p1) := hc 1 _ rfl
      clear hc
      have hD := Lib.hid (show (xs.take k ++ (List.replicate n ((0 : Int), (0 : Int))).drop k)[k]? = some (0, 0) by rw [M.mid_at (by rw [hl.out, List.length_replicate])]; simp [hlt])
      go_wp2_with (go_at_call 20; refine (laws_toCurvePoint _ _ _).mono ?_; rintro e w2 ⟨rfl, bel2⟩; have own' := own.below bel2 hsz; have q0 : w2.cell? ⟨w.heap.size, k * 2, none⟩ = some (.int .i64 0) := (OA.cell pt_len own' hD.out (j := 0) rfl).1; have r0 : w2.frozen? ⟨w.heap.size, k * 2, none⟩ = false := (OA.cell pt_len own' hD.out (j := 0) rfl).2; have q1 : w2.cell? ⟨w.heap.size, k * 2 + 1, none⟩ = some (.int .i64 0) := (OA.cell pt_len own' hD.out (j := 1) rfl).1; have r1 : w2.frozen? ⟨w.heap.size, k * 2 + 1, none⟩ = false := (OA.cell pt_len own' hD.out (j := 1) rfl).2)
      go_roundw
      case rel =>
        have h2 := OA.set pt_len own' hD.out (j := 0) (y := (p0, 0)) (u := .int .i64 p0) (by decide) rfl
        have h3 := OA.set pt_len h2.1 (k := k) (x := (p0, 0)) (j := 1) (y := (p0, p1)) (u := .int .i64 p1) (by rw [List.getElem?_set_self]; exact (List.getElem?_eq_some_iff.1 hD.out).1) (by decide) rfl
        rw [List.set_set, M.set_mid (by rw [hl.out, List.length_replicate]) X.out] at h3
        have hb2 := hb.trans (bel2.mono hb.size)
        exact ⟨k + 1, by go_num, by omega, h3.1, by simpa using Nat.le_trans hsz bel2.size, (hb2.setCell (Nat.le_refl _) _).setCell (Nat.le_refl _) _⟩
      case measure => simp [intOf]; omega
    · go_wp2
      go_ret
      rw [List.take_of_length_le (by rw [hl.out]; omega), List.drop_eq_nil_of_le (by simp; omega), List.append_nil] at own
      exact ⟨_, rfl, own.wide (Nat.le_refl _) hsz, hb⟩
theorem lay_cell (w : World) (u : Value) (e : TypeId) : (w.alloc (.cells #[u] e)).cell? ⟨w.heap.size, 0, none⟩ = some u := by
  rw [cell_of_row _ w.heap.size 0 #[u] e (0, 0) (heap_alloc_new w _)]
  rfl
theorem lay_frozen (w : World) (u : Value) (e : TypeId) : (w.alloc (.cells #[u] e)).frozen? ⟨w.heap.size, 0, none⟩ = false := World.frozen?_alloc_new w _ e 0
theorem Mid.cell (w : World) (b o : Nat) (u : Value) : Mid b (b + 1) w (w.setCell ⟨b, o, none⟩ u) :=
  Mid.of_grown (grown_setCell w b o u) fun k hk => by
    injection hk with hk
    omega
/-- Of three fresh cells the middle and the last one, after a call. -/
theorem three_cells {w w2 : World} {u1 u2 u3 : Value} {e1 e2 e3 : TypeId} (hb : Below (((w.alloc (.cells #[u1] e1)).alloc (.cells #[u2] e2)).alloc (.cells #[u3] e3)).heap.size (((w.alloc (.cells #[u1] e1)).alloc (.cells #[u2] e2)).alloc (.cells #[u3] e3)) w2) :
    (w2.cell? ⟨w.heap.size + 1, 0, none⟩ = some u2 ∧ w2.frozen? ⟨w.heap.size + 1, 0, none⟩ = false) ∧ (w2.cell? ⟨w.heap.size + 1 + 1, 0, none⟩ = some u3 ∧ w2.frozen? ⟨w.heap.size + 1 + 1, 0, none⟩ = false) ∧ w.heap.size + 1 + 1 + 1 ≤ w2.heap.size := by
  have s1 : (w.alloc (.cells #[u1] e1)).heap.size = w.heap.size + 1 := by simp
  have s2 : ((w.alloc (.cells #[u1] e1)).alloc (.cells #[u2] e2)).heap.size = w.heap.size + 1 + 1 := by simp
  have s3 : (((w.alloc (.cells #[u1] e1)).alloc (.cells #[u2] e2)).alloc (.cells #[u3] e3)).heap.size = w.heap.size + 1 + 1 + 1 := by simp
  have c3 := lay_cell ((w.alloc (.cells #[u1] e1)).alloc (.cells #[u2] e2)) u3 e3
  have f3 := lay_frozen ((w.alloc (.cells #[u1] e1)).alloc (.cells #[u2] e2)) u3 e3
  have c2 := lay_cell (w.alloc (.cells #[u1] e1)) u2 e2
  have f2 := lay_frozen (w.alloc (.cells #[u1] e1)) u2 e2
  rw [s2] at c3 f3
  rw [s1] at c2 f2
  refine ⟨⟨?_, ?_⟩, ⟨?_, ?_⟩, by rw [← s3]; exact hb.size⟩
  · rw [hb.cell (by rw [s3]; simp), World.cell?_alloc_lt _ _ _ (by rw [s2]; simp)]; exact c2
  · rw [hb.frozen (by rw [s3]; simp), World.frozen?_alloc_old _ _ _ (by rw [s2]; simp)]; exact f2
  · rw [hb.cell (by rw [s3]; simp)]; exact c3
  · rw [hb.frozen (by rw [s3]; simp)]; exact f3
theorem laws_toCurve (A : Option Addr) (n c : Nat) (xs : List (Int × Int)) (w : World) (hx : RA pt 2 w w.heap.size A n xs) (hn : n ≤ 1000000000) :
    Calls Try.prog 19 #[.agg #[.slice A n c]] w fun e w' => ∃ v, e = .returned (.agg #[v]) ∧ OA pt 34 2 w.heap.size w'.heap.size w' v xs ∧ Below w.heap.size w w' := by
  have hx2 : RA pt 2 (((w.alloc (.cells #[.slice A n c] 24)).alloc (.cells #[.slice none 0 0] 30)).alloc (.cells #[.slice none 0 0] 30)) (((w.alloc (.cells #[.slice A n c] 24)).alloc (.cells #[.slice none 0 0] 30)).alloc (.cells #[.slice none 0 0] 30)).heap.size A n xs :=
    hx.later ((((Below.refl _ _).alloc (Nat.le_refl _) _).alloc (by simp) _).alloc (by simp; omega) _)
  go_enter Try.func19, Try.ntmps19
  go_wp2_with (go_at_call 73; refine (laws_toCurvePointS _ _ _ _ _ hx2 hn).mono ?_; rintro e w2 ⟨v, rfl, own2, bel2⟩; obtain ⟨A2, c2, rfl, _⟩ := own2.shape; obtain ⟨⟨q1, r1⟩, ⟨q2, r2⟩, hs⟩ := three_cells bel2)
  have m1 : Mid (w.heap.size + 1) (w.heap.size + 1 + 1 + 1) w2 ((w2.setCell ⟨w.heap.size + 1 + 1, 0, none⟩ (Value.slice A2 xs.length c2)).setCell ⟨w.heap.size + 1, 0, none⟩ (Value.slice A2 xs.length c2)) :=
    ((Mid.cell w2 (w.heap.size + 1 + 1) 0 _).wide (by omega) (by omega)).trans ((Mid.cell _ (w.heap.size + 1) 0 _).wide (by omega) (by omega))
  refine bodyPost_ret (v := .agg #[.slice A2 xs.length c2]) (by simp [results, Try.results19, go_sem, q1, r1, q2, r2]) rfl ⟨_, rfl, ?_, ?_⟩
  · exact (own2.mid m1 (.inr (by simp)) (Nat.le_refl _)).wide (by simp; omega) m1.size
  · exact (((((Below.refl _ _).alloc (Nat.le_refl _) _).alloc (by simp) _).alloc (by simp; omega) _).trans (bel2.mono (by simp; omega))).trans ((m1.toBelow (by omega)).mono (by omega))
end Go.Proofs.Ytckihflfjecpbaa
