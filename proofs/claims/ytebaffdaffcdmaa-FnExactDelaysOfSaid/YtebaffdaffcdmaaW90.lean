import Derived.Test.YtebaffdaffcdmaaW89
namespace Go.Proofs.Ytebaffdaffcdmaa
open Go.RowKit
set_option maxHeartbeats 4000000
set_option maxRecDepth 100000
/-- The strip with a name. -/
def M.named (xs : List Strip) (s : ByteArray) : Int := match xs.findIdx? (fun x => decide (x.1 = s)) with
  | some i => (i : Int)
  | none => -1
def M.namedR (xs : List Strip) (s : ByteArray) : Int × Bool := if M.mixOk xs = true ∧ 0 ≤ M.named xs s then (M.named xs s, true) else (0, false)
theorem M.named_at {xs : List Strip} {s : ByteArray} {k : Nat} {x : Strip} (h : xs[k]? = some x) (hx : x.1 = s) (hb : ∀ j, j < k → ∀ y, xs[j]? = some y → ¬ y.1 = s) : M.named xs s = k := by
  obtain ⟨hk, rfl⟩ := List.getElem?_eq_some_iff.1 h
  have : xs.findIdx? (fun x => decide (x.1 = s)) = some k := by
    rw [List.findIdx?_eq_some_iff_getElem]
    exact ⟨hk, by simpa using hx, fun j hj => by simpa using hb j hj _ (List.getElem?_eq_getElem (by omega))⟩
  rw [M.named, this]
theorem M.named_none {xs : List Strip} {s : ByteArray} (hb : ∀ j, j < xs.length → ∀ y, xs[j]? = some y → ¬ y.1 = s) : M.named xs s = -1 := by
  have : xs.findIdx? (fun x => decide (x.1 = s)) = none := by
    rw [List.findIdx?_eq_none_iff]
    intro x hx
    obtain ⟨j, hj⟩ := List.getElem?_of_mem hx
    simpa using hb j (List.getElem?_eq_some_iff.1 hj).1 x hj
  rw [M.named, this]
theorem M.named_bd (xs : List Strip) (s : ByteArray) : -1 ≤ M.named xs s := by
  unfold M.named
  split <;> omega
theorem impl_stripNamed (A : Option Addr) (n c : Nat) (xs : List Strip) (s : ByteArray) (w : World) (hx : tM.R w w.heap.size [.slice A n c] xs) (hn : hM.sz xs ≤ 100000000) :
    Calls Try.prog 45 #[.agg #[.slice A n c], .string s] w fun e w' => e = .returned (.int .i64 (M.named xs s)) ∧ Below w.heap.size w w' := by
  have rx := sl_R.1 hx
  have hlx := rx.cap.1
  have hm1 : xs.length + hSt.szL xs ≤ 100000000 := hn
  have hnb : n ≤ 100000000 := by omega
  have HLX := Lib.hid hlx
  clear hlx hx hn hm1
  go_enter Try.func45, Try.ntmps45
  go_wp2
  go_loopw [5, 6, 10] (fun _ _ i wr => ∃ k : Nat, i = .int .i64 k ∧ k ≤ n ∧ Hid (∀ j, j < k → ∀ y, xs[j]? = some y → ¬ y.1 = s) ∧ Below w.heap.size w wr) (fun _ _ i _ => n - (intOf i).toNat)
  case atStart => exact ⟨0, rfl, by omega, Lib.hid (by omega), (Below.refl _ _).alloc (Nat.le_refl _) _⟩
  case round =>
    obtain ⟨k, rfl, hk, H, Bw⟩ := hrel
    by_cases hlt : k < n
    · have hX := Lib.hid (List.getElem?_eq_getElem (l := xs) (i := k) (by rw [HLX.out]; exact hlt))
      obtain ⟨b, o1, cc, cs, hv, hab, -, hE, hcc⟩ := (rx.below Bw).atX hX.out
      simp only [Value.slice.injEq] at hv
      obtain ⟨rfl, -, rfl⟩ := hv
      generalize xs[k]'(by rw [HLX.out]; exact hlt) = x at hX hE
      obtain ⟨s', l, us⟩ := x
      obtain ⟨A1, n1, c1, rfl, -, -⟩ := st_R.1 hE
      have e0 : wr.cell? ⟨b, o1 + k * 3, none⟩ = some (.string s') := hcc 0 _ rfl
      have e1 : wr.cell? ⟨b, o1 + k * 3 + 1, none⟩ = some (.int .i64 l) := hcc 1 _ rfl
      have e2 : wr.cell? ⟨b, o1 + k * 3 + 2, none⟩ = some (.slice A1 n1 c1) := hcc 2 _ rfl
      clear hcc hE
      by_cases hss : s' = s
      · have R := Lib.hid (M.named_at hX.out hss H.out)
        subst hss
        go_wp2
        go_ret
        exact ⟨ret_int (by rw [R.out]), Bw.alloc Bw.size _⟩
      · have h1 := str_ne hss
        have h2 : (s'.toList == s.toList) = false := by simpa using h1
        have HSS := Lib.hid hss
        clear hss
        go_wp2
        go_roundw
        case rel => exact ⟨k + 1, by go_num, by omega, Lib.hid (fun q hq y hy => by
            rcases Nat.lt_or_ge q k with h3 | h3
            · exact H.out q h3 y hy
            · obtain rfl : q = k := by omega
              rw [hX.out] at hy
              injection hy with hy
              subst hy
              exact HSS.out), Bw.alloc Bw.size _⟩
        case measure => simp [intOf]; omega
    · have R := Lib.hid (M.named_none (xs := xs) (s := s) (fun j hj => H.out j (by rw [HLX.out] at hj; omega)))
      go_wp2
      go_ret
      exact ⟨ret_int (by rw [R.out]), Bw⟩
theorem spec_l26Named (vb : Nat) (A : Option Addr) (n c : Nat) (xs : List Strip) (s : ByteArray) (w : World) (hv0 : w.cell? ⟨vb, 0, none⟩ = some (.slice A n c)) (hx : tM.R w w.heap.size [.slice A n c] xs) (hn : hM.sz xs ≤ 100000000) :
    Calls Try.prog 44 #[.pointer (some ⟨vb, 0, none⟩), .string s] w fun e w' => e = .returned (.int .i64 (M.named xs s)) ∧ Below w.heap.size w w' := by
  have hvb : vb < w.heap.size := World.block_lt_of_cell? w _ hv0
  have rx := sl_R.1 hx
  have hlx := rx.cap.1
  have hm1 : xs.length + hSt.szL xs ≤ 100000000 := hn
  have hnb : n ≤ 100000000 := by omega
  have HLX := Lib.hid hlx
  clear hlx hx hn hm1
  go_enter Try.func44, Try.ntmps44
  go_wp2
  go_loopw [5] (fun i wr => ∃ k : Nat, i = .int .i64 k ∧ k ≤ n ∧ Hid (∀ j, j < k → ∀ y, xs[j]? = some y → ¬ y.1 = s) ∧ Below w.heap.size w wr) (fun i _ => n - (intOf i).toNat)
  case atStart => exact ⟨0, rfl, by omega, Lib.hid (by omega), Below.refl _ _⟩
  case round =>
    obtain ⟨k, rfl, hk, H, Bw⟩ := hrel
    have c0 : wr.cell? ⟨vb, 0, none⟩ = some (.slice A n c) := by rw [Bw.cell hvb]; exact hv0
    by_cases hlt : k < n
    · have hX := Lib.hid (List.getElem?_eq_getElem (l := xs) (i := k) (by rw [HLX.out]; exact hlt))
      obtain ⟨b, o1, cc, cs, hv, hab, -, hE, hcc⟩ := (rx.below Bw).atX hX.out
      simp only [Value.slice.injEq] at hv
      obtain ⟨rfl, -, rfl⟩ := hv
      generalize xs[k]'(by rw [HLX.out]; exact hlt) = x at hX hE
      obtain ⟨s', l, us⟩ := x
      obtain ⟨A1, n1, c1, rfl, -, -⟩ := st_R.1 hE
      have e0 : wr.cell? ⟨b, o1 + k * 3, none⟩ = some (.string s') := hcc 0 _ rfl
      have e1 : wr.cell? ⟨b, o1 + k * 3 + 1, none⟩ = some (.int .i64 l) := hcc 1 _ rfl
      have e2 : wr.cell? ⟨b, o1 + k * 3 + 2, none⟩ = some (.slice A1 n1 c1) := hcc 2 _ rfl
      clear hcc hE
      by_cases hss : s' = s
      · have R := Lib.hid (M.named_at hX.out hss H.out)
        subst hss
        go_wp2
        go_ret
        exact ⟨ret_int (by rw [R.out]), Bw⟩
      · have h1 := str_ne hss
        have h2 : (s'.toList == s.toList) = false := by simpa using h1
        have HSS := Lib.hid hss
        clear hss
        go_wp2
        go_roundw
        case rel => exact ⟨k + 1, by go_num, by omega, Lib.hid (fun q hq y hy => by
            rcases Nat.lt_or_ge q k with h3 | h3
            · exact H.out q h3 y hy
            · obtain rfl : q = k := by omega
              rw [hX.out] at hy
              injection hy with hy
              subst hy
              exact HSS.out), Bw⟩
        case measure => simp [intOf]; omega
    · have R := Lib.hid (M.named_none (xs := xs) (s := s) (fun j hj => H.out j (by rw [HLX.out] at hj; omega)))
      go_wp2
      go_ret
      exact ⟨ret_int (by rw [R.out]), Bw⟩
theorem impl_StripNamed (A : Option Addr) (n c : Nat) (xs : List Strip) (s : ByteArray) (w : World) (hx : tM.R w w.heap.size [.slice A n c] xs) (hn : hM.sz xs ≤ 100000000) :
    Calls Try.prog 19 #[.agg #[.slice A n c], .string s] w fun e w' => e = .returned (.tuple #[.int .i64 (M.namedR xs s).1, .bool (M.namedR xs s).2]) ∧ Below w.heap.size w w' := by
  have hb : Below w.heap.size w (w.alloc (.cells #[.slice A n c] 29)) := (Below.refl _ _).alloc (Nat.le_refl _) _
  have hx2 := tM.later hx hb
  have hself : (w.alloc (.cells #[.slice A n c] 29)).cell? ⟨w.heap.size, 0, none⟩ = some (.slice A n c) := by simp [go_sem]
  have hsz : (w.alloc (.cells #[.slice A n c] 29)).heap.size = w.heap.size + 1 := by simp
  have HSZ := Lib.hid hsz
  clear hsz
  have arm1 := impl_stripNamed A n c xs s _ hx2 hn
  cases hM : M.mixOk xs
  · have R := Lib.hid (show M.namedR xs s = (0, false) by rw [M.namedR, hM]; rfl)
    go_enter Try.func19, Try.ntmps19
    go_wp2_with (first | (go_at_call 45; refine arm1.mono ?_; clear arm1; rintro e w2 ⟨rfl, bel2⟩; have hv2 : w2.cell? ⟨w.heap.size, 0, none⟩ = some (.slice A n c) := (by rw [bel2.cell (by rw [HSZ.out]; simp)]; exact hself)) | (go_at_call 43; refine (impl_isMixer _ _ _ _ _ (tM.later hx2 bel2) hn).mono ?_; rw [hM]; rintro e w3 ⟨rfl, bel3⟩))
    go_ret2
    exact ⟨by rw [R.out]; rfl, bel_trans (bel_trans hb bel2) bel3⟩
  · have HB := M.named_bd xs s
    have HM := Lib.hid hM
    generalize hq : M.named xs s = q at *
    by_cases h0 : 0 ≤ q
    · have R := Lib.hid (show M.namedR xs s = (q, true) by rw [M.namedR, hq, if_pos ⟨HM.out, h0⟩])
      clear hq hM
      go_enter Try.func19, Try.ntmps19
      go_wp2_with (first | (go_at_call 45; refine arm1.mono ?_; clear arm1; rintro e w2 ⟨rfl, bel2⟩; have hv2 : w2.cell? ⟨w.heap.size, 0, none⟩ = some (.slice A n c) := (by rw [bel2.cell (by rw [HSZ.out]; simp)]; exact hself)) | (go_at_call 43; refine (impl_isMixer _ _ _ _ _ (tM.later hx2 bel2) hn).mono ?_; rw [HM.out]; rintro e w3 ⟨rfl, bel3⟩))
      go_ret2
      exact ⟨by rw [R.out]; rfl, bel_trans (bel_trans hb bel2) bel3⟩
    · have R := Lib.hid (show M.namedR xs s = (0, false) by rw [M.namedR, hq, if_neg (fun e => h0 e.2)])
      have h1 : q < 0 := by omega
      clear hq hM h0
      go_enter Try.func19, Try.ntmps19
      go_wp2_with (first | (go_at_call 45; refine arm1.mono ?_; clear arm1; rintro e w2 ⟨rfl, bel2⟩; have hv2 : w2.cell? ⟨w.heap.size, 0, none⟩ = some (.slice A n c) := (by rw [bel2.cell (by rw [HSZ.out]; simp)]; exact hself)) | (go_at_call 43; refine (impl_isMixer _ _ _ _ _ (tM.later hx2 bel2) hn).mono ?_; rw [HM.out]; rintro e w3 ⟨rfl, bel3⟩))
      go_ret2
      exact ⟨by rw [R.out]; rfl, bel_trans (bel_trans hb bel2) bel3⟩
theorem spec_StripNamed (A : Option Addr) (n c : Nat) (xs : List Strip) (s : ByteArray) (w : World) (hx : tM.R w w.heap.size [.slice A n c] xs) (hn : hM.sz xs ≤ 100000000) :
    Calls Try.prog 18 #[.agg #[.slice A n c], .string s] w fun e w' => e = .returned (.tuple #[.int .i64 (M.namedR xs s).1, .bool (M.namedR xs s).2]) ∧ Below w.heap.size w w' := by
  have hb : Below w.heap.size w (w.alloc (.cells #[.slice A n c] 29)) := (Below.refl _ _).alloc (Nat.le_refl _) _
  have hx2 := tM.later hx hb
  have hself : (w.alloc (.cells #[.slice A n c] 29)).cell? ⟨w.heap.size, 0, none⟩ = some (.slice A n c) := by simp [go_sem]
  have hsz : (w.alloc (.cells #[.slice A n c] 29)).heap.size = w.heap.size + 1 := by simp
  have HSZ := Lib.hid hsz
  clear hsz
  have arm1 := spec_l26Ok _ A n c xs _ hself hx2 hn
  cases hM : M.mixOk xs
  · have R := Lib.hid (show M.namedR xs s = (0, false) by rw [M.namedR, hM]; rfl)
    rw [hM] at arm1
    go_enter Try.func18, Try.ntmps18
    go_wp2_with (go_at_call 42; refine arm1.mono ?_; clear arm1; rintro e w2 ⟨rfl, bel2⟩)
    go_ret2
    exact ⟨by rw [R.out]; rfl, bel_trans hb bel2⟩
  · have HB := M.named_bd xs s
    have HM := Lib.hid hM
    rw [hM] at arm1
    have arm2 : ∀ w2, Below (w.alloc (.cells #[.slice A n c] 29)).heap.size (w.alloc (.cells #[.slice A n c] 29)) w2 → _ := fun w2 bel2 => spec_l26Named w.heap.size A n c xs s w2 (by rw [bel2.cell (by rw [HSZ.out]; simp)]; exact hself) (tM.later hx2 bel2) hn
    generalize hq : M.named xs s = q at *
    by_cases h0 : 0 ≤ q
    · have R := Lib.hid (show M.namedR xs s = (q, true) by rw [M.namedR, hq, if_pos ⟨HM.out, h0⟩])
      clear hq hM
      go_enter Try.func18, Try.ntmps18
      go_wp2_with (first | (go_at_call 42; refine arm1.mono ?_; clear arm1; rintro e w2 ⟨rfl, bel2⟩) | (go_at_call 44; refine (arm2 _ bel2).mono ?_; clear arm2; rintro e w3 ⟨rfl, bel3⟩))
      go_ret2
      exact ⟨by rw [R.out]; rfl, bel_trans (bel_trans hb bel2) bel3⟩
    · have R := Lib.hid (show M.namedR xs s = (0, false) by rw [M.namedR, hq, if_neg (fun e => h0 e.2)])
      have h1 : q < 0 := by omega
      clear hq hM h0
      go_enter Try.func18, Try.ntmps18
      go_wp2_with (first | (go_at_call 42; refine arm1.mono ?_; clear arm1; rintro e w2 ⟨rfl, bel2⟩) | (go_at_call 44; refine (arm2 _ bel2).mono ?_; clear arm2; rintro e w3 ⟨rfl, bel3⟩))
      go_ret2
      exact ⟨by rw [R.out]; rfl, bel_trans (bel_trans hb bel2) bel3⟩
end Go.Proofs.Ytebaffdaffcdmaa
