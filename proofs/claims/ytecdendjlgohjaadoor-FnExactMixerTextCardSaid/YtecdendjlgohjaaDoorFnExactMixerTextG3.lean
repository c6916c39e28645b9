import Derived.Test.YtecdendjlgohjaaDoorFnExactMixerTextG2
set_option linter.unusedVariables false
set_option linter.unusedSimpArgs false
namespace Go.Proofs.YtecdendjlgohjaaDoor
open Go.RowKit
set_option maxHeartbeats 4000000
set_option maxRecDepth 100000
end Go.Proofs.YtecdendjlgohjaaDoor
namespace Go.Proofs.YtecdendjlgohjaaDoor
open Go.RowKit
set_option maxHeartbeats 1000000
theorem M.mix_n {xs : List Strip} (h : M.mixOk xs = true) : 1 ≤ xs.length ∧ xs.length ≤ 8 := by
  rw [M.mixOk, Bool.and_eq_true] at h
  have := M.inn_iffM.1 h.1
  omega
theorem M.mix_strip {xs : List Strip} (h : M.mixOk xs = true) {k : Nat} {s : ByteArray} {l : Int} {us : List (Int × Int)} (hk : xs[k]? = some (s, l, us)) : (0 ≤ l ∧ l ≤ 32) ∧ us.length ≤ 4 ∧ M.sendsB xs.length k us = true := by
  rw [M.mixOk, Bool.and_eq_true, List.all_eq_true] at h
  have h1 := h.2 k (List.mem_range.2 (List.getElem?_eq_some_iff.1 hk).1)
  rw [M.stepM_eq hk, Bool.and_eq_true] at h1
  have h2 := h1.1
  rw [M.stripOk, Bool.and_eq_true, Bool.and_eq_true, M.areSends, Bool.and_eq_true] at h2
  refine ⟨M.inn_iffM.1 h2.1.2, ?_, h2.2.1⟩
  have h3 := h2.2.2
  split at h3
  · have : us.length = 0 := by simpa using h3
    omega
  · have := M.inn_iffM.1 h3
    simp only at this
    omega
theorem M.sends_at {m : Int} {us : List (Int × Int)} : ∀ {last : Int} {j : Nat} {p0 p1 : Int}, M.sendsB m last us = true → us[j]? = some (p0, p1) → last < p0 ∧ p0 ≤ m - 1 ∧ M.smp p1 = true := by
  induction us with
  | nil => intro last j p0 p1 _ h; simp at h
  | cons u us ih =>
    intro last j p0 p1 h hj
    rw [M.sendsB, Bool.and_eq_true, Bool.and_eq_true] at h
    have h1 := M.inn_iffM.1 h.1.1
    cases j with
    | zero =>
      simp only [List.getElem?_cons_zero, Option.some.injEq] at hj
      subst hj
      exact ⟨by simp only at h1; omega, h1.2, h.1.2⟩
    | succ j =>
      simp only [List.getElem?_cons_succ] at hj
      have := ih h.2 hj
      exact ⟨by omega, this.2⟩
end Go.Proofs.YtecdendjlgohjaaDoor
namespace Go.Proofs.YtecdendjlgohjaaDoor
open Go.RowKit
/-! The text of a mixer, in plain lists. -/
def M.bs (s : ByteArray) : List UInt8 := s.data.toList
theorem M.bs_mk (s : ByteArray) : (⟨(M.bs s).toArray⟩ : ByteArray) = s := by
  apply ByteArray.ext
  simp [M.bs]
def M.nmAt (ms : List Strip) (q : Nat) : List UInt8 := M.bs ((ms[q]?).getD M.sz).1
def M.sndW (ms : List Strip) (u : Int × Int) : List (List UInt8) := [[116, 111], M.nmAt ms u.1.toNat, Lib.itoa u.2]
def M.stW (ms : List Strip) (s : ByteArray) (l : Int) (us : List (Int × Int)) (j : Nat) : List (List UInt8) := [M.bs s, Lib.itoa l] ++ (us.take j).flatMap (M.sndW ms)
def M.stT (ms : List Strip) (s : ByteArray) (l : Int) (us : List (Int × Int)) (j : Nat) : List UInt8 := Lib.join (M.stW ms s l us j) [32]
section
variable {ms : List Strip} {s : ByteArray} {l : Int} {us : List (Int × Int)} {j : Nat} {p : Int × Int}
theorem M.stW_zero : M.stW ms s l us 0 = [M.bs s, Lib.itoa l] := by simp [M.stW]
theorem M.stW_next (h : us[j]? = some p) : M.stW ms s l us (j + 1) = M.stW ms s l us j ++ [[116, 111], M.nmAt ms p.1.toNat, Lib.itoa p.2] := by
  rw [M.stW, M.take_at h, List.flatMap_append]
  simp [M.stW, M.sndW]
theorem M.stW_len (h : j ≤ us.length) : (M.stW ms s l us j).length = 2 + 3 * j := by
  induction j with
  | zero => rw [M.stW_zero]; rfl
  | succ j ih =>
    rw [M.stW_next (List.getElem?_eq_getElem (by omega : j < us.length)), List.length_append, ih (by omega)]
    simp only [List.length_cons, List.length_nil]
    omega
theorem M.join3 {ws : List (List UInt8)} (h : ws ≠ []) (a b c sep : List UInt8) : Lib.join (ws ++ [a, b, c]) sep = Lib.join ws sep ++ (sep ++ (a ++ (sep ++ (b ++ (sep ++ c))))) := by
  have e : ws ++ [a, b, c] = ((ws ++ [a]) ++ [b]) ++ [c] := by simp
  rw [e, M.join_snoc, if_neg (by simp), M.join_snoc, if_neg (by simp), M.join_snoc, if_neg h]
  simp
theorem M.stW_ne (h : j ≤ us.length) : M.stW ms s l us j ≠ [] := by
  intro e
  have := M.stW_len (ms := ms) (s := s) (l := l) h
  rw [e, List.length_nil] at this
  omega
theorem M.stT_zero : M.stT ms s l us 0 = M.bs s ++ 32 :: Lib.itoa l := by
  rw [M.stT, M.stW_zero, show ([M.bs s, Lib.itoa l] : List (List UInt8)) = [M.bs s] ++ [Lib.itoa l] from rfl, M.join_snoc, if_neg (by simp), Lib.join_one]
  simp
theorem M.stT_next (h : us[j]? = some p) : M.stT ms s l us (j + 1) = M.stT ms s l us j ++ ([32, 116, 111, 32] ++ (M.nmAt ms p.1.toNat ++ 32 :: Lib.itoa p.2)) := by
  have hj : j < us.length := (List.getElem?_eq_some_iff.1 h).1
  rw [M.stT, M.stW_next h, M.join3 (M.stW_ne (by omega))]
  simp [M.stT]
end
/-- The first k lines. -/
def M.mxT (ms : List Strip) : Nat → List UInt8
  | 0 => []
  | k + 1 => M.mxT ms k ++ (M.stT ms ((ms[k]?).getD M.sz).1 ((ms[k]?).getD M.sz).2.1 ((ms[k]?).getD M.sz).2.2 ((ms[k]?).getD M.sz).2.2.length ++ [10])
theorem M.mxT_next {ms : List Strip} {k : Nat} {s : ByteArray} {l : Int} {us : List (Int × Int)} (h : ms[k]? = some (s, l, us)) : M.mxT ms (k + 1) = M.mxT ms k ++ (M.stT ms s l us us.length ++ [10]) := by
  rw [M.mxT, h]; rfl
/-- The text of a mixer; none if it is no mixer. -/
def M.mixerText (ms : List Strip) : List UInt8 := if M.mixOk ms = true then M.mxT ms ms.length else []
theorem M.mix_name {xs : List Strip} (h : M.mixOk xs = true) {k : Nat} {s : ByteArray} {l : Int} {us : List (Int × Int)} (hk : xs[k]? = some (s, l, us)) : s.size ≤ 10 := by
  rw [M.mixOk, Bool.and_eq_true, List.all_eq_true] at h
  have h1 := h.2 k (List.mem_range.2 (List.getElem?_eq_some_iff.1 hk).1)
  rw [M.stepM_eq hk] at h1
  simp only [M.stripOk, M.name, Bool.and_eq_true, decide_eq_true_eq] at h1
  exact h1.1.1.1.1.2
theorem M.bs_len (s : ByteArray) : (M.bs s).length = s.size := by rw [M.bs, Lib.size_eq]
theorem M.nm_le {xs : List Strip} (h : M.mixOk xs = true) (q : Nat) : (M.nmAt xs q).length ≤ 10 := by
  rw [M.nmAt, M.bs_len]
  cases hq : xs[q]? with
  | none => simp [M.sz]; decide
  | some x =>
    obtain ⟨s, l, us⟩ := x
    exact M.mix_name h hq
theorem M.stT_le {xs : List Strip} (h : M.mixOk xs = true) {k : Nat} {s : ByteArray} {l : Int} {us : List (Int × Int)} (hk : xs[k]? = some (s, l, us)) : ∀ j, j ≤ us.length → (M.stT xs s l us j).length ≤ 32 + 36 * j := by
  have hs := M.mix_name h hk
  obtain ⟨hl, hu, hb⟩ := M.mix_strip h hk
  intro j
  induction j with
  | zero =>
    intro _
    have := M.itoa_le l (by omega) (by omega)
    rw [M.stT_zero]
    simp only [List.length_append, List.length_cons, M.bs_len]
    omega
  | succ j ih =>
    intro hj
    rcases hp : us[j]'(by omega) with ⟨p0, p1⟩
    have h2 : us[j]? = some (p0, p1) := by rw [List.getElem?_eq_getElem (by omega), hp]
    obtain ⟨-, -, h3⟩ := M.sends_at hb h2
    have h4 := M.inn_iffM.1 h3
    have h5 := M.itoa_le p1 (by omega) (by omega)
    have h6 := M.nm_le h p0.toNat
    have h7 := ih (by omega)
    rw [M.stT_next h2]
    simp only [List.length_append, List.length_cons, List.length_nil]
    omega
theorem M.mxT_le {xs : List Strip} (h : M.mixOk xs = true) : ∀ k, k ≤ xs.length → (M.mxT xs k).length ≤ 200 * k := by
  intro k
  induction k with
  | zero => intro _; simp [M.mxT]
  | succ k ih =>
    intro hk
    rcases hx : xs[k]'(by omega) with ⟨s, l, us⟩
    have h2 : xs[k]? = some (s, l, us) := by rw [List.getElem?_eq_getElem (by omega), hx]
    have h3 := M.stT_le h h2 us.length (Nat.le_refl _)
    obtain ⟨-, hu, -⟩ := M.mix_strip h h2
    have h4 := ih (by omega)
    rw [M.mxT_next h2]
    simp only [List.length_append, List.length_cons, List.length_nil]
    omega
end Go.Proofs.YtecdendjlgohjaaDoor
namespace Go.Proofs.YtecdendjlgohjaaDoor
open Go.RowKit Go.Sort
set_option maxHeartbeats 4000000
set_option maxRecDepth 100000
theorem own_two (u : World) (a b : Value) {B : Nat} (hB : B ≤ u.heap.size) : (u.alloc (.cells #[a, b] 9)).ownsRow B 9 1 (.slice (some ⟨u.heap.size, 0, none⟩) 2 2) 2 [a, b] :=
  ⟨by simp, .inr ⟨u.heap.size, 2, #[a, b], rfl, hB, heap_alloc_new u _, Nat.le_refl _, by simp [maxLen], rfl, by simp⟩⟩
theorem own_three (u : World) (a b c : Value) {B : Nat} (hB : B ≤ u.heap.size) : (u.alloc (.cells #[a, b, c] 9)).ownsRow B 9 1 (.slice (some ⟨u.heap.size, 0, none⟩) 3 3) 3 [a, b, c] :=
  ⟨by simp, .inr ⟨u.heap.size, 3, #[a, b, c], rfl, hB, heap_alloc_new u _, Nat.le_refl _, by simp [maxLen], rfl, by simp⟩⟩
theorem impl_MixerText (A : Option Addr) (n c : Nat) (xs : List Strip) (w : World) (hx : tM.R w w.heap.size [.slice A n c] xs) (hn : hM.sz xs ≤ 100000000) (hT : TAB w) :
    Calls Tryd.prog 15 #[.agg #[.slice A n c]] w fun e w' => e = .returned (.string ⟨(M.mixerText xs).toArray⟩) ∧ Below w.heap.size w w' := by
  have rx := sl_R.1 hx
  have HLX := Lib.hid rx.cap.1
  have B0 : Below w.heap.size w (w.alloc (.cells #[.slice A n c] 40)) := (Below.refl _ _).alloc (Nat.le_refl _) _
  have HT := Lib.hid hT
  have hq : (w.alloc (.cells #[.slice A n c] 40)).cell? ⟨w.heap.size, 0, none⟩ = some (.slice A n c) := by simp [go_sem]
  cases hok : M.mixOk xs
  · have HOK := Lib.hid hok
    go_enter Tryd.func15, Tryd.ntmps15
    go_wp2_with (go_at_call 42; refine (impl_isMixer A n c xs _ (tM.later hx B0) hn).mono ?_; rw [hok]; rintro e w1 ⟨rfl, b1⟩)
    go_ret
    exact ⟨by rw [M.mixerText, HOK.out]; rfl, bel_trans B0 b1⟩
  · have HOK := Lib.hid hok
    have hmn := M.mix_n hok
    have hnb : 1 ≤ n ∧ n ≤ 8 := by have := HLX.out; omega
    go_enter Tryd.func15, Tryd.ntmps15
    go_wp2_with (go_at_call 42; refine (impl_isMixer A n c xs _ (tM.later hx B0) hn).mono ?_; rw [hok]; rintro e w1 ⟨rfl, b1⟩; have q1 : w1.cell? ⟨w.heap.size, 0, none⟩ = some (.slice A n c) := (by rw [b1.cell (by simp)]; exact hq); have s1 : w.heap.size + 1 ≤ w1.heap.size := (by have := b1.size; simpa using this))
    have B1 := bel_trans B0 b1
    clear hx hT hok b1 hq B0 hmn
    go_loopw [3, 15] (fun v i wr => ∃ k : Nat, i = .int .i64 k ∧ k ≤ n ∧ v = .string ⟨(M.mxT xs k).toArray⟩ ∧ wr.cell? ⟨w.heap.size, 0, none⟩ = some (.slice A n c) ∧ w.heap.size + 1 ≤ wr.heap.size ∧ Below w.heap.size w wr) (fun _ i _ => n - (intOf i).toNat)
    case atStart => exact ⟨0, rfl, by omega, rfl, q1, s1, B1⟩
    case round =>
      clear q1 s1 B1
      obtain ⟨k, rfl, hk, rfl, qw, sw, Bw⟩ := hrel
      by_cases hlt : k < n
      · have hX := Lib.hid (List.getElem?_eq_getElem (l := xs) (i := k) (by rw [HLX.out]; exact hlt))
        obtain ⟨b, o1, cc, cs, hv, hab, -, hE, hcc⟩ := (rx.below Bw).atX hX.out
        simp only [Value.slice.injEq] at hv
        obtain ⟨rfl, -, rfl⟩ := hv
        generalize xs[k]'(by rw [HLX.out]; exact hlt) = x at hX hE
        obtain ⟨s, l, us⟩ := x
        obtain ⟨A2, n2, c2, rfl, -, hE⟩ := st_R.1 hE
        have e0 : wr.cell? ⟨b, o1 + k * 3, none⟩ = some (.string s) := hcc 0 _ rfl
        have e1 : wr.cell? ⟨b, o1 + k * 3 + 1, none⟩ = some (.int .i64 l) := hcc 1 _ rfl
        have e2 : wr.cell? ⟨b, o1 + k * 3 + 2, none⟩ = some (.slice A2 n2 c2) := hcc 2 _ rfl
        have rs := (tSdS_ra hE).1
        have hn2 := rs.1
        obtain ⟨hlat, hu4, hsb⟩ := M.mix_strip HOK.out hX.out
        have HN2 := Lib.hid hn2
        have HSB := Lib.hid hsb
        have l0 : -9223372036854775808 ≤ l := by omega
        have l1 : l ≤ 9223372036854775807 := by omega
        have n2b : n2 ≤ 4 := by omega
        have g0 := M.mxT_le HOK.out k (by rw [HLX.out]; omega)
        have g1 := M.stT_le HOK.out hX.out us.length (Nat.le_refl _)
        rw [hn2] at g1
        have G0 := Lib.hid g0
        have G1 := Lib.hid g1
        have BU := bel_trans Bw ((Below.refl wr.heap.size wr).alloc (Nat.le_refl _) (.cells #[.string s, .int .i64 l, .slice A2 n2 c2] 79))
        have b0 : (wr.alloc (.cells #[.string s, .int .i64 l, .slice A2 n2 c2] 79)).cell? ⟨wr.heap.size, 0, none⟩ = some (.string s) := by rw [cell_of_row _ wr.heap.size 0 _ 79 (0, 0) (heap_alloc_new wr _)]; rfl
        have b1 : (wr.alloc (.cells #[.string s, .int .i64 l, .slice A2 n2 c2] 79)).cell? ⟨wr.heap.size, 1, none⟩ = some (.int .i64 l) := by rw [cell_of_row _ wr.heap.size 1 _ 79 (0, 0) (heap_alloc_new wr _)]; rfl
        have b2 : (wr.alloc (.cells #[.string s, .int .i64 l, .slice A2 n2 c2] 79)).cell? ⟨wr.heap.size, 2, none⟩ = some (.slice A2 n2 c2) := by rw [cell_of_row _ wr.heap.size 2 _ 79 (0, 0) (heap_alloc_new wr _)]; rfl
        have bq : (wr.alloc (.cells #[.string s, .int .i64 l, .slice A2 n2 c2] 79)).cell? ⟨w.heap.size, 0, none⟩ = some (.slice (some ⟨b, o1, none⟩) n c) := by rw [World.cell?_alloc_lt _ _ _ (by simp; omega)]; exact qw
        have sz : (wr.alloc (.cells #[.string s, .int .i64 l, .slice A2 n2 c2] 79)).heap.size = wr.heap.size + 1 := by simp
        clear hcc hn2 hu4 hsb hlat g0 g1
        go_wp2_with fail
        have BR : Below wr.heap.size wr (wr.alloc (.cells #[.string s, .int .i64 l, .slice A2 n2 c2] 79)) := (Below.refl _ _).alloc (Nat.le_refl _) _
        generalize hw4 : wr.alloc (.cells #[.string s, .int .i64 l, .slice A2 n2 c2] 79) = w4 at b0 b1 b2 bq sz BU BR ⊢
        have k0' := cell_regrown b0
        have k1' := cell_regrown b1
        clear hw4 e0 e1 e2
        (refine wp_region_fresh2 [0, 2] [1, 3] 1 (.one 4 .rest) [5] [5, 6] (by kernel_rfl) (by kernel_rfl) ?_; simp only [pickOps]; simp only [List.filterMap, List.getElem?_cons_succ, List.getElem?_cons_zero]; (repeat (go_big_quiet_step (fail))); refine wpQuiet_nil ?_; (repeat (go_big_quiet_step (fail))); refine wpQuiet_nil ?_)
        refine seqT_one2 rfl ?_
        have D1 : Below w4.heap.size w4 w4.drew := below_drewN (Below.refl _ _) 1
        go_wp2_with fail
        refine (impl_Decimal l l0 l1 _ (HT.out.on (bel_trans BU D1))).mono ?_
        rintro e u1 ⟨rfl, d1⟩
        have B3 := bel_trans D1 d1
        have s3 := B3.size
        have f2 : u1.cell? ⟨wr.heap.size, 2, none⟩ = some (.slice A2 n2 c2) := by rw [B3.cell (by simp; omega)]; exact b2
        have fq : u1.cell? ⟨w.heap.size, 0, none⟩ = some (.slice (some ⟨b, o1, none⟩) n c) := by rw [B3.cell (by simp; omega)]; exact bq
        clear k0' k1' b0 b1 b2 bq
        go_wp2_with fail
        refine ⟨regrown_of_below B3, ?_⟩
        refine seqT_rest2 ?_
        have B4 := (bel_trans BU B3).alloc (by have := (bel_trans BU B3).size; omega) (.cells #[.string s, .string ⟨(Lib.itoa l).toArray⟩] 9)
        have h2 : (u1.alloc (.cells #[.string s, .string ⟨(Lib.itoa l).toArray⟩] 9)).cell? ⟨wr.heap.size, 2, none⟩ = some (.slice A2 n2 c2) := by rw [World.cell?_alloc_lt _ _ _ (by simp; omega)]; exact f2
        have hq : (u1.alloc (.cells #[.string s, .string ⟨(Lib.itoa l).toArray⟩] 9)).cell? ⟨w.heap.size, 0, none⟩ = some (.slice (some ⟨b, o1, none⟩) n c) := by rw [World.cell?_alloc_lt _ _ _ (by simp; omega)]; exact fq
        have own0 := own_two u1 (.string s) (.string ⟨(Lib.itoa l).toArray⟩) (B := w.heap.size + 1) (by omega)
        go_wp2_with fail
        generalize hV : u1.alloc (.cells #[.string s, .string ⟨(Lib.itoa l).toArray⟩] 9) = V at B4 h2 hq own0 ⊢
        have own0' : V.ownsRow (w.heap.size + 1) 9 1 (.slice (some ⟨u1.heap.size, 0, none⟩) 2 2) (2 + 3 * 0) (M.strs (M.stW xs s l us 0)) := by
          have : M.strs (M.stW xs s l us 0) = [.string s, .string ⟨(Lib.itoa l).toArray⟩] := by rw [M.stW_zero]; simp only [M.strs, List.map_cons, List.map_nil, M.bs_mk]
          rw [this]
          exact own0
        have Bo0 : Below w.heap.size wr V := (((Below.refl w.heap.size wr).trans (BR.mono (by omega))).trans (B3.mono (by omega))).trans (by rw [← hV]; exact (Below.refl _ _).alloc (by omega) _)
        clear own0 hV h2 f2 fq BR
        obtain ⟨wo, rfl⟩ : ∃ wo : World, wo = wr := ⟨_, rfl⟩
        go_loopw [6, 28] (fun v i wr => ∃ j : Nat, i = .int .i64 j ∧ j ≤ n2 ∧ wr.ownsRow (w.heap.size + 1) 9 1 v (2 + 3 * j) (M.strs (M.stW xs s l us j)) ∧ wr.cell? ⟨w.heap.size, 0, none⟩ = some (.slice (some ⟨b, o1, none⟩) n c) ∧ w.heap.size + 1 ≤ wr.heap.size ∧ Below w.heap.size w wr ∧ Below w.heap.size wo wr) (fun _ i _ => n2 - (intOf i).toNat)
        case atStart => exact ⟨0, rfl, by omega, own0', hq, World.block_lt_of_cell? _ _ hq, B4, Bo0⟩
        case round =>
          clear own0' hq B4 Bo0
          obtain ⟨j, rfl, hj, own, vq, sv, Bv, Bo⟩ := hrel
          by_cases hlt2 : j < n2
          · obtain ⟨b2, o2, ⟨p0, p1⟩, rfl, hab2, X2, hdd⟩ := (rs.below Bo).at sd_len (by decide) hlt2
            have f0 : wr.cell? ⟨b2, o2 + j * 2, none⟩ = some (.int .i64 p0) := hdd 0 _ rfl
            have f1 : wr.cell? ⟨b2, o2 + j * 2 + 1, none⟩ = some (.int .i64 p1) := hdd 1 _ rfl
            obtain ⟨hp1, hp2, hp3⟩ := M.sends_at HSB.out X2.out
            have hp4 := M.inn_iffM.1 hp3
            obtain ⟨q, rfl⟩ : ∃ q : Nat, p0 = q := ⟨p0.toNat, by omega⟩
            have hqn : q < n := by have := HLX.out; omega
            have hY := Lib.hid (List.getElem?_eq_getElem (l := xs) (i := q) (by rw [HLX.out]; exact hqn))
            obtain ⟨b', o', cc', cs', hv', -, -, hE', hcc'⟩ := (rx.below Bv).atX hY.out
            simp only [Value.slice.injEq, Option.some.injEq, Addr.mk.injEq] at hv'
            obtain ⟨⟨rfl, rfl, -⟩, -, -⟩ := hv'
            generalize xs[q]'(by rw [HLX.out]; exact hqn) = y at hY hE'
            obtain ⟨s', l', us'⟩ := y
            obtain ⟨A3, n3, c3, rfl, -, -⟩ := st_R.1 hE'
            have g0 : wr.cell? ⟨b, o1 + q * 3, none⟩ = some (.string s') := hcc' 0 _ rfl
            have l2 : -9223372036854775808 ≤ p1 := by omega
            have l3 : p1 ≤ 9223372036854775807 := by omega
            have hW := Lib.hid (M.stW_next (ms := xs) (s := s) (l := l) X2.out)
            have hbb : b < wr.heap.size := World.block_lt_of_cell? _ _ g0
            obtain ⟨W4, hW4⟩ : ∃ W4, W4 = wr.alloc (.cells #[.int .i64 (q : Int), .int .i64 p1] 81) := ⟨_, rfl⟩
            have G2 : Below wr.heap.size wr W4 := by rw [hW4]; exact (Below.refl _ _).alloc (Nat.le_refl _) _
            have BW := bel_trans Bv G2
            have ownW := own_below own G2
            have m0 : W4.cell? ⟨wr.heap.size, 0, none⟩ = some (.int .i64 (q : Int)) := by rw [hW4, cell_of_row _ wr.heap.size 0 _ 81 (0, 0) (heap_alloc_new wr _)]; rfl
            have m1 : W4.cell? ⟨wr.heap.size, 1, none⟩ = some (.int .i64 p1) := by rw [hW4, cell_of_row _ wr.heap.size 1 _ 81 (0, 0) (heap_alloc_new wr _)]; rfl
            have mq : W4.cell? ⟨w.heap.size, 0, none⟩ = some (.slice (some ⟨b, o1, none⟩) n c) := by rw [G2.cell (by simp; omega)]; exact vq
            have mn : W4.cell? ⟨b, o1 + q * 3, none⟩ = some (.string s') := by rw [G2.cell (by simpa using hbb)]; exact g0
            have HW4 := Lib.hid hW4
            have hqn2 : (q : Int) < (n : Int) := by omega
            clear hW4 hdd hp1 hp2 hp3 hp4 hcc'
            go_wp2_with fail
            rw [← HW4.out]
            have k0' := cell_regrown m0
            have k1' := cell_regrown m1
            have k2' := cell_regrown mq
            have k3' := cell_regrown mn
            clear f0 f1 g0 m0 m1 mn
            (refine wp_region_fresh2 [0, 1, 3, 8] [2, 4, 5, 6, 7, 9] 2 (.one 10 (.one 11 .rest)) [12] [12, 13] (by kernel_rfl) (by kernel_rfl) ?_; simp only [pickOps]; simp only [List.filterMap, List.getElem?_cons_succ, List.getElem?_cons_zero]; (repeat (go_big_quiet_step (fail))); refine wpQuiet_nil ?_; (repeat (go_big_quiet_step (fail))); refine wpQuiet_nil ?_)
            refine seqT_one2 rfl ?_
            have D2 : Below W4.heap.size W4 W4.drew := below_drewN (Below.refl _ _) 1
            go_wp2_with fail
            refine (impl_Decimal p1 l2 l3 _ (HT.out.on (bel_trans BW D2))).mono ?_
            rintro e u2 ⟨rfl, d2⟩
            have B5 := bel_trans D2 d2
            have B6 := bel_trans BW B5
            have s6 := B6.size
            have own5 := own_below ownW B5
            clear k0' k1' k2' k3'
            go_wp2_with fail
            refine ⟨regrown_of_below B5, ?_⟩
            refine seqT_one2 rfl ?_
            go_wp2_with fail
            refine ⟨regrown_of_below (B5.alloc (by have := B5.size; omega) _), ?_⟩
            refine seqT_rest2 ?_
            have own6 := World.ownsRow.alloc own5 (.cells #[.string ⟨#[116, 111]⟩, .string s', .string ⟨(Lib.itoa p1).toArray⟩] 9)
            have own7 := Reads.of_own (own_three u2 (.string ⟨#[116, 111]⟩) (.string s') (.string ⟨(Lib.itoa p1).toArray⟩) (B := u2.heap.size) (Nat.le_refl _))
            go_wp2_with (at_builtin; refine wpList_cat ei_str rfl _ _ rfl own6 rfl own7 rfl (by simp [Value.oneCell']) (by unfold maxLen; omega) (by omega) (by simp; omega) ?_; intro v1 u3 own8 gr8 bel8)
            go_roundw
            case rel =>
              have B7 := (B5.alloc (by have := B5.size; omega) (.cells #[.string ⟨#[116, 111]⟩, .string s', .string ⟨(Lib.itoa p1).toArray⟩] 9))
              have B8 : Below (w.heap.size + 1) wr u3 := ((G2.mono sv).trans (B7.mono (by have := G2.size; omega))).trans bel8
              refine ⟨j + 1, by go_num, by omega, ?_, ?_, ?_, Bv.trans (B8.mono (by omega)), Bo.trans (B8.mono (by omega))⟩
              · have e : M.strs (M.stW xs s l us (j + 1)) = M.strs (M.stW xs s l us j) ++ [.string ⟨#[116, 111]⟩, .string s', .string ⟨(Lib.itoa p1).toArray⟩] := by
                  rw [hW.out]
                  simp only [M.strs, List.map_append, List.map_cons, List.map_nil, Int.toNat_natCast, M.nmAt, hY.out, Option.getD_some, M.bs_mk]
                rw [e]
                exact own8
              · rw [B8.cell (by simp)]; exact vq
              · have := B8.size; omega
            case measure => simp [intOf]; omega
          · obtain rfl : j = n2 := by omega
            have hlen : (M.stW xs s l us j).length = 2 + 3 * j := M.stW_len (by rw [HN2.out]; omega)
            rw [← hlen] at own
            have hg1 := G1.out
            have hg0 := G0.out
            have eT : Lib.join (M.stW xs s l us j) [32] = M.stT xs s l us us.length := by rw [HN2.out]; rfl
            obtain ⟨g, cap, rfl, hJ⟩ := join_own own [32] (by omega) (by omega) (by rw [eT, HN2.out]; omega)
            rw [hlen] at hJ ⊢
            rw [eT] at hJ
            have z0 : ¬ 9223372036854775807 < (M.stT xs s l us us.length).length + 1 := by rw [HN2.out]; omega
            have z1 : ¬ 9223372036854775807 < (M.mxT xs k).length + ((M.stT xs s l us us.length).length + 1) := by rw [HN2.out]; omega
            have hM := Lib.hid (M.mxT_next hX.out)
            clear hg0 hg1
            go_wp2_with (go_at_call 36; refine hJ.mono ?_; rintro e u3 ⟨rfl, e3⟩)
            go_roundw
            case rel =>
              refine ⟨k + 1, by go_num, by omega, ?_, ?_, ?_, bel_trans Bv e3⟩
              · rw [hM.out]
                refine congrArg Value.string ?_
                rw [show (⟨#[10]⟩ : ByteArray) = ⟨([10] : List UInt8).toArray⟩ from rfl, M.str_app (M.stT xs s l us us.length) [10], M.str_app]
              · rw [e3.cell (by show w.heap.size < _; omega)]; exact vq
              · have := e3.size; omega
            case measure => simp [intOf]; omega
      · obtain rfl : k = n := by omega
        go_wp2_with fail
        go_ret
        exact ⟨by rw [M.mixerText, if_pos HOK.out, HLX.out]; rfl, Bw⟩
end Go.Proofs.YtecdendjlgohjaaDoor
namespace Go.Proofs.YtecdendjlgohjaaDoor
open Go.RowKit Go.Sort
set_option maxHeartbeats 1000000
set_option maxRecDepth 100000
theorem spec_l01Dec_rg (n : Int) (h0 : -9223372036854775808 ≤ n) (h1 : n ≤ 9223372036854775807) (w : World) (d : Nat) (os : Array Obj) :
    Calls Tryd.prog 60 #[.int .i64 n] (grow (redrawn w d) os) fun e w'' => e = .returned (.string ⟨(Lib.itoa n).toArray⟩) ∧ ∃ p : Regrown, w'' = grow (redrawn w p.d) p.os :=
  Calls.regrown_of (spec_l01Dec n h0 h1 _)
end Go.Proofs.YtecdendjlgohjaaDoor
namespace Go.Proofs.YtecdendjlgohjaaDoor
open Go.RowKit Go.Sort
set_option maxHeartbeats 4000000
set_option maxRecDepth 100000
theorem M.app_line (x : List UInt8) (s : ByteArray) (b : List UInt8) : (⟨x.toArray⟩ : ByteArray) ++ (s ++ ⟨#[32]⟩ ++ ⟨b.toArray⟩) = ⟨(x ++ (M.bs s ++ 32 :: b)).toArray⟩ := by
  rw [show (⟨#[32]⟩ : ByteArray) = ⟨([32] : List UInt8).toArray⟩ from rfl]
  conv => lhs; rw [← M.bs_mk s]
  rw [M.str_app (M.bs s) [32], M.str_app, M.str_app]
  simp
theorem M.app_send (x : List UInt8) (s : ByteArray) (b : List UInt8) : (⟨x.toArray⟩ : ByteArray) ++ (⟨#[32, 116, 111, 32]⟩ ++ s ++ ⟨#[32]⟩ ++ ⟨b.toArray⟩) = ⟨(x ++ ([32, 116, 111, 32] ++ (M.bs s ++ 32 :: b))).toArray⟩ := by
  rw [show (⟨#[32]⟩ : ByteArray) = ⟨([32] : List UInt8).toArray⟩ from rfl, show (⟨#[32, 116, 111, 32]⟩ : ByteArray) = ⟨([32, 116, 111, 32] : List UInt8).toArray⟩ from rfl]
  conv => lhs; rw [← M.bs_mk s]
  rw [M.str_app [32, 116, 111, 32] (M.bs s), M.str_app _ [32], M.str_app, M.str_app]
  simp
theorem spec_l26Text (vb : Nat) (A : Option Addr) (n c : Nat) (xs : List Strip) (w : World) (hv0 : w.cell? ⟨vb, 0, none⟩ = some (.slice A n c)) (hx : tM.R w w.heap.size [.slice A n c] xs) (hok : M.mixOk xs = true) :
    Calls Tryd.prog 40 #[.pointer (some ⟨vb, 0, none⟩)] w fun e w' => e = .returned (.string ⟨(M.mxT xs xs.length).toArray⟩) ∧ Below w.heap.size w w' := by
  have rx := sl_R.1 hx
  have HLX := Lib.hid rx.cap.1
  have HOK := Lib.hid hok
  have hvb : vb < w.heap.size := World.block_lt_of_cell? w _ hv0
  have hmn := M.mix_n hok
  have hnb : 1 ≤ n ∧ n ≤ 8 := by have := HLX.out; omega
  clear hok hx hmn
  go_enter Tryd.func40, Tryd.ntmps40
  go_wp2
  go_loopw [3, 4] (fun v i wr => ∃ k : Nat, i = .int .i64 k ∧ k ≤ n ∧ v = .string ⟨(M.mxT xs k).toArray⟩ ∧ Below w.heap.size w wr) (fun _ i _ => n - (intOf i).toNat)
  case atStart => exact ⟨0, rfl, by omega, rfl, Below.refl _ _⟩
  case round =>
    obtain ⟨k, rfl, hk, rfl, Bw⟩ := hrel
    have hv : wr.cell? ⟨vb, 0, none⟩ = some (.slice A n c) := by rw [Bw.cell (by simpa using hvb)]; exact hv0
    by_cases hlt : k < n
    · have hX := Lib.hid (List.getElem?_eq_getElem (l := xs) (i := k) (by rw [HLX.out]; exact hlt))
      obtain ⟨b, o1, cc, cs, hvv, hab, -, hE, hcc⟩ := (rx.below Bw).atX hX.out
      simp only [Value.slice.injEq] at hvv
      obtain ⟨rfl, -, rfl⟩ := hvv
      generalize xs[k]'(by rw [HLX.out]; exact hlt) = x at hX hE
      obtain ⟨s, l, us⟩ := x
      obtain ⟨A2, n2, c2, rfl, -, hE⟩ := st_R.1 hE
      have e0 : wr.cell? ⟨b, o1 + k * 3, none⟩ = some (.string s) := hcc 0 _ rfl
      have e1 : wr.cell? ⟨b, o1 + k * 3 + 1, none⟩ = some (.int .i64 l) := hcc 1 _ rfl
      have e2 : wr.cell? ⟨b, o1 + k * 3 + 2, none⟩ = some (.slice A2 n2 c2) := hcc 2 _ rfl
      have rs := (tSdS_ra hE).1
      have hn2 := rs.1
      obtain ⟨hlat, hu4, hsb⟩ := M.mix_strip HOK.out hX.out
      have HN2 := Lib.hid hn2
      have HSB := Lib.hid hsb
      have l0 : -9223372036854775808 ≤ l := by omega
      have l1 : l ≤ 9223372036854775807 := by omega
      have n2b : n2 ≤ 4 := by omega
      have z0 := M.mxT_le HOK.out k (by rw [HLX.out]; omega)
      have Z0 := Lib.hid z0
      have z1 := M.itoa_le l l0 l1
      have z2 := M.mix_name HOK.out hX.out
      have g0 : ¬ 9223372036854775807 < s.size + 1 := by omega
      have g1 : ¬ 9223372036854775807 < s.size + 1 + (Lib.itoa l).length := by omega
      have g2 : ¬ 9223372036854775807 < (M.mxT xs k).length + (s.size + 1 + (Lib.itoa l).length) := by omega
      have hbr : b < wr.heap.size := Nat.lt_of_lt_of_le hab Bw.size
      have cD := spec_l01Dec_rg l l0 l1 wr
      have k0 := cell_regrown e0
      have k1 := cell_regrown e1
      have hkn2 : (k : Int) < (n : Int) := by omega
      clear hcc hn2 hu4 hsb hlat z0 z1 z2
      go_wp2_with fail
      (refine wp_region_quiet_below (by kernel_rfl) (by kernel_rfl) ?_; (repeat (go_big_quiet_step (with_reducible exact cD _ _))); refine wpQuiet_nil ?_; intro _ hw'; obtain ⟨⟨dq, osq⟩, hw''⟩ := hw'; subst hw'')
      have BQ := below_regrown wr dq osq
      generalize grow (redrawn wr dq) osq = w5 at BQ ⊢
      have d2 : w5.cell? ⟨b, o1 + k * 3 + 2, none⟩ = some (.slice A2 n2 c2) := by rw [BQ.cell (by simpa using hbr)]; exact e2
      have B5 := bel_trans Bw BQ
      have E2 := Lib.hid e2
      clear cD k0 k1 g0 g1 g2 e1 e2
      obtain ⟨wo, rfl⟩ : ∃ wo : World, wo = wr := ⟨_, rfl⟩
      go_wp2_with fail
      go_loopw [3, 6] (fun v i wr => ∃ (j : Nat) (T : List UInt8), i = .int .i64 j ∧ j ≤ n2 ∧ v = .string ⟨T.toArray⟩ ∧ Hid (T = M.mxT xs k ++ M.stT xs s l us j) ∧ Below w.heap.size w wr ∧ Below w.heap.size wo wr) (fun _ i _ => n2 - (intOf i).toNat)
      case atStart => exact ⟨0, M.mxT xs k ++ M.stT xs s l us 0, rfl, by omega, by rw [M.app_line, M.stT_zero], Lib.hid rfl, B5, BQ.mono (by have := Bw.size; omega)⟩
      case round =>
        clear B5 BQ d2
        obtain ⟨j, T, rfl, hj, rfl, HTT, Bv, Bo⟩ := hrel
        have hv2 : wr.cell? ⟨vb, 0, none⟩ = some (.slice (some ⟨b, o1, none⟩) n c) := by rw [Bv.cell (by simpa using hvb)]; exact hv0
        have d2 : wr.cell? ⟨b, o1 + k * 3 + 2, none⟩ = some (.slice A2 n2 c2) := by rw [Bo.cell (by simpa using hab)]; exact E2.out
        have hT1 := M.stT_le HOK.out hX.out j (by rw [HN2.out]; omega)
        have hT0 := Z0.out
        have hT2 : T.length ≤ 200 * k + (32 + 36 * j) := by rw [HTT.out, List.length_append]; omega
        by_cases hlt2 : j < n2
        · obtain ⟨b2, o2, ⟨p0, p1⟩, rfl, hab2, X2, hdd⟩ := (rs.below Bo).at sd_len (by decide) hlt2
          have f0 : wr.cell? ⟨b2, o2 + j * 2, none⟩ = some (.int .i64 p0) := hdd 0 _ rfl
          have f1 : wr.cell? ⟨b2, o2 + j * 2 + 1, none⟩ = some (.int .i64 p1) := hdd 1 _ rfl
          obtain ⟨hp1, hp2, hp3⟩ := M.sends_at HSB.out X2.out
          have hp4 := M.inn_iffM.1 hp3
          obtain ⟨q, rfl⟩ : ∃ q : Nat, p0 = q := ⟨p0.toNat, by omega⟩
          have hqn : q < n := by have := HLX.out; omega
          have hY := Lib.hid (List.getElem?_eq_getElem (l := xs) (i := q) (by rw [HLX.out]; exact hqn))
          obtain ⟨b', o', cc', cs', hv', -, -, hE', hcc'⟩ := (rx.below Bv).atX hY.out
          simp only [Value.slice.injEq, Option.some.injEq, Addr.mk.injEq] at hv'
          obtain ⟨⟨rfl, rfl, -⟩, -, -⟩ := hv'
          generalize xs[q]'(by rw [HLX.out]; exact hqn) = y at hY hE'
          obtain ⟨s', l', us'⟩ := y
          obtain ⟨A3, n3, c3, rfl, -, -⟩ := st_R.1 hE'
          have g0 : wr.cell? ⟨b, o1 + q * 3, none⟩ = some (.string s') := hcc' 0 _ rfl
          have l2 : -9223372036854775808 ≤ p1 := by omega
          have l3 : p1 ≤ 9223372036854775807 := by omega
          have z1 := M.itoa_le p1 l2 l3
          have z2 := M.mix_name HOK.out hY.out
          have x0 : ¬ 9223372036854775807 < 4 + s'.size := by omega
          have x1 : ¬ 9223372036854775807 < 4 + s'.size + 1 := by omega
          have x2 : ¬ 9223372036854775807 < 4 + s'.size + 1 + (Lib.itoa p1).length := by omega
          have x3 : ¬ 9223372036854775807 < T.length + (4 + s'.size + 1 + (Lib.itoa p1).length) := by omega
          have hW := Lib.hid (M.stT_next (ms := xs) (s := s) (l := l) X2.out)
          have hqn2 : (q : Int) < (n : Int) := by omega
          have cD := spec_l01Dec_rg p1 l2 l3 wr
          have k0 := cell_regrown f0
          have k1 := cell_regrown f1
          have k2 := cell_regrown g0
          have k3 := cell_regrown d2
          have k4 := cell_regrown hv2
          clear hdd hcc' hp1 hp2 hp3 hp4 z1 z2 hT0 hT1 hT2 f0 f1 g0
          go_wp2_with fail
          (refine wp_region_quiet_below (by kernel_rfl) (by kernel_rfl) ?_; (repeat (go_big_quiet_step (with_reducible exact cD _ _))); refine wpQuiet_nil ?_; intro _ hw'; obtain ⟨⟨dq, osq⟩, hw''⟩ := hw'; subst hw'')
          go_wp2
          go_roundw
          case rel =>
            have BQ := below_regrown wr dq osq
            refine ⟨j + 1, M.mxT xs k ++ M.stT xs s l us (j + 1), by go_num, by omega, ?_, Lib.hid rfl, bel_trans Bv BQ, Bo.trans (BQ.mono (by have := Bv.size; omega))⟩
            rw [hW.out, ← List.append_assoc, ← HTT.out]
            refine congrArg Value.string ?_
            rw [M.app_send, Int.toNat_natCast, M.nmAt, hY.out]
            rfl
          case measure => simp [intOf]; omega
        · obtain rfl : j = n2 := by omega
          have x3 : ¬ 9223372036854775807 < T.length + 1 := by omega
          have hM := Lib.hid (M.mxT_next hX.out)
          clear hT0 hT1 hT2
          go_wp2
          go_roundw
          case rel =>
            refine ⟨k + 1, by go_num, by omega, ?_, Bv⟩
            rw [hM.out, ← List.append_assoc, HN2.out, ← HTT.out]
            refine congrArg Value.string ?_
            rw [show (⟨#[10]⟩ : ByteArray) = ⟨([10] : List UInt8).toArray⟩ from rfl, M.str_app]
          case measure => simp [intOf]; omega
    · obtain rfl : k = n := by omega
      go_wp2_with fail
      go_ret
      exact ⟨by rw [HLX.out]; rfl, Bw⟩
theorem spec_MixerText (A : Option Addr) (n c : Nat) (xs : List Strip) (w : World) (hx : tM.R w w.heap.size [.slice A n c] xs) (hn : hM.sz xs ≤ 100000000) :
    Calls Tryd.prog 13 #[.agg #[.slice A n c]] w fun e w' => e = .returned (.string ⟨(M.mixerText xs).toArray⟩) ∧ Below w.heap.size w w' := by
  have hb0 : Below w.heap.size w (w.alloc (.cells #[.slice A n c] 40)) := (Below.refl _ _).alloc (Nat.le_refl _) _
  have hq : (w.alloc (.cells #[.slice A n c] 40)).cell? ⟨w.heap.size, 0, none⟩ = some (.slice A n c) := by simp [go_sem]
  cases hok : M.mixOk xs
  · have HK := Lib.hid hok
    go_enter Tryd.func13, Tryd.ntmps13
    go_wp2_with (go_at_call 39; refine (spec_l26Ok _ A n c xs _ hq (tM.later hx hb0) hn).mono ?_; rw [hok]; rintro e w1 ⟨rfl, b1⟩)
    go_ret
    exact ⟨by rw [M.mixerText, HK.out]; rfl, bel_trans hb0 b1⟩
  · have HK := Lib.hid hok
    go_enter Tryd.func13, Tryd.ntmps13
    go_wp2_with (first | (go_at_call 39; refine (spec_l26Ok _ A n c xs _ hq (tM.later hx hb0) hn).mono ?_; rw [hok]; rintro e w1 ⟨rfl, b1⟩; have q1 : w1.cell? ⟨w.heap.size, 0, none⟩ = some (.slice A n c) := (by rw [b1.cell (by simp)]; exact hq)) | (go_at_call 40; refine (spec_l26Text _ A n c xs _ q1 (tM.later (tM.later hx hb0) b1) HK.out).mono ?_; rintro e w2 ⟨rfl, b2⟩))
    go_ret
    exact ⟨by rw [M.mixerText, if_pos HK.out]; rfl, bel_trans (bel_trans hb0 b1) b2⟩
end Go.Proofs.YtecdendjlgohjaaDoor
