import Derived.Test.YtecdendjlgohjaaGreatDoorFnAlignedG3
import Derived.StillTailTactics
import Derived.Deep.RegionWith
import Derived.Test.YtecdendjlgohjaaGreatDoorFnAlignedG1
import Derived.Test.YtecdendjlgohjaaGreatDoorFnAlignedG2
import Derived.Deep.RegionHeld3
import Derived.Deep.Slices
import Derived.Deep.Fields
import Derived.ChangeSame
import Derived.Lib.SmallJoins
set_option linter.unusedVariables false
set_option linter.unusedSimpArgs false
namespace Go.Proofs.YtecdendjlgohjaaGreatDoor
open Go.RowKit
set_option maxHeartbeats 1000000
/-- One send: the strip that it leads to is entered no earlier than this one ends. -/
def M.entSend (k : Nat) (l : Int) (acc : List Int) (p : Int × Int) : List Int := acc.set p.1.toNat (max ((acc[p.1.toNat]?).getD 0) ((acc[k]?).getD 0 + l))
/-- The entry times after the first k strips, and j sends of the next. -/
def M.entN (xs : List Strip) : Nat → List Int
  | 0 => List.replicate xs.length 0
  | k + 1 => ((xs[k]?).getD M.sz).2.2.foldl (M.entSend k ((xs[k]?).getD M.sz).2.1) (M.entN xs k)
def M.entS (xs : List Strip) (k : Nat) (l : Int) (us : List (Int × Int)) (j : Nat) : List Int := (us.take j).foldl (M.entSend k l) (M.entN xs k)
def M.entries (xs : List Strip) : List Int := M.entN xs xs.length
theorem M.entSend_len (k : Nat) (l : Int) (acc : List Int) (p : Int × Int) : (M.entSend k l acc p).length = acc.length := by simp [M.entSend]
theorem M.fold_len (k : Nat) (l : Int) (us : List (Int × Int)) : ∀ acc, (us.foldl (M.entSend k l) acc).length = acc.length := by
  induction us with
  | nil => intro acc; rfl
  | cons u us ih => intro acc; rw [List.foldl_cons, ih, M.entSend_len]
theorem M.entN_len (xs : List Strip) : ∀ k, (M.entN xs k).length = xs.length := by
  intro k
  induction k with
  | zero => simp [M.entN]
  | succ k ih => rw [M.entN, M.fold_len, ih]
theorem M.entS_len (xs : List Strip) (k : Nat) (l : Int) (us : List (Int × Int)) (j : Nat) : (M.entS xs k l us j).length = xs.length := by rw [M.entS, M.fold_len, M.entN_len]
theorem M.entS_next {xs : List Strip} {k : Nat} {l : Int} {us : List (Int × Int)} {j : Nat} {p : Int × Int} (h : us[j]? = some p) : M.entS xs k l us (j + 1) = M.entSend k l (M.entS xs k l us j) p := by
  rw [M.entS, M.take_at h, List.foldl_append]; rfl
theorem M.entS_end {xs : List Strip} {k : Nat} {s : ByteArray} {l : Int} {us : List (Int × Int)} (h : xs[k]? = some (s, l, us)) : M.entS xs k l us us.length = M.entN xs (k + 1) := by
  rw [M.entS, M.entN, h, List.take_of_length_le (Nat.le_refl _)]; rfl
/-- All values lie from 0 to b. -/
def M.upTo (b : Int) (acc : List Int) : Prop := ∀ v ∈ acc, 0 ≤ v ∧ v ≤ b
theorem M.upTo_at {b : Int} {acc : List Int} {i : Nat} {v : Int} (h : M.upTo b acc) (hv : acc[i]? = some v) : 0 ≤ v ∧ v ≤ b := h v (List.mem_of_getElem? hv)
theorem M.upTo_get {b : Int} {acc : List Int} (hb : 0 ≤ b) (h : M.upTo b acc) (i : Nat) : 0 ≤ (acc[i]?).getD 0 ∧ (acc[i]?).getD 0 ≤ b := by
  cases hv : acc[i]? with
  | none => simp; exact hb
  | some v => exact M.upTo_at h hv
theorem M.upTo_mono {b b' : Int} {acc : List Int} (h : M.upTo b acc) (hb : b ≤ b') : M.upTo b' acc := fun v hv => ⟨(h v hv).1, Int.le_trans (h v hv).2 hb⟩
theorem M.upTo_send {b : Int} {acc : List Int} {k : Nat} {l : Int} {p : Int × Int} (hb : 0 ≤ b) (h : M.upTo b acc) (hl : 0 ≤ l ∧ l ≤ 32) : M.upTo (b + 32) (M.entSend k l acc p) := by
  intro v hv
  rcases List.mem_or_eq_of_mem_set hv with h1 | rfl
  · have := h v h1; omega
  · have h1 := M.upTo_get hb h p.1.toNat
    have h2 := M.upTo_get hb h k
    omega
theorem M.upTo_fold {k : Nat} {l : Int} (hl : 0 ≤ l ∧ l ≤ 32) (us : List (Int × Int)) : ∀ {b : Int} {acc : List Int}, 0 ≤ b → M.upTo b acc → M.upTo (b + 32 * us.length) (us.foldl (M.entSend k l) acc) := by
  induction us with
  | nil => intro b acc _ h; simpa using h
  | cons u us ih =>
    intro b acc hb h
    have := ih (b := b + 32) (acc := M.entSend k l acc u) (by omega) (M.upTo_send hb h hl)
    refine M.upTo_mono this ?_
    simp only [List.length_cons]
    omega
theorem M.mix_n {xs : List Strip} (h : M.mixOk xs = true) : 1 ≤ xs.length ∧ xs.length ≤ 8 := by
  rw [M.mixOk, Bool.and_eq_true] at h
  have := M.inn_iffM.1 h.1
  omega
theorem M.mix_strip {xs : List Strip} (h : M.mixOk xs = true) {k : Nat} {s : ByteArray} {l : Int} {us : List (Int × Int)} (hk : xs[k]? = some (s, l, us)) : (0 ≤ l ∧ l ≤ 32) ∧ us.length ≤ 4 ∧ M.sendsB xs.length k us = true := by
  rw [M.mixOk, Bool.and_eq_true, List.all_eq_true] at h
  have h1 := h.2 k (List.mem_range.2 (List.getElem?_eq_some_iff.1 hk).1)
  rw [M.stepM_eq hk, Bool.and_eq_true] at h1
  have h2 := h1.1
  rw [M.stripOk, Bool.and_eq_true, Bool.and_eq_true, M.areSends, Bool.and_eq_true] at h2
  refine ⟨M.inn_iffM.1 h2.1.2, ?_, h2.2.1⟩
  have h3 := h2.2.2
  split at h3
  · have : us.length = 0 := by simpa using h3
    omega
  · have := M.inn_iffM.1 h3
    simp only at this
    omega
theorem M.sends_at {m : Int} {us : List (Int × Int)} : ∀ {last : Int} {j : Nat} {p0 p1 : Int}, M.sendsB m last us = true → us[j]? = some (p0, p1) → last < p0 ∧ p0 ≤ m - 1 ∧ M.smp p1 = true := by
  induction us with
  | nil => intro last j p0 p1 _ h; simp at h
  | cons u us ih =>
    intro last j p0 p1 h hj
    rw [M.sendsB, Bool.and_eq_true, Bool.and_eq_true] at h
    have h1 := M.inn_iffM.1 h.1.1
    cases j with
    | zero =>
      simp only [List.getElem?_cons_zero, Option.some.injEq] at hj
      subst hj
      exact ⟨by simp only at h1; omega, h1.2, h.1.2⟩
    | succ j =>
      simp only [List.getElem?_cons_succ] at hj
      have := ih h.2 hj
      exact ⟨by omega, this.2⟩
theorem M.entN_upTo {xs : List Strip} (h : M.mixOk xs = true) : ∀ k, k ≤ xs.length → M.upTo (128 * k) (M.entN xs k) := by
  intro k
  induction k with
  | zero => intro _ v hv; rw [M.entN] at hv; have := (List.mem_replicate.1 hv).2; omega
  | succ k ih =>
    intro hk
    have hx : xs[k]? = some xs[k] := List.getElem?_eq_getElem (by omega)
    generalize xs[k] = x at hx
    obtain ⟨s, l, us⟩ := x
    obtain ⟨h1, h2, _⟩ := M.mix_strip h hx
    rw [M.entN, hx]
    refine M.upTo_mono (M.upTo_fold h1 us (by omega) (ih (by omega))) ?_
    omega
theorem M.entS_upTo {xs : List Strip} (h : M.mixOk xs = true) {k : Nat} {s : ByteArray} {l : Int} {us : List (Int × Int)} (hx : xs[k]? = some (s, l, us)) (j : Nat) : M.upTo 2000 (M.entS xs k l us j) := by
  obtain ⟨h1, h2, _⟩ := M.mix_strip h hx
  have h3 := M.entN_upTo h k (by have := (List.getElem?_eq_some_iff.1 hx).1; omega)
  have h4 := M.mix_n h
  have h5 := (List.getElem?_eq_some_iff.1 hx).1
  refine M.upTo_mono (M.upTo_fold (k := k) h1 (us.take j) (by omega) h3) ?_
  have : (us.take j).length ≤ 4 := by rw [List.length_take]; omega
  omega
theorem M.entSend_eq {acc : List Int} {k q : Nat} {l g a b : Int} (ha : acc[q]? = some a) (hb : acc[k]? = some b) : M.entSend k l acc ((q : Int), g) = acc.set q (max a (b + l)) := by
  rw [M.entSend]
  simp only [Int.toNat_natCast]
  rw [ha, hb]; rfl
end Go.Proofs.YtecdendjlgohjaaGreatDoor
namespace Go.Proofs.YtecdendjlgohjaaGreatDoor
open Go.RowKit
set_option maxHeartbeats 4000000
set_option maxRecDepth 100000
theorem impl_entries (A : Option Addr) (n c : Nat) (xs : List Strip) (w : World) (hx : tM.R w w.heap.size [.slice A n c] xs) (hok : M.mixOk xs = true) :
    Calls Tryz.prog 30 #[.agg #[.slice A n c]] w (Ret1 2 w (M.entries xs)) := by
  have rx := sl_R.1 hx
  have hlx := rx.cap.1
  have hmn := M.mix_n hok
  have hnb : 1 ≤ n ∧ n ≤ 8 := by omega
  have HLX := Lib.hid hlx
  have HOK := Lib.hid hok
  have B0 : Below w.heap.size w (w.alloc (.cells #[.slice A n c] 24)) := (Below.refl _ _).alloc (Nat.le_refl _) _
  have hself : (w.alloc (.cells #[.slice A n c] 24)).cell? ⟨w.heap.size, 0, none⟩ = some (.slice A n c) := by simp [go_sem]
  have hsz : (w.alloc (.cells #[.slice A n c] 24)).heap.size = w.heap.size + 1 := by simp
  have HSZ := Lib.hid hsz
  clear hsz hlx hmn hok
  go_enter Tryz.func30, Tryz.ntmps30
  go_wp2_with (first | (go_at_call 46; refine (impl_size_impl_Strip _ _ _ _).mono ?_; rintro e w' ⟨rfl, rfl⟩) | (go_at_call 58; refine (impl_zeros _ _ (by omega) (by omega)).mono ?_; rintro e w1 ⟨v1, rfl, own1, bel1⟩; have hv1 : w1.cell? ⟨w.heap.size, 0, none⟩ = some (.slice A n c) := (by rw [bel1.cell (by rw [HSZ.out]; simp)]; exact hself)))
  rw [Int.toNat_natCast] at own1
  obtain ⟨A1, c1, rfl, -⟩ := own1.shape
  rw [List.length_replicate] at own1 ⊢
  have own1' : OI 2 (w.heap.size + 1) w1 (.slice A1 n c1) (M.entN xs 0) := by
    have h1 := own1
    rw [HSZ.out] at h1
    show OI 2 (w.heap.size + 1) w1 (.slice A1 n c1) (List.replicate xs.length 0)
    rw [HLX.out]
    exact h1
  have B1 := bel_trans B0 bel1
  clear own1 bel1 hself B0 hv1
  go_loopw [4, 5, 15] (fun _ _ i wr => ∃ k : Nat, i = .int .i64 k ∧ k ≤ n ∧ OI 2 (w.heap.size + 1) wr (.slice A1 n c1) (M.entN xs k) ∧ Below w.heap.size w wr) (fun _ _ i _ => n - (intOf i).toNat)
  case atStart => exact ⟨0, rfl, by omega, own1', B1⟩
  case round =>
    obtain ⟨k, rfl, hk, own, Bw⟩ := hrel
    by_cases hlt : k < n
    · have hX := Lib.hid (List.getElem?_eq_getElem (l := xs) (i := k) (by rw [HLX.out]; exact hlt))
      obtain ⟨b, o1, cc, cs, hv, hab, -, hE, hcc⟩ := (rx.below Bw).atX hX.out
      simp only [Value.slice.injEq] at hv
      obtain ⟨rfl, -, rfl⟩ := hv
      generalize xs[k]'(by rw [HLX.out]; exact hlt) = x at hX hE
      obtain ⟨s, l, us⟩ := x
      obtain ⟨A2, n2, c2, rfl, -, hE⟩ := st_R.1 hE
      have e0 : wr.cell? ⟨b, o1 + k * 3, none⟩ = some (.string s) := hcc 0 _ rfl
      have e1 : wr.cell? ⟨b, o1 + k * 3 + 1, none⟩ = some (.int .i64 l) := hcc 1 _ rfl
      have e2 : wr.cell? ⟨b, o1 + k * 3 + 2, none⟩ = some (.slice A2 n2 c2) := hcc 2 _ rfl
      have hbr : b < wr.heap.size := Nat.lt_of_lt_of_le hab Bw.size
      have rs := (tSdS_ra hE).1
      have hn2 := rs.1
      obtain ⟨hlat, hu4, hsb⟩ := M.mix_strip HOK.out hX.out
      have HN2 := Lib.hid hn2
      have HSB := Lib.hid hsb
      have HUP := Lib.hid (fun j => M.entS_upTo HOK.out hX.out j)
      obtain ⟨g, rfl, hg1, hg2⟩ := own.form' (by omega)
      have Bu := Bw.alloc Bw.size (.cells #[.string s, .int .i64 l, .slice A2 n2 c2] 44)
      have ownu := own.below ((Below.refl wr.heap.size wr).alloc (Nat.le_refl _) (.cells #[.string s, .int .i64 l, .slice A2 n2 c2] 44))
      have lb : (wr.alloc (.cells #[.string s, .int .i64 l, .slice A2 n2 c2] 44)).cell? ⟨wr.heap.size, 1, none⟩ = some (.int .i64 l) := by rw [cell_of_row _ wr.heap.size 1 _ 44 (0, 0) (heap_alloc_new wr _)]; rfl
      have hlu : (wr.alloc (.cells #[.string s, .int .i64 l, .slice A2 n2 c2] 44)).heap.size = wr.heap.size + 1 := by simp
      have n2b : n2 ≤ 4 := by omega
      clear hcc hE hn2 hu4 hsb
      go_wp2
      obtain ⟨wo, rfl⟩ : ∃ wo : World, wo = wr := ⟨_, rfl⟩
      go_loopw [7, 23] (fun _ i wr => ∃ j : Nat, i = .int .i64 j ∧ j ≤ n2 ∧ OI 2 (w.heap.size + 1) wr (.slice (some ⟨g, 0, none⟩) n c1) (M.entS xs k l us j) ∧ wr.cell? ⟨wo.heap.size, 1, none⟩ = some (.int .i64 l) ∧ wo.heap.size + 1 ≤ wr.heap.size ∧ Below w.heap.size w wr ∧ Below w.heap.size wo wr) (fun _ i _ => n2 - (intOf i).toNat)
      case atStart => exact ⟨0, rfl, by omega, ownu, lb, by omega, Bu, (Below.refl _ _).alloc Bw.size _⟩
      case round =>
        obtain ⟨j, rfl, hj, ownj, lj, hszj, Bj, Bo⟩ := hrel
        by_cases hlt2 : j < n2
        · obtain ⟨b2, o2, ⟨p0, p1⟩, rfl, hab2, X2, hdd⟩ := (rs.below Bo).at sd_len (by decide) hlt2
          have f0 : wr.cell? ⟨b2, o2 + j * 2, none⟩ = some (.int .i64 p0) := hdd 0 _ rfl
          have f1 : wr.cell? ⟨b2, o2 + j * 2 + 1, none⟩ = some (.int .i64 p1) := hdd 1 _ rfl
          obtain ⟨hp1, hp2, -⟩ := M.sends_at HSB.out X2.out
          obtain ⟨q, rfl⟩ : ∃ q : Nat, p0 = q := ⟨p0.toNat, by omega⟩
          have hqn : q < n := by have := HLX.out; omega
          obtain ⟨x, hxx, cx, fx, -, -⟩ := ownj.at' hqn
          obtain ⟨y, hyy, cy, fy, -, -⟩ := ownj.at' hlt
          have bx := M.upTo_at (HUP.out j) hxx.out
          have by_ := M.upTo_at (HUP.out j) hyy.out
          have hgw : g < wr.heap.size := by omega
          have hng : ¬ g = wo.heap.size := by omega
          have hE2 := Lib.hid (M.entS_next (xs := xs) (k := k) (l := l) X2.out)
          have hE3 := Lib.hid (M.entSend_eq (k := k) (l := l) (g := p1) hxx.out hyy.out)
          have lw : wo.heap.size < wr.heap.size := by omega
          have hb2w : b2 < wr.heap.size := Nat.lt_of_lt_of_le hab2 Bj.size
          clear hdd hp1 hp2
          obtain ⟨U, hU⟩ : ∃ U, U = wr.alloc (.cells #[.int .i64 (q : Int), .int .i64 p1] 47) := ⟨_, rfl⟩
          have G0 : Below wr.heap.size wr U := by rw [hU]; exact (Below.refl _ _).alloc (Nat.le_refl _) _
          have u0 : U.cell? ⟨wr.heap.size, 0, none⟩ = some (.int .i64 (q : Int)) := by rw [hU, cell_of_row _ wr.heap.size 0 _ 47 (0, 0) (heap_alloc_new wr _)]; rfl
          have ux : U.cell? ⟨g, q, none⟩ = some (.int .i64 x) := by rw [G0.cell hgw]; exact cx
          have vx : U.frozen? ⟨g, q, none⟩ = false := by rw [G0.frozen hgw]; exact fx
          have uy : U.cell? ⟨g, k, none⟩ = some (.int .i64 y) := by rw [G0.cell hgw]; exact cy
          have ul : U.cell? ⟨wo.heap.size, 1, none⟩ = some (.int .i64 l) := by rw [G0.cell lw]; exact lj
          have ownU := ownj.below G0
          have HU := Lib.hid hU
          have hqn2 : (q : Int) < (n : Int) := by omega
          have hkn2 : (k : Int) < (n : Int) := by omega
          clear hU
          go_wp2
          rw [← HU.out]
          refine wp_region_still_tail 17 (by kernel_rfl) (by kernel_rfl) ?_
          simp only [List.take_succ_cons, List.take_zero, List.drop_succ_cons, List.drop_zero]
          iterate 17 still_step
          refine wpStill_nil ?_
          change wpList _ _ _ _ _ U.drew
          go_wp2
          go_roundw
          case rel =>
            have h3 := OI.stored' ownU q (if x < y + l then y + l else x)
            have e3 : (M.entS xs k l us j).set q (if x < y + l then y + l else x) = M.entS xs k l us (j + 1) := by
              rw [hE2.out, hE3.out]
              congr 1
              split <;> omega
            rw [e3] at h3
            have z0 : w.heap.size ≤ wr.heap.size := by omega
            have z1 := G0.size
            have z2 : (U.setCell ⟨g, q, none⟩ (.int .i64 (if x < y + l then y + l else x))).heap.size = U.heap.size := by simp
            have z3 : (U.setCell ⟨g, q, none⟩ (.int .i64 (if x < y + l then y + l else x))).cell? ⟨wo.heap.size, 1, none⟩ = some (.int .i64 l) := by
              rw [World.cell?_of_block (heap_setCell_other U ⟨g, q, none⟩ wo.heap.size _ (fun e => hng e.symm))]
              exact ul
            exact ⟨j + 1, by go_num, by omega, h3, z3, by show wo.heap.size + 1 ≤ (U.setCell ⟨g, q, none⟩ (.int .i64 (if x < y + l then y + l else x))).heap.size; omega, ((Bj.trans (G0.mono z0)).setCell (Nat.le_trans (Nat.le_succ _) hg1) _).drew, ((Bo.trans (G0.mono z0)).setCell (Nat.le_trans (Nat.le_succ _) hg1) _).drew⟩
          case measure => simp [intOf]; omega
        · obtain rfl : j = n2 := by omega
          have hend := M.entS_end hX.out
          rw [HN2.out] at hend
          have HE := Lib.hid hend
          clear hend
          go_wp2
          go_roundw
          case rel => exact ⟨k + 1, by go_num, by omega, by rw [← HE.out]; exact ownj, Bj⟩
          case measure => simp [intOf]; omega
    · obtain rfl : k = n := by omega
      go_wp2
      go_ret
      exact ⟨_, rfl, by rw [M.entries, HLX.out]; exact own.base (by omega), Bw⟩
end Go.Proofs.YtecdendjlgohjaaGreatDoor
namespace Go.Proofs.YtecdendjlgohjaaGreatDoor
open Go.RowKit
set_option maxHeartbeats 4000000
set_option maxRecDepth 100000
end Go.Proofs.YtecdendjlgohjaaGreatDoor
namespace Go.Proofs.YtecdendjlgohjaaGreatDoor
open Go.RowKit
set_option maxHeartbeats 4000000
set_option maxRecDepth 100000
def M.total (xs : List Strip) : Int := ((M.entries xs)[xs.length - 1]?).getD 0 + ((xs[xs.length - 1]?).getD M.sz).2.1
def M.totalR (xs : List Strip) : Int × Int := if M.mixOk xs then (M.total xs, 0) else (0, 1)
def M.entryR (xs : List Strip) : List Int × Int := if M.mixOk xs then (M.entries xs, 0) else ([], 1)
theorem M.entries_len (xs : List Strip) : (M.entries xs).length = xs.length := M.entN_len _ _
theorem M.entries_upTo {xs : List Strip} (h : M.mixOk xs = true) : M.upTo 2000 (M.entries xs) := M.upTo_mono (M.entN_upTo h xs.length (Nat.le_refl _)) (by have := M.mix_n h; omega)
theorem impl_latency (A : Option Addr) (n c : Nat) (xs : List Strip) (w : World) (hx : tM.R w w.heap.size [.slice A n c] xs) (hok : M.mixOk xs = true) :
    Calls Tryz.prog 32 #[.agg #[.slice A n c]] w fun e w' => e = .returned (.int .i64 (M.total xs)) ∧ Below w.heap.size w w' := by
  have rx := sl_R.1 hx
  have hlx := rx.cap.1
  have hmn := M.mix_n hok
  have hnb : 1 ≤ n ∧ n ≤ 8 := by omega
  have HLX := Lib.hid hlx
  have HOK := Lib.hid hok
  obtain ⟨W, hW⟩ : ∃ W, W = w.alloc (.cells #[.slice A n c] 24) := ⟨_, rfl⟩
  have B0 : Below w.heap.size w W := by rw [hW]; exact (Below.refl _ _).alloc (Nat.le_refl _) _
  have hself : W.cell? ⟨w.heap.size, 0, none⟩ = some (.slice A n c) := by rw [hW]; simp [go_sem]
  have lx : w.heap.size < W.heap.size := by rw [hW]; simp
  have HW := Lib.hid hW
  have hX := Lib.hid (List.getElem?_eq_getElem (l := xs) (i := n - 1) (by omega))
  obtain ⟨b, o1, cc, cs, hv, hab, -, hE, hcc⟩ := (rx.below B0).atX hX.out
  simp only [Value.slice.injEq] at hv
  obtain ⟨rfl, -, rfl⟩ := hv
  generalize xs[n - 1]'(by omega) = x at hX hE
  obtain ⟨s, l, us⟩ := x
  obtain ⟨A2, n2, c2, rfl, -, -⟩ := st_R.1 hE
  have e1 : W.cell? ⟨b, o1 + (n - 1) * 3 + 1, none⟩ = some (.int .i64 l) := hcc 1 _ rfl
  obtain ⟨hlat, -, -⟩ := M.mix_strip HOK.out hX.out
  have hEl := Lib.hid (List.getElem?_eq_getElem (l := M.entries xs) (i := n - 1) (by rw [M.entries_len]; omega))
  generalize (M.entries xs)[n - 1]'(by rw [M.entries_len]; omega) = t at hEl
  have hbt := M.upTo_at (M.entries_upTo HOK.out) hEl.out
  have HT := Lib.hid (show M.total xs = t + l by rw [M.total, HLX.out, hEl.out, hX.out]; rfl)
  have hkk : IntKind.i64.wrap ((n : Int) - 1) = ((n - 1 : Nat) : Int) := by rw [IntWalk.i64_in _ (by omega)]; omega
  have i0 : (0 : Int) ≤ ((n - 1 : Nat) : Int) := by omega
  have i1 : ((n - 1 : Nat) : Int) < (n : Int) := by omega
  have i2 : n - 1 < n := by omega
  have htl : IntKind.i64.wrap (t + l) = t + l := IntWalk.i64_in _ (by omega)
  have D1 : Below W.heap.size W (W.drewN 1) := below_drewN (Below.refl _ _) 1
  have hxd := tM.later hx (bel_trans B0 D1)
  have lb : b < W.heap.size := Nat.lt_of_lt_of_le hab B0.size
  clear hcc hE hlx hmn hok hW
  go_enter Tryz.func32, Tryz.ntmps32
  go_wp2
  rw [← HW.out]
  go_region_with
    (first | (go_at_call 30; refine (impl_entries _ _ _ _ _ hxd HOK.out).mono ?_; rintro e w2 ⟨v2, rfl, own2, bel2⟩; obtain ⟨A3, c3, rfl, -⟩ := own2.shape; have hl3 := M.entries_len xs; rw [HLX.out] at hl3; rw [hl3] at own2 ⊢; clear hl3; obtain ⟨g, rfl, -, -⟩ := own2.form' (show 0 < n by omega); obtain ⟨t2, hT2, hct, -, -, -⟩ := own2.at' i2; have e9 := hT2.out; rw [hEl.out] at e9; injection e9 with e9; rw [← e9] at hct; clear e9; have G2 := bel_trans D1 bel2; have hself2 : w2.cell? ⟨w.heap.size, 0, none⟩ = some (.slice (some ⟨b, o1, none⟩) n c) := (by rw [G2.cell lx]; exact hself); have e12 : w2.cell? ⟨b, o1 + (n - 1) * 3 + 1, none⟩ = some (.int .i64 l) := (by rw [G2.cell lb]; exact e1)))
  all_goals
    go_wp2
    go_ret
    exact ⟨ret_int (by rw [HT.out]), bel_trans B0 G2⟩
end Go.Proofs.YtecdendjlgohjaaGreatDoor
namespace Go.Proofs.YtecdendjlgohjaaGreatDoor
open Go.RowKit
set_option maxHeartbeats 400000
end Go.Proofs.YtecdendjlgohjaaGreatDoor
namespace Go.Proofs.YtecdendjlgohjaaGreatDoor
open Go.RowKit
set_option maxHeartbeats 1000000
set_option maxRecDepth 100000
theorem OS.made0 {α : Type} (t : Ty α) (e : TypeId) (w : World) : OS t e (w.alloc (.cells #[] e)) (Iv w.heap.size (w.alloc (.cells #[] e)).heap.size) (.slice (some ⟨w.heap.size, 0, none⟩) 0 0) [] :=
  ⟨[], fun _ _ => False, World.ownsRow_made _ _ _ (Nat.zero_le _) (by simp [maxLen]) (by simp), rfl, fun g hg => by simp only [Value.ownBlock, Option.some.injEq] at hg; subst hg; exact ⟨Nat.le_refl _, by simp⟩, fun _ _ h => h.elim, fun _ _ _ _ h => h.elim, fun k h => by simp at h⟩
theorem ei_S : EI Tryz.prog 36 33 (.slice none 0 0) 1 24 := ⟨Tryz.underlying36, by kernel_rfl, rfl, by decide⟩
/-- What a function of signals and a code gives back. -/
def RetSS (w : World) (r : List (List Int) × Int) (en : Ending) (w' : World) : Prop :=
  ∃ v, en = .returned (.tuple #[v, .int .i64 r.2]) ∧ OS tS 33 w' (Iv w.heap.size w'.heap.size) v r.1 ∧ Below w.heap.size w w'
theorem Iv.apart {a b c d : Nat} (h : b ≤ c) : ∀ k, Iv a b k → ¬ Iv c d k := fun k h1 h2 => by have := h1.2; have := h2.1; omega
theorem Iv.grow {a b c d : Nat} (h1 : a ≤ b) (h2 : b ≤ c) (h3 : c ≤ d) : ∀ k, (Iv a b k ∨ Iv b c k ∨ c < k ∧ k < d) → Iv a d k := by
  intro k h
  unfold Iv at *
  omega
end Go.Proofs.YtecdendjlgohjaaGreatDoor
namespace Go.Proofs.YtecdendjlgohjaaGreatDoor
open Go.RowKit
set_option maxHeartbeats 4000000
set_option maxRecDepth 100000
/-- The delay of one send of strip k. -/
def M.delayOf (es : List Int) (k : Nat) (l : Int) (p : Int × Int) : Int := (es[p.1.toNat]?).getD 0 - (es[k]?).getD 0 - l
def M.delayRow (xs : List Strip) (k : Nat) : List Int := ((xs[k]?).getD M.sz).2.2.map (M.delayOf (M.entries xs) k ((xs[k]?).getD M.sz).2.1)
def M.delays (xs : List Strip) : List (List Int) := (List.range xs.length).map (M.delayRow xs)
def M.delaysR (xs : List Strip) : List (List Int) × Int := if M.mixOk xs then (M.delays xs, 0) else ([], 1)
theorem M.delays_len (xs : List Strip) : (M.delays xs).length = xs.length := by simp [M.delays]
theorem M.delays_at {xs : List Strip} {k : Nat} (h : k < xs.length) : (M.delays xs)[k]? = some (M.delayRow xs k) := by simp [M.delays, h]
theorem M.delayRow_len {xs : List Strip} {k : Nat} {s : ByteArray} {l : Int} {us : List (Int × Int)} (h : xs[k]? = some (s, l, us)) : (M.delayRow xs k).length = us.length := by simp [M.delayRow, h]
theorem M.delayRow_at {xs : List Strip} {k : Nat} {s : ByteArray} {l : Int} {us : List (Int × Int)} (h : xs[k]? = some (s, l, us)) {j q : Nat} {g x y : Int} (hj : us[j]? = some ((q : Int), g)) (hx : (M.entries xs)[q]? = some x) (hy : (M.entries xs)[k]? = some y) : (M.delayRow xs k)[j]? = some (x - y - l) := by
  simp [M.delayRow, h, hj, M.delayOf, hx, hy]
theorem impl_delays (A : Option Addr) (n c : Nat) (xs : List Strip) (w : World) (hx : tM.R w w.heap.size [.slice A n c] xs) (hok : M.mixOk xs = true) :
    Calls Tryz.prog 31 #[.agg #[.slice A n c]] w fun e w' => ∃ v, e = .returned v ∧ OS tS 33 w' (Iv w.heap.size w'.heap.size) v (M.delays xs) ∧ Below w.heap.size w w' := by
  have rx := sl_R.1 hx
  have hlx := rx.cap.1
  have hmn := M.mix_n hok
  have hnb : 1 ≤ n ∧ n ≤ 8 := by omega
  have HLX := Lib.hid hlx
  have HOK := Lib.hid hok
  have hel := M.entries_len xs
  rw [hlx] at hel
  have HEL := Lib.hid hel
  have HUP := Lib.hid (M.entries_upTo hok)
  have hdl : (M.delays xs).length = n := by rw [M.delays_len]; exact hlx
  have HDL := Lib.hid hdl
  obtain ⟨W, hW⟩ : ∃ W, W = w.alloc (.cells #[.slice A n c] 24) := ⟨_, rfl⟩
  have B0 : Below w.heap.size w W := by rw [hW]; exact (Below.refl _ _).alloc (Nat.le_refl _) _
  have hself : W.cell? ⟨w.heap.size, 0, none⟩ = some (.slice A n c) := by rw [hW]; simp [go_sem]
  have lx : w.heap.size < W.heap.size := by rw [hW]; simp
  have hxW := tM.later hx B0
  have HW := Lib.hid hW
  clear hlx hmn hok hel hdl hW
  go_enter Tryz.func31, Tryz.ntmps31
  go_wp2_with fail
  rw [← HW.out]
  go_wp2_with (go_at_call 30; refine (impl_entries _ _ _ _ _ hxW HOK.out).mono ?_; rintro e w3 ⟨v3, rfl, own3, bel3⟩; obtain ⟨A3, c3, rfl, -⟩ := own3.shape; rw [HEL.out] at own3 ⊢; obtain ⟨g, rfl, hg1, hg2⟩ := own3.form' (show 0 < n by omega); have hs3 : w3.cell? ⟨w.heap.size, 0, none⟩ = some (.slice A n c) := (by rw [bel3.cell lx]; exact hself); have lw3 : w.heap.size < w3.heap.size := Nat.lt_of_lt_of_le lx bel3.size)
  have B03 : Below w.heap.size w w3 := bel_trans B0 bel3
  have hw3 := B03.size
  clear bel3 hself B0 hxW
  go_loopw [4, 5, 6, 7, 9, 16, 25] (fun v _ _ _ _ i _ wr => ∃ k : Nat, i = .int .i64 k ∧ k ≤ n ∧ OS tS 33 wr (Iv w3.heap.size wr.heap.size) v ((M.delays xs).take k) ∧ Below w3.heap.size w3 wr) (fun _ _ _ _ _ i _ _ => n - (intOf i).toNat)
  case atStart => exact ⟨0, rfl, by omega, OS.made0 _ _ _, (Below.refl _ _).alloc (Nat.le_refl _) _⟩
  case round =>
    obtain ⟨k, rfl, hk, own, Bw⟩ := hrel
    have hsb := Bw.size
    have BW := bel_trans B03 Bw
    have hpl : ((M.delays xs).take k).length ≤ 8 := by rw [List.length_take]; omega
    by_cases hlt : k < n
    · have hX := Lib.hid (List.getElem?_eq_getElem (l := xs) (i := k) (by rw [HLX.out]; exact hlt))
      obtain ⟨b, o1, cc, cs, hv, hab, -, hE, hcc⟩ := (rx.below BW).atX hX.out
      simp only [Value.slice.injEq] at hv
      obtain ⟨rfl, -, rfl⟩ := hv
      generalize xs[k]'(by rw [HLX.out]; exact hlt) = x at hX hE
      obtain ⟨s, l, us⟩ := x
      obtain ⟨A2, n2, c2, rfl, -, hE⟩ := st_R.1 hE
      have e0 : wr.cell? ⟨b, o1 + k * 3, none⟩ = some (.string s) := hcc 0 _ rfl
      have e1 : wr.cell? ⟨b, o1 + k * 3 + 1, none⟩ = some (.int .i64 l) := hcc 1 _ rfl
      have e2 : wr.cell? ⟨b, o1 + k * 3 + 2, none⟩ = some (.slice A2 n2 c2) := hcc 2 _ rfl
      have hbr : b < wr.heap.size := Nat.lt_of_lt_of_le hab BW.size
      have rs := (tSdS_ra hE).1
      have hn2 := rs.1
      obtain ⟨hlat, hu4, hsb2⟩ := M.mix_strip HOK.out hX.out
      have HSB := Lib.hid hsb2
      have n2b : n2 ≤ 4 := by omega
      have hkn2 : (k : Int) < (n : Int) := by omega
      have hrl : (M.delayRow xs k).length = n2 := by rw [M.delayRow_len hX.out]; exact hn2
      have HRL := Lib.hid hrl
      have hpt := Lib.hid (M.take_at (M.delays_at (xs := xs) (k := k) (by rw [HLX.out]; exact hlt)))
      clear hcc hE hn2 hu4 hsb2 hrl
      go_wp2
      obtain ⟨wo, rfl⟩ : ∃ wo : World, wo = wr := ⟨_, rfl⟩
      obtain ⟨U, hU⟩ : ∃ U, U = wo.alloc (.cells #[.string s, .int .i64 l, .slice A2 n2 c2] 44) := ⟨_, rfl⟩
      rw [← hU]
      have BUo : Below wo.heap.size wo U := by rw [hU]; exact (Below.refl _ _).alloc (Nat.le_refl _) _
      have HSU : U.heap.size = wo.heap.size + 1 := by rw [hU]; simp
      have lb : U.cell? ⟨wo.heap.size, 1, none⟩ = some (.int .i64 l) := by rw [hU, cell_of_row _ wo.heap.size 1 _ 44 (0, 0) (heap_alloc_new wo _)]; rfl
      have own0 := OI.made 2 U
      have BU0 : Below U.heap.size U (U.alloc (.cells #[] 2)) := (Below.refl _ _).alloc (Nat.le_refl _) _
      rw [HSU] at own0
      go_loopw [7, 9, 25] (fun v _ i wr => ∃ j : Nat, i = .int .i64 j ∧ j ≤ n2 ∧ OI 2 (wo.heap.size + 1) wr v ((M.delayRow xs k).take j) ∧ Below (wo.heap.size + 1) U wr) (fun _ _ i _ => n2 - (intOf i).toNat)
      case atStart => exact ⟨0, rfl, by omega, own0, by rw [← HSU]; exact BU0⟩
      case round =>
        obtain ⟨j, rfl, hj, ownj, BU⟩ := hrel
        have hszj : wo.heap.size + 1 ≤ wr.heap.size := by have := BU.size; omega
        have Bo : Below wo.heap.size wo wr := BUo.trans (BU.mono (Nat.le_succ _))
        have lj : wr.cell? ⟨wo.heap.size, 1, none⟩ = some (.int .i64 l) := by rw [BU.cell (Nat.lt_succ_self _)]; exact lb
        have ownE := own3.below (Bw.trans (Bo.mono hsb))
        have hpj : ((M.delayRow xs k).take j).length ≤ 4 := by rw [List.length_take]; omega
        by_cases hlt2 : j < n2
        · obtain ⟨b2, o2, ⟨p0, p1⟩, rfl, hab2, X2, hdd⟩ := (rs.below (Bo.mono BW.size)).at sd_len (by decide) hlt2
          have f0 : wr.cell? ⟨b2, o2 + j * 2, none⟩ = some (.int .i64 p0) := hdd 0 _ rfl
          have f1 : wr.cell? ⟨b2, o2 + j * 2 + 1, none⟩ = some (.int .i64 p1) := hdd 1 _ rfl
          obtain ⟨hp1, hp2, -⟩ := M.sends_at HSB.out X2.out
          obtain ⟨q, rfl⟩ : ∃ q : Nat, p0 = q := ⟨p0.toNat, by omega⟩
          have hqn : q < n := by have := HLX.out; omega
          have hqn2 : (q : Int) < (n : Int) := by omega
          obtain ⟨x, hxx, cx, -, -, gw⟩ := ownE.at' hqn
          obtain ⟨y, hyy, cy, -, -, -⟩ := ownE.at' hlt
          have bx := M.upTo_at HUP.out hxx.out
          have by_ := M.upTo_at HUP.out hyy.out
          have hP := Lib.hid (M.take_at (M.delayRow_at hX.out X2.out hxx.out hyy.out))
          have w1_ : IntKind.i64.wrap (x - y) = x - y := IntWalk.i64_in _ (by omega)
          have w2_ : IntKind.i64.wrap (x - y - l) = x - y - l := IntWalk.i64_in _ (by omega)
          clear hdd hp1 hp2
          obtain ⟨V, hV⟩ : ∃ V, V = wr.alloc (.cells #[.int .i64 (q : Int), .int .i64 p1] 47) := ⟨_, rfl⟩
          have G0 : Below wr.heap.size wr V := by rw [hV]; exact (Below.refl _ _).alloc (Nat.le_refl _) _
          have u0 : V.cell? ⟨wr.heap.size, 0, none⟩ = some (.int .i64 (q : Int)) := by rw [hV, cell_of_row _ wr.heap.size 0 _ 47 (0, 0) (heap_alloc_new wr _)]; rfl
          have ux : V.cell? ⟨g, q, none⟩ = some (.int .i64 x) := by rw [G0.cell gw]; exact cx
          have uy : V.cell? ⟨g, k, none⟩ = some (.int .i64 y) := by rw [G0.cell gw]; exact cy
          have ul : V.cell? ⟨wo.heap.size, 1, none⟩ = some (.int .i64 l) := by rw [G0.cell (show (⟨wo.heap.size, 1, none⟩ : Addr).block < _ from hszj)]; exact lj
          have ownV := ownj.below G0
          have lV : wr.heap.size < V.heap.size := by rw [hV]; simp
          have HV := Lib.hid hV
          have hsV := G0.size
          have BA : ∀ us, Below V.heap.size V (V.alloc (.cells us 2)).drew := fun us => ((Below.refl _ _).alloc (Nat.le_refl _) _).drew
          have gV : g < V.heap.size := by omega
          have oV : wo.heap.size < V.heap.size := by omega
          have gB : g < wo.heap.size + 1 := by omega
          have oB : wo.heap.size < wo.heap.size + 1 := Nat.lt_succ_self _
          have ownV0 : V.ownsRow (wo.heap.size + 1) 2 1 _ ((M.delayRow xs k).take j).length (((M.delayRow xs k).take j).map (.int .i64)) := ownV
          have c1_ : ((M.delayRow xs k).take j).length + 1 ≤ maxLen := by unfold maxLen; omega
          have c2_ : (((M.delayRow xs k).take j).length + 1) * 8 ≤ 140737488355328 := by omega
          have c3_ : wo.heap.size + 1 ≤ V.heap.size := by omega
          clear hV
          go_wp2
          rw [← HV.out]
          have hne : ∀ {v : Value}, OI 2 (wo.heap.size + 1) wr v ((M.delayRow xs k).take j) → v.ownBlock ≠ some wr.heap.size := fun h h2 => Nat.lt_irrefl _ (World.ownsRow.lt h _ h2).2
          go_region_held3 (fun w' => w'.cell? ⟨wr.heap.size, 0, none⟩ = some (.int .i64 (q : Int)) ∧ w'.cell? ⟨g, q, none⟩ = some (.int .i64 x) ∧ w'.cell? ⟨g, k, none⟩ = some (.int .i64 y) ∧ w'.cell? ⟨wo.heap.size, 1, none⟩ = some (.int .i64 l))
            (first | exact ⟨u0, ux, uy, ul⟩ | exact ⟨((BA _).cell lV).trans u0, ((BA _).cell gV).trans ux, ((BA _).cell gV).trans uy, ((BA _).cell oV).trans ul⟩ | exact ⟨z0, z1, z2, z3⟩)
            (first | (refine step_push1 (o := ⟨some 44, _, _, _, _, _⟩) ei_i64 rfl (.tmp 29) (.tmp 43) rfl (World.ownsRow.drew (World.ownsRow.alloc ownV0 _)) rfl rfl (cell_alloc1 _ _ _) rfl c1_ c2_ (base_alloc c3_) ?_; intro v1 w1 own1 gr1 bel1; have z0 : w1.cell? ⟨wr.heap.size, 0, none⟩ = some (.int .i64 (q : Int)) := (by rw [World.cell?_of_block (gr1.block wr.heap.size (Nat.lt_of_lt_of_le lV (BA _).size) (hne ownj).symm), (BA _).cell (show (⟨wr.heap.size, 0, none⟩ : Addr).block < _ from lV)]; exact u0); have z1 : w1.cell? ⟨g, q, none⟩ = some (.int .i64 x) := (by rw [bel1.cell (show (⟨g, q, none⟩ : Addr).block < _ from gB), (BA _).cell (show (⟨g, q, none⟩ : Addr).block < _ from gV)]; exact ux); have z2 : w1.cell? ⟨g, k, none⟩ = some (.int .i64 y) := (by rw [bel1.cell (show (⟨g, k, none⟩ : Addr).block < _ from gB), (BA _).cell (show (⟨g, k, none⟩ : Addr).block < _ from gV)]; exact uy); have z3 : w1.cell? ⟨wo.heap.size, 1, none⟩ = some (.int .i64 l) := (by rw [bel1.cell (show (⟨wo.heap.size, 1, none⟩ : Addr).block < _ from oB), (BA _).cell (show (⟨wo.heap.size, 1, none⟩ : Addr).block < _ from oV)]; exact ul)))
          go_wp2
          go_roundw
          case rel => exact ⟨j + 1, by go_num, by omega, by rw [hP.out]; exact OI.push own1, ((BU.trans (G0.mono hszj)).trans ((BA _).mono c3_)).trans bel1⟩
          case measure => simp [intOf]; omega
        · obtain rfl : j = n2 := by omega
          rw [List.take_of_length_le (by rw [HRL.out]; exact Nat.le_refl _)] at ownj
          obtain ⟨A4, c4, rfl, -⟩ := ownj.shape
          have ow := own.below Bo (Nat.le_refl _)
          have os2 := tS_O.2 (OI.os (OI.base ownj (show wo.heap.size ≤ _ by omega)))
          have s2 := Bo.size
          go_wp2_with (at_builtin; refine wpList_pushS ei_S #[.slice A4 (M.delayRow xs k).length c4] rfl _ _ rfl ow os2 (Iv.apart (Nat.le_refl _)) rfl rfl (by unfold maxLen; omega) (by omega) ?_; intro v3 w4 own4 ch4)
          go_roundw
          case rel =>
            refine ⟨k + 1, by go_num, by omega, ?_, (Bw.trans (Bo.mono hsb)).trans (ch4.toBelow (fun b hb => hb.1) (by omega))⟩
            rw [hpt.out]
            exact own4.wide (Iv.grow hsb s2 ch4.size)
          case measure => simp [intOf]; omega
    · obtain rfl : k = n := by omega
      go_wp2
      go_ret
      rw [List.take_of_length_le (by rw [HDL.out]; exact Nat.le_refl _)] at own
      exact ⟨_, rfl, own.wide (fun b hb => ⟨Nat.le_trans hw3 hb.1, hb.2⟩), BW⟩
theorem impl_DelaysOf (A : Option Addr) (n c : Nat) (xs : List Strip) (w : World) (hx : tM.R w w.heap.size [.slice A n c] xs) (hn : hM.sz xs ≤ 100000000) :
    Calls Tryz.prog 13 #[.agg #[.slice A n c]] w (RetSS w (M.delaysR xs)) := by
  have hb : Below w.heap.size w (w.alloc (.cells #[.slice A n c] 24)) := (Below.refl _ _).alloc (Nat.le_refl _) _
  have hx2 := tM.later hx hb
  have hself : (w.alloc (.cells #[.slice A n c] 24)).cell? ⟨w.heap.size, 0, none⟩ = some (.slice A n c) := by simp [go_sem]
  have hsz : (w.alloc (.cells #[.slice A n c] 24)).heap.size = w.heap.size + 1 := by simp
  have HSZ := Lib.hid hsz
  clear hsz
  cases hM : M.mixOk xs
  · have R := Lib.hid (show M.delaysR xs = ([], 1) by rw [M.delaysR, hM]; rfl)
    have HM := Lib.hid hM
    clear hM
    go_enter Tryz.func13, Tryz.ntmps13
    go_wp2_with (go_at_call 24; refine (impl_isMixer _ _ _ _ _ hx2 hn).mono ?_; rw [HM.out]; rintro e w2 ⟨rfl, bel2⟩; have hv2 : w2.cell? ⟨w.heap.size, 0, none⟩ = some (.slice A n c) := (by rw [bel2.cell (by rw [HSZ.out]; simp)]; exact hself))
    go_ret2
    rw [R.out]
    exact ⟨_, rfl, OS.nil _ _ _ _, bel_trans hb bel2⟩
  · have R := Lib.hid (show M.delaysR xs = (M.delays xs, 0) by rw [M.delaysR, hM]; rfl)
    have HM := Lib.hid hM
    clear hM
    go_enter Tryz.func13, Tryz.ntmps13
    go_wp2_with (first | (go_at_call 24; refine (impl_isMixer _ _ _ _ _ hx2 hn).mono ?_; rw [HM.out]; rintro e w2 ⟨rfl, bel2⟩; have hv2 : w2.cell? ⟨w.heap.size, 0, none⟩ = some (.slice A n c) := (by rw [bel2.cell (by rw [HSZ.out]; simp)]; exact hself)) | (go_at_call 31; refine (impl_delays _ _ _ _ _ (tM.later hx2 bel2) HM.out).mono ?_; rintro e w3 ⟨v3, rfl, own3, bel3⟩))
    go_ret2
    rw [R.out]
    have B2 := bel_trans hb bel2
    have hs := B2.size
    exact ⟨_, rfl, own3.wide (fun b hb => ⟨Nat.le_trans hs hb.1, hb.2⟩), bel_trans B2 bel3⟩
end Go.Proofs.YtecdendjlgohjaaGreatDoor
namespace Go.Proofs.YtecdendjlgohjaaGreatDoor
open Go.RowKit
set_option maxHeartbeats 1000000
set_option linter.unusedVariables false
/-! The plain law of entry times. -/
def M.g_ (acc : List Int) (p : Nat) : Int := (acc[p]?).getD 0
theorem M.g_send {acc : List Int} {k : Nat} {l : Int} {u : Int × Int} (hq : u.1.toNat < acc.length) (p : Nat) : M.g_ (M.entSend k l acc u) p = if p = u.1.toNat then max (M.g_ acc p) (M.g_ acc k + l) else M.g_ acc p := by
  unfold M.g_ M.entSend
  by_cases h : p = u.1.toNat
  · subst h
    rw [if_pos rfl, List.getElem?_set_self hq]; rfl
  · rw [if_neg h, List.getElem?_set_ne (fun e => h e.symm)]
/-- Values that a list of entry times keeps: the greatest of what was sent to each place. -/
def M.Q_ (acc : List Int) (S : Nat → Int → Prop) : Prop := (∀ q v, S q v → v ≤ M.g_ acc q) ∧ ∀ q, (M.g_ acc q = 0 ∧ ∀ v, ¬ S q v) ∨ S q (M.g_ acc q)
theorem M.Q_step {acc : List Int} {S S' : Nat → Int → Prop} {k : Nat} {l v0 : Int} {u : Int × Int} (h : M.Q_ acc S) (hq : u.1.toNat < acc.length) (hv : M.g_ acc k + l = v0) (h0 : 0 ≤ v0) (hS : ∀ q v, S' q v ↔ S q v ∨ (q = u.1.toNat ∧ v = v0)) : M.Q_ (M.entSend k l acc u) S' := by
  refine ⟨fun q v hs => ?_, fun q => ?_⟩
  · rw [M.g_send hq, hv]
    rcases (hS q v).1 hs with h1 | ⟨rfl, rfl⟩
    · have := h.1 q v h1
      split <;> omega
    · rw [if_pos rfl]; omega
  · rw [M.g_send hq, hv]
    by_cases e : q = u.1.toNat
    · rw [if_pos e]
      right
      rw [hS]
      rcases h.2 q with ⟨h1, -⟩ | h1
      · right; exact ⟨e, by omega⟩
      · by_cases hle : M.g_ acc q ≤ v0
        · right; exact ⟨e, by omega⟩
        · left; rw [show max (M.g_ acc q) v0 = M.g_ acc q by omega]; exact h1
    · rw [if_neg e]
      rcases h.2 q with ⟨h1, h2⟩ | h1
      · left
        refine ⟨h1, fun v hs => ?_⟩
        rcases (hS q v).1 hs with h3 | ⟨h3, -⟩
        · exact h2 v h3
        · exact e h3
      · right; exact (hS _ _).2 (.inl h1)
section
variable {xs : List Strip} (ok : M.mixOk xs = true)
include ok
theorem M.to_of {k j : Nat} {s : ByteArray} {l : Int} {us : List (Int × Int)} {q g : Int} (hk : xs[k]? = some (s, l, us)) (hj : us[j]? = some (q, g)) : ((k : Int) < q ∧ q ≤ xs.length - 1) ∧ (k < q.toNat ∧ q.toNat < xs.length) ∧ q = (q.toNat : Int) := by
  obtain ⟨-, -, h1⟩ := M.mix_strip ok hk
  have := M.sends_at h1 hj
  omega
theorem M.entS_low {k : Nat} {s : ByteArray} {l : Int} {us : List (Int × Int)} (hk : xs[k]? = some (s, l, us)) {p : Nat} (hp : p ≤ k) : ∀ j, j ≤ us.length → M.g_ (M.entS xs k l us j) p = M.g_ (M.entN xs k) p := by
  intro j
  induction j with
  | zero => intro _; rfl
  | succ j ih =>
    intro hj
    have hu : us[j]? = some us[j] := List.getElem?_eq_getElem (by omega)
    generalize us[j] = u at hu
    obtain ⟨q, g⟩ := u
    have ht := M.to_of ok hk hu
    rw [M.entS_next hu, M.g_send (by rw [M.entS_len]; exact ht.2.1.2), if_neg (by simp only; omega), ih (by omega)]
theorem M.entN_low {p : Nat} : ∀ d, p + d ≤ xs.length → M.g_ (M.entN xs (p + d)) p = M.g_ (M.entN xs p) p := by
  intro d
  induction d with
  | zero => intro _; rfl
  | succ d ih =>
    intro hd
    have hx : xs[p + d]? = some xs[p + d] := List.getElem?_eq_getElem (by omega)
    generalize xs[p + d] = x at hx
    obtain ⟨s, l, us⟩ := x
    have h1 := M.entS_low ok hx (p := p) (by omega) us.length (Nat.le_refl _)
    rw [M.entS_end hx] at h1
    rw [← Nat.add_assoc, h1, ih (by omega)]
/-- The entry time of a strip is known when its turn comes. -/
theorem M.ent_known {p : Nat} (hp : p ≤ xs.length) : M.g_ (M.entN xs p) p = M.g_ (M.entries xs) p := by
  have := M.entN_low ok (p := p) (xs.length - p) (by omega)
  rw [show p + (xs.length - p) = xs.length by omega] at this
  exact this.symm
end
/-- What was sent to a place by the first strips. -/
def M.sentV (xs : List Strip) (k : Nat) (q : Nat) (v : Int) : Prop := ∃ i, i < k ∧ ∃ (s : ByteArray) (l : Int) (us : List (Int × Int)) (j : Nat) (g : Int), xs[i]? = some (s, l, us) ∧ us[j]? = some ((q : Int), g) ∧ v = M.g_ (M.entries xs) i + l
theorem M.ent_Q {xs : List Strip} (ok : M.mixOk xs = true) : ∀ k, k ≤ xs.length → M.Q_ (M.entN xs k) (M.sentV xs k) := by
  intro k
  induction k with
  | zero =>
    intro _
    have h0 : ∀ q, M.g_ (M.entN xs 0) q = 0 := fun q => by
      unfold M.g_ M.entN
      cases h : (List.replicate xs.length (0 : Int))[q]? with
      | none => rfl
      | some v => exact (List.mem_replicate.1 (List.mem_of_getElem? h)).2
    refine ⟨fun q v ⟨i, hi, _⟩ => absurd hi (by omega), fun q => .inl ⟨h0 q, fun v ⟨i, hi, _⟩ => absurd hi (by omega)⟩⟩
  | succ k ih =>
    intro hk
    have hx : xs[k]? = some xs[k] := List.getElem?_eq_getElem (by omega)
    generalize xs[k] = x at hx
    obtain ⟨s, l, us⟩ := x
    have hl := (M.mix_strip ok hx).1
    have hE := M.ent_known ok (p := k) (by omega)
    have hE0 : 0 ≤ M.g_ (M.entries xs) k := (M.upTo_get (b := 2000) (by decide) (M.entries_upTo ok) k).1
    have key : ∀ j, j ≤ us.length → M.Q_ (M.entS xs k l us j) (fun q v => M.sentV xs k q v ∨ ∃ j' g, j' < j ∧ us[j']? = some ((q : Int), g) ∧ v = M.g_ (M.entries xs) k + l) := by
      intro j
      induction j with
      | zero =>
        intro _
        have h1 := ih (by omega)
        refine ⟨fun q v hs => ?_, fun q => ?_⟩
        · rcases hs with h | ⟨j', _, hj, _⟩
          · exact h1.1 q v h
          · omega
        · rcases h1.2 q with ⟨h2, h3⟩ | h2
          · left
            refine ⟨h2, fun v hs => ?_⟩
            rcases hs with h | ⟨j', _, hj, _⟩
            · exact h3 v h
            · omega
          · right; left; exact h2
      | succ j ihj =>
        intro hj
        have hu : us[j]? = some us[j] := List.getElem?_eq_getElem (by omega)
        generalize us[j] = u at hu
        obtain ⟨q0, g0⟩ := u
        have ht := M.to_of ok hx hu
        rw [M.entS_next hu]
        refine M.Q_step (ihj (by omega)) (v0 := M.g_ (M.entries xs) k + l) (by rw [M.entS_len]; exact ht.2.1.2) (by rw [M.entS_low ok hx (Nat.le_refl k) j (by omega), hE]) (by omega) (fun q v => ?_)
        constructor
        · rintro (h | ⟨j', g, h1, h2, h3⟩)
          · exact .inl (.inl h)
          · rcases Nat.lt_or_ge j' j with h4 | h4
            · exact .inl (.inr ⟨j', g, h4, h2, h3⟩)
            · obtain rfl : j' = j := by omega
              rw [hu] at h2
              injection h2 with h2; injection h2 with h2 h5
              exact .inr ⟨by simp only; omega, h3⟩
        · rintro ((h | ⟨j', g, h1, h2, h3⟩) | ⟨h1, h2⟩)
          · exact .inl h
          · exact .inr ⟨j', g, by omega, h2, h3⟩
          · refine .inr ⟨j, g0, by omega, ?_, h2⟩
            rw [hu, h1]
            simp only
            rw [← ht.2.2]
    have h1 := key us.length (Nat.le_refl _)
    rw [M.entS_end hx] at h1
    have e : (fun q v => M.sentV xs k q v ∨ ∃ j' g, j' < us.length ∧ us[j']? = some ((q : Int), g) ∧ v = M.g_ (M.entries xs) k + l) = M.sentV xs (k + 1) := by
      funext q v
      apply propext
      constructor
      · rintro (⟨i, hi, h⟩ | ⟨j', g, -, h2, h3⟩)
        · exact ⟨i, by omega, h⟩
        · exact ⟨k, by omega, s, l, us, j', g, hx, h2, h3⟩
      · rintro ⟨i, hi, s', l', us', j', g', q1, q2, q3⟩
        rcases Nat.lt_or_ge i k with h4 | h4
        · exact .inl ⟨i, h4, s', l', us', j', g', q1, q2, q3⟩
        · have hik : i = k := by omega
          rw [hik, hx] at q1
          rw [hik] at q3
          simp only [Option.some.injEq, Prod.mk.injEq] at q1
          obtain ⟨-, e2, e3⟩ := q1
          rw [← e3] at q2
          rw [← e2] at q3
          exact .inr ⟨j', g', (List.getElem?_eq_some_iff.1 q2).1, q2, q3⟩
    rw [e] at h1
    exact h1
end Go.Proofs.YtecdendjlgohjaaGreatDoor
namespace Go.Proofs.YtecdendjlgohjaaGreatDoor
open Go.RowKit
set_option maxHeartbeats 1000000
set_option linter.unusedVariables false
/-! Sends arrive in time: the plain law. -/
section
variable {xs : List Strip} (ok : M.mixOk xs = true)
include ok
/-- No send arrives late. -/
theorem M.al_ge {k j : Nat} {s : ByteArray} {l : Int} {us : List (Int × Int)} {q g : Int} (hk : xs[k]? = some (s, l, us)) (hj : us[j]? = some (q, g)) : M.g_ (M.entries xs) k + l ≤ M.g_ (M.entries xs) q.toNat := by
  have ht := M.to_of ok hk hj
  have h := (M.ent_Q ok xs.length (Nat.le_refl _)).1 q.toNat (M.g_ (M.entries xs) k + l) ⟨k, (List.getElem?_eq_some_iff.1 hk).1, s, l, us, j, g, hk, by rw [← ht.2.2]; exact hj, rfl⟩
  exact h
/-- A strip that no send reaches begins at 0; into any other one a send comes without a delay. -/
theorem M.al_or (q : Nat) : (M.g_ (M.entries xs) q = 0 ∧ ∀ (i : Nat) (s : ByteArray) (l : Int) (us : List (Int × Int)) (j : Nat) (g : Int), xs[i]? = some (s, l, us) → us[j]? = some ((q : Int), g) → False) ∨
    ∃ (i : Nat) (s : ByteArray) (l : Int) (us : List (Int × Int)) (j : Nat) (g : Int), xs[i]? = some (s, l, us) ∧ us[j]? = some ((q : Int), g) ∧ M.g_ (M.entries xs) i + l = M.g_ (M.entries xs) q := by
  rcases (M.ent_Q ok xs.length (Nat.le_refl _)).2 q with ⟨h1, h2⟩ | ⟨i, hi, s, l, us, j, g, h3, h4, h5⟩
  · exact .inl ⟨h1, fun i s l us j g h3 h4 => h2 _ ⟨i, (List.getElem?_eq_some_iff.1 h3).1, s, l, us, j, g, h3, h4, rfl⟩⟩
  · exact .inr ⟨i, s, l, us, j, g, h3, h4, h5.symm⟩
end
/-- Among the first sends one goes to q without a delay. -/
def M.dirS (xs : List Strip) (k j q : Nat) : Prop := ∃ (i : Nat) (s : ByteArray) (l : Int) (us : List (Int × Int)) (j' : Nat) (g : Int), (i < k ∨ i = k ∧ j' < j) ∧ xs[i]? = some (s, l, us) ∧ us[j']? = some ((q : Int), g) ∧ M.g_ (M.entries xs) i + l = M.g_ (M.entries xs) q
/-- Among the first sends one goes to q. -/
def M.sntS (xs : List Strip) (k j q : Nat) : Prop := ∃ (i : Nat) (s : ByteArray) (l : Int) (us : List (Int × Int)) (j' : Nat) (g : Int), (i < k ∨ i = k ∧ j' < j) ∧ xs[i]? = some (s, l, us) ∧ us[j']? = some ((q : Int), g)
structure M.Dir (xs : List Strip) (k j : Nat) (ds : List Bool) : Prop where
  len : ds.length = xs.length
  iff : ∀ q, q < xs.length → (ds[q]? = some true ↔ M.dirS xs k j q)
theorem M.Dir.zero (xs : List Strip) : M.Dir xs 0 0 (List.replicate xs.length false) := by
  refine ⟨by simp, fun q hq => ⟨fun h => ?_, fun h => ?_⟩⟩
  · rw [List.getElem?_replicate, if_pos hq] at h
    cases h
  · obtain ⟨i, s, l, us, j', g, h1, -⟩ := h
    omega
theorem M.Dir.send {xs : List Strip} {k j : Nat} {ds : List Bool} (h : M.Dir xs k j ds) {s : ByteArray} {l : Int} {us : List (Int × Int)} (hk : xs[k]? = some (s, l, us)) {q : Nat} {g : Int} (hj : us[j]? = some ((q : Int), g)) (hq : q < xs.length) {d : Bool} (hd : ds[q]? = some d) {e : Bool} (he : e = true ↔ M.g_ (M.entries xs) k + l = M.g_ (M.entries xs) q) :
    M.Dir xs k (j + 1) (ds.set q (d || e)) := by
  refine ⟨by rw [List.length_set]; exact h.len, fun p hp => ?_⟩
  by_cases hpq : p = q
  · subst hpq
    rw [List.getElem?_set_self (by rw [h.len]; exact hp), Option.some.injEq, Bool.or_eq_true]
    have h1 := h.iff p hp
    rw [hd, Option.some.injEq] at h1
    rw [h1, he]
    constructor
    · rintro (⟨i, s', l', us', j', g', h2, h3⟩ | h2)
      · exact ⟨i, s', l', us', j', g', by omega, h3⟩
      · exact ⟨k, s, l, us, j, g, .inr ⟨rfl, by omega⟩, hk, hj, h2⟩
    · rintro ⟨i, s', l', us', j', g', h2, h3, h4, h5⟩
      by_cases h6 : i < k ∨ i = k ∧ j' < j
      · exact .inl ⟨i, s', l', us', j', g', h6, h3, h4, h5⟩
      · obtain rfl : i = k := by omega
        obtain rfl : j' = j := by omega
        rw [hk] at h3
        simp only [Option.some.injEq, Prod.mk.injEq] at h3
        obtain ⟨rfl, rfl, rfl⟩ := h3
        exact .inr h5
  · rw [List.getElem?_set_ne (fun e => hpq e.symm), h.iff p hp]
    constructor
    · rintro ⟨i, s', l', us', j', g', h2, h3⟩
      exact ⟨i, s', l', us', j', g', by omega, h3⟩
    · rintro ⟨i, s', l', us', j', g', h2, h3, h4, h5⟩
      refine ⟨i, s', l', us', j', g', ?_, h3, h4, h5⟩
      by_cases h6 : i < k ∨ i = k ∧ j' < j
      · exact h6
      · obtain rfl : i = k := by omega
        obtain rfl : j' = j := by omega
        rw [hk] at h3
        simp only [Option.some.injEq, Prod.mk.injEq] at h3
        obtain ⟨rfl, rfl, rfl⟩ := h3
        rw [hj] at h4
        simp only [Option.some.injEq, Prod.mk.injEq] at h4
        omega
theorem M.Dir.next {xs : List Strip} {k j : Nat} {ds : List Bool} (h : M.Dir xs k j ds) {s : ByteArray} {l : Int} {us : List (Int × Int)} (hk : xs[k]? = some (s, l, us)) (hj : us.length ≤ j) : M.Dir xs (k + 1) 0 ds := by
  refine ⟨h.len, fun p hp => ?_⟩
  rw [h.iff p hp]
  constructor
  · rintro ⟨i, s', l', us', j', g', h2, h3⟩
    exact ⟨i, s', l', us', j', g', by omega, h3⟩
  · rintro ⟨i, s', l', us', j', g', h2, h3, h4, h5⟩
    refine ⟨i, s', l', us', j', g', ?_, h3, h4, h5⟩
    by_cases h6 : i < k
    · exact .inl h6
    · obtain rfl : i = k := by omega
      rw [hk] at h3
      simp only [Option.some.injEq, Prod.mk.injEq] at h3
      obtain ⟨rfl, rfl, rfl⟩ := h3
      have := (List.getElem?_eq_some_iff.1 h4).1
      exact .inr ⟨rfl, by omega⟩
theorem M.snt_zero (xs : List Strip) (q : Nat) : ¬ M.sntS xs 0 0 q := by
  rintro ⟨i, s, l, us, j', g, h1, -⟩
  omega
theorem M.snt_send {xs : List Strip} {k j q : Nat} {s : ByteArray} {l : Int} {us : List (Int × Int)} (hk : xs[k]? = some (s, l, us)) {p g : Int} (hj : us[j]? = some (p, g)) : M.sntS xs k (j + 1) q ↔ (M.sntS xs k j q ∨ p = (q : Int)) := by
  constructor
  · rintro ⟨i, s', l', us', j', g', h2, h3, h4⟩
    by_cases h6 : i < k ∨ i = k ∧ j' < j
    · exact .inl ⟨i, s', l', us', j', g', h6, h3, h4⟩
    · obtain rfl : i = k := by omega
      obtain rfl : j' = j := by omega
      rw [hk] at h3
      simp only [Option.some.injEq, Prod.mk.injEq] at h3
      obtain ⟨rfl, rfl, rfl⟩ := h3
      rw [hj] at h4
      simp only [Option.some.injEq, Prod.mk.injEq] at h4
      exact .inr h4.1
  · rintro (⟨i, s', l', us', j', g', h2, h3⟩ | rfl)
    · exact ⟨i, s', l', us', j', g', by omega, h3⟩
    · exact ⟨k, s, l, us, j, g, .inr ⟨rfl, by omega⟩, hk, hj⟩
theorem M.snt_next {xs : List Strip} {k j q : Nat} {s : ByteArray} {l : Int} {us : List (Int × Int)} (hk : xs[k]? = some (s, l, us)) (hj : us.length ≤ j) : M.sntS xs k j q ↔ M.sntS xs (k + 1) 0 q := by
  constructor
  · rintro ⟨i, s', l', us', j', g', h2, h3⟩
    exact ⟨i, s', l', us', j', g', by omega, h3⟩
  · rintro ⟨i, s', l', us', j', g', h2, h3, h4⟩
    refine ⟨i, s', l', us', j', g', ?_, h3, h4⟩
    by_cases h6 : i < k
    · exact .inl h6
    · obtain rfl : i = k := by omega
      rw [hk] at h3
      simp only [Option.some.injEq, Prod.mk.injEq] at h3
      obtain ⟨rfl, rfl, rfl⟩ := h3
      have := (List.getElem?_eq_some_iff.1 h4).1
      exact .inr ⟨rfl, by omega⟩
/-- What is sent to a strip comes without a delay, once at least. -/
theorem M.snt_dir {xs : List Strip} (ok : M.mixOk xs = true) {q : Nat} {ds : List Bool} (hd : M.Dir xs xs.length 0 ds) (hq : q < xs.length) {b d : Bool} (hb : b = true ↔ M.sntS xs q 0 q) (hx : ds[q]? = some d) : b = d ∧ (b = false → M.g_ (M.entries xs) q = 0) := by
  have h1 := hd.iff q hq
  rw [hx, Option.some.injEq] at h1
  rcases M.al_or ok q with ⟨h2, h3⟩ | ⟨i, s, l, us, j, g, h2, h3, h4⟩
  · have hb0 : b = false := by
      cases b with
      | false => rfl
      | true =>
        obtain ⟨i, s, l, us, j, g, -, h4, h5⟩ := hb.1 rfl
        exact (h3 i s l us j g h4 h5).elim
    have hd0 : d = false := by
      cases d with
      | false => rfl
      | true =>
        obtain ⟨i, s, l, us, j, g, -, h4, h5, -⟩ := h1.1 rfl
        exact (h3 i s l us j g h4 h5).elim
    exact ⟨hb0.trans hd0.symm, fun _ => h2⟩
  · have ht := M.to_of ok h2 h3
    have hb1 : b = true := hb.2 ⟨i, s, l, us, j, g, .inl (by omega), h2, h3⟩
    have hd1 : d = true := h1.2 ⟨i, s, l, us, j, g, .inl (List.getElem?_eq_some_iff.1 h2).1, h2, h3, h4⟩
    exact ⟨hb1.trans hd1.symm, fun h => by rw [hb1] at h; cases h⟩
end Go.Proofs.YtecdendjlgohjaaGreatDoor
namespace Go.Proofs.YtecdendjlgohjaaGreatDoor
open Go.RowKit
set_option maxHeartbeats 4000000
set_option maxRecDepth 100000
theorem impl_EntryTimes (A : Option Addr) (n c : Nat) (xs : List Strip) (w : World) (hx : tM.R w w.heap.size [.slice A n c] xs) (hn : hM.sz xs ≤ 100000000) :
    Calls Tryz.prog 12 #[.agg #[.slice A n c]] w (Ret2 2 w (M.entryR xs)) := by
  have hb : Below w.heap.size w (w.alloc (.cells #[.slice A n c] 24)) := (Below.refl _ _).alloc (Nat.le_refl _) _
  have hx2 := tM.later hx hb
  have hself : (w.alloc (.cells #[.slice A n c] 24)).cell? ⟨w.heap.size, 0, none⟩ = some (.slice A n c) := by simp [go_sem]
  have hsz : (w.alloc (.cells #[.slice A n c] 24)).heap.size = w.heap.size + 1 := by simp
  have HSZ := Lib.hid hsz
  clear hsz
  cases hM : M.mixOk xs
  · have R := Lib.hid (show M.entryR xs = ([], 1) by rw [M.entryR, hM]; rfl)
    have HM := Lib.hid hM
    clear hM
    go_enter Tryz.func12, Tryz.ntmps12
    go_wp2_with (go_at_call 24; refine (impl_isMixer _ _ _ _ _ hx2 hn).mono ?_; rw [HM.out]; rintro e w2 ⟨rfl, bel2⟩; have hv2 : w2.cell? ⟨w.heap.size, 0, none⟩ = some (.slice A n c) := (by rw [bel2.cell (by rw [HSZ.out]; simp)]; exact hself))
    go_ret2
    rw [R.out]
    exact ⟨_, rfl, OI.nil _ _ _, bel_trans hb bel2⟩
  · have R := Lib.hid (show M.entryR xs = (M.entries xs, 0) by rw [M.entryR, hM]; rfl)
    have HM := Lib.hid hM
    clear hM
    go_enter Tryz.func12, Tryz.ntmps12
    go_wp2_with (first | (go_at_call 24; refine (impl_isMixer _ _ _ _ _ hx2 hn).mono ?_; rw [HM.out]; rintro e w2 ⟨rfl, bel2⟩; have hv2 : w2.cell? ⟨w.heap.size, 0, none⟩ = some (.slice A n c) := (by rw [bel2.cell (by rw [HSZ.out]; simp)]; exact hself)) | (go_at_call 30; refine (impl_entries _ _ _ _ _ (tM.later hx2 bel2) HM.out).mono ?_; rintro e w3 ⟨v3, rfl, own3, bel3⟩))
    go_ret2
    rw [R.out]
    have B2 := bel_trans hb bel2
    exact ⟨_, rfl, OI.base own3 B2.size, bel_trans B2 bel3⟩
theorem impl_TotalLatency (A : Option Addr) (n c : Nat) (xs : List Strip) (w : World) (hx : tM.R w w.heap.size [.slice A n c] xs) (hn : hM.sz xs ≤ 100000000) :
    Calls Tryz.prog 14 #[.agg #[.slice A n c]] w fun e w' => e = .returned (.tuple #[.int .i64 (M.totalR xs).1, .int .i64 (M.totalR xs).2]) ∧ Below w.heap.size w w' := by
  have hb : Below w.heap.size w (w.alloc (.cells #[.slice A n c] 24)) := (Below.refl _ _).alloc (Nat.le_refl _) _
  have hx2 := tM.later hx hb
  have hself : (w.alloc (.cells #[.slice A n c] 24)).cell? ⟨w.heap.size, 0, none⟩ = some (.slice A n c) := by simp [go_sem]
  have hsz : (w.alloc (.cells #[.slice A n c] 24)).heap.size = w.heap.size + 1 := by simp
  have HSZ := Lib.hid hsz
  clear hsz
  cases hM : M.mixOk xs
  · have R := Lib.hid (show M.totalR xs = (0, 1) by rw [M.totalR, hM]; rfl)
    have HM := Lib.hid hM
    clear hM
    go_enter Tryz.func14, Tryz.ntmps14
    go_wp2_with (go_at_call 24; refine (impl_isMixer _ _ _ _ _ hx2 hn).mono ?_; rw [HM.out]; rintro e w2 ⟨rfl, bel2⟩; have hv2 : w2.cell? ⟨w.heap.size, 0, none⟩ = some (.slice A n c) := (by rw [bel2.cell (by rw [HSZ.out]; simp)]; exact hself))
    go_ret2
    exact ⟨by rw [R.out]; rfl, bel_trans hb bel2⟩
  · have R := Lib.hid (show M.totalR xs = (M.total xs, 0) by rw [M.totalR, hM]; rfl)
    have HM := Lib.hid hM
    clear hM
    go_enter Tryz.func14, Tryz.ntmps14
    go_wp2_with (first | (go_at_call 24; refine (impl_isMixer _ _ _ _ _ hx2 hn).mono ?_; rw [HM.out]; rintro e w2 ⟨rfl, bel2⟩; have hv2 : w2.cell? ⟨w.heap.size, 0, none⟩ = some (.slice A n c) := (by rw [bel2.cell (by rw [HSZ.out]; simp)]; exact hself)) | (go_at_call 32; refine (impl_latency _ _ _ _ _ (tM.later hx2 bel2) HM.out).mono ?_; rintro e w3 ⟨rfl, bel3⟩))
    go_ret2
    exact ⟨by rw [R.out]; rfl, bel_trans (bel_trans hb bel2) bel3⟩
end Go.Proofs.YtecdendjlgohjaaGreatDoor
namespace Go.Proofs.YtecdendjlgohjaaGreatDoor
open Go.ChangeShapes Go.WideShapes Go.Deep Go.RowKit
/-- Whatever came in at this type reads as something. -/
def Opens (P : Program) (T : TypeId) {α : Type} (t : Ty α) : Prop :=
  ∀ {H : Type} (enc : TypeId × Value → H) (w : World) (base : Nat) (spare : Nat → Bool) (held : Bool) (fuel : Nat) (cs : List Value) (d : DataW H × List MemPlace), DataW.trod enc P w base spare held fuel T cs = some d → ∃ x, t.R w w.heap.size cs x
section
variable {P : Program} {T : TypeId}
theorem opens_sl {α : Type} {t : Ty α} {e e' : TypeId} (ht : P.underlying T = some (.slice e)) (hC : P.cellsOf e = t.s) (he : Opens P e t) : Opens P T (t.sl e') := by
  intro H enc w base spare held fuel cs d h
  rcases open_slice ht h with ⟨rfl, _⟩ | ⟨a, len, cap, m, n, D, Pl, rfl, hb, hl, hm, hmm, hx, hi⟩
  · exact ⟨[], _, rfl, RS.nil _ _ _⟩
  · have hlm : len ≤ m := by rw [hmm]; split <;> omega
    have key : ∀ i, ∃ p : List Value × α, i < len → t.R w w.heap.size p.1 p.2 ∧ ∀ j u, p.1[j]? = some u → w.cell? (a.add (i * t.s + j)) = some u := by
      intro i
      by_cases hil : i < len
      · obtain ⟨cs', hc, ht'⟩ := hi i (by omega)
        rw [hC] at hc
        obtain ⟨x, hR⟩ := he enc w base spare held n cs' _ ht'
        obtain ⟨_, hcl, hat⟩ := World.cells?_some hc
        refine ⟨(cs', x), fun _ => ⟨hR, fun j u hu => ?_⟩⟩
        have hj : j < t.s := by rw [← hcl]; exact (List.getElem?_eq_some_iff.1 hu).1
        have := hat j hj
        rw [Go.Deep.add_add] at this
        rw [this]
        exact hu
      · exact ⟨([], t.zero), fun hc => absurd hc hil⟩
    obtain ⟨g, hg⟩ : ∃ g : Nat → List Value × α, ∀ i, i < len → t.R w w.heap.size (g i).1 (g i).2 ∧ ∀ j u, (g i).1[j]? = some u → w.cell? (a.add (i * t.s + j)) = some u := ⟨fun i => Classical.choose (key i), fun i => Classical.choose_spec (key i)⟩
    have hs : ∀ c ∈ (List.range len).map (fun i => (g i).1), c.length = t.s := by
      intro c hc
      obtain ⟨i, hi, rfl⟩ := List.mem_map.1 hc
      exact t.rlen (hg i (List.mem_range.1 hi)).1
    refine ⟨(List.range len).map fun i => (g i).2, _, rfl, some a, cap, (List.range len).map fun i => (g i).1, by simp, by simpa using hl, hm, by simp, ?_, ?_⟩
    · refine ⟨by rw [flat2_len hs]; simp, fun hn => ⟨a, rfl, ?_, fun j u hu => ?_⟩⟩
      · have hn' : 0 < len := by simpa using hn
        have h0 := (hg 0 hn')
        have hp := t.pos
        obtain ⟨u, hu⟩ : ∃ u, (g 0).1[0]? = some u := ⟨_, List.getElem?_eq_getElem (by rw [t.rlen h0.1]; exact hp)⟩
        have := World.block_lt_of_cell? _ _ (h0.2 0 u hu)
        rwa [block_of_add] at this
      · have hj : j < len * t.s := by have := (List.getElem?_eq_some_iff.1 hu).1; rw [flat2_len hs] at this; simpa using this
        have hk : j / t.s < len := Nat.div_lt_of_lt_mul (by rw [Nat.mul_comm]; exact hj)
        have hr : j % t.s < t.s := Nat.mod_lt _ t.pos
        have e0 : j / t.s * t.s + j % t.s = j := by rw [Nat.mul_comm]; exact Nat.div_add_mod j t.s
        have hf := flat2_at hs (k := j / t.s) (c := (g (j / t.s)).1) (by simp [hk]) (j % t.s) hr
        rw [e0, hu] at hf
        have := (hg _ hk).2 (j % t.s) u hf.symm
        rwa [e0] at this
    · intro k hk hk'
      simp only [List.length_map, List.length_range] at hk
      simp only [List.getElem_map, List.getElem_range]
      exact (hg k hk).1
end
end Go.Proofs.YtecdendjlgohjaaGreatDoor
namespace Go.Proofs.YtecdendjlgohjaaGreatDoor
open Go.RowKit
theorem opens_u8 {P : Program} {T : TypeId} (h : P.underlying T = some (.int .u8)) : Opens P T tU8 := fun _ _ _ _ _ _ _ _ ht => by
  obtain ⟨n, rfl, _, hw⟩ := DataW.trod_int h ht
  have hb : 0 ≤ n ∧ n ≤ 255 := by
    simp only [Lit.wf, Bool.and_eq_true, decide_eq_true_eq, show IntKind.u8.min = 0 from by decide, show IntKind.u8.max = 255 from by decide] at hw
    exact hw
  refine ⟨UInt8.ofNat n.toNat, ?_⟩
  show [Value.int .u8 n] = [.int .u8 ((UInt8.ofNat n.toNat).toNat : Int)]
  have h2 : (UInt8.ofNat n.toNat).toNat = n.toNat := by rw [UInt8.toNat_ofNat']; omega
  rw [h2, Int.toNat_of_nonneg hb.1]
abbrev tU : Ty (List UInt8) := tU8.sl 5
theorem opens_U : Opens Tryz.prog 30 tU := opens_sl Tryz.underlying30 (by kernel_rfl) (opens_u8 Tryz.underlying5)
end Go.Proofs.YtecdendjlgohjaaGreatDoor
