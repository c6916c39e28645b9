import Derived.Test.YtacgcagpaecncaaFnExactSameSessionG1
import Derived.Laws.IdiomStrings
import Derived.Lib.QuietBelow
import Derived.Test.YtacgcagpaecncaaProg
import Derived.BigQuiet
import Derived.Deep.RegionLaw
import Derived.Lib.SliceRun
set_option linter.unusedVariables false
set_option linter.unusedSimpArgs false
namespace Go.Proofs.Ytacgcagpaecncaa
open Go.RowKit
set_option maxHeartbeats 1000000
set_option maxRecDepth 100000
section
variable {α : Type} {t : Ty α} {e : TypeId} {w : World} {B : Nat} {F : Nat → Prop} {v : Value} {xs : List α}
theorem sl_R : (t.sl e).R w B [v] xs ↔ RS t w B v xs := ⟨fun ⟨v, h, h'⟩ => by injection h with h; rw [h]; exact h', fun h => ⟨_, rfl, h⟩⟩
theorem sl_O : (t.sl e).O w F [v] xs ↔ OS t e w F v xs := ⟨fun ⟨v, h, h'⟩ => by injection h with h; rw [h]; exact h', fun h => ⟨_, rfl, h⟩⟩
end
theorem open_S {w : World} {B : Nat} {cs : List Value} {x : List Int} (h : tS.R w B cs x) : ∃ A n c, cs = [.slice A n c] := by
  obtain ⟨v, rfl, hr⟩ := h
  obtain ⟨A, c, rfl⟩ := hr.shape
  exact ⟨_, _, _, rfl⟩
theorem keptB_all {B : Nat} {w w1 w2 : World} (h1 : Below B w1 w2) (hB : B = w1.heap.size) (h0 : Below w.heap.size w w1) : Below w.heap.size w w2 := by
  subst hB
  exact h0.trans (h1.mono h0.size)
theorem keptB {B : Nat} {w w1 w2 : World} {b o : Nat} {u : Value} (h1 : Below B w1 w2) (hB : B = w1.heap.size) (h0 : Below w.heap.size w w1) (h : w.cell? ⟨b, o, none⟩ = some u) (hb : b < w.heap.size) : w2.cell? ⟨b, o, none⟩ = some u := by
  subst hB
  rw [h1.cell (by simpa using Nat.lt_of_lt_of_le hb h0.size), h0.cell (by simpa using hb)]
  exact h
theorem OS.openAt {α : Type} {t : Ty α} {e : TypeId} {w : World} {F : Nat → Prop} {v : Value} {xs : List α} (h : OS t e w F v xs) {k : Nat} {x : α} (hx : xs[k]? = some x) : ∃ css Fs, OH t e w F v xs css Fs k ∧ ∃ cs, css[k]? = some cs ∧ t.O w (Fs k) cs x := by
  obtain ⟨hk, rfl⟩ := List.getElem?_eq_some_iff.1 hx
  exact h.open hk
theorem RS.atX {α : Type} {t : Ty α} {w : World} {B : Nat} {v : Value} {xs : List α} (h : RS t w B v xs) {k : Nat} {x : α} (hx : xs[k]? = some x) : ∃ b o c cs, v = .slice (some ⟨b, o, none⟩) xs.length c ∧ b < B ∧ cs.length = t.s ∧ t.R w B cs x ∧ ∀ j u, cs[j]? = some u → w.cell? ⟨b, o + k * t.s + j, none⟩ = some u := by
  obtain ⟨hk, rfl⟩ := List.getElem?_eq_some_iff.1 hx
  exact h.at hk
theorem nat_le_cast {a b : Nat} (h : a ≤ b) : (a : Int) ≤ (b : Int) := by omega
abbrev tSS : Ty (List (List Int)) := tS.sl 24
abbrev hSS : Hs (List (List Int)) := hS.sl
theorem nf_eq_SS (A A' : Option Addr) (n c n' c' : Nat) (xs : List (List Int)) (w : World) (hx : tSS.R w w.heap.size [.slice A n c] xs) (hy : tSS.R w w.heap.size [.slice A' n' c'] xs) (hn : hSS.sz xs ≤ 100000000) :
    Calls Try.prog 28 #[.slice A n c, .slice A' n' c'] w fun e w' => e = .returned (.bool true) ∧ Below w.heap.size w w' := by
  have hr := sl_R.1 hx
  have hr' := sl_R.1 hy
  obtain rfl : xs.length = n := hr.cap.1
  obtain rfl : xs.length = n' := hr'.cap.1
  have hsz : xs.length + hS.szL xs ≤ 100000000 := hn
  clear hx hy hn
  go_enter Try.func28, Try.ntmps28
  go_wp2
  go_loopw [5] (fun i wr => ∃ k : Nat, i = .int .i64 k ∧ k ≤ xs.length ∧ Below w.heap.size w wr) (fun i _ => xs.length - (intOf i).toNat)
  case atStart => exact ⟨0, rfl, by omega, Below.refl _ _⟩
  case round =>
    obtain ⟨k, rfl, hk, hb⟩ := hrel
    by_cases hlt : k < xs.length
    · obtain ⟨b, o, c1, cs, hv, hab, -, hE, hc⟩ := (hr.below hb).at hlt
      obtain ⟨b', o', c1', cs', hv', hab', -, hE', hc'⟩ := (hr'.below hb).at hlt
      simp only [Value.slice.injEq] at hv hv'
      obtain ⟨rfl, -, rfl⟩ := hv
      obtain ⟨rfl, -, rfl⟩ := hv'
      obtain ⟨A1, n1, c1, rfl⟩ := open_S hE
      obtain ⟨A2, n2, c2, rfl⟩ := open_S hE'
      have hc0 : wr.cell? ⟨b, o + k * 1, none⟩ = some (.slice A1 n1 c1) := hc 0 _ rfl
      have hd0 : wr.cell? ⟨b', o' + k * 1, none⟩ = some (.slice A2 n2 c2) := hc' 0 _ rfl
      have hbr : b < wr.heap.size := Nat.lt_of_lt_of_le hab hb.size
      have hbr' : b' < wr.heap.size := Nat.lt_of_lt_of_le hab' hb.size
      have hs1 : hS.sz xs[k] ≤ 100000000 := by have := hS.szL_at (List.getElem?_eq_getElem hlt); omega
      have hF := tS.later (tS.more hb.size hE) (below_drewN (Below.refl _ _) 1)
      have hF' := tS.later (tS.more hb.size hE') (below_drewN (Below.refl _ _) 1)
      clear hc hc' hE hE'
      rw [Nat.mul_one] at hc0 hd0
      go_wp2
      go_region_held3 (fun w' => Below wr.heap.size wr w' ∧ w'.cell? ⟨b, o + k, none⟩ = some (.slice A1 n1 c1) ∧ w'.cell? ⟨b', o' + k, none⟩ = some (.slice A2 n2 c2))
        (first
          | exact ⟨below_drewN (Below.refl _ _) _, hc0, hd0⟩
          | exact ⟨keptB_all bel2 rfl (And.left (by assumption)), keptB bel2 rfl (And.left (by assumption)) hc0 hbr, keptB bel2 rfl (And.left (by assumption)) hd0 hbr'⟩)
        (first | (go_at_call 30; refine (nf_eq_S _ _ _ _ _ _ _ _ hF hF' hs1).mono ?_; rintro e w2 ⟨rfl, bel2⟩))
      go_wp2
      go_roundw
      case rel => exact ⟨k + 1, by go_num, by omega, hb.trans ((keptB_all bel2 rfl (below_drewN (Below.refl _ _) _)).mono hb.size)⟩
      case measure => simp [intOf]; omega
    · go_wp2
      go_ret
      exact ⟨rfl, hb⟩
end Go.Proofs.Ytacgcagpaecncaa
namespace Go.Proofs.Ytacgcagpaecncaa
open Go.RowKit
set_option maxHeartbeats 1000000
set_option maxRecDepth 100000
theorem ei_sd : EI Try.prog 76 99 (.agg #[.int .i64 0, .int .i64 0]) 2 16 := ⟨Try.underlying76, by kernel_rfl, rfl, by decide⟩
def sd (p : (Int × Int)) : List Value := [.int .i64 p.1, .int .i64 p.2]
theorem sd_len (p : (Int × Int)) : (sd p).length = 2 := rfl
abbrev tSd : Ty (Int × Int) := Ty.flat 2 (by decide) (0, 0) sd sd_len (by simp [sd, Value.oneCell'])
abbrev hSd : Hs (Int × Int) := hI.prod hI
abbrev tSdS : Ty (List (Int × Int)) := tSd.sl 99
abbrev hSdS : Hs (List (Int × Int)) := hSd.sl
theorem hSd_szL (xs : List (Int × Int)) : hSd.szL xs = 0 := by
  induction xs with
  | nil => rfl
  | cons x xs ih => rw [Hs.szL, ih]; rfl
theorem hSd_cntL (xs : List (Int × Int)) : hSd.cntL xs = 2 * xs.length := by
  induction xs with
  | nil => rfl
  | cons x xs ih =>
    rw [Hs.cntL, ih, List.length_cons]
    show (1 + 1) + _ = _
    omega
theorem hSdS_sz (xs : List (Int × Int)) : hSdS.sz xs = xs.length := by show xs.length + hSd.szL xs = _; rw [hSd_szL]; rfl
theorem hSdS_cnt (xs : List (Int × Int)) : hSdS.cnt xs = 2 * xs.length := hSd_cntL xs
theorem cl_SdS (x : List (Int × Int)) : hSdS.cnt x ≤ 10 * hSdS.sz x + 10 := by rw [hSdS_sz, hSdS_cnt]; omega
theorem mark_sd (k : Int) (x : (Int × Int)) : hSd.mark k x = (k, k + 1) := by
  simp [Hs.prod, hI]
  try omega
theorem laws_toSend (p0 p1 : Int) (w : World) :
    Calls Try.prog 64 #[.agg #[.int .i64 p0, .int .i64 p1]] w fun e w' => e = .returned (.agg #[.int .i64 p0, .int .i64 p1]) ∧ Below w.heap.size w w' := by
  go_enter Try.func64, Try.ntmps64
  go_wp2
  exact bodyPost_ret (v := .agg #[.int .i64 p0, .int .i64 p1]) (by simp [results, Try.results64, go_sem]) rfl ⟨rfl, (((Below.refl _ _).alloc (Nat.le_refl _) _).alloc (by simp) _).alloc (by simp; omega) _⟩
theorem nf_eq_Send (p0 p1 : Int) (w : World) :
    Calls Try.prog 65 #[.agg #[.int .i64 p0, .int .i64 p1], .agg #[.int .i64 p0, .int .i64 p1]] w fun e w' => e = .returned (.bool true) ∧ Below w.heap.size w w' := by
  go_enter Try.func65, Try.ntmps65
  go_wp2
  go_ret
  exact ⟨rfl, ((Below.refl _ _).alloc (Nat.le_refl _) _).alloc (by simp) _⟩
theorem nf_to_SdS_ (A : Option Addr) (n c : Nat) (xs : List (Int × Int)) (w : World) (hx : tSdS.R w w.heap.size [.slice A n c] xs) (hn : hSdS.sz xs ≤ 100000000) :
    Calls Try.prog 60 #[.slice A n c] w fun e w' => ∃ A' n' c', e = .returned (.slice A' n' c') ∧ tSdS.O w' (Iv w.heap.size w'.heap.size) [.slice A' n' c'] xs ∧ Below w.heap.size w w' := by
  have hr := sl_R.1 hx
  obtain rfl : xs.length = n := hr.cap.1
  rw [hSdS_sz] at hn
  clear hx
  go_enter Try.func60, Try.ntmps60
  go_wp2_with (at_make; refine wpList_mk ei_sd rfl _ _ rfl xs.length _ _ rfl rfl rfl rfl (by omega) (by unfold maxLen; omega) ?_; intro w1 own1 bel1)
  have hs1 : w.heap.size + 1 ≤ w1.heap.size := (World.ownsRow.lt own1 _ rfl).2
  have own2 : OS tSd 99 w1 (Iv w.heap.size (w.heap.size + 1)) (.slice (some ⟨w.heap.size, 0, none⟩) xs.length xs.length) (List.replicate xs.length (0, 0)) :=
    OS.made (zc := [.int .i64 0, .int .i64 0]) (fun _ _ => rfl) rfl ⟨Nat.le_refl _, by omega⟩ own1
  clear own1
  go_loopw [4] (fun i wr => ∃ k : Nat, i = .int .i64 k ∧ k ≤ xs.length ∧ OS tSd 99 wr (Iv w.heap.size (w.heap.size + 1)) (.slice (some ⟨w.heap.size, 0, none⟩) xs.length xs.length) (xs.take k ++ (List.replicate xs.length (0, 0)).drop k) ∧ w.heap.size + 1 ≤ wr.heap.size ∧ Below w.heap.size w wr)
    (fun i _ => xs.length - (intOf i).toNat)
  case atStart => exact ⟨0, rfl, by omega, by simpa using own2, hs1, bel1⟩
  case round =>
    obtain ⟨k, rfl, hk, own, hsz, hb⟩ := hrel
    by_cases hlt : k < xs.length
    · have hX := Lib.hid (List.getElem?_eq_getElem hlt)
      obtain ⟨b, o, c1, cs, hv, hab, -, hE, hc⟩ := (hr.below hb).atX hX.out
      simp only [Value.slice.injEq] at hv
      obtain ⟨rfl, -, rfl⟩ := hv
      generalize xs[k] = x at hX hE
      obtain ⟨p0, p1⟩ := x
      obtain rfl : cs = [.int .i64 p0, .int .i64 p1] := hE
      have hc0 : wr.cell? ⟨b, o + k * 2, none⟩ = some (.int .i64 p0) := hc 0 _ rfl
      have hc1 : wr.cell? ⟨b, o + k * 2 + 1, none⟩ = some (.int .i64 p1) := hc 1 _ rfl
      have hD := Lib.hid (show (xs.take k ++ (List.replicate xs.length ((0, 0) : (Int × Int))).drop k)[k]? = some (0, 0) by rw [M.mid_at (by rw [List.length_replicate])]; simp [hlt])
      clear hc
      go_wp2_with (go_at_call 64; refine (laws_toSend _ _ _).mono ?_; rintro e w2 ⟨rfl, bel2⟩; have own' := own.below bel2 hsz; obtain ⟨css, Fs, hole, cs, hcs, hE⟩ := own'.openAt hD.out; obtain rfl : cs = [.int .i64 0, .int .i64 0] := hE; have q0 : w2.cell? ⟨w.heap.size, k * 2, none⟩ = some (.int .i64 0) := (hole.cell hcs (j := 0) rfl).1; have r0 : w2.frozen? ⟨w.heap.size, k * 2, none⟩ = false := (hole.cell hcs (j := 0) rfl).2; have q1 : w2.cell? ⟨w.heap.size, k * 2 + 1, none⟩ = some (.int .i64 0) := (hole.cell hcs (j := 1) rfl).1; have r1 : w2.frozen? ⟨w.heap.size, k * 2 + 1, none⟩ = false := (hole.cell hcs (j := 1) rfl).2)
      go_roundw
      case rel =>
        have s0 := hole.set hcs 0 (by decide) (.int .i64 p0)
        have s1 := s0.1.set s0.2 1 (by decide) (.int .i64 p1)
        have h3 := s1.1.fill s1.2 (y := (p0, p1)) rfl
        rw [M.set_mid (by rw [List.length_replicate]) hX.out] at h3
        have hb2 := hb.trans (bel2.mono hb.size)
        exact ⟨k + 1, by go_num, by omega, h3, by simpa using Nat.le_trans hsz bel2.size, (hb2.setCell (Nat.le_refl _) _).setCell (Nat.le_refl _) _⟩
      case measure => simp [intOf]; omega
    · go_wp2
      go_ret
      rw [List.take_of_length_le (by omega), List.drop_eq_nil_of_le (by simp; omega), List.append_nil] at own
      exact ⟨_, _, _, rfl, sl_O.2 (own.iv (Nat.le_refl _) hsz), hb⟩
theorem nf_eq_SdS_ (A A' : Option Addr) (n c n' c' : Nat) (xs : List (Int × Int)) (w : World) (hx : tSdS.R w w.heap.size [.slice A n c] xs) (hy : tSdS.R w w.heap.size [.slice A' n' c'] xs) (hn : hSdS.sz xs ≤ 100000000) :
    Calls Try.prog 63 #[.slice A n c, .slice A' n' c'] w fun e w' => e = .returned (.bool true) ∧ Below w.heap.size w w' := by
  have hr := sl_R.1 hx
  have hr' := sl_R.1 hy
  obtain rfl : xs.length = n := hr.cap.1
  obtain rfl : xs.length = n' := hr'.cap.1
  rw [hSdS_sz] at hn
  clear hx hy
  go_enter Try.func63, Try.ntmps63
  go_wp2
  go_loopw [5] (fun i wr => ∃ k : Nat, i = .int .i64 k ∧ k ≤ xs.length ∧ Below w.heap.size w wr) (fun i _ => xs.length - (intOf i).toNat)
  case atStart => exact ⟨0, rfl, by omega, Below.refl _ _⟩
  case round =>
    obtain ⟨k, rfl, hk, hb⟩ := hrel
    by_cases hlt : k < xs.length
    · have hX := Lib.hid (List.getElem?_eq_getElem hlt)
      obtain ⟨b, o, c1, cs, hv, hab, -, hE, hc⟩ := (hr.below hb).atX hX.out
      obtain ⟨b', o', c1', cs', hv', hab', -, hE', hc'⟩ := (hr'.below hb).atX hX.out
      simp only [Value.slice.injEq] at hv hv'
      obtain ⟨rfl, -, rfl⟩ := hv
      obtain ⟨rfl, -, rfl⟩ := hv'
      generalize xs[k] = x at hX hE hE'
      obtain ⟨p0, p1⟩ := x
      obtain rfl : cs = [.int .i64 p0, .int .i64 p1] := hE
      obtain rfl : cs' = [.int .i64 p0, .int .i64 p1] := hE'
      have hc0 : wr.cell? ⟨b, o + k * 2, none⟩ = some (.int .i64 p0) := hc 0 _ rfl
      have hc1 : wr.cell? ⟨b, o + k * 2 + 1, none⟩ = some (.int .i64 p1) := hc 1 _ rfl
      have hd0 : wr.cell? ⟨b', o' + k * 2, none⟩ = some (.int .i64 p0) := hc' 0 _ rfl
      have hd1 : wr.cell? ⟨b', o' + k * 2 + 1, none⟩ = some (.int .i64 p1) := hc' 1 _ rfl
      have hbr : b < wr.heap.size := Nat.lt_of_lt_of_le hab hb.size
      have hbr' : b' < wr.heap.size := Nat.lt_of_lt_of_le hab' hb.size
      clear hc hc'
      go_wp2
      go_region_held3 (fun w' => Below wr.heap.size wr w' ∧ w'.cell? ⟨b, o + k * 2, none⟩ = some (.int .i64 p0) ∧ w'.cell? ⟨b, o + k * 2 + 1, none⟩ = some (.int .i64 p1) ∧ w'.cell? ⟨b', o' + k * 2, none⟩ = some (.int .i64 p0) ∧ w'.cell? ⟨b', o' + k * 2 + 1, none⟩ = some (.int .i64 p1))
        (first
          | exact ⟨below_drewN (Below.refl _ _) _, hc0, hc1, hd0, hd1⟩
          | exact ⟨keptB_all bel2 rfl (And.left (by assumption)), keptB bel2 rfl (And.left (by assumption)) hc0 hbr, keptB bel2 rfl (And.left (by assumption)) hc1 hbr, keptB bel2 rfl (And.left (by assumption)) hd0 hbr', keptB bel2 rfl (And.left (by assumption)) hd1 hbr'⟩)
        (first | (go_at_call 65; refine (nf_eq_Send _ _ _).mono ?_; rintro e w2 ⟨rfl, bel2⟩))
      go_wp2
      go_roundw
      case rel => exact ⟨k + 1, by go_num, by omega, hb.trans ((keptB_all bel2 rfl (below_drewN (Below.refl _ _) _)).mono hb.size)⟩
      case measure => simp [intOf]; omega
    · go_wp2
      go_ret
      exact ⟨rfl, hb⟩
theorem nf_sz_SdS_ (A : Option Addr) (n c : Nat) (xs : List (Int × Int)) (l : Int) (w : World) (hx : tSdS.R w w.heap.size [.slice A n c] xs) (hl : 0 ≤ l ∧ l ≤ 1000000000) :
    Calls Try.prog 57 #[.slice A n c, .int .i64 l] w fun e w' => e = .returned (.int .i64 (if (hSdS.sz xs : Int) ≤ l then l - hSdS.sz xs else -1)) ∧ Below w.heap.size w w' := by
  obtain ⟨h1, h2, h3⟩ := (sl_R.1 hx).cap
  have hn : n ≤ 9223372036854775807 := by unfold maxLen at h3; omega
  rw [hSdS_sz, h1]
  clear h1 h2 h3 hx
  by_cases h : (n : Int) ≤ l
  all_goals
    go_enter Try.func57, Try.ntmps57
    go_wp2
    go_ret
    exact ⟨rfl, Below.refl _ _⟩
end Go.Proofs.Ytacgcagpaecncaa
namespace Go.Proofs.Ytacgcagpaecncaa
open Go.RowKit
set_option maxHeartbeats 2000000
set_option maxRecDepth 100000
/-- A text. -/
def tStr : Ty ByteArray where
  s := 1
  pos := Nat.one_pos
  zero := ⟨#[]⟩
  R _ _ cs x := cs = [.string x] ∧ x.size ≤ maxLen
  O _ _ cs x := cs = [.string x] ∧ x.size ≤ maxLen
  rlen := by rintro w B cs x ⟨rfl, _⟩; rfl
  keep := fun _ h => h
  more := fun _ h => h
  read := fun h => h
  okeep := fun _ h => h
  owide := fun _ h => h
  ocells := by rintro w F cs x ⟨rfl, _⟩ u hu; simp only [List.mem_singleton] at hu; subst hu; rfl
  oreal := fun h => h
def M.digs (k : Nat) : List UInt8 := if k = 0 then [] else M.digs (k / 10) ++ [UInt8.ofNat (48 + k % 10)]
theorem M.digs_len (k : Nat) : (M.digs k).length ≤ k := by
  induction k using Nat.strongRecOn with
  | _ k ih =>
    rw [M.digs]
    split
    · simp
    · have := ih (k / 10) (by omega)
      simp only [List.length_append, List.length_singleton]
      omega
/-- The text that a mark writes. -/
def M.markT (k : Int) : ByteArray := if k ≤ 0 then ⟨#[109, 48]⟩ else ⟨(109 :: M.digs k.toNat).toArray⟩
theorem M.markT_size (k : Int) : (M.markT k).size ≤ k.toNat + 2 := by
  unfold M.markT
  split
  · show 2 ≤ _; omega
  · have := M.digs_len k.toNat
    show ((109 :: M.digs k.toNat).toArray).size ≤ _
    simp only [List.size_toArray, List.length_cons]
    omega
def hStr : Hs ByteArray := ⟨fun s => s.size, fun k _ => M.markT k, fun _ => 1⟩
abbrev Strip := ByteArray × Int × List (Int × Int)
abbrev tSt : Ty Strip := tStr.prod (tI.prod tSdS)
abbrev hSt : Hs Strip := hStr.prod (hI.prod hSdS)
abbrev tM : Ty (List Strip) := tSt.sl 78
abbrev hM : Hs (List Strip) := hSt.sl
section
variable {w : World} {B : Nat} {F : Nat → Prop} {cs : List Value} {s : ByteArray} {l : Int} {xs : List (Int × Int)}
theorem open_Sd {cs : List Value} (h : tSdS.R w B cs xs) : ∃ A n c, cs = [.slice A n c] := by
  obtain ⟨v, rfl, hr⟩ := h
  obtain ⟨A, c, rfl⟩ := hr.shape
  exact ⟨_, _, _, rfl⟩
theorem st_R : tSt.R w B cs (s, l, xs) ↔ ∃ A n c, cs = [.string s, .int .i64 l, .slice A n c] ∧ s.size ≤ maxLen ∧ tSdS.R w B [.slice A n c] xs := by
  constructor
  · rintro ⟨c1, c2, rfl, ⟨rfl, h1⟩, c3, c4, rfl, h2, h3⟩
    obtain rfl : c3 = [.int .i64 l] := h2
    obtain ⟨A, n, c, rfl⟩ := open_Sd h3
    exact ⟨A, n, c, rfl, h1, h3⟩
  · rintro ⟨A, n, c, rfl, h1, h3⟩
    exact ⟨[.string s], _, rfl, ⟨rfl, h1⟩, [.int .i64 l], _, rfl, rfl, h3⟩
theorem st_O : tSt.O w F cs (s, l, xs) ↔ ∃ A n c, cs = [.string s, .int .i64 l, .slice A n c] ∧ s.size ≤ maxLen ∧ tSdS.O w F [.slice A n c] xs := by
  constructor
  · rintro ⟨c1, c2, F1, F2, rfl, ⟨rfl, h1⟩, ⟨c3, c4, F3, F4, rfl, h2, h3, f3, f4, _⟩, f1, f2, _⟩
    obtain rfl : c3 = [.int .i64 l] := h2
    obtain ⟨A, n, c, rfl⟩ := open_Sd (tSdS.read h3)
    exact ⟨A, n, c, rfl, h1, tSdS.owide (fun b hb => f2 b (f4 b hb)) h3⟩
  · rintro ⟨A, n, c, rfl, h1, h3⟩
    exact ⟨[.string s], _, fun _ => False, F, rfl, ⟨rfl, h1⟩, ⟨[.int .i64 l], _, fun _ => False, F, rfl, rfl, h3, fun _ h => h.elim, fun _ h => h, fun _ h => h.elim⟩, fun _ h => h.elim, fun _ h => h, fun _ h => h.elim⟩
theorem hSt_sz (s : ByteArray) (l : Int) (xs : List (Int × Int)) : hSt.sz (s, l, xs) = s.size + xs.length := by
  show s.size + (0 + hSdS.sz xs) = _
  rw [hSdS_sz, Nat.zero_add]
theorem hSt_cnt (s : ByteArray) (l : Int) (xs : List (Int × Int)) : hSt.cnt (s, l, xs) = 2 + 2 * xs.length := by
  show 1 + (1 + hSdS.cnt xs) = _
  rw [hSdS_cnt]
  omega
end
theorem nf_sz_St (s : ByteArray) (l0 : Int) (A : Option Addr) (n c : Nat) (xs : List (Int × Int)) (l : Int) (w : World) (hs : s.size ≤ maxLen) (hx : tSdS.R w w.heap.size [.slice A n c] xs) (hl : 0 ≤ l ∧ l ≤ 1000000000) :
    Calls Try.prog 49 #[.agg #[.string s, .int .i64 l0, .slice A n c], .int .i64 l] w fun e w' => e = .returned (.int .i64 (if (hSt.sz (s, l0, xs) : Int) ≤ l then l - hSt.sz (s, l0, xs) else -1)) ∧ Below w.heap.size w w' := by
  have hb : Below w.heap.size w (w.alloc (.cells #[.string s, .int .i64 l0, .slice A n c] 97)) := (Below.refl _ _).alloc (Nat.le_refl _) _
  have hx2 := tSdS.later hx hb
  unfold maxLen at hs
  rw [hSt_sz]
  have hz := hSdS_sz xs
  by_cases h1 : (s.size : Int) ≤ l
  · by_cases h2 : (xs.length : Int) ≤ l - s.size
    · have hi := Lib.hid (show (if (hSdS.sz xs : Int) ≤ l - s.size then l - s.size - hSdS.sz xs else -1) = l - s.size - xs.length by rw [hz, if_pos h2])
      have hj := Lib.hid (show (if ((s.size + xs.length : Nat) : Int) ≤ l then l - ((s.size + xs.length : Nat) : Int) else -1) = l - s.size - xs.length by rw [if_pos (by omega)]; omega)
      rw [hj.out]
      clear hz
      go_enter Try.func49, Try.ntmps49
      go_wp2_with (go_at_call 57; refine (nf_sz_SdS_ _ _ _ _ _ _ hx2 (by omega)).mono ?_; rw [hi.out]; rintro e w2 ⟨rfl, bel2⟩)
      go_ret
      exact ⟨rfl, hb.trans (bel2.mono hb.size)⟩
    · have hi := Lib.hid (show (if (hSdS.sz xs : Int) ≤ l - s.size then l - s.size - hSdS.sz xs else -1) = -1 by rw [hz, if_neg h2])
      have hj := Lib.hid (show (if ((s.size + xs.length : Nat) : Int) ≤ l then l - ((s.size + xs.length : Nat) : Int) else -1) = -1 by rw [if_neg (by omega)])
      rw [hj.out]
      clear hz
      go_enter Try.func49, Try.ntmps49
      go_wp2_with (go_at_call 57; refine (nf_sz_SdS_ _ _ _ _ _ _ hx2 (by omega)).mono ?_; rw [hi.out]; rintro e w2 ⟨rfl, bel2⟩)
      go_ret
      exact ⟨rfl, hb.trans (bel2.mono hb.size)⟩
  · have hj := Lib.hid (show (if ((s.size + xs.length : Nat) : Int) ≤ l then l - ((s.size + xs.length : Nat) : Int) else -1) = -1 by rw [if_neg (by omega)])
    rw [hj.out]
    clear hz
    go_enter Try.func49, Try.ntmps49
    go_wp2
    go_ret
    exact ⟨rfl, hb⟩
theorem nf_sz_M_ (A : Option Addr) (n c : Nat) (xs : List Strip) (l : Int) (w : World) (hx : tM.R w w.heap.size [.slice A n c] xs) (hl : 0 ≤ l ∧ l ≤ 1000000000) :
    Calls Try.prog 35 #[.slice A n c, .int .i64 l] w fun e w' => e = .returned (.int .i64 (if (hM.sz xs : Int) ≤ l then l - hM.sz xs else -1)) ∧ Below w.heap.size w w' := by
  have hr := sl_R.1 hx
  obtain ⟨h1, h2, h3⟩ := hr.cap
  have hn : n ≤ 9223372036854775807 := by unfold maxLen at h3; omega
  obtain rfl : xs.length = n := h1
  have hzz : hM.sz xs = xs.length + hSt.szL xs := rfl
  have HZ := Lib.hid hzz
  clear h2 h3 hx hzz
  generalize hR : (if (hM.sz xs : Int) ≤ l then l - (hM.sz xs : Int) else -1) = R
  have HR := Lib.hid hR
  clear hR
  by_cases h : (xs.length : Int) ≤ l
  · go_enter Try.func35, Try.ntmps35
    go_wp2
    go_loopw [1, 5] (fun q i wr => ∃ k : Nat, i = .int .i64 k ∧ k ≤ xs.length ∧ (hSt.szL (xs.take k) : Int) ≤ l - xs.length ∧ q = .int .i64 (l - xs.length - hSt.szL (xs.take k)) ∧ Below w.heap.size w wr) (fun _ i _ => xs.length - (intOf i).toNat)
    case atStart => exact ⟨0, rfl, by omega, by simp [Hs.szL]; omega, by simp [Hs.szL], Below.refl _ _⟩
    case round =>
      obtain ⟨k, rfl, hk, hz, rfl, hb⟩ := hrel
      by_cases hlt : k < xs.length
      · have hX := Lib.hid (List.getElem?_eq_getElem hlt)
        obtain ⟨b, o, c1, cs, hv, hab, -, hE, hc⟩ := (hr.below hb).atX hX.out
        simp only [Value.slice.injEq] at hv
        obtain ⟨rfl, -, rfl⟩ := hv
        have hT := Lib.hid (hSt.szL_take hX.out)
        have hU := hSt.szL_at hX.out
        generalize xs[k] = x at hX hE hT hU
        obtain ⟨s, l0, ys⟩ := x
        obtain ⟨A1, n1, c1, rfl, hs, hE⟩ := st_R.1 hE
        have hc0 : wr.cell? ⟨b, o + k * 3, none⟩ = some (.string s) := hc 0 _ rfl
        have hc1 : wr.cell? ⟨b, o + k * 3 + 1, none⟩ = some (.int .i64 l0) := hc 1 _ rfl
        have hc2 : wr.cell? ⟨b, o + k * 3 + 2, none⟩ = some (.slice A1 n1 c1) := hc 2 _ rfl
        have hF := tSdS.more hb.size hE
        clear hc
        by_cases hle : (hSt.sz (s, l0, ys) : Int) ≤ l - xs.length - hSt.szL (xs.take k)
        · have hi := Lib.hid (show (if (hSt.sz (s, l0, ys) : Int) ≤ l - xs.length - hSt.szL (xs.take k) then l - xs.length - hSt.szL (xs.take k) - hSt.sz (s, l0, ys) else -1) = l - xs.length - hSt.szL (xs.take k) - hSt.sz (s, l0, ys) by rw [if_pos hle])
          go_wp2_with (go_at_call 49; refine (nf_sz_St _ _ _ _ _ _ _ _ hs hF (by omega)).mono ?_; rw [hi.out]; rintro e w2 ⟨rfl, bel2⟩)
          go_roundw
          case rel => exact ⟨k + 1, by go_num, by omega, by rw [hT.out]; omega, by rw [hT.out]; go_num, hb.trans (bel2.mono hb.size)⟩
          case measure => simp [intOf]; omega
        · have hi := Lib.hid (show (if (hSt.sz (s, l0, ys) : Int) ≤ l - xs.length - hSt.szL (xs.take k) then l - xs.length - hSt.szL (xs.take k) - hSt.sz (s, l0, ys) else -1) = -1 by rw [if_neg hle])
          have hj := Lib.hid (show (if (hM.sz xs : Int) ≤ l then l - hM.sz xs else -1) = -1 by rw [HZ.out, if_neg (by omega)])
          go_wp2_with (go_at_call 49; refine (nf_sz_St _ _ _ _ _ _ _ _ hs hF (by omega)).mono ?_; rw [hi.out]; rintro e w2 ⟨rfl, bel2⟩)
          go_ret
          exact ⟨ret_int (hj.out.symm.trans HR.out), hb.trans (bel2.mono hb.size)⟩
      · obtain rfl : xs.length = k := by omega
        rw [List.take_of_length_le (Nat.le_refl _)] at hz ⊢
        have hj := Lib.hid (show (if (hM.sz xs : Int) ≤ l then l - hM.sz xs else -1) = l - xs.length - hSt.szL xs by rw [HZ.out, if_pos (by omega)]; omega)
        go_wp2
        go_ret
        exact ⟨ret_int (hj.out.symm.trans HR.out), hb⟩
  · have hj := Lib.hid (show (if (hM.sz xs : Int) ≤ l then l - hM.sz xs else -1) = -1 by rw [HZ.out, if_neg (by omega)])
    go_enter Try.func35, Try.ntmps35
    go_wp2
    go_ret
    exact ⟨ret_int (hj.out.symm.trans HR.out), Below.refl _ _⟩
end Go.Proofs.Ytacgcagpaecncaa
namespace Go.Proofs.Ytacgcagpaecncaa
open Go.RowKit
theorem Ty.oset {α : Type} (t : Ty α) {w : World} {lo hi g o : Nat} {cs : List Value} {x : α} {u : Value} (h : t.O w (Iv lo hi) cs x) (hg : g < lo ∨ hi ≤ g) : t.O (w.setCell ⟨g, o, none⟩ u) (Iv lo hi) cs x :=
  t.okeep (fun b ⟨h1, h2⟩ => heap_setCell_other w ⟨g, o, none⟩ b u (fun e => by simp only at e; omega)) h
end Go.Proofs.Ytacgcagpaecncaa
namespace Go.Proofs.Ytacgcagpaecncaa
open Go.RowKit
set_option maxHeartbeats 2000000
set_option maxRecDepth 100000
theorem ei_st : EI Try.prog 35 78 (.agg #[.string ⟨#[]⟩, .int .i64 0, .slice none 0 0]) 3 48 := ⟨Try.underlying35, by kernel_rfl, rfl, by decide⟩
theorem st_zero (w : World) (F : Nat → Prop) : tSt.O w F [.string ⟨#[]⟩, .int .i64 0, .slice none 0 0] (⟨#[]⟩, 0, []) := st_O.2 ⟨none, 0, 0, rfl, Nat.zero_le _, _, rfl, OS.nil _ _ _ _⟩
theorem nf_to_St (s : ByteArray) (l0 : Int) (A : Option Addr) (n c : Nat) (xs : List (Int × Int)) (w : World) (hx : tSdS.R w w.heap.size [.slice A n c] xs) (hn : hSdS.sz xs ≤ 100000000) :
    Calls Try.prog 52 #[.agg #[.string s, .int .i64 l0, .slice A n c]] w fun e w' => ∃ A' n' c', e = .returned (.agg #[.string s, .int .i64 l0, .slice A' n' c']) ∧ tSdS.O w' (Iv w.heap.size w'.heap.size) [.slice A' n' c'] xs ∧ Below w.heap.size w w' := by
  have hb : Below w.heap.size w (((w.alloc (.cells #[.string s, .int .i64 l0, .slice A n c] 97)).alloc (.cells #[.string ⟨#[]⟩, .int .i64 0, .slice none 0 0] 78)).alloc (.cells #[.string s, .int .i64 l0, .slice none 0 0] 78)) := (((Below.refl _ _).alloc (Nat.le_refl _) _).alloc (by simp) _).alloc (by simp; omega) _
  have hx2 := tSdS.later hx hb
  go_enter Try.func52, Try.ntmps52
  go_wp2_with (go_at_call 60; refine (nf_to_SdS_ _ _ _ _ _ hx2 hn).mono ?_; rintro e w2 ⟨A2, n2, c2, rfl, own2, bel2⟩; have q10 : w2.cell? ⟨w.heap.size + 1, 0, none⟩ = some (.string ⟨#[]⟩) := (by rw [bel2.cell (by first | omega | (simp; done) | (simp; omega))]; simp [go_sem]); have r10 : w2.frozen? ⟨w.heap.size + 1, 0, none⟩ = false := (by rw [bel2.frozen (by first | omega | (simp; done) | (simp; omega))]; simp [go_sem]); have q20 : w2.cell? ⟨w.heap.size + 1 + 1, 0, none⟩ = some (.string s) := (by rw [bel2.cell (by first | omega | (simp; done) | (simp; omega))]; simp [go_sem]); have r20 : w2.frozen? ⟨w.heap.size + 1 + 1, 0, none⟩ = false := (by rw [bel2.frozen (by first | omega | (simp; done) | (simp; omega))]; simp [go_sem]); have q11 : w2.cell? ⟨w.heap.size + 1, 1, none⟩ = some (.int .i64 0) := (by rw [bel2.cell (by first | omega | (simp; done) | (simp; omega))]; simp [go_sem]); have r11 : w2.frozen? ⟨w.heap.size + 1, 1, none⟩ = false := (by rw [bel2.frozen (by first | omega | (simp; done) | (simp; omega))]; simp [go_sem]); have q21 : w2.cell? ⟨w.heap.size + 1 + 1, 1, none⟩ = some (.int .i64 l0) := (by rw [bel2.cell (by first | omega | (simp; done) | (simp; omega))]; simp [go_sem]); have r21 : w2.frozen? ⟨w.heap.size + 1 + 1, 1, none⟩ = false := (by rw [bel2.frozen (by first | omega | (simp; done) | (simp; omega))]; simp [go_sem]); have q12 : w2.cell? ⟨w.heap.size + 1, 2, none⟩ = some (.slice none 0 0) := (by rw [bel2.cell (by first | omega | (simp; done) | (simp; omega))]; simp [go_sem]); have r12 : w2.frozen? ⟨w.heap.size + 1, 2, none⟩ = false := (by rw [bel2.frozen (by first | omega | (simp; done) | (simp; omega))]; simp [go_sem]); have q22 : w2.cell? ⟨w.heap.size + 1 + 1, 2, none⟩ = some (.slice none 0 0) := (by rw [bel2.cell (by first | omega | (simp; done) | (simp; omega))]; simp [go_sem]); have r22 : w2.frozen? ⟨w.heap.size + 1 + 1, 2, none⟩ = false := (by rw [bel2.frozen (by first | omega | (simp; done) | (simp; omega))]; simp [go_sem]); have hs2 : w.heap.size + 1 + 1 + 1 ≤ w2.heap.size := (by have := bel2.size; simpa using this))
  have m1 : Mid (w.heap.size + 1) (w.heap.size + 1 + 1 + 1) w2 ((((w2.setCell ⟨w.heap.size + 1 + 1, 2, none⟩ (Value.slice A2 n2 c2)).setCell ⟨w.heap.size + 1, 0, none⟩ (.string s)).setCell ⟨w.heap.size + 1, 1, none⟩ (.int .i64 l0)).setCell ⟨w.heap.size + 1, 2, none⟩ (Value.slice A2 n2 c2)) :=
    (((Mid.of_grown (grown_setCell w2 (w.heap.size + 1 + 1) 2 _) fun k hk => by injection hk with hk; omega).trans (Mid.of_grown (grown_setCell _ (w.heap.size + 1) 0 _) fun k hk => by injection hk with hk; omega)).trans (Mid.of_grown (grown_setCell _ (w.heap.size + 1) 1 _) fun k hk => by injection hk with hk; omega)).trans (Mid.of_grown (grown_setCell _ (w.heap.size + 1) 2 _) fun k hk => by injection hk with hk; omega)
  refine bodyPost_ret (v := .agg #[.string s, .int .i64 l0, .slice A2 n2 c2]) (by simp [results, Try.results52, go_sem, q10, r10, q20, r20, q11, r11, q21, r21, q12, r12, q22, r22]) rfl ?_
  refine ⟨_, _, _, rfl, ?_, ?_⟩
  · exact tSdS.oiv (tSdS.omid own2 m1 (.inr (by simp)) (Nat.le_refl _)) (by simp; omega) m1.size
  · exact (hb.trans (bel2.mono hb.size)).trans ((m1.toBelow (by omega)).mono (by omega))
theorem nf_to_M_ (A : Option Addr) (n c : Nat) (xs : List Strip) (w : World) (hx : tM.R w w.heap.size [.slice A n c] xs) (hn : hM.sz xs ≤ 100000000) :
    Calls Try.prog 40 #[.slice A n c] w fun e w' => ∃ A' n' c', e = .returned (.slice A' n' c') ∧ tM.O w' (Iv w.heap.size w'.heap.size) [.slice A' n' c'] xs ∧ Below w.heap.size w w' := by
  have hr := sl_R.1 hx
  obtain rfl : xs.length = n := hr.cap.1
  have hn1 : xs.length + hSt.szL xs ≤ 100000000 := hn
  clear hx hn
  go_enter Try.func40, Try.ntmps40
  go_wp2_with (at_make; refine wpList_mk ei_st rfl _ _ rfl xs.length _ _ rfl rfl rfl rfl (by omega) (by unfold maxLen; omega) ?_; intro w1 own1 bel1)
  have hs1 : w.heap.size + 1 ≤ w1.heap.size := (World.ownsRow.lt own1 _ rfl).2
  have own2 : OS tSt 78 w1 (Iv w.heap.size w1.heap.size) (.slice (some ⟨w.heap.size, 0, none⟩) xs.length xs.length) (List.replicate xs.length (⟨#[]⟩, 0, [])) :=
    OS.made (t := tSt) (zc := [.string ⟨#[]⟩, .int .i64 0, .slice none 0 0]) st_zero rfl ⟨Nat.le_refl _, by omega⟩ own1
  clear own1
  go_loopw [4] (fun i wr => ∃ k : Nat, i = .int .i64 k ∧ k ≤ xs.length ∧ OS tSt 78 wr (Iv w.heap.size wr.heap.size) (.slice (some ⟨w.heap.size, 0, none⟩) xs.length xs.length) (xs.take k ++ (List.replicate xs.length (⟨#[]⟩, 0, [])).drop k) ∧ w.heap.size + 1 ≤ wr.heap.size ∧ Below w.heap.size w wr)
    (fun i _ => xs.length - (intOf i).toNat)
  case atStart => exact ⟨0, rfl, by omega, by simpa using own2, hs1, bel1⟩
  case round =>
    obtain ⟨k, rfl, hk, own, hsz, hb⟩ := hrel
    by_cases hlt : k < xs.length
    · have hX := Lib.hid (List.getElem?_eq_getElem hlt)
      obtain ⟨b, o, c1, cs, hv, hab, -, hE, hc⟩ := (hr.below hb).atX hX.out
      simp only [Value.slice.injEq] at hv
      obtain ⟨rfl, -, rfl⟩ := hv
      have hU := hSt.szL_at hX.out
      generalize xs[k] = x at hX hE hU
      obtain ⟨s, l0, ys⟩ := x
      rw [hSt_sz] at hU
      obtain ⟨A1, n1, c1, rfl, hs, hE⟩ := st_R.1 hE
      have hc0 : wr.cell? ⟨b, o + k * 3, none⟩ = some (.string s) := hc 0 _ rfl
      have hc1 : wr.cell? ⟨b, o + k * 3 + 1, none⟩ = some (.int .i64 l0) := hc 1 _ rfl
      have hc2 : wr.cell? ⟨b, o + k * 3 + 2, none⟩ = some (.slice A1 n1 c1) := hc 2 _ rfl
      have hF := tSdS.more hb.size hE
      have hz := hSdS_sz ys
      have hz2 : hSdS.sz ys ≤ 100000000 := by omega
      clear hc hz
      have hD := Lib.hid (show (xs.take k ++ (List.replicate xs.length ((⟨#[]⟩, 0, []) : Strip)).drop k)[k]? = some (⟨#[]⟩, 0, []) by rw [M.mid_at (by rw [List.length_replicate])]; simp [hlt])
      go_wp2_with (go_at_call 52; refine (nf_to_St _ _ _ _ _ _ _ hF hz2).mono ?_; rintro e w2 ⟨A2, n2, c2, rfl, o2, bel2⟩; have own' := own.below bel2 (Nat.le_refl _); obtain ⟨css, Fs, hole, cs, hcs, hE⟩ := own'.openAt hD.out; obtain ⟨A0, n0, c0, rfl, -, -⟩ := st_O.1 hE; have q0 := (hole.cell hcs (j := 0) rfl).1; have r0 := (hole.cell hcs (j := 0) rfl).2; have q1 := (hole.cell hcs (j := 1) rfl).1; have r1 := (hole.cell hcs (j := 1) rfl).2; have q2 := (hole.cell hcs (j := 2) rfl).1; have r2 := (hole.cell hcs (j := 2) rfl).2; have z2 := bel2.size; change w2.cell? ⟨w.heap.size, k * 3 + 0, none⟩ = _ at q0; change w2.frozen? ⟨w.heap.size, k * 3 + 0, none⟩ = _ at r0; change w2.cell? ⟨w.heap.size, k * 3 + 1, none⟩ = _ at q1; change w2.frozen? ⟨w.heap.size, k * 3 + 1, none⟩ = _ at r1; change w2.cell? ⟨w.heap.size, k * 3 + 2, none⟩ = _ at q2; change w2.frozen? ⟨w.heap.size, k * 3 + 2, none⟩ = _ at r2; rw [Nat.add_zero] at q0 r0)
      go_roundw
      case rel =>
        have s0 := hole.set hcs 0 (by decide) (.string s)
        have s1 := s0.1.set s0.2 1 (by decide) (.int .i64 l0)
        have s2 := s1.1.set s1.2 2 (by decide) (.slice A2 n2 c2)
        have o3 := tSdS.oset (g := w.heap.size) (o := k * 3 + 2) (u := .slice A2 n2 c2) (tSdS.oset (g := w.heap.size) (o := k * 3 + 1) (u := .int .i64 l0) (tSdS.oset (g := w.heap.size) (o := k * 3 + 0) (u := .string s) o2 (.inl (by omega))) (.inl (by omega))) (.inl (by omega))
        have h3 := s2.1.fill' s2.2 (y := (s, l0, ys)) (Fe := Iv wr.heap.size w2.heap.size) (st_O.2 ⟨A2, n2, c2, rfl, hs, o3⟩) (fun b h1 h2 => by have := h1.1; have := h2.2; omega)
        rw [M.set_mid (by rw [List.length_replicate]) hX.out] at h3
        have hb2 := hb.trans (bel2.mono hb.size)
        exact ⟨k + 1, by go_num, by omega, h3.wide (fun b hb => ⟨by unfold Iv at hb; omega, by simp; unfold Iv at hb; omega⟩), by simp; omega, ((hb2.setCell (Nat.le_refl _) _).setCell (Nat.le_refl _) _).setCell (Nat.le_refl _) _⟩
      case measure => simp [intOf]; omega
    · go_wp2
      go_ret
      rw [List.take_of_length_le (by omega), List.drop_eq_nil_of_le (by simp; omega), List.append_nil] at own
      exact ⟨_, _, _, rfl, sl_O.2 own, hb⟩
theorem nf_eq_St (s : ByteArray) (l0 : Int) (A A' : Option Addr) (n c n' c' : Nat) (xs : List (Int × Int)) (w : World) (hx : tSdS.R w w.heap.size [.slice A n c] xs) (hy : tSdS.R w w.heap.size [.slice A' n' c'] xs) (hn : hSdS.sz xs ≤ 100000000) :
    Calls Try.prog 55 #[.agg #[.string s, .int .i64 l0, .slice A n c], .agg #[.string s, .int .i64 l0, .slice A' n' c']] w fun e w' => e = .returned (.bool true) ∧ Below w.heap.size w w' := by
  have hb : Below w.heap.size w ((w.alloc (.cells #[.string s, .int .i64 l0, .slice A n c] 78)).alloc (.cells #[.string s, .int .i64 l0, .slice A' n' c'] 78)) := ((Below.refl _ _).alloc (Nat.le_refl _) _).alloc (by simp) _
  have hx2 := tSdS.later hx hb
  have hy2 := tSdS.later hy hb
  go_enter Try.func55, Try.ntmps55
  go_wp2_with (go_at_call 63; refine (nf_eq_SdS_ _ _ _ _ _ _ _ _ hx2 hy2 hn).mono ?_; rintro e w2 ⟨rfl, bel2⟩)
  go_ret
  exact ⟨rfl, hb.trans (bel2.mono hb.size)⟩
theorem nf_eq_M_ (A A' : Option Addr) (n c n' c' : Nat) (xs : List Strip) (w : World) (hx : tM.R w w.heap.size [.slice A n c] xs) (hy : tM.R w w.heap.size [.slice A' n' c'] xs) (hn : hM.sz xs ≤ 100000000) :
    Calls Try.prog 46 #[.slice A n c, .slice A' n' c'] w fun e w' => e = .returned (.bool true) ∧ Below w.heap.size w w' := by
  have hr := sl_R.1 hx
  have hr' := sl_R.1 hy
  obtain rfl : xs.length = n := hr.cap.1
  obtain rfl : xs.length = n' := hr'.cap.1
  have hn1 : xs.length + hSt.szL xs ≤ 100000000 := hn
  clear hx hy hn
  go_enter Try.func46, Try.ntmps46
  go_wp2
  go_loopw [5] (fun i wr => ∃ k : Nat, i = .int .i64 k ∧ k ≤ xs.length ∧ Below w.heap.size w wr) (fun i _ => xs.length - (intOf i).toNat)
  case atStart => exact ⟨0, rfl, by omega, Below.refl _ _⟩
  case round =>
    obtain ⟨k, rfl, hk, hb⟩ := hrel
    by_cases hlt : k < xs.length
    · have hX := Lib.hid (List.getElem?_eq_getElem hlt)
      obtain ⟨b, o, c1, cs, hv, hab, -, hE, hc⟩ := (hr.below hb).atX hX.out
      obtain ⟨b', o', c1', cs', hv', hab', -, hE', hc'⟩ := (hr'.below hb).atX hX.out
      simp only [Value.slice.injEq] at hv hv'
      obtain ⟨rfl, -, rfl⟩ := hv
      obtain ⟨rfl, -, rfl⟩ := hv'
      have hU := hSt.szL_at hX.out
      generalize xs[k] = x at hX hE hE' hU
      obtain ⟨s, l0, ys⟩ := x
      rw [hSt_sz] at hU
      obtain ⟨A1, n1, c1, rfl, hs, hE⟩ := st_R.1 hE
      obtain ⟨A2, n2, c2, rfl, -, hE'⟩ := st_R.1 hE'
      have hc0 : wr.cell? ⟨b, o + k * 3, none⟩ = some (.string s) := hc 0 _ rfl
      have hc1 : wr.cell? ⟨b, o + k * 3 + 1, none⟩ = some (.int .i64 l0) := hc 1 _ rfl
      have hc2 : wr.cell? ⟨b, o + k * 3 + 2, none⟩ = some (.slice A1 n1 c1) := hc 2 _ rfl
      have hd0 : wr.cell? ⟨b', o' + k * 3, none⟩ = some (.string s) := hc' 0 _ rfl
      have hd1 : wr.cell? ⟨b', o' + k * 3 + 1, none⟩ = some (.int .i64 l0) := hc' 1 _ rfl
      have hd2 : wr.cell? ⟨b', o' + k * 3 + 2, none⟩ = some (.slice A2 n2 c2) := hc' 2 _ rfl
      have hbr : b < wr.heap.size := Nat.lt_of_lt_of_le hab hb.size
      have hbr' : b' < wr.heap.size := Nat.lt_of_lt_of_le hab' hb.size
      have hz := hSdS_sz ys
      have hz2 : hSdS.sz ys ≤ 100000000 := by omega
      have hF := tSdS.later (tSdS.more hb.size hE) (below_drewN (Below.refl _ _) 1)
      have hF' := tSdS.later (tSdS.more hb.size hE') (below_drewN (Below.refl _ _) 1)
      clear hc hc' hE hE' hz
      go_wp2
      go_region_held3 (fun w' => Below wr.heap.size wr w' ∧ w'.cell? ⟨b, o + k * 3, none⟩ = some (.string s) ∧ w'.cell? ⟨b, o + k * 3 + 1, none⟩ = some (.int .i64 l0) ∧ w'.cell? ⟨b, o + k * 3 + 2, none⟩ = some (.slice A1 n1 c1) ∧ w'.cell? ⟨b', o' + k * 3, none⟩ = some (.string s) ∧ w'.cell? ⟨b', o' + k * 3 + 1, none⟩ = some (.int .i64 l0) ∧ w'.cell? ⟨b', o' + k * 3 + 2, none⟩ = some (.slice A2 n2 c2))
        (first
          | exact ⟨below_drewN (Below.refl _ _) _, hc0, hc1, hc2, hd0, hd1, hd2⟩
          | exact ⟨keptB_all bel2 rfl (And.left (by assumption)), keptB bel2 rfl (And.left (by assumption)) hc0 hbr, keptB bel2 rfl (And.left (by assumption)) hc1 hbr, keptB bel2 rfl (And.left (by assumption)) hc2 hbr, keptB bel2 rfl (And.left (by assumption)) hd0 hbr', keptB bel2 rfl (And.left (by assumption)) hd1 hbr', keptB bel2 rfl (And.left (by assumption)) hd2 hbr'⟩)
        (first | (go_at_call 55; refine (nf_eq_St _ _ _ _ _ _ _ _ _ _ hF hF' hz2).mono ?_; rintro e w2 ⟨rfl, bel2⟩))
      go_wp2
      go_roundw
      case rel => exact ⟨k + 1, by go_num, by omega, hb.trans ((keptB_all bel2 rfl (below_drewN (Below.refl _ _) _)).mono hb.size)⟩
      case measure => simp [intOf]; omega
    · go_wp2
      go_ret
      exact ⟨rfl, hb⟩
end Go.Proofs.Ytacgcagpaecncaa
namespace Go.Proofs.Ytacgcagpaecncaa
open Go.RowKit
set_option maxHeartbeats 2000000
set_option maxRecDepth 100000
theorem nf_sz_M (A : Option Addr) (n c : Nat) (xs : List Strip) (l : Int) (w : World) (hx : tM.R w w.heap.size [.slice A n c] xs) (hl : 0 ≤ l ∧ l ≤ 1000000000) :
    Calls Try.prog 13 #[.agg #[.slice A n c], .int .i64 l] w fun e w' => e = .returned (.int .i64 (if (hM.sz xs : Int) ≤ l then l - hM.sz xs else -1)) ∧ Below w.heap.size w w' := by
  have hb : Below w.heap.size w (w.alloc (.cells #[.slice A n c] 28)) := (Below.refl _ _).alloc (Nat.le_refl _) _
  have hx2 := tM.later hx hb
  by_cases h : (hM.sz xs : Int) ≤ l
  · have hi := Lib.hid (show (if (hM.sz xs : Int) ≤ l then l - hM.sz xs else -1) = l - hM.sz xs by rw [if_pos h])
    go_enter Try.func13, Try.ntmps13
    go_wp2_with (go_at_call 35; refine (nf_sz_M_ _ _ _ _ _ _ hx2 hl).mono ?_; rw [hi.out]; rintro e w2 ⟨rfl, bel2⟩)
    go_ret
    exact ⟨hi.out ▸ rfl, hb.trans (bel2.mono hb.size)⟩
  · have hi := Lib.hid (show (if (hM.sz xs : Int) ≤ l then l - hM.sz xs else -1) = -1 by rw [if_neg h])
    go_enter Try.func13, Try.ntmps13
    go_wp2_with (go_at_call 35; refine (nf_sz_M_ _ _ _ _ _ _ hx2 hl).mono ?_; rw [hi.out]; rintro e w2 ⟨rfl, bel2⟩)
    go_ret
    exact ⟨hi.out ▸ rfl, hb.trans (bel2.mono hb.size)⟩
theorem nf_to_M (A : Option Addr) (n c : Nat) (xs : List Strip) (w : World) (hx : tM.R w w.heap.size [.slice A n c] xs) (hn : hM.sz xs ≤ 100000000) :
    Calls Try.prog 22 #[.agg #[.slice A n c]] w fun e w' => ∃ A' n' c', e = .returned (.agg #[.slice A' n' c']) ∧ tM.O w' (Iv w.heap.size w'.heap.size) [.slice A' n' c'] xs ∧ Below w.heap.size w w' := by
  have hb : Below w.heap.size w (((w.alloc (.cells #[.slice A n c] 28)).alloc (.cells #[.slice none 0 0] 37)).alloc (.cells #[.slice none 0 0] 37)) := (((Below.refl _ _).alloc (Nat.le_refl _) _).alloc (by simp) _).alloc (by simp; omega) _
  have hx2 := tM.later hx hb
  go_enter Try.func22, Try.ntmps22
  go_wp2_with (go_at_call 40; refine (nf_to_M_ _ _ _ _ _ hx2 hn).mono ?_; rintro e w2 ⟨A2, n2, c2, rfl, own2, bel2⟩; have q1 : w2.cell? ⟨w.heap.size + 1, 0, none⟩ = some (.slice none 0 0) := (by rw [bel2.cell (by first | omega | (simp; done) | (simp; omega))]; simp [go_sem]); have r1 : w2.frozen? ⟨w.heap.size + 1, 0, none⟩ = false := (by rw [bel2.frozen (by first | omega | (simp; done) | (simp; omega))]; simp [go_sem]); have q2 : w2.cell? ⟨w.heap.size + 1 + 1, 0, none⟩ = some (.slice none 0 0) := (by rw [bel2.cell (by simp)]; simp [go_sem]); have r2 : w2.frozen? ⟨w.heap.size + 1 + 1, 0, none⟩ = false := (by rw [bel2.frozen (by simp)]; simp [go_sem]); have hs : w.heap.size + 1 + 1 + 1 ≤ w2.heap.size := (by have := bel2.size; simpa using this))
  have m1 : Mid (w.heap.size + 1) (w.heap.size + 1 + 1 + 1) w2 ((w2.setCell ⟨w.heap.size + 1 + 1, 0, none⟩ (Value.slice A2 n2 c2)).setCell ⟨w.heap.size + 1, 0, none⟩ (Value.slice A2 n2 c2)) :=
    (Mid.of_grown (grown_setCell w2 (w.heap.size + 1 + 1) 0 _) fun k hk => by injection hk with hk; omega).trans (Mid.of_grown (grown_setCell _ (w.heap.size + 1) 0 _) fun k hk => by injection hk with hk; omega)
  refine bodyPost_ret (v := .agg #[.slice A2 n2 c2]) (by simp [results, Try.results22, go_sem, q1, r1, q2, r2]) rfl ?_
  refine ⟨_, _, _, rfl, ?_, ?_⟩
  · exact tM.oiv (tM.omid own2 m1 (.inr (by simp)) (Nat.le_refl _)) (by simp; omega) m1.size
  · exact (hb.trans (bel2.mono hb.size)).trans ((m1.toBelow (by omega)).mono (by omega))
theorem nf_eq_M (A A' : Option Addr) (n c n' c' : Nat) (xs : List Strip) (w : World) (hx : tM.R w w.heap.size [.slice A n c] xs) (hy : tM.R w w.heap.size [.slice A' n' c'] xs) (hn : hM.sz xs ≤ 100000000) :
    Calls Try.prog 32 #[.agg #[.slice A n c], .agg #[.slice A' n' c']] w fun e w' => e = .returned (.bool true) ∧ Below w.heap.size w w' := by
  have hb : Below w.heap.size w ((w.alloc (.cells #[.slice A n c] 37)).alloc (.cells #[.slice A' n' c'] 37)) := ((Below.refl _ _).alloc (Nat.le_refl _) _).alloc (by simp) _
  have hx2 := tM.later hx hb
  have hy2 := tM.later hy hb
  go_enter Try.func32, Try.ntmps32
  go_wp2_with (go_at_call 46; refine (nf_eq_M_ _ _ _ _ _ _ _ _ hx2 hy2 hn).mono ?_; rintro e w2 ⟨rfl, bel2⟩)
  go_ret
  exact ⟨rfl, hb.trans (bel2.mono hb.size)⟩
theorem cl_M (x : List Strip) : hM.cnt x ≤ 10 * hM.sz x + 10 := by
  have key : hSt.cntL x ≤ 2 * (x.length + hSt.szL x) := by
    induction x with
    | nil => simp [Hs.cntL]
    | cons y ys ih =>
      obtain ⟨s, l, zs⟩ := y
      rw [Hs.cntL, Hs.szL, hSt_cnt, hSt_sz, List.length_cons]
      omega
  show hSt.cntL x ≤ 10 * (x.length + hSt.szL x) + 10
  omega
theorem M.digs_step {j : Nat} (h : 0 < j) : M.digs j = M.digs (j / 10) ++ [UInt8.ofNat (48 + j % 10)] := by rw [M.digs, if_neg (by omega)]
theorem bytes_app (a b : ByteArray) : (a ++ b).data.toList = a.data.toList ++ b.data.toList := by simp
theorem M.digs_next {j : Nat} {s : ByteArray} {D : List UInt8} (h : 0 < j) (H : M.digs j ++ s.data.toList = D) : M.digs (j / 10) ++ ((⟨#[48 + UInt8.ofNat (j % 10)]⟩ : ByteArray) ++ s).data.toList = D := by
  rw [M.digs_step h, List.append_assoc] at H
  rw [bytes_app, ← H, UInt8.ofNat_add]
  rfl
theorem M.mark_end {k : Nat} {s : ByteArray} (H : M.digs 0 ++ s.data.toList = M.digs k) : (⟨#[109]⟩ ++ s : ByteArray) = ⟨(109 :: M.digs k).toArray⟩ := by
  rw [← H]
  apply ByteArray.ext
  apply Array.toList_inj.1
  rw [bytes_app, show M.digs 0 = [] by rw [M.digs]; rfl]
  rfl
end Go.Proofs.Ytacgcagpaecncaa
namespace Go.Proofs.Ytacgcagpaecncaa
open Go.RowKit
set_option maxHeartbeats 1000000
set_option maxRecDepth 100000
theorem ei_cl : EI Try.prog 50 80 (.agg #[.int .i64 0, .int .i64 0, .int .i64 0, .int .i64 0, .int .i64 0]) 5 40 := ⟨Try.underlying50, by kernel_rfl, rfl, by decide⟩
def cl (p : (Int × Int × Int × Int × Int)) : List Value := [.int .i64 p.1, .int .i64 p.2.1, .int .i64 p.2.2.1, .int .i64 p.2.2.2.1, .int .i64 p.2.2.2.2]
theorem cl_len (p : (Int × Int × Int × Int × Int)) : (cl p).length = 5 := rfl
abbrev tCl : Ty (Int × Int × Int × Int × Int) := Ty.flat 5 (by decide) (0, 0, 0, 0, 0) cl cl_len (by simp [cl, Value.oneCell'])
abbrev hCl : Hs (Int × Int × Int × Int × Int) := hI.prod (hI.prod (hI.prod (hI.prod hI)))
abbrev tT : Ty (List (Int × Int × Int × Int × Int)) := tCl.sl 80
abbrev hT : Hs (List (Int × Int × Int × Int × Int)) := hCl.sl
theorem hCl_szL (xs : List (Int × Int × Int × Int × Int)) : hCl.szL xs = 0 := by
  induction xs with
  | nil => rfl
  | cons x xs ih => rw [Hs.szL, ih]; rfl
theorem hCl_cntL (xs : List (Int × Int × Int × Int × Int)) : hCl.cntL xs = 5 * xs.length := by
  induction xs with
  | nil => rfl
  | cons x xs ih =>
    rw [Hs.cntL, ih, List.length_cons]
    show (1 + (1 + (1 + (1 + 1)))) + _ = _
    omega
theorem hT_sz (xs : List (Int × Int × Int × Int × Int)) : hT.sz xs = xs.length := by show xs.length + hCl.szL xs = _; rw [hCl_szL]; rfl
theorem hT_cnt (xs : List (Int × Int × Int × Int × Int)) : hT.cnt xs = 5 * xs.length := hCl_cntL xs
theorem cl_T (x : List (Int × Int × Int × Int × Int)) : hT.cnt x ≤ 10 * hT.sz x + 10 := by rw [hT_sz, hT_cnt]; omega
theorem mark_cl (k : Int) (x : (Int × Int × Int × Int × Int)) : hCl.mark k x = (k, k + 1, k + 2, k + 3, k + 4) := by
  simp [Hs.prod, hI]
  try omega
theorem laws_toClip (p0 p1 p2 p3 p4 : Int) (w : World) :
    Calls Try.prog 58 #[.agg #[.int .i64 p0, .int .i64 p1, .int .i64 p2, .int .i64 p3, .int .i64 p4]] w fun e w' => e = .returned (.agg #[.int .i64 p0, .int .i64 p1, .int .i64 p2, .int .i64 p3, .int .i64 p4]) ∧ Below w.heap.size w w' := by
  go_enter Try.func58, Try.ntmps58
  go_wp2
  exact bodyPost_ret (v := .agg #[.int .i64 p0, .int .i64 p1, .int .i64 p2, .int .i64 p3, .int .i64 p4]) (by simp [results, Try.results58, go_sem]) rfl ⟨rfl, (((Below.refl _ _).alloc (Nat.le_refl _) _).alloc (by simp) _).alloc (by simp; omega) _⟩
theorem nf_eq_Clip (p0 p1 p2 p3 p4 : Int) (w : World) :
    Calls Try.prog 61 #[.agg #[.int .i64 p0, .int .i64 p1, .int .i64 p2, .int .i64 p3, .int .i64 p4], .agg #[.int .i64 p0, .int .i64 p1, .int .i64 p2, .int .i64 p3, .int .i64 p4]] w fun e w' => e = .returned (.bool true) ∧ Below w.heap.size w w' := by
  go_enter Try.func61, Try.ntmps61
  go_wp2
  go_ret
  exact ⟨rfl, ((Below.refl _ _).alloc (Nat.le_refl _) _).alloc (by simp) _⟩
theorem nf_to_T_ (A : Option Addr) (n c : Nat) (xs : List (Int × Int × Int × Int × Int)) (w : World) (hx : tT.R w w.heap.size [.slice A n c] xs) (hn : hT.sz xs ≤ 100000000) :
    Calls Try.prog 50 #[.slice A n c] w fun e w' => ∃ A' n' c', e = .returned (.slice A' n' c') ∧ tT.O w' (Iv w.heap.size w'.heap.size) [.slice A' n' c'] xs ∧ Below w.heap.size w w' := by
  have hr := sl_R.1 hx
  obtain rfl : xs.length = n := hr.cap.1
  rw [hT_sz] at hn
  clear hx
  go_enter Try.func50, Try.ntmps50
  go_wp2_with (at_make; refine wpList_mk ei_cl rfl _ _ rfl xs.length _ _ rfl rfl rfl rfl (by omega) (by unfold maxLen; omega) ?_; intro w1 own1 bel1)
  have hs1 : w.heap.size + 1 ≤ w1.heap.size := (World.ownsRow.lt own1 _ rfl).2
  have own2 : OS tCl 80 w1 (Iv w.heap.size (w.heap.size + 1)) (.slice (some ⟨w.heap.size, 0, none⟩) xs.length xs.length) (List.replicate xs.length (0, 0, 0, 0, 0)) :=
    OS.made (zc := [.int .i64 0, .int .i64 0, .int .i64 0, .int .i64 0, .int .i64 0]) (fun _ _ => rfl) rfl ⟨Nat.le_refl _, by omega⟩ own1
  clear own1
  go_loopw [4] (fun i wr => ∃ k : Nat, i = .int .i64 k ∧ k ≤ xs.length ∧ OS tCl 80 wr (Iv w.heap.size (w.heap.size + 1)) (.slice (some ⟨w.heap.size, 0, none⟩) xs.length xs.length) (xs.take k ++ (List.replicate xs.length (0, 0, 0, 0, 0)).drop k) ∧ w.heap.size + 1 ≤ wr.heap.size ∧ Below w.heap.size w wr)
    (fun i _ => xs.length - (intOf i).toNat)
  case atStart => exact ⟨0, rfl, by omega, by simpa using own2, hs1, bel1⟩
  case round =>
    obtain ⟨k, rfl, hk, own, hsz, hb⟩ := hrel
    by_cases hlt : k < xs.length
    · have hX := Lib.hid (List.getElem?_eq_getElem hlt)
      obtain ⟨b, o, c1, cs, hv, hab, -, hE, hc⟩ := (hr.below hb).atX hX.out
      simp only [Value.slice.injEq] at hv
      obtain ⟨rfl, -, rfl⟩ := hv
      generalize xs[k] = x at hX hE
      obtain ⟨p0, p1, p2, p3, p4⟩ := x
      obtain rfl : cs = [.int .i64 p0, .int .i64 p1, .int .i64 p2, .int .i64 p3, .int .i64 p4] := hE
      have hc0 : wr.cell? ⟨b, o + k * 5, none⟩ = some (.int .i64 p0) := hc 0 _ rfl
      have hc1 : wr.cell? ⟨b, o + k * 5 + 1, none⟩ = some (.int .i64 p1) := hc 1 _ rfl
      have hc2 : wr.cell? ⟨b, o + k * 5 + 2, none⟩ = some (.int .i64 p2) := hc 2 _ rfl
      have hc3 : wr.cell? ⟨b, o + k * 5 + 3, none⟩ = some (.int .i64 p3) := hc 3 _ rfl
      have hc4 : wr.cell? ⟨b, o + k * 5 + 4, none⟩ = some (.int .i64 p4) := hc 4 _ rfl
      have hD := Lib.hid (show (xs.take k ++ (List.replicate xs.length ((0, 0, 0, 0, 0) : (Int × Int × Int × Int × Int))).drop k)[k]? = some (0, 0, 0, 0, 0) by rw [M.mid_at (by rw [List.length_replicate])]; simp [hlt])
      clear hc
      go_wp2_with (go_at_call 58; refine (laws_toClip _ _ _ _ _ _).mono ?_; rintro e w2 ⟨rfl, bel2⟩; have own' := own.below bel2 hsz; obtain ⟨css, Fs, hole, cs, hcs, hE⟩ := own'.openAt hD.out; obtain rfl : cs = [.int .i64 0, .int .i64 0, .int .i64 0, .int .i64 0, .int .i64 0] := hE; have q0 : w2.cell? ⟨w.heap.size, k * 5, none⟩ = some (.int .i64 0) := (hole.cell hcs (j := 0) rfl).1; have r0 : w2.frozen? ⟨w.heap.size, k * 5, none⟩ = false := (hole.cell hcs (j := 0) rfl).2; have q1 : w2.cell? ⟨w.heap.size, k * 5 + 1, none⟩ = some (.int .i64 0) := (hole.cell hcs (j := 1) rfl).1; have r1 : w2.frozen? ⟨w.heap.size, k * 5 + 1, none⟩ = false := (hole.cell hcs (j := 1) rfl).2; have q2 : w2.cell? ⟨w.heap.size, k * 5 + 2, none⟩ = some (.int .i64 0) := (hole.cell hcs (j := 2) rfl).1; have r2 : w2.frozen? ⟨w.heap.size, k * 5 + 2, none⟩ = false := (hole.cell hcs (j := 2) rfl).2; have q3 : w2.cell? ⟨w.heap.size, k * 5 + 3, none⟩ = some (.int .i64 0) := (hole.cell hcs (j := 3) rfl).1; have r3 : w2.frozen? ⟨w.heap.size, k * 5 + 3, none⟩ = false := (hole.cell hcs (j := 3) rfl).2; have q4 : w2.cell? ⟨w.heap.size, k * 5 + 4, none⟩ = some (.int .i64 0) := (hole.cell hcs (j := 4) rfl).1; have r4 : w2.frozen? ⟨w.heap.size, k * 5 + 4, none⟩ = false := (hole.cell hcs (j := 4) rfl).2)
      go_roundw
      case rel =>
        have s0 := hole.set hcs 0 (by decide) (.int .i64 p0)
        have s1 := s0.1.set s0.2 1 (by decide) (.int .i64 p1)
        have s2 := s1.1.set s1.2 2 (by decide) (.int .i64 p2)
        have s3 := s2.1.set s2.2 3 (by decide) (.int .i64 p3)
        have s4 := s3.1.set s3.2 4 (by decide) (.int .i64 p4)
        have h3 := s4.1.fill s4.2 (y := (p0, p1, p2, p3, p4)) rfl
        rw [M.set_mid (by rw [List.length_replicate]) hX.out] at h3
        have hb2 := hb.trans (bel2.mono hb.size)
        exact ⟨k + 1, by go_num, by omega, h3, by simpa using Nat.le_trans hsz bel2.size, ((((hb2.setCell (Nat.le_refl _) _).setCell (Nat.le_refl _) _).setCell (Nat.le_refl _) _).setCell (Nat.le_refl _) _).setCell (Nat.le_refl _) _⟩
      case measure => simp [intOf]; omega
    · go_wp2
      go_ret
      rw [List.take_of_length_le (by omega), List.drop_eq_nil_of_le (by simp; omega), List.append_nil] at own
      exact ⟨_, _, _, rfl, sl_O.2 (own.iv (Nat.le_refl _) hsz), hb⟩
theorem nf_eq_T_ (A A' : Option Addr) (n c n' c' : Nat) (xs : List (Int × Int × Int × Int × Int)) (w : World) (hx : tT.R w w.heap.size [.slice A n c] xs) (hy : tT.R w w.heap.size [.slice A' n' c'] xs) (hn : hT.sz xs ≤ 100000000) :
    Calls Try.prog 53 #[.slice A n c, .slice A' n' c'] w fun e w' => e = .returned (.bool true) ∧ Below w.heap.size w w' := by
  have hr := sl_R.1 hx
  have hr' := sl_R.1 hy
  obtain rfl : xs.length = n := hr.cap.1
  obtain rfl : xs.length = n' := hr'.cap.1
  rw [hT_sz] at hn
  clear hx hy
  go_enter Try.func53, Try.ntmps53
  go_wp2
  go_loopw [5] (fun i wr => ∃ k : Nat, i = .int .i64 k ∧ k ≤ xs.length ∧ Below w.heap.size w wr) (fun i _ => xs.length - (intOf i).toNat)
  case atStart => exact ⟨0, rfl, by omega, Below.refl _ _⟩
  case round =>
    obtain ⟨k, rfl, hk, hb⟩ := hrel
    by_cases hlt : k < xs.length
    · have hX := Lib.hid (List.getElem?_eq_getElem hlt)
      obtain ⟨b, o, c1, cs, hv, hab, -, hE, hc⟩ := (hr.below hb).atX hX.out
      obtain ⟨b', o', c1', cs', hv', hab', -, hE', hc'⟩ := (hr'.below hb).atX hX.out
      simp only [Value.slice.injEq] at hv hv'
      obtain ⟨rfl, -, rfl⟩ := hv
      obtain ⟨rfl, -, rfl⟩ := hv'
      generalize xs[k] = x at hX hE hE'
      obtain ⟨p0, p1, p2, p3, p4⟩ := x
      obtain rfl : cs = [.int .i64 p0, .int .i64 p1, .int .i64 p2, .int .i64 p3, .int .i64 p4] := hE
      obtain rfl : cs' = [.int .i64 p0, .int .i64 p1, .int .i64 p2, .int .i64 p3, .int .i64 p4] := hE'
      have hc0 : wr.cell? ⟨b, o + k * 5, none⟩ = some (.int .i64 p0) := hc 0 _ rfl
      have hc1 : wr.cell? ⟨b, o + k * 5 + 1, none⟩ = some (.int .i64 p1) := hc 1 _ rfl
      have hc2 : wr.cell? ⟨b, o + k * 5 + 2, none⟩ = some (.int .i64 p2) := hc 2 _ rfl
      have hc3 : wr.cell? ⟨b, o + k * 5 + 3, none⟩ = some (.int .i64 p3) := hc 3 _ rfl
      have hc4 : wr.cell? ⟨b, o + k * 5 + 4, none⟩ = some (.int .i64 p4) := hc 4 _ rfl
      have hd0 : wr.cell? ⟨b', o' + k * 5, none⟩ = some (.int .i64 p0) := hc' 0 _ rfl
      have hd1 : wr.cell? ⟨b', o' + k * 5 + 1, none⟩ = some (.int .i64 p1) := hc' 1 _ rfl
      have hd2 : wr.cell? ⟨b', o' + k * 5 + 2, none⟩ = some (.int .i64 p2) := hc' 2 _ rfl
      have hd3 : wr.cell? ⟨b', o' + k * 5 + 3, none⟩ = some (.int .i64 p3) := hc' 3 _ rfl
      have hd4 : wr.cell? ⟨b', o' + k * 5 + 4, none⟩ = some (.int .i64 p4) := hc' 4 _ rfl
      have hbr : b < wr.heap.size := Nat.lt_of_lt_of_le hab hb.size
      have hbr' : b' < wr.heap.size := Nat.lt_of_lt_of_le hab' hb.size
      clear hc hc'
      go_wp2
      go_region_held3 (fun w' => Below wr.heap.size wr w' ∧ w'.cell? ⟨b, o + k * 5, none⟩ = some (.int .i64 p0) ∧ w'.cell? ⟨b, o + k * 5 + 1, none⟩ = some (.int .i64 p1) ∧ w'.cell? ⟨b, o + k * 5 + 2, none⟩ = some (.int .i64 p2) ∧ w'.cell? ⟨b, o + k * 5 + 3, none⟩ = some (.int .i64 p3) ∧ w'.cell? ⟨b, o + k * 5 + 4, none⟩ = some (.int .i64 p4) ∧ w'.cell? ⟨b', o' + k * 5, none⟩ = some (.int .i64 p0) ∧ w'.cell? ⟨b', o' + k * 5 + 1, none⟩ = some (.int .i64 p1) ∧ w'.cell? ⟨b', o' + k * 5 + 2, none⟩ = some (.int .i64 p2) ∧ w'.cell? ⟨b', o' + k * 5 + 3, none⟩ = some (.int .i64 p3) ∧ w'.cell? ⟨b', o' + k * 5 + 4, none⟩ = some (.int .i64 p4))
        (first
          | exact ⟨below_drewN (Below.refl _ _) _, hc0, hc1, hc2, hc3, hc4, hd0, hd1, hd2, hd3, hd4⟩
          | exact ⟨keptB_all bel2 rfl (And.left (by assumption)), keptB bel2 rfl (And.left (by assumption)) hc0 hbr, keptB bel2 rfl (And.left (by assumption)) hc1 hbr, keptB bel2 rfl (And.left (by assumption)) hc2 hbr, keptB bel2 rfl (And.left (by assumption)) hc3 hbr, keptB bel2 rfl (And.left (by assumption)) hc4 hbr, keptB bel2 rfl (And.left (by assumption)) hd0 hbr', keptB bel2 rfl (And.left (by assumption)) hd1 hbr', keptB bel2 rfl (And.left (by assumption)) hd2 hbr', keptB bel2 rfl (And.left (by assumption)) hd3 hbr', keptB bel2 rfl (And.left (by assumption)) hd4 hbr'⟩)
        (first | (go_at_call 61; refine (nf_eq_Clip _ _ _ _ _ _).mono ?_; rintro e w2 ⟨rfl, bel2⟩))
      go_wp2
      go_roundw
      case rel => exact ⟨k + 1, by go_num, by omega, hb.trans ((keptB_all bel2 rfl (below_drewN (Below.refl _ _) _)).mono hb.size)⟩
      case measure => simp [intOf]; omega
    · go_wp2
      go_ret
      exact ⟨rfl, hb⟩
theorem nf_sz_T_ (A : Option Addr) (n c : Nat) (xs : List (Int × Int × Int × Int × Int)) (l : Int) (w : World) (hx : tT.R w w.heap.size [.slice A n c] xs) (hl : 0 ≤ l ∧ l ≤ 1000000000) :
    Calls Try.prog 47 #[.slice A n c, .int .i64 l] w fun e w' => e = .returned (.int .i64 (if (hT.sz xs : Int) ≤ l then l - hT.sz xs else -1)) ∧ Below w.heap.size w w' := by
  obtain ⟨h1, h2, h3⟩ := (sl_R.1 hx).cap
  have hn : n ≤ 9223372036854775807 := by unfold maxLen at h3; omega
  rw [hT_sz, h1]
  clear h1 h2 h3 hx
  by_cases h : (n : Int) ≤ l
  all_goals
    go_enter Try.func47, Try.ntmps47
    go_wp2
    go_ret
    exact ⟨rfl, Below.refl _ _⟩
theorem nf_sz_T (A : Option Addr) (n c : Nat) (xs : List (Int × Int × Int × Int × Int)) (l : Int) (w : World) (hx : tT.R w w.heap.size [.slice A n c] xs) (hl : 0 ≤ l ∧ l ≤ 1000000000) :
    Calls Try.prog 33 #[.agg #[.slice A n c], .int .i64 l] w fun e w' => e = .returned (.int .i64 (if (hT.sz xs : Int) ≤ l then l - hT.sz xs else -1)) ∧ Below w.heap.size w w' := by
  have hb : Below w.heap.size w (w.alloc (.cells #[.slice A n c] 68)) := (Below.refl _ _).alloc (Nat.le_refl _) _
  have hx2 := tT.later hx hb
  by_cases h : (hT.sz xs : Int) ≤ l
  · have hi := Lib.hid (show (if (hT.sz xs : Int) ≤ l then l - hT.sz xs else -1) = l - hT.sz xs by rw [if_pos h])
    go_enter Try.func33, Try.ntmps33
    go_wp2_with (go_at_call 47; refine (nf_sz_T_ _ _ _ _ _ _ hx2 hl).mono ?_; rw [hi.out]; rintro e w2 ⟨rfl, bel2⟩)
    go_ret
    exact ⟨hi.out ▸ rfl, hb.trans (bel2.mono hb.size)⟩
  · have hi := Lib.hid (show (if (hT.sz xs : Int) ≤ l then l - hT.sz xs else -1) = -1 by rw [if_neg h])
    go_enter Try.func33, Try.ntmps33
    go_wp2_with (go_at_call 47; refine (nf_sz_T_ _ _ _ _ _ _ hx2 hl).mono ?_; rw [hi.out]; rintro e w2 ⟨rfl, bel2⟩)
    go_ret
    exact ⟨hi.out ▸ rfl, hb.trans (bel2.mono hb.size)⟩
theorem nf_to_T (A : Option Addr) (n c : Nat) (xs : List (Int × Int × Int × Int × Int)) (w : World) (hx : tT.R w w.heap.size [.slice A n c] xs) (hn : hT.sz xs ≤ 100000000) :
    Calls Try.prog 38 #[.agg #[.slice A n c]] w fun e w' => ∃ A' n' c', e = .returned (.agg #[.slice A' n' c']) ∧ tT.O w' (Iv w.heap.size w'.heap.size) [.slice A' n' c'] xs ∧ Below w.heap.size w w' := by
  have hb : Below w.heap.size w (((w.alloc (.cells #[.slice A n c] 68)).alloc (.cells #[.slice none 0 0] 52)).alloc (.cells #[.slice none 0 0] 52)) := (((Below.refl _ _).alloc (Nat.le_refl _) _).alloc (by simp) _).alloc (by simp; omega) _
  have hx2 := tT.later hx hb
  go_enter Try.func38, Try.ntmps38
  go_wp2_with (go_at_call 50; refine (nf_to_T_ _ _ _ _ _ hx2 hn).mono ?_; rintro e w2 ⟨A2, n2, c2, rfl, own2, bel2⟩; have q1 : w2.cell? ⟨w.heap.size + 1, 0, none⟩ = some (.slice none 0 0) := (by rw [bel2.cell (by first | omega | (simp; done) | (simp; omega))]; simp [go_sem]); have r1 : w2.frozen? ⟨w.heap.size + 1, 0, none⟩ = false := (by rw [bel2.frozen (by first | omega | (simp; done) | (simp; omega))]; simp [go_sem]); have q2 : w2.cell? ⟨w.heap.size + 1 + 1, 0, none⟩ = some (.slice none 0 0) := (by rw [bel2.cell (by simp)]; simp [go_sem]); have r2 : w2.frozen? ⟨w.heap.size + 1 + 1, 0, none⟩ = false := (by rw [bel2.frozen (by simp)]; simp [go_sem]); have hs : w.heap.size + 1 + 1 + 1 ≤ w2.heap.size := (by have := bel2.size; simpa using this))
  have m1 : Mid (w.heap.size + 1) (w.heap.size + 1 + 1 + 1) w2 ((w2.setCell ⟨w.heap.size + 1 + 1, 0, none⟩ (Value.slice A2 n2 c2)).setCell ⟨w.heap.size + 1, 0, none⟩ (Value.slice A2 n2 c2)) :=
    (Mid.of_grown (grown_setCell w2 (w.heap.size + 1 + 1) 0 _) fun k hk => by injection hk with hk; omega).trans (Mid.of_grown (grown_setCell _ (w.heap.size + 1) 0 _) fun k hk => by injection hk with hk; omega)
  refine bodyPost_ret (v := .agg #[.slice A2 n2 c2]) (by simp [results, Try.results38, go_sem, q1, r1, q2, r2]) rfl ?_
  refine ⟨_, _, _, rfl, ?_, ?_⟩
  · exact tT.oiv (tT.omid own2 m1 (.inr (by simp)) (Nat.le_refl _)) (by simp; omega) m1.size
  · exact (hb.trans (bel2.mono hb.size)).trans ((m1.toBelow (by omega)).mono (by omega))
theorem nf_eq_T (A A' : Option Addr) (n c n' c' : Nat) (xs : List (Int × Int × Int × Int × Int)) (w : World) (hx : tT.R w w.heap.size [.slice A n c] xs) (hy : tT.R w w.heap.size [.slice A' n' c'] xs) (hn : hT.sz xs ≤ 100000000) :
    Calls Try.prog 44 #[.agg #[.slice A n c], .agg #[.slice A' n' c']] w fun e w' => e = .returned (.bool true) ∧ Below w.heap.size w w' := by
  have hb : Below w.heap.size w ((w.alloc (.cells #[.slice A n c] 52)).alloc (.cells #[.slice A' n' c'] 52)) := ((Below.refl _ _).alloc (Nat.le_refl _) _).alloc (by simp) _
  have hx2 := tT.later hx hb
  have hy2 := tT.later hy hb
  go_enter Try.func44, Try.ntmps44
  go_wp2_with (go_at_call 53; refine (nf_eq_T_ _ _ _ _ _ _ _ _ hx2 hy2 hn).mono ?_; rintro e w2 ⟨rfl, bel2⟩)
  go_ret
  exact ⟨rfl, hb.trans (bel2.mono hb.size)⟩
end Go.Proofs.Ytacgcagpaecncaa
namespace Go.Proofs.Ytacgcagpaecncaa
open Go.RowKit
set_option maxHeartbeats 4000000
set_option maxRecDepth 100000
/-- A number that a harness does not mark. -/
def hU : Hs Int := ⟨fun _ => 0, fun _ x => x, fun _ => 0⟩
theorem bcell {W w1 : World} (hb : Below W.heap.size W w1) : (∀ b o, b < W.heap.size → w1.cell? ⟨b, o, none⟩ = W.cell? ⟨b, o, none⟩) ∧ (∀ b o, b < W.heap.size → w1.frozen? ⟨b, o, none⟩ = W.frozen? ⟨b, o, none⟩) :=
  ⟨fun b o h => hb.cell (p := ⟨b, o, none⟩) h, fun b o h => hb.frozen (p := ⟨b, o, none⟩) h⟩
theorem open_sl {α : Type} {t : Ty α} {e : TypeId} {w : World} {B : Nat} {cs : List Value} {x : List α} (h : (t.sl e).R w B cs x) : ∃ A n c, cs = [.slice A n c] := by
  obtain ⟨v, rfl, hr⟩ := h
  obtain ⟨A, c, rfl⟩ := hr.shape
  exact ⟨_, _, _, rfl⟩
abbrev Clip_ := Int × Int × Int × Int × Int
theorem nf_sz_S (A : Option Addr) (n c : Nat) (xs : List Int) (l : Int) (w : World) (hx : tS.R w w.heap.size [.slice A n c] xs) (hl : 0 ≤ l ∧ l ≤ 1000000000) :
    Calls Try.prog 11 #[.slice A n c, .int .i64 l] w fun e w' => e = .returned (.int .i64 (if (hS.sz xs : Int) ≤ l then l - hS.sz xs else -1)) ∧ Below w.heap.size w w' := by
  obtain ⟨h1, h2, h3⟩ := (tS_R.1 hx).cap
  have hn : n ≤ 9223372036854775807 := by unfold maxLen at h3; omega
  rw [hS_sz, h1]
  clear h1 h2 h3 hx
  by_cases h : (n : Int) ≤ l
  all_goals
    go_enter Try.func11, Try.ntmps11
    go_wp2
    go_ret
    exact ⟨rfl, Below.refl _ _⟩
end Go.Proofs.Ytacgcagpaecncaa
namespace Go.Proofs.Ytacgcagpaecncaa
open Go.RowKit
set_option maxHeartbeats 400000
set_option maxRecDepth 100000
def pt (p : Int × Int) : List Value := [.int .i64 p.1, .int .i64 p.2]
theorem pt_len (p : Int × Int) : (pt p).length = 2 := rfl
def rampP (k : Int) (n : Nat) : List (Int × Int) := (List.range n).map fun (i : Nat) => (k + 2 * (i : Int), k + 2 * (i : Int) + 1)
theorem rampP_len (k : Int) (n : Nat) : (rampP k n).length = n := by simp [rampP]
theorem rampP_at {k : Int} {n j : Nat} (h : j < n) : (rampP k n)[j]? = some (k + 2 * (j : Int), k + 2 * (j : Int) + 1) := by simp [rampP, h]
theorem ret_agg2 {a b a' b' : Int} (h : a = a') (h' : b = b') : Ending.returned (.agg #[.int .i64 a, .int .i64 b]) = .returned (.agg #[.int .i64 a', .int .i64 b']) := by rw [h, h']
theorem lay_cell (w : World) (u : Value) (e : TypeId) : (w.alloc (.cells #[u] e)).cell? ⟨w.heap.size, 0, none⟩ = some u := by
  rw [cell_of_row _ w.heap.size 0 #[u] e (0, 0) (heap_alloc_new w _)]
  rfl
theorem lay_frozen (w : World) (u : Value) (e : TypeId) : (w.alloc (.cells #[u] e)).frozen? ⟨w.heap.size, 0, none⟩ = false := World.frozen?_alloc_new w _ e 0
theorem Mid.cell (w : World) (b o : Nat) (u : Value) : Mid b (b + 1) w (w.setCell ⟨b, o, none⟩ u) :=
  Mid.of_grown (grown_setCell w b o u) fun k hk => by
    injection hk with hk
    omega
/-- Of three fresh cells the middle and the last one, after a call. -/
theorem three_cells {w w2 : World} {u1 u2 u3 : Value} {e1 e2 e3 : TypeId} (hb : Below (((w.alloc (.cells #[u1] e1)).alloc (.cells #[u2] e2)).alloc (.cells #[u3] e3)).heap.size (((w.alloc (.cells #[u1] e1)).alloc (.cells #[u2] e2)).alloc (.cells #[u3] e3)) w2) :
    (w2.cell? ⟨w.heap.size + 1, 0, none⟩ = some u2 ∧ w2.frozen? ⟨w.heap.size + 1, 0, none⟩ = false) ∧ (w2.cell? ⟨w.heap.size + 1 + 1, 0, none⟩ = some u3 ∧ w2.frozen? ⟨w.heap.size + 1 + 1, 0, none⟩ = false) ∧ w.heap.size + 1 + 1 + 1 ≤ w2.heap.size := by
  have s1 : (w.alloc (.cells #[u1] e1)).heap.size = w.heap.size + 1 := by simp
  have s2 : ((w.alloc (.cells #[u1] e1)).alloc (.cells #[u2] e2)).heap.size = w.heap.size + 1 + 1 := by simp
  have s3 : (((w.alloc (.cells #[u1] e1)).alloc (.cells #[u2] e2)).alloc (.cells #[u3] e3)).heap.size = w.heap.size + 1 + 1 + 1 := by simp
  have c3 := lay_cell ((w.alloc (.cells #[u1] e1)).alloc (.cells #[u2] e2)) u3 e3
  have f3 := lay_frozen ((w.alloc (.cells #[u1] e1)).alloc (.cells #[u2] e2)) u3 e3
  have c2 := lay_cell (w.alloc (.cells #[u1] e1)) u2 e2
  have f2 := lay_frozen (w.alloc (.cells #[u1] e1)) u2 e2
  rw [s2] at c3 f3
  rw [s1] at c2 f2
  refine ⟨⟨?_, ?_⟩, ⟨?_, ?_⟩, by rw [← s3]; exact hb.size⟩
  · rw [hb.cell (by rw [s3]; simp), World.cell?_alloc_lt _ _ _ (by rw [s2]; simp)]; exact c2
  · rw [hb.frozen (by rw [s3]; simp), World.frozen?_alloc_old _ _ _ (by rw [s2]; simp)]; exact f2
  · rw [hb.cell (by rw [s3]; simp)]; exact c3
  · rw [hb.frozen (by rw [s3]; simp)]; exact f3
end Go.Proofs.Ytacgcagpaecncaa
namespace Go.Proofs.Ytacgcagpaecncaa
open Go.RowKit
set_option maxHeartbeats 400000
set_option maxRecDepth 100000
theorem kept_all {B : Nat} {w w1 w2 : World} (h1 : Below B w1 w2) (hB : B = w1.heap.size) (h0 : Below w.heap.size w w1) : Below w.heap.size w w2 := by
  subst hB
  exact h0.trans (h1.mono h0.size)
theorem kept {B : Nat} {w w1 w2 : World} {b o : Nat} {u : Value} (h1 : Below B w1 w2) (hB : B = w1.heap.size) (h0 : Below w.heap.size w w1) (h : w.cell? ⟨b, o, none⟩ = some u) (hb : b < w.heap.size) : w2.cell? ⟨b, o, none⟩ = some u := by
  subst hB
  rw [h1.cell (by simpa using Nat.lt_of_lt_of_le hb h0.size), h0.cell (by simpa using hb)]
  exact h
def peq (x y : Int × Int) : Bool := decide (x = y)
end Go.Proofs.Ytacgcagpaecncaa
namespace Go.Proofs.Ytacgcagpaecncaa
open Go.RowKit
set_option maxHeartbeats 400000
set_option maxRecDepth 100000
end Go.Proofs.Ytacgcagpaecncaa
namespace Go.Proofs.Ytacgcagpaecncaa
open Go.RowKit
set_option maxHeartbeats 400000
set_option maxRecDepth 100000
def M.ptOk (p : Int × Int) : Bool := M.inn p.1 0 4000 && M.inn p.2 (-65536) 65536
/-- The point before the k-th lies before it. -/
def M.after (xs : List (Int × Int)) (k : Nat) : Bool := k == 0 || decide (((xs[k - 1]?).getD (0, 0)).1 < ((xs[k]?).getD (0, 0)).1)
def M.stepOk (xs : List (Int × Int)) (k : Nat) : Bool := M.ptOk ((xs[k]?).getD (0, 0)) && M.after xs k
def M.curveOk (xs : List (Int × Int)) : Bool := (List.range xs.length).all (M.stepOk xs) && M.inn (xs.length : Int) 1 24
theorem M.div_low {a b : Int} (hb : 0 < b) (hm : a.tmod b < 0) : a.tdiv b - 1 = a / b := by
  have h1 := Int.tmod_add_mul_tdiv a b
  have h2 : -b < a.tmod b := by
    have := Int.lt_tmod_of_pos a hb
    omega
  have h3 : a = (a.tmod b + b) + b * (a.tdiv b - 1) := by rw [Int.mul_sub, Int.mul_one]; omega
  rw [h3, Int.add_mul_ediv_left _ _ (by omega), Int.ediv_eq_zero_of_lt (by omega) (by omega), ← h3]
  omega
theorem M.div_high {a b : Int} (hb : 0 < b) (hm : ¬ a.tmod b < 0) : a.tdiv b = a / b := by
  have h1 := Int.tmod_add_mul_tdiv a b
  have h2 : a.tmod b < b := Int.tmod_lt_of_pos a hb
  have h3 : a = a.tmod b + b * a.tdiv b := by omega
  generalize hq : a.tdiv b = q at h3 ⊢
  rw [h3, Int.add_mul_ediv_left _ _ (by omega)]
  generalize a.tmod b = r at *
  rw [Int.ediv_eq_zero_of_lt (by omega) (by omega)]
  omega
theorem M.div_wrap {a b : Int} (ha : -9000000000000000000 ≤ a ∧ a ≤ 9000000000000000000) (hb : 0 < b) : wrap64 (a / b) = a / b := by
  have h1 : a / b ≤ 9000000000000000000 := by
    refine Int.ediv_le_of_le_mul hb ?_
    have : (9000000000000000000 : Int) * 1 ≤ 9000000000000000000 * b := Int.mul_le_mul_of_nonneg_left (by omega) (by omega)
    omega
  have h2 : -9000000000000000000 ≤ a / b := by
    refine Int.le_ediv_of_mul_le hb ?_
    have : (9000000000000000000 : Int) * 1 ≤ 9000000000000000000 * b := Int.mul_le_mul_of_nonneg_left (by omega) (by omega)
    omega
  unfold wrap64
  omega
end Go.Proofs.Ytacgcagpaecncaa
namespace Go.Proofs.Ytacgcagpaecncaa
open Go.RowKit Go.Sort
set_option maxHeartbeats 400000
set_option maxRecDepth 100000
theorem M.all_upto {n : Nat} {f : Nat → Bool} (h : ∀ j, j < n → f j = true) : (List.range n).all f = true := by
  rw [List.all_eq_true]
  intro j hj
  exact h j (List.mem_range.1 hj)
theorem M.all_not {n k : Nat} {f : Nat → Bool} (hk : k < n) (h : f k = false) : (List.range n).all f = false := by
  rw [List.all_eq_false]
  exact ⟨k, List.mem_range.2 hk, by simp [h]⟩
end Go.Proofs.Ytacgcagpaecncaa
namespace Go.Proofs.Ytacgcagpaecncaa
open Go.RowKit Go.Sort
set_option maxHeartbeats 400000
set_option maxRecDepth 100000
end Go.Proofs.Ytacgcagpaecncaa
namespace Go.Proofs.Ytacgcagpaecncaa
open Go.RowKit Go.Sort
set_option maxHeartbeats 400000
set_option maxRecDepth 100000
def M.seg (p q : Int × Int) (t : Int) : Int := p.2 + (q.2 - p.2) * (t - p.1) / (q.1 - p.1)
def M.atGo : (Int × Int) → List (Int × Int) → Int → Int
  | p, [], _ => p.2
  | p, q :: qs, t => if t < q.1 then M.seg p q t else M.atGo q qs t
def M.atC : List (Int × Int) → Int → Int
  | [], _ => 0
  | p :: qs, t => if t < p.1 then p.2 else M.atGo p qs t
theorem M.inn_iff {n a b : Int} : M.inn n a b = true ↔ a ≤ n ∧ n ≤ b := by simp [M.inn]
theorem M.curve_len {xs : List (Int × Int)} (h : M.curveOk xs = true) : 1 ≤ xs.length ∧ xs.length ≤ 24 := by
  rw [M.curveOk, Bool.and_eq_true, M.inn_iff] at h
  omega
theorem M.curve_step {xs : List (Int × Int)} (h : M.curveOk xs = true) {k : Nat} (hk : k < xs.length) : M.stepOk xs k = true := by
  rw [M.curveOk, Bool.and_eq_true, List.all_eq_true] at h
  exact h.1 k (List.mem_range.2 hk)
theorem M.curve_pt {xs : List (Int × Int)} (h : M.curveOk xs = true) {k : Nat} {p : Int × Int} (hk : xs[k]? = some p) : (0 ≤ p.1 ∧ p.1 ≤ 4000) ∧ -65536 ≤ p.2 ∧ p.2 ≤ 65536 := by
  have h1 := M.curve_step h (List.getElem?_eq_some_iff.1 hk).1
  rw [M.stepOk, Bool.and_eq_true, hk] at h1
  have h2 := h1.1
  rw [Option.getD_some, M.ptOk, Bool.and_eq_true, M.inn_iff, M.inn_iff] at h2
  exact h2
theorem M.curve_lt {xs : List (Int × Int)} (h : M.curveOk xs = true) {k : Nat} {p q : Int × Int} (h0 : 0 < k) (hp : xs[k - 1]? = some p) (hq : xs[k]? = some q) : p.1 < q.1 := by
  have h1 := M.curve_step h (List.getElem?_eq_some_iff.1 hq).1
  rw [M.stepOk, Bool.and_eq_true, M.after, hp, hq] at h1
  have h2 := h1.2
  simp at h2
  rcases h2 with h2 | h2
  · omega
  · exact h2
theorem M.atGo_step {xs : List (Int × Int)} {k : Nat} {p q : Int × Int} {t : Int} (hq : xs[k]? = some q) : M.atGo p (xs.drop k) t = if t < q.1 then M.seg p q t else M.atGo q (xs.drop (k + 1)) t := by
  obtain ⟨hl, he⟩ := List.getElem?_eq_some_iff.1 hq
  rw [List.drop_eq_getElem_cons hl, he, M.atGo]
theorem M.atGo_end {xs : List (Int × Int)} {k : Nat} {p : Int × Int} {t : Int} (hk : xs.length ≤ k) : M.atGo p (xs.drop k) t = p.2 := by
  rw [List.drop_eq_nil_of_le hk, M.atGo]
theorem M.atC_go {xs : List (Int × Int)} {p : Int × Int} {t : Int} (hp : xs[0]? = some p) (ht : ¬ t < p.1) : M.atC xs t = M.atGo p (xs.drop 1) t := by
  cases xs with
  | nil => simp at hp
  | cons x ys =>
    simp only [List.getElem?_cons_zero, Option.some.injEq] at hp
    subst hp
    rw [M.atC, if_neg ht]
    rfl
theorem M.atC_low {xs : List (Int × Int)} {p : Int × Int} {t : Int} (hp : xs[0]? = some p) (ht : t < p.1) : M.atC xs t = p.2 := by
  cases xs with
  | nil => simp at hp
  | cons x ys =>
    simp only [List.getElem?_cons_zero, Option.some.injEq] at hp
    subst hp
    rw [M.atC, if_pos ht]
theorem M.seg_at (p q : Int × Int) : M.seg p q p.1 = p.2 := by simp [M.seg]
theorem M.atC_first {xs : List (Int × Int)} (h : M.curveOk xs = true) {p : Int × Int} {t : Int} (hp : xs[0]? = some p) (ht : t ≤ p.1) : M.atC xs t = p.2 := by
  by_cases h1 : t < p.1
  · exact M.atC_low hp h1
  · obtain rfl : t = p.1 := by omega
    rw [M.atC_go hp h1]
    by_cases h2 : 1 < xs.length
    · have hq := List.getElem?_eq_getElem h2
      rw [M.atGo_step hq, if_pos (M.curve_lt h (by omega) hp hq), M.seg_at]
    · rw [M.atGo_end (by omega)]
theorem M.mul_bound {a b x y : Int} (ha : -x ≤ a ∧ a ≤ x) (hb : -y ≤ b ∧ b ≤ y) (hx : 0 ≤ x) : -(x * y) ≤ a * b ∧ a * b ≤ x * y := by
  have h1 : a.natAbs * b.natAbs ≤ x.natAbs * y.natAbs := Nat.mul_le_mul (by omega) (by omega)
  have h2 : (a * b).natAbs ≤ (x * y).natAbs := by rw [Int.natAbs_mul, Int.natAbs_mul]; exact h1
  have h3 : 0 ≤ x * y := Int.mul_nonneg hx (by omega)
  omega
theorem M.div_small {a b c : Int} (ha : -c ≤ a ∧ a ≤ c) (hb : 0 < b) (hc : 0 ≤ c) : -c ≤ a / b ∧ a / b ≤ c := by
  have h0 : c * 1 ≤ c * b := Int.mul_le_mul_of_nonneg_left (by omega) hc
  constructor
  · refine Int.le_ediv_of_mul_le hb ?_
    rw [Int.neg_mul]
    omega
  · refine Int.ediv_le_of_le_mul hb ?_
    omega
end Go.Proofs.Ytacgcagpaecncaa
namespace Go.Proofs.Ytacgcagpaecncaa
open Go.RowKit Go.Sort
set_option maxHeartbeats 400000
set_option maxRecDepth 100000
/-- All that a step of the reckoning of a value wants to know of two neighbours. -/
theorem M.seg_facts {p0 p1 q0 q1 t : Int} (hp : (0 ≤ p0 ∧ p0 ≤ 4000) ∧ -65536 ≤ p1 ∧ p1 ≤ 65536) (hq : (0 ≤ q0 ∧ q0 ≤ 4000) ∧ -65536 ≤ q1 ∧ q1 ≤ 65536) (hlt : p0 < q0) (ht : 0 ≤ t ∧ t ≤ 1000000) :
    IntKind.i64.wrap (q1 - p1) = q1 - p1 ∧ IntKind.i64.wrap (t - p0) = t - p0 ∧ IntKind.i64.wrap ((q1 - p1) * (t - p0)) = (q1 - p1) * (t - p0) ∧ IntKind.i64.wrap (q0 - p0) = q0 - p0 ∧
      IntKind.i64.wrap (p1 + (q1 - p1) * (t - p0) / (q0 - p0)) = M.seg (p0, p1) (q0, q1) t ∧ (-9000000000000000000 ≤ (q1 - p1) * (t - p0) ∧ (q1 - p1) * (t - p0) ≤ 9000000000000000000) ∧ 0 < q0 - p0 ∧ q0 - p0 ≤ 9000000000000000000 := by
  have h1 := M.mul_bound (a := q1 - p1) (b := t - p0) (x := 131072) (y := 1000000) (by omega) (by omega) (by omega)
  have h2 := M.div_small (a := (q1 - p1) * (t - p0)) (b := q0 - p0) (c := 131072000000) (by omega) (by omega) (by omega)
  refine ⟨IntWalk.i64_in _ (by omega), IntWalk.i64_in _ (by omega), IntWalk.i64_in _ (by omega), IntWalk.i64_in _ (by omega), ?_, by omega, by omega, by omega⟩
  rw [IntWalk.i64_in _ (by omega)]
  rfl
end Go.Proofs.Ytacgcagpaecncaa
namespace Go.Proofs.Ytacgcagpaecncaa
open Go.RowKit Go.Sort
set_option maxHeartbeats 400000
set_option maxRecDepth 100000
end Go.Proofs.Ytacgcagpaecncaa
namespace Go.Proofs.Ytacgcagpaecncaa
open Go.RowKit Go.Sort
set_option maxHeartbeats 400000
set_option maxRecDepth 100000
def M.rend (xs : List (Int × Int)) (m : Nat) : List Int := (List.range m).map fun (i : Nat) => M.atC xs (i : Int)
theorem M.rend_len (xs : List (Int × Int)) (m : Nat) : (M.rend xs m).length = m := by simp [M.rend]
theorem M.rend_at {xs : List (Int × Int)} {m k : Nat} (h : k < m) : (M.rend xs m)[k]? = some (M.atC xs (k : Int)) := by simp [M.rend, h]
def M.rendR (xs : List (Int × Int)) (t : Int) : List Int × Int := if M.curveOk xs then (if M.inn t 0 4000 then (M.rend xs t.toNat, 0) else ([], 2)) else ([], 1)
end Go.Proofs.Ytacgcagpaecncaa
namespace Go.Proofs.Ytacgcagpaecncaa
open Go.RowKit Go.Sort
set_option maxHeartbeats 400000
set_option maxRecDepth 100000
/-- As wpList_push, the new block's number in the walk's spelling. -/
theorem wpList_pushH {P : Program} {t e : TypeId} {z : Value} {size bytes : Nat} (hE : EI P t e z size bytes) {w : World} {ops : Array Oper} {rest : List Oper} {o : Oper} {a : Act} {Q : Exit → Act → World → Prop} (us : Array Value)
    (hgd : o.guard = none) (s x : Operand) (ho : o.op = .call { callee := .builtin .append, args := #[s, x], argTypes := #[t, t] })
    {B : Nat} {v : Value} {n : Nat} {xs : List Value} (hown : w.ownsRow B e size v n xs) (hs : a.eval s = v) (H : Nat) (hH : w.heap.size = H)
    (hx : a.eval x = .slice (some ⟨H, 0, none⟩) 1 1) (hus : us.size = size) (h1 : ∀ u ∈ us.toList, u.oneCell' = true)
    (hn : n + 1 ≤ maxLen) (hbytes : (n + 1) * bytes ≤ 140737488355328) (hbase : B ≤ w.heap.size)
    (K : ∀ v' w', w'.ownsRow B e size v' (n + 1) (xs ++ us.toList) → w.grownBy w' v.ownBlock → Below B w w' → wpList P ops Q rest (a.put o.dst v') w') :
    wpList P ops Q (o :: rest) a (w.alloc (.cells us e)) := by
  subst hH
  exact wpList_push hE us hgd s x ho hown hs hx hus h1 hn hbytes hbase K
/-- What a function of a curve and a code gives back. -/
def RetC (e : TypeId) (w : World) (r : List (Int × Int) × Int) (en : Ending) (w' : World) : Prop :=
  ∃ v, en = .returned (.tuple #[.agg #[v], .int .i64 r.2]) ∧ OA pt e 2 w.heap.size w'.heap.size w' v r.1 ∧ Below w.heap.size w w'
def M.setP (xs : List (Int × Int)) (p : Int × Int) : List (Int × Int) := xs.filter (fun q => decide (q.1 < p.1)) ++ p :: xs.filter (fun q => decide (p.1 < q.1))
def M.setR (xs : List (Int × Int)) (p : Int × Int) : List (Int × Int) × Int :=
  if M.curveOk xs then (if M.ptOk p then (if (M.setP xs p).length ≤ 24 then (M.setP xs p, 0) else ([], 5)) else ([], 2)) else ([], 1)
theorem M.filter_at {xs : List (Int × Int)} {k : Nat} {x : Int × Int} (f : Int × Int → Bool) (hx : xs[k]? = some x) : (xs.take (k + 1)).filter f = (xs.take k).filter f ++ (if f x then [x] else []) := by
  rw [M.take_at hx, List.filter_append]
  congr 1
  cases h : f x <;> simp [h]
end Go.Proofs.Ytacgcagpaecncaa
namespace Go.Proofs.Ytacgcagpaecncaa
open Go.RowKit Go.Sort
set_option maxHeartbeats 400000
set_option maxRecDepth 100000
/-- What the reference has collected after k points. -/
def M.setTo (xs : List (Int × Int)) (p : Int × Int) (k : Nat) (dn : Bool) : List (Int × Int) :=
  if dn then (xs.take k).filter (fun q => decide (q.1 < p.1)) ++ [p] ++ (xs.take k).filter (fun q => decide (p.1 < q.1)) else (xs.take k).filter (fun q => decide (q.1 < p.1))
def M.setInv (xs : List (Int × Int)) (p : Int × Int) (k : Nat) (dn : Bool) : Prop :=
  (dn = true → 0 < k ∧ ∃ q, xs[k - 1]? = some q ∧ p.1 ≤ q.1) ∧ (dn = false → (xs.take k).filter (fun q => decide (p.1 < q.1)) = [])
theorem M.setTo_len (xs : List (Int × Int)) (p : Int × Int) (k : Nat) (dn : Bool) : (M.setTo xs p k dn).length ≤ 2 * xs.length + 1 := by
  unfold M.setTo
  have h1 := List.length_filter_le (fun q : Int × Int => decide (q.1 < p.1)) (xs.take k)
  have h2 := List.length_filter_le (fun q : Int × Int => decide (p.1 < q.1)) (xs.take k)
  have h3 : (xs.take k).length ≤ xs.length := by rw [List.length_take]; omega
  split
  · simp only [List.length_append, List.length_singleton]
    omega
  · omega
theorem M.setInv_zero (xs : List (Int × Int)) (p : Int × Int) : M.setInv xs p 0 false := ⟨by simp, by simp⟩
/-- A point before p. -/
theorem M.setP_low {xs : List (Int × Int)} {p q : Int × Int} {k : Nat} (hq : xs[k]? = some q) (h : q.1 < p.1) (hi : M.setInv xs p k false) : M.setInv xs p (k + 1) false ∧ M.setTo xs p (k + 1) false = M.setTo xs p k false ++ [q] := by
  refine ⟨⟨by simp, fun _ => ?_⟩, ?_⟩
  · rw [M.filter_at _ hq, hi.2 rfl, if_neg (by simp; omega)]
    rfl
  · simp only [M.setTo, Bool.false_eq_true, if_false]
    rw [M.filter_at _ hq, if_pos (by simpa using h)]
/-- The point at p's time. -/
theorem M.setP_same {xs : List (Int × Int)} {p q : Int × Int} {k : Nat} (hq : xs[k]? = some q) (h : q.1 = p.1) (hi : M.setInv xs p k false) : M.setInv xs p (k + 1) true ∧ M.setTo xs p (k + 1) true = M.setTo xs p k false ++ [p] := by
  refine ⟨⟨fun _ => ⟨by omega, q, by simpa using hq, by omega⟩, by simp⟩, ?_⟩
  simp only [M.setTo, Bool.false_eq_true, if_false, if_true]
  rw [M.filter_at _ hq, M.filter_at _ hq, hi.2 rfl, if_neg (by simp; omega), if_neg (by simp; omega)]
  simp
/-- The first point behind p. -/
theorem M.setP_high {xs : List (Int × Int)} {p q : Int × Int} {k : Nat} (hq : xs[k]? = some q) (h : p.1 < q.1) (hi : M.setInv xs p k false) : M.setInv xs p (k + 1) true ∧ M.setTo xs p (k + 1) true = M.setTo xs p k false ++ [p] ++ [q] := by
  refine ⟨⟨fun _ => ⟨by omega, q, by simpa using hq, by omega⟩, by simp⟩, ?_⟩
  simp only [M.setTo, Bool.false_eq_true, if_false, if_true]
  rw [M.filter_at _ hq, M.filter_at _ hq, hi.2 rfl, if_neg (by simp; omega), if_pos (by simpa using h)]
  simp
/-- A point further behind. -/
theorem M.setP_more {xs : List (Int × Int)} {p q : Int × Int} {k : Nat} (hok : M.curveOk xs = true) (hq : xs[k]? = some q) (hi : M.setInv xs p k true) : p.1 < q.1 ∧ M.setInv xs p (k + 1) true ∧ M.setTo xs p (k + 1) true = M.setTo xs p k true ++ [q] := by
  obtain ⟨hk, r, hr, hpr⟩ := hi.1 rfl
  have hlt : p.1 < q.1 := by have := M.curve_lt hok hk hr hq; omega
  refine ⟨hlt, ⟨fun _ => ⟨by omega, q, by simpa using hq, by omega⟩, by simp⟩, ?_⟩
  simp only [M.setTo, if_true]
  rw [M.filter_at _ hq, M.filter_at _ hq, if_neg (by simp; omega), if_pos (by simpa using hlt)]
  simp
theorem M.setP_end {xs : List (Int × Int)} {p : Int × Int} {dn : Bool} {n : Nat} (hn : xs.length = n) (hi : M.setInv xs p n dn) : (if dn then M.setTo xs p n dn else M.setTo xs p n dn ++ [p]) = M.setP xs p := by
  have ht : xs.take n = xs := List.take_of_length_le (by omega)
  cases dn
  · have := hi.2 rfl
    simp only [M.setTo, M.setP, ht, Bool.false_eq_true, if_false] at *
    rw [this]
  · simp only [M.setTo, M.setP, ht, if_true]
    simp
theorem OA.made0 {α : Type} {enc : α → List Value} {e : TypeId} {s : Nat} (w : World) : OA enc e s w.heap.size (w.alloc (.cells #[] e)).heap.size (w.alloc (.cells #[] e)) (.slice (some ⟨w.heap.size, 0, none⟩) 0 0) [] :=
  OX.of_own (World.ownsRow_made _ _ _ (Nat.le_refl _) (by simp [maxLen]) (by simp))
end Go.Proofs.Ytacgcagpaecncaa
namespace Go.Proofs.Ytacgcagpaecncaa
open Go.RowKit
set_option maxHeartbeats 400000
set_option maxRecDepth 100000
/-- A list, some of whose elements are set. -/
def setAll {α : Type} : List α → Nat → List α → List α
  | cs, _, [] => cs
  | cs, o, u :: us => setAll (cs.set o u) (o + 1) us
theorem setAll_len {α : Type} (us : List α) : ∀ (cs : List α) (o : Nat), (setAll cs o us).length = cs.length := by
  induction us with
  | nil => intro cs o; rfl
  | cons u us ih => intro cs o; rw [setAll, ih, List.length_set]
theorem setAll_at {α : Type} (us : List α) : ∀ (cs : List α) (o k : Nat), o + us.length ≤ cs.length → (setAll cs o us)[k]? = if o ≤ k ∧ k < o + us.length then us[k - o]? else cs[k]? := by
  induction us with
  | nil => intro cs o k _; rw [setAll, if_neg (by simp)]
  | cons u us ih =>
    intro cs o k h
    rw [List.length_cons] at h
    rw [setAll, ih _ _ _ (by rw [List.length_set]; omega), List.length_cons]
    by_cases h1 : o + 1 ≤ k ∧ k < o + 1 + us.length
    · rw [if_pos h1, if_pos (by omega), show k - o = (k - (o + 1)) + 1 by omega, List.getElem?_cons_succ]
    · rw [if_neg h1]
      by_cases h2 : k = o
      · subst h2
        rw [if_pos (by omega), Nat.sub_self, List.getElem?_set_self (by omega)]
        rfl
      · rw [if_neg (by omega), List.getElem?_set_ne (fun e => h2 e.symm)]
theorem setAll_eq {α : Type} (us cs : List α) (o : Nat) (h : o + us.length ≤ cs.length) : setAll cs o us = cs.take o ++ us ++ cs.drop (o + us.length) := by
  apply List.ext_getElem?
  intro k
  rw [setAll_at us cs o k h]
  by_cases h1 : k < o
  · rw [if_neg (by omega), List.getElem?_append_left (by simp; omega), List.getElem?_append_left (by simp; omega), List.getElem?_take, if_pos h1]
  · by_cases h2 : k < o + us.length
    · rw [if_pos (by omega), List.getElem?_append_left (by simp; omega), List.getElem?_append_right (by simp; omega), List.length_take, Nat.min_eq_left (by omega)]
    · rw [if_neg (by omega), List.getElem?_append_right (by simp; omega), List.getElem?_drop]
      congr 1
      simp
      omega
section
variable {base s n cap g : Nat} {e : TypeId} {cs : List Value} {w : World}
theorem own_setCells (us : List Value) : ∀ (w : World) (cs : List Value) (o : Nat), w.ownsRow base e s (.slice (some ⟨g, 0, none⟩) n cap) n cs →
    (w.setCells g o us).ownsRow base e s (.slice (some ⟨g, 0, none⟩) n cap) n (setAll cs o us) ∧ w.grownBy (w.setCells g o us) (some g) := by
  induction us with
  | nil => intro w cs o h; exact ⟨h, World.grownBy.refl w _⟩
  | cons u us ih =>
    intro w cs o h
    have h1 := World.ownsRow.stored h o u
    obtain ⟨h2, h3⟩ := ih _ _ (o + 1) h1.1
    exact ⟨h2, grown_trans h1.2 h3⟩
theorem own_cut (h : w.ownsRow base e s (.slice (some ⟨g, 0, none⟩) n cap) n cs) {k : Nat} (hk : k ≤ n) : w.ownsRow base e s (.slice (some ⟨g, 0, none⟩) k cap) k (cs.take (k * s)) := by
  rcases h.2 with ⟨h', _⟩ | ⟨g', cap', cur, h', hb, hg, hnc, hcm, hcs, htake⟩
  · simp at h'
  · simp only [Value.slice.injEq, Option.some.injEq, Addr.mk.injEq, and_true, true_and] at h'
    obtain ⟨rfl, rfl⟩ := h'
    have hks : k * s ≤ n * s := Nat.mul_le_mul_right _ hk
    refine ⟨by rw [List.length_take, h.1]; omega, .inr ⟨g, cap, cur, rfl, hb, hg, by omega, hcm, hcs, ?_⟩⟩
    rw [← htake, List.take_take, Nat.min_eq_left hks]
theorem own_cells (h : w.ownsRow base e s (.slice (some ⟨g, 0, none⟩) n cap) n cs) {j : Nat} (hj : j < n * s) : (w.cell? ⟨g, j, none⟩).isSome = true ∧ w.frozen? ⟨g, j, none⟩ = false := by
  refine ⟨?_, World.ownsRow.frozenAt h j⟩
  rw [World.ownsRow.cellAt h j hj, List.getElem?_eq_getElem (by rw [h.1]; exact hj)]
  rfl
end
/-- 'clear(s)' of elements of some cells. -/
theorem run_clear_wide {P : Program} (w : World) (t e : TypeId) (z : Value) (s : Nat) (ht : P.underlying t = some (.slice e)) (hv : ∀ w, (zeroValue e).run P w = .ok z w) (hz : z.cells.size = s) (h1 : ∀ u ∈ z.cells.toList, u.oneCell' = true) (b o n c : Nat) (hn : 0 < n)
    (hc : ∀ j, j < n * s → (w.cell? ⟨b, o + j, none⟩).isSome = true ∧ w.frozen? ⟨b, o + j, none⟩ = false) :
    ∃ zs : List Value, zs.length = n * s ∧ ∀ ty, (Builtin.clear_ #[t] ty #[.slice (some ⟨b, o, none⟩) n c]).run P w = .ok (.tuple #[]) (w.setCells b o zs) := by
  have hl : (Builtin.zeroCells z.cells n).toList.length = n * s := by simp [Builtin.zeroCells, hz]
  refine ⟨(Builtin.zeroCells z.cells n).toList, hl, fun ty => ?_⟩
  have hst := run_storeCells_cells (P := P) b o (Builtin.zeroCells z.cells n).toList 0 w (by intro j hj; rw [hl] at hj; simpa using (hc j hj).1) (by intro j hj; rw [hl] at hj; simpa using (hc j hj).2) (by
    intro u hu
    simp only [Builtin.zeroCells, Array.toList_map, List.mem_map] at hu
    obtain ⟨i, hi, rfl⟩ := hu
    have hpos : 0 < z.cells.size := by
      rcases Nat.eq_zero_or_pos z.cells.size with h0 | h0
      · rw [h0, Nat.mul_zero] at hi
        simp at hi
      · exact h0
    rw [getElem!_pos z.cells (i % z.cells.size) (Nat.mod_lt _ hpos)]
    exact h1 _ (by simp))
  simp only [Nat.add_zero] at hst
  obtain ⟨m, rfl⟩ : ∃ m, n = m + 1 := ⟨n - 1, by omega⟩
  simp [Builtin.clear_, run_underlying ht, hv, hst]
section
variable {α : Type} {enc : α → List Value} {s : Nat}
theorem flat_take (henc : ∀ x, (enc x).length = s) (xs : List α) (k : Nat) : (xs.flatMap enc).take (k * s) = (xs.take k).flatMap enc := by
  induction xs generalizing k with
  | nil => simp
  | cons y ys ih =>
    cases k with
    | zero => simp
    | succ k => rw [List.take_succ_cons, List.flatMap_cons, List.flatMap_cons, ← ih, Nat.succ_mul, Nat.add_comm, List.take_append, henc, List.take_of_length_le (by rw [henc]; omega)]; congr 2; omega
theorem flat_drop (henc : ∀ x, (enc x).length = s) (xs : List α) (k : Nat) : (xs.flatMap enc).drop (k * s) = (xs.drop k).flatMap enc := by
  induction xs generalizing k with
  | nil => simp
  | cons y ys ih =>
    cases k with
    | zero => simp
    | succ k => rw [List.drop_succ_cons, List.flatMap_cons, ← ih, Nat.succ_mul, Nat.add_comm, List.drop_append, henc, List.drop_of_length_le (by rw [henc]; omega), List.nil_append]; congr 1; omega
end
theorem RA.reads {α : Type} {enc : α → List Value} {s : Nat} {w : World} {B n : Nat} {A : Option Addr} {xs : List α} (h : RA enc s w B A n xs) : Reads w B s A n (xs.flatMap enc) := h.2
theorem pts_oneCell (xs : List (Int × Int)) : ∀ u ∈ xs.flatMap pt, u.oneCell' = true := by
  intro u hu
  obtain ⟨p, _, hp⟩ := List.mem_flatMap.1 hu
  simp only [pt, List.mem_cons, List.not_mem_nil, or_false] at hp
  rcases hp with rfl | rfl <;> rfl
end Go.Proofs.Ytacgcagpaecncaa
namespace Go.Proofs.Ytacgcagpaecncaa
open Go.RowKit
set_option maxHeartbeats 400000
set_option maxRecDepth 100000
def M.dropP {α : Type} (xs : List α) (k : Nat) : List α := xs.take k ++ xs.drop (k + 1)
theorem M.dropP_len {α : Type} (xs : List α) {k : Nat} (hk : k < xs.length) : (M.dropP xs k).length = xs.length - 1 := by
  rw [M.dropP, List.length_append, List.length_take, List.length_drop]
  omega
def M.dropR (xs : List (Int × Int)) (k : Int) : List (Int × Int) × Int :=
  if M.curveOk xs then (if M.inn k 0 ((xs.length : Int) - 1) then (if xs.length = 1 then ([], 6) else (M.dropP xs k.toNat, 0)) else ([], 2)) else ([], 1)
theorem RA.cut {α : Type} {enc : α → List Value} {s B n c k : Nat} {w : World} {A : Option Addr} {xs : List α} (henc : ∀ x, (enc x).length = s) (h : RA enc s w B A n xs) (hk : k ≤ n) (hc : n ≤ c) :
    RA enc s w B (if c = k then A else A.map (·.add (k * s))) (n - k) (xs.drop k) := by
  refine ⟨by rw [List.length_drop, h.1], ?_⟩
  rw [← flat_drop henc]
  exact Reads.cut h.2 hk hc
theorem RA.head {α : Type} {enc : α → List Value} {s B n k : Nat} {w : World} {A : Option Addr} {xs : List α} (henc : ∀ x, (enc x).length = s) (h : RA enc s w B A n xs) (hk : k ≤ n) : RA enc s w B A k (xs.take k) := by
  refine ⟨by rw [List.length_take, h.1]; omega, by rw [flat_len henc, List.length_take, h.1, Nat.min_eq_left hk], fun h0 => ?_⟩
  obtain ⟨ad, e, hb, hc⟩ := h.2.2 (by omega)
  refine ⟨ad, e, hb, fun j u hu => hc j u ?_⟩
  rw [← flat_take henc, List.getElem?_take] at hu
  split at hu
  · exact hu
  · simp at hu
end Go.Proofs.Ytacgcagpaecncaa
namespace Go.Proofs.Ytacgcagpaecncaa
open Go.RowKit
set_option maxHeartbeats 400000
set_option maxRecDepth 100000
end Go.Proofs.Ytacgcagpaecncaa
namespace Go.Proofs.Ytacgcagpaecncaa
open Go.RowKit
set_option maxHeartbeats 400000
theorem M.curve_iff (xs : List (Int × Int)) : M.curveOk xs = true ↔ (∀ p ∈ xs, M.ptOk p = true) ∧ xs.Pairwise (fun p q => p.1 < q.1) ∧ 1 ≤ xs.length ∧ xs.length ≤ 24 := by
  constructor
  · intro h
    have hl := M.curve_len h
    refine ⟨fun p hp => ?_, ?_, hl⟩
    · obtain ⟨i, hi, rfl⟩ := List.getElem_of_mem hp
      have h1 := M.curve_step h hi
      rw [M.stepOk, Bool.and_eq_true, List.getElem?_eq_getElem hi] at h1
      exact h1.1
    · rw [List.pairwise_iff_getElem]
      have key : ∀ d i (hi : i < xs.length) (hj : i + d + 1 < xs.length), (xs[i]).1 < (xs[i + d + 1]).1 := by
        intro d
        induction d with
        | zero => intro i hi hj; exact M.curve_lt h (k := i + 1) (by omega) (by simp [hi]) (List.getElem?_eq_getElem hj)
        | succ d ih =>
          intro i hi hj
          have h1 := ih i hi (by omega)
          have h2 := M.curve_lt h (k := i + d + 1 + 1) (by omega) (by rw [Nat.add_sub_cancel]; exact List.getElem?_eq_getElem (by omega)) (List.getElem?_eq_getElem (i := i + d + 1 + 1) (by omega))
          have e : i + (d + 1) + 1 = i + d + 1 + 1 := by omega
          simp only [e]
          omega
      intro i j hi hj hij
      have := key (j - i - 1) i hi (by omega)
      have e : i + (j - i - 1) + 1 = j := by omega
      simpa only [e] using this
  · rintro ⟨h1, h2, h3, h4⟩
    rw [M.curveOk, Bool.and_eq_true, M.inn_iff, List.all_eq_true]
    refine ⟨fun k hk => ?_, by omega⟩
    have hk := List.mem_range.1 hk
    rw [M.stepOk, Bool.and_eq_true, List.getElem?_eq_getElem hk]
    refine ⟨h1 _ (List.getElem_mem hk), ?_⟩
    rw [M.after, Bool.or_eq_true]
    by_cases h0 : k = 0
    · left; simp [h0]
    · right
      rw [List.getElem?_eq_getElem hk, List.getElem?_eq_getElem (by omega)]
      have := List.pairwise_iff_getElem.1 h2 (k - 1) k (by omega) hk (by omega)
      simpa using this
theorem M.dropP_split {α : Type} {xs : List α} {k : Nat} (hk : k < xs.length) : xs = xs.take k ++ xs[k] :: xs.drop (k + 1) := by
  rw [← List.drop_eq_getElem_cons hk, List.take_append_drop]
theorem M.dropP_sub {α : Type} (xs : List α) (k : Nat) : (M.dropP xs k).Sublist xs := by
  by_cases hk : k < xs.length
  · conv => rhs; rw [M.dropP_split hk]
    exact List.Sublist.append (List.Sublist.refl _) (List.sublist_cons_self _ _)
  · rw [M.dropP, List.drop_eq_nil_of_le (by omega), List.append_nil, List.take_of_length_le (by omega)]
    exact List.Sublist.refl _
theorem M.dropP_ok {xs : List (Int × Int)} {k : Nat} (h : M.curveOk xs = true) (hk : k < xs.length) (h1 : 1 < xs.length) : M.curveOk (M.dropP xs k) = true := by
  rw [M.curve_iff] at h ⊢
  have hs := M.dropP_sub xs k
  rw [M.dropP_len xs hk]
  exact ⟨fun p hp => h.1 p (hs.subset hp), List.Pairwise.sublist hs h.2.1, by omega, by omega⟩
/-- Before the last point of 'a' nothing behind it counts. -/
theorem M.atGo_front (a : List (Int × Int)) (bs cs : List (Int × Int)) (t : Int) (h : ∃ q ∈ a, t < q.1) : ∀ p, M.atGo p (a ++ bs) t = M.atGo p (a ++ cs) t := by
  induction a with
  | nil => obtain ⟨q, hq, _⟩ := h; simp at hq
  | cons x a ih =>
    intro p
    simp only [List.cons_append, M.atGo]
    by_cases hx : t < x.1
    · rw [if_pos hx, if_pos hx]
    · rw [if_neg hx, if_neg hx]
      refine ih ?_ x
      obtain ⟨q, hq, hlt⟩ := h
      rcases List.mem_cons.1 hq with rfl | hq
      · exact absurd hlt hx
      · exact ⟨q, hq, hlt⟩
theorem M.atC_front (a : List (Int × Int)) (bs cs : List (Int × Int)) (t : Int) (h : ∃ q ∈ a, t < q.1) : M.atC (a ++ bs) t = M.atC (a ++ cs) t := by
  cases a with
  | nil => obtain ⟨q, hq, _⟩ := h; simp at hq
  | cons x a =>
    simp only [List.cons_append, M.atC]
    by_cases hx : t < x.1
    · rw [if_pos hx, if_pos hx]
    · rw [if_neg hx, if_neg hx]
      refine M.atGo_front a bs cs t ?_ x
      obtain ⟨q, hq, hlt⟩ := h
      rcases List.mem_cons.1 hq with rfl | hq
      · exact absurd hlt hx
      · exact ⟨q, hq, hlt⟩
/-- From b on nothing before it counts. -/
theorem M.atGo_back (a : List (Int × Int)) (b : Int × Int) (bs : List (Int × Int)) (t : Int) (ha : ∀ q ∈ a, ¬ t < q.1) (hb : ¬ t < b.1) : ∀ p, M.atGo p (a ++ b :: bs) t = M.atGo b bs t := by
  induction a with
  | nil => intro p; rw [List.nil_append, M.atGo, if_neg hb]
  | cons x a ih =>
    intro p
    rw [List.cons_append, M.atGo, if_neg (ha x (by simp))]
    exact ih (fun q hq => ha q (by simp [hq])) x
theorem M.atC_back (a : List (Int × Int)) (b : Int × Int) (bs : List (Int × Int)) (t : Int) (ha : ∀ q ∈ a, ¬ t < q.1) (hb : ¬ t < b.1) : M.atC (a ++ b :: bs) t = M.atGo b bs t := by
  cases a with
  | nil => rw [List.nil_append, M.atC, if_neg hb]
  | cons x a =>
    rw [List.cons_append, M.atC, if_neg (ha x (by simp))]
    exact M.atGo_back a b bs t (fun q hq => ha q (by simp [hq])) hb x
def M.from (xs : List (Int × Int)) (k : Nat) : Int := if 0 < k then ((xs[k - 1]?).getD (0, 0)).1 else 0
def M.to (xs : List (Int × Int)) (k : Nat) : Int := if k + 1 < xs.length then ((xs[k + 1]?).getD (0, 0)).1 else 4000
theorem M.from_bd {xs : List (Int × Int)} {k : Nat} (h : M.curveOk xs = true) (hk : k < xs.length) : 0 ≤ M.from xs k ∧ M.from xs k ≤ 4000 := by
  unfold M.from
  split
  · rw [List.getElem?_eq_getElem (by omega)]
    have := (M.curve_pt h (List.getElem?_eq_getElem (l := xs) (i := k - 1) (by omega))).1
    exact this
  · omega
theorem M.to_bd {xs : List (Int × Int)} {k : Nat} (h : M.curveOk xs = true) : 0 ≤ M.to xs k ∧ M.to xs k ≤ 4000 := by
  unfold M.to
  split
  · rename_i hk
    rw [List.getElem?_eq_getElem hk]
    exact (M.curve_pt h (List.getElem?_eq_getElem hk)).1
  · omega
/-- Outside of the neighbours nothing changes. -/
theorem M.drop_out {xs : List (Int × Int)} {k : Nat} (h : M.curveOk xs = true) (hk : k < xs.length) {t : Int} (h0 : 0 ≤ t) (h4 : t ≤ 4000) (ht : t < M.from xs k ∨ M.to xs k < t) : M.atC xs t = M.atC (M.dropP xs k) t := by
  have hs := M.dropP_split hk
  have hp := ((M.curve_iff xs).1 h).2.1
  rcases ht with ht | ht
  · unfold M.from at ht
    split at ht
    · rename_i hk0
      rw [List.getElem?_eq_getElem (by omega)] at ht
      conv => lhs; rw [hs]
      exact M.atC_front _ _ _ t ⟨xs[k - 1]'(by omega), by rw [List.mem_take_iff_getElem]; exact ⟨k - 1, by omega, rfl⟩, ht⟩
    · omega
  · unfold M.to at ht
    split at ht
    · rename_i hk1
      rw [List.getElem?_eq_getElem hk1] at ht
      have hd : xs.drop (k + 1) = xs[k + 1] :: xs.drop (k + 1 + 1) := List.drop_eq_getElem_cons hk1
      have hb : ¬ t < (xs[k + 1]).1 := by simp at ht; omega
      have hle : ∀ q ∈ xs.take (k + 1), ¬ t < q.1 := by
        intro q hq
        obtain ⟨i, hi, rfl⟩ := List.mem_take_iff_getElem.1 hq
        have := List.pairwise_iff_getElem.1 hp i (k + 1) (by omega) hk1 (by omega)
        omega
      have e1 : M.atC xs t = M.atGo xs[k + 1] (xs.drop (k + 1 + 1)) t := by
        conv => lhs; rw [show xs = xs.take (k + 1) ++ xs[k + 1] :: xs.drop (k + 1 + 1) from M.dropP_split hk1]
        exact M.atC_back _ _ _ t hle hb
      rw [e1, M.dropP, hd, M.atC_back _ _ _ t (fun q hq => hle q ((List.take_subset_take_left xs (by omega)) hq)) hb]
    · omega
def M.idle (xs : List (Int × Int)) (k : Nat) : Bool := decide (1 < xs.length) && decide (M.rend (M.dropP xs k) 4001 = M.rend xs 4001)
theorem M.rend_eq {xs ys : List (Int × Int)} {m : Nat} : M.rend xs m = M.rend ys m ↔ ∀ i : Nat, i < m → M.atC xs (i : Int) = M.atC ys (i : Int) := by
  constructor
  · intro h i hi
    have h1 := M.rend_at (xs := xs) hi
    rw [h, M.rend_at hi] at h1
    injection h1 with h1
    exact h1.symm
  · intro h
    apply List.ext_getElem?
    intro i
    by_cases hi : i < m
    · rw [M.rend_at hi, M.rend_at hi, h i hi]
    · rw [List.getElem?_eq_none (by rw [M.rend_len]; omega), List.getElem?_eq_none (by rw [M.rend_len]; omega)]
theorem M.idle_iff {xs : List (Int × Int)} {k : Nat} (h : M.curveOk xs = true) (hk : k < xs.length) (h1 : 1 < xs.length) : M.idle xs k = true ↔ ∀ t : Int, M.from xs k ≤ t → t ≤ M.to xs k → M.atC xs t = M.atC (M.dropP xs k) t := by
  have hf := M.from_bd h hk
  have ht := M.to_bd (k := k) h
  rw [M.idle, decide_eq_true h1, Bool.true_and, decide_eq_true_iff, M.rend_eq]
  constructor
  · intro g t h2 h3
    have := g t.toNat (by omega)
    rw [Int.toNat_of_nonneg (by omega)] at this
    exact this.symm
  · intro g i hi
    by_cases h2 : (i : Int) < M.from xs k ∨ M.to xs k < i
    · exact (M.drop_out h hk (by omega) (by omega) h2).symm
    · exact (g i (by omega) (by omega)).symm
end Go.Proofs.Ytacgcagpaecncaa
namespace Go.Proofs.Ytacgcagpaecncaa
open Go.RowKit
set_option maxHeartbeats 1000000
set_option maxRecDepth 100000
end Go.Proofs.Ytacgcagpaecncaa
namespace Go.Proofs.Ytacgcagpaecncaa
open Go.RowKit
set_option maxHeartbeats 1000000
set_option maxRecDepth 100000
def M.thinGo (xs : List (Int × Int)) (k : Nat) : List (Int × Int) :=
  if h : k < xs.length then (if M.idle xs k then M.thinGo (M.dropP xs k) 0 else M.thinGo xs (k + 1)) else xs
termination_by (xs.length, xs.length - k)
decreasing_by
  · rw [M.dropP_len xs h]
    exact Prod.Lex.left _ _ (by omega)
  · exact Prod.Lex.right _ (by omega)
def M.thinR (xs : List (Int × Int)) : List (Int × Int) × Int := if M.curveOk xs then (M.thinGo xs 0, 0) else ([], 1)
theorem M.thin_yes {xs : List (Int × Int)} {k : Nat} (h : k < xs.length) (hi : M.idle xs k = true) : M.thinGo xs k = M.thinGo (M.dropP xs k) 0 := by
  rw [M.thinGo, dif_pos h, if_pos hi]
theorem M.thin_no {xs : List (Int × Int)} {k : Nat} (h : k < xs.length) (hi : M.idle xs k = false) : M.thinGo xs k = M.thinGo xs (k + 1) := by
  rw [M.thinGo, dif_pos h, if_neg (by rw [hi]; exact Bool.false_ne_true)]
theorem M.thin_end {xs : List (Int × Int)} {k : Nat} (h : ¬ k < xs.length) : M.thinGo xs k = xs := by
  rw [M.thinGo, dif_neg h]
theorem M.thin_one {xs : List (Int × Int)} {k : Nat} (h : xs.length ≤ 1) : M.thinGo xs k = xs := by
  by_cases hk : k < xs.length
  · rw [M.thin_no hk (by rw [M.idle, decide_eq_false (by omega)]; rfl), M.thin_end (by omega)]
  · exact M.thin_end hk
theorem M.idle_len {xs : List (Int × Int)} {k : Nat} (h : M.idle xs k = true) : 1 < xs.length := by
  rw [M.idle, Bool.and_eq_true, decide_eq_true_iff] at h
  exact h.1
theorem M.idle_rend {xs : List (Int × Int)} {k : Nat} (h : M.idle xs k = true) : M.rend (M.dropP xs k) 4001 = M.rend xs 4001 := by
  rw [M.idle, Bool.and_eq_true, decide_eq_true_iff, decide_eq_true_iff] at h
  exact h.2
theorem M.thin_len : ∀ (xs : List (Int × Int)) (k : Nat), (M.thinGo xs k).length ≤ xs.length := by
  intro xs k
  induction xs, k using M.thinGo.induct with
  | case1 xs k hk hi ih => rw [M.thin_yes hk hi]; rw [M.dropP_len xs hk] at ih; omega
  | case2 xs k hk hi ih => rw [M.thin_no hk (by simpa using hi)]; exact ih
  | case3 xs k hk => rw [M.thin_end hk]; exact Nat.le_refl _
/-- How a list stands in the course of the thinning of xs. -/
def M.thinIn (xs cur : List (Int × Int)) (k : Nat) : Prop := M.curveOk cur = true ∧ M.thinGo cur k = M.thinGo xs 0 ∧ M.rend cur 4001 = M.rend xs 4001
theorem M.thinIn_yes {xs cur : List (Int × Int)} {k : Nat} (h : M.thinIn xs cur k) (hk : k < cur.length) (hi : M.idle cur k = true) : M.thinIn xs (M.dropP cur k) 0 :=
  ⟨M.dropP_ok h.1 hk (M.idle_len hi), by rw [← M.thin_yes hk hi]; exact h.2.1, by rw [M.idle_rend hi]; exact h.2.2⟩
theorem M.thinIn_no {xs cur : List (Int × Int)} {k : Nat} (h : M.thinIn xs cur k) (hk : k < cur.length) (hi : M.idle cur k = false) : M.thinIn xs cur (k + 1) :=
  ⟨h.1, by rw [← M.thin_no hk hi]; exact h.2.1, h.2.2⟩
def sliceLen : Value → Nat
  | .slice _ n _ => n
  | _ => 0
def lenAt (w : World) (a : Addr) : Nat := match w.cell? a with
  | some v => sliceLen v
  | none => 0
theorem lenAt_eq {w : World} {a : Addr} {A : Option Addr} {n c : Nat} (h : w.cell? a = some (.slice A n c)) : lenAt w a = n := by simp [lenAt, h, sliceLen]
theorem impl_same (A A' : Option Addr) (n c n' c' : Nat) (xs ys : List Int) (w : World) (hx : RI w w.heap.size A n xs) (hy : RI w w.heap.size A' n' ys) (hn : n ≤ 1000000000) :
    Calls Try.prog 24 #[.slice A n c, .slice A' n' c'] w fun e w' => e = .returned (.bool (decide (xs = ys))) ∧ Below w.heap.size w w' := by
  have hl := Lib.hid hx.len
  have hl' := Lib.hid hy.len
  by_cases hnn : n = n'
  · subst hnn
    go_enter Try.func24, Try.ntmps24
    go_wp2
    go_loop [5, 6, 14] (fun _ _ i => ∃ k : Nat, i = .int .i64 k ∧ k ≤ n ∧ Hid (xs.take k = ys.take k)) (fun _ _ i => n - (intOf i).toNat)
    case atStart => exact ⟨0, rfl, by omega, Lib.hid (by simp)⟩
    case round =>
      obtain ⟨k, rfl, hk, H⟩ := hrel
      by_cases hlt : k < n
      · obtain ⟨ad, x, rfl, hab, X, hc⟩ := hx.at hlt
        obtain ⟨ad', y, rfl, hab', Y, hc'⟩ := hy.at hlt
        by_cases hxy : x = y
        · subst hxy
          go_wp2
          go_round
          case rel => exact ⟨k + 1, by go_num, by omega, Lib.hid (by rw [M.take_at X.out, M.take_at Y.out, H.out])⟩
          case measure => simp [intOf]; omega
        · have hne : (x != y) = true := by simpa using hxy
          have hno := Lib.hid (show ¬ xs = ys from fun e => by have h1 := X.out; rw [e, Y.out] at h1; injection h1 with h1; exact hxy h1.symm)
          go_wp2
          go_ret
          exact ⟨ret_bool (by simp [hno.out]), Below.refl _ _⟩
      · go_wp2
        go_ret
        have h1 : xs = ys := by have := H.out; rwa [List.take_of_length_le (by rw [hl.out]; omega), List.take_of_length_le (by rw [hl'.out]; omega)] at this
        exact ⟨ret_bool (by simp [h1]), Below.refl _ _⟩
  · have hne := Lib.hid (show ¬ xs = ys from fun e => hnn (by rw [← hl.out, ← hl'.out, e]))
    go_enter Try.func24, Try.ntmps24
    go_wp2
    go_ret
    exact ⟨ret_bool (by simp [hne.out]), Below.refl _ _⟩
end Go.Proofs.Ytacgcagpaecncaa
namespace Go.Proofs.Ytacgcagpaecncaa
open Go.RowKit Go.Sort
set_option maxHeartbeats 1000000
set_option maxRecDepth 100000
abbrev Clip := Int × Int × Int × Int × Int
def M.clipOk (p : Clip) : Bool := M.inn p.1 0 5 && M.inn p.2.2.1 1 4000 && M.inn p.2.1 0 (4000 - p.2.2.1) && M.inn p.2.2.2.1 0 (4000 - p.2.2.1) && M.smp p.2.2.2.2
def M.cz : Clip := (0, 0, 0, 0, 0)
def M.afterT (xs : List Clip) (k : Nat) : Bool := k == 0 || decide (((xs[k - 1]?).getD M.cz).2.2.2.1 ≤ ((xs[k]?).getD M.cz).2.2.2.1)
def M.stepT (xs : List Clip) (k : Nat) : Bool := M.clipOk ((xs[k]?).getD M.cz) && M.afterT xs k
def M.trackOk (xs : List Clip) : Bool := (List.range xs.length).all (M.stepT xs) && decide (xs.length ≤ 12)
theorem M.len_wrap {l : Int} (h : M.inn l 1 4000 = true) : IntKind.i64.wrap (4000 - l) = 4000 - l ∧ 1 ≤ l ∧ l ≤ 4000 := by
  have := M.inn_iff.1 h
  exact ⟨IntWalk.i64_in _ (by omega), this⟩
end Go.Proofs.Ytacgcagpaecncaa
