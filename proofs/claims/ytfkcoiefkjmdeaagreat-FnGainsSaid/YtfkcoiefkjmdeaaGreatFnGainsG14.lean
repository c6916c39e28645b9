import Derived.Test.YtfkcoiefkjmdeaaGreatFnGainsG13
import Derived.Test.YtfkcoiefkjmdeaaGreatFnGainsG11
import Derived.Test.YtfkcoiefkjmdeaaGreatFnGainsG7
import Derived.Deep.DeepCutAuto
import Derived.StillTail
import Derived.Deep.Quiet
import Derived.BigQuiet
import Derived.Lib.QuietBelow
import Derived.StillTailTactics
import Derived.Test.YtfkcoiefkjmdeaaGreatFnGainsG12
import Derived.Test.YtfkcoiefkjmdeaaGreatFnGainsG9
import Derived.Test.YtfkcoiefkjmdeaaGreatFnGainsG3
import Derived.Test.YtfkcoiefkjmdeaaGreatFnGainsG1
import Derived.Deep.Slices
import Derived.Deep.Fields
import Derived.ChangeSame
import Derived.Lib.SmallJoins
set_option linter.unusedVariables false
set_option linter.unusedSimpArgs false
namespace Go.Proofs.YtfkcoiefkjmdeaaGreat
open Go.RowKit Go.Sort
set_option maxHeartbeats 1000000
set_option linter.unusedVariables false
set_option linter.unusedSimpArgs false
/-! Linear effects: what is rendered of a sum is the sum. Plain. -/
/-- Equal modulo 2^32. -/
def M.cg (a b : Int) : Prop := ∃ k, a = b + 4294967296 * k
theorem M.w00 : (0 : Int) = wrap32 (0 + 0) := by unfold wrap32; omega
theorem M.cg.rfl' (a : Int) : M.cg a a := ⟨0, by omega⟩
theorem M.cg.of {a b : Int} (h : a = b) : M.cg a b := ⟨0, by omega⟩
theorem M.cg.wrap (a : Int) : M.cg (wrap32 a) a := M.wrap32_eq a
theorem M.cg.symm {a b : Int} (h : M.cg a b) : M.cg b a := by obtain ⟨k, rfl⟩ := h; exact ⟨-k, by omega⟩
theorem M.cg.trans {a b c : Int} (h : M.cg a b) (h' : M.cg b c) : M.cg a c := by obtain ⟨k, rfl⟩ := h; obtain ⟨l, rfl⟩ := h'; exact ⟨k + l, by omega⟩
theorem M.cg.add {a b c d : Int} (h : M.cg a b) (h' : M.cg c d) : M.cg (a + c) (b + d) := by obtain ⟨k, rfl⟩ := h; obtain ⟨l, rfl⟩ := h'; exact ⟨k + l, by omega⟩
theorem M.cg.sub {a b c d : Int} (h : M.cg a b) (h' : M.cg c d) : M.cg (a - c) (b - d) := by obtain ⟨k, rfl⟩ := h; obtain ⟨l, rfl⟩ := h'; exact ⟨k - l, by omega⟩
theorem M.cg.mulr {a b : Int} (h : M.cg a b) (g : Int) : M.cg (a * g) (b * g) := by
  obtain ⟨k, rfl⟩ := h
  exact ⟨k * g, by rw [Int.add_mul, Int.mul_assoc]⟩
theorem M.cg.mull {a b : Int} (h : M.cg a b) (g : Int) : M.cg (g * a) (g * b) := by
  rw [Int.mul_comm g a, Int.mul_comm g b]
  exact h.mulr g
theorem M.cg.wr {a b : Int} (h : M.cg a b) : wrap32 a = wrap32 b := by obtain ⟨k, h⟩ := h; exact M.wrap32_cong k h
theorem M.cg.eq {a b : Int} (h : M.cg a b) (ha : M.smp a = true) (hb : M.smp b = true) : a = b := by rw [← M.wrap32_of a ha, ← M.wrap32_of b hb]; exact h.wr
theorem M.at_i (xs : List Int) (i : Int) : M.at_ xs i = if 0 ≤ i then M.i_ xs i.toNat else 0 := by
  unfold M.at_ M.i_
  by_cases h : 0 ≤ i
  · by_cases h2 : i < xs.length
    · rw [if_pos ⟨h, h2⟩, if_pos h]
    · rw [if_neg (fun e => h2 e.2), if_pos h, List.getElem?_eq_none (by omega)]; rfl
  · rw [if_neg (fun e => h e.1), if_neg h]
theorem M.at_n (xs : List Int) (i : Nat) : M.at_ xs (i : Int) = M.i_ xs i := by rw [M.at_i, if_pos (by omega), Int.toNat_natCast]
theorem M.i_range (f : Nat → Int) (n j : Nat) : M.i_ ((List.range n).map f) j = if j < n then f j else 0 := by
  unfold M.i_
  by_cases h : j < n <;> simp [h]
theorem M.i_out {xs : List Int} {j : Nat} (h : xs.length ≤ j) : M.i_ xs j = 0 := by rw [M.i_, List.getElem?_eq_none h]; rfl
theorem M.i_zeros (n j : Nat) : M.i_ (List.replicate n 0) j = 0 := by
  rw [M.i_, List.getElem?_replicate]
  split <;> rfl
theorem M.i_late (a : List Int) (b : Int) (n j : Nat) : M.i_ (M.late a b n) j = if j < n then M.at_ a ((j : Int) - b) else 0 := by rw [M.late, M.i_range]
theorem M.i_sl (a : List Int) (f : Int) (n j : Nat) : M.i_ (M.sl a f n) j = if j < n then M.at_ a (f + j) else 0 := by rw [M.sl, M.i_range]
theorem M.i_addS (xs ys : List Int) (g : Int) (j : Nat) : M.i_ (M.addS xs ys g) j = wrap32 (M.i_ xs j + M.i_ ys j * g) := by
  rw [M.addS, M.i_range]
  split
  · rw [M.at_n, M.at_n]
  · rename_i h
    rw [M.i_out (by omega), M.i_out (by omega), Int.zero_mul]; exact M.w00
/-- c is a + b, number by number. -/
def M.Sm (a b c : List Int) : Prop := ∀ j, M.i_ c j = wrap32 (M.i_ a j + M.i_ b j)
structure M.Ad (n : Nat) (a b c : List Int) : Prop where
  la : a.length = n
  lb : b.length = n
  lc : c.length = n
  sm : M.Sm a b c
theorem M.Ad.at {n : Nat} {a b c : List Int} (h : M.Ad n a b c) (i : Int) : M.at_ c i = wrap32 (M.at_ a i + M.at_ b i) := by
  rw [M.at_i, M.at_i, M.at_i]
  split
  · exact h.sm _
  · exact M.w00
theorem M.Ad.late {m : Nat} {a b c : List Int} (h : M.Ad m a b c) (d : Int) (n : Nat) : M.Ad n (M.late a d n) (M.late b d n) (M.late c d n) := by
  refine ⟨M.late_len _ _ _, M.late_len _ _ _, M.late_len _ _ _, fun j => ?_⟩
  rw [M.i_late, M.i_late, M.i_late]
  split
  · exact h.at _
  · exact M.w00
theorem M.Ad.sl {m : Nat} {a b c : List Int} (h : M.Ad m a b c) (d : Int) (n : Nat) : M.Ad n (M.sl a d n) (M.sl b d n) (M.sl c d n) := by
  refine ⟨M.sl_len _ _ _, M.sl_len _ _ _, M.sl_len _ _ _, fun j => ?_⟩
  rw [M.i_sl, M.i_sl, M.i_sl]
  split
  · exact h.at _
  · exact M.w00
theorem M.Ad.add {n : Nat} {a b c a' b' c' : List Int} (h : M.Ad n a b c) (k : M.Ad n a' b' c') (g : Int) : M.Ad n (M.addS a a' g) (M.addS b b' g) (M.addS c c' g) := by
  refine ⟨by rw [M.addS_len, h.la, k.la, Nat.max_self], by rw [M.addS_len, h.lb, k.lb, Nat.max_self], by rw [M.addS_len, h.lc, k.lc, Nat.max_self], fun j => ?_⟩
  rw [M.i_addS, M.i_addS, M.i_addS, h.sm j, k.sm j]
  refine M.cg.wr (((M.cg.wrap _).add ((M.cg.wrap _).mulr g)).trans (M.cg.trans ?_ ((M.cg.wrap _).add (M.cg.wrap _)).symm))
  exact M.cg.of (by rw [Int.add_mul]; omega)
theorem M.Ad.zero (n : Nat) : M.Ad n (List.replicate n 0) (List.replicate n 0) (List.replicate n 0) := by
  refine ⟨by simp, by simp, by simp, fun j => ?_⟩
  rw [M.i_zeros]; exact M.w00
structure M.Sl (a b c : List Int) : Prop where
  ab : a.length = b.length
  bc : b.length = c.length
  sm : M.Sm a b c
theorem M.Sl.set {a b c : List Int} (h : M.Sl a b c) (k : Nat) {x y z : Int} (e : z = wrap32 (x + y)) : M.Sl (a.set k x) (b.set k y) (c.set k z) := by
  refine ⟨by rw [List.length_set, List.length_set]; exact h.ab, by rw [List.length_set, List.length_set]; exact h.bc, fun j => ?_⟩
  have h1 := h.ab
  have h2 := h.bc
  by_cases hk : k = j
  · subst hk
    by_cases hlt : k < a.length
    · rw [M.i_set_eq (by omega), M.i_set_eq hlt, M.i_set_eq (by omega)]; exact e
    · rw [M.i_out (by rw [List.length_set]; omega), M.i_out (by rw [List.length_set]; omega), M.i_out (by rw [List.length_set]; omega)]; exact M.w00
  · rw [M.i_set_ne hk, M.i_set_ne hk, M.i_set_ne hk]; exact h.sm j
theorem M.i_push (s : List Int) (y : Int) (j : Nat) : M.i_ (s.drop 1 ++ [y]) j = if j < s.length - 1 then M.i_ s (j + 1) else if j = s.length - 1 then y else 0 := by
  unfold M.i_
  by_cases h : j < s.length - 1
  · rw [if_pos h, List.getElem?_append_left (by rw [List.length_drop]; exact h), List.getElem?_drop, Nat.add_comm 1 j]
  · rw [if_neg h, List.getElem?_append_right (by rw [List.length_drop]; omega), List.length_drop]
    by_cases h2 : j = s.length - 1
    · rw [if_pos h2, h2, Nat.sub_self]; rfl
    · rw [if_neg h2, List.getElem?_eq_none (by simp; omega)]; rfl
theorem M.Sl.push {a b c : List Int} (h : M.Sl a b c) {x y z : Int} (e : z = wrap32 (x + y)) : M.Sl (a.drop 1 ++ [x]) (b.drop 1 ++ [y]) (c.drop 1 ++ [z]) := by
  have h1 := h.ab
  have h2 := h.bc
  refine ⟨by simp; omega, by simp; omega, fun j => ?_⟩
  rw [M.i_push, M.i_push, M.i_push, ← h2, ← h1]
  split
  · exact h.sm _
  · split
    · exact e
    · exact M.w00
theorem M.Sl.one {x y z : Int} (e : z = wrap32 (x + y)) : M.Sl [x] [y] [z] := by
  refine ⟨rfl, rfl, fun j => ?_⟩
  cases j with
  | zero => exact e
  | succ j => exact M.w00
theorem M.Sl.nil : M.Sl [] [] [] := ⟨rfl, rfl, fun j => M.w00⟩
section
variable {ns : List Node} {tb : List (List Int)} {O : List Int}
/-- All nodes are linear. -/
def M.allLin (ns : List Node) : Prop := ∀ (i : Nat) (x : Node), ns[i]? = some x → M.lin x.1 = true
variable {n : Nat} {x1 x2 x3 : List Int}
end
/-- Lists of signals. -/
structure M.AdL (m n : Nat) (a b c : List (List Int)) : Prop where
  la : a.length = m
  lb : b.length = m
  lc : c.length = m
  at_ : ∀ k, k < m → M.Ad n (M.cel a k) (M.cel b k) (M.cel c k)
theorem M.AdL.add {m n : Nat} {a b c : List (List Int)} (h : M.AdL m n a b c) {k : Nat} {x y z : List Int} (ha : M.Ad n x y z) (g : Int) : M.AdL m n (M.addAt a k x g) (M.addAt b k y g) (M.addAt c k z g) := by
  unfold M.addAt
  refine ⟨by rw [List.length_set]; exact h.la, by rw [List.length_set]; exact h.lb, by rw [List.length_set]; exact h.lc, fun i hi => ?_⟩
  by_cases hk : k = i
  · subst hk
    rw [M.cel_set_eq (by rw [h.la]; exact hi), M.cel_set_eq (by rw [h.lb]; exact hi), M.cel_set_eq (by rw [h.lc]; exact hi)]
    exact (h.at_ k hi).add ha g
  · rw [M.cel_set_ne hk, M.cel_set_ne hk, M.cel_set_ne hk]
    exact h.at_ i hi
theorem M.cel_reps (m : Nat) (x : List Int) {k : Nat} (h : k < m) : M.cel (List.replicate m x) k = x := by simp [M.cel, List.getElem?_replicate, h]
section
variable {L : Nat} {src : List (List Int)} {t1 t2 t3 : List (List Clip_)} {fs : List Int} {ps : List Patch} {ms : List Strip}
variable (hps : ps.length = ms.length) (hef : ∀ p ∈ ps, M.effOk p = true ∧ M.allLin p.2.2.1)
include hps hef
end
theorem M.mem_one (k i : Nat) : M.mem [(k : Int)] (i : Int) = decide (i = k) := by
  simp [M.mem]
  by_cases h : i = k
  · simp [h]
  · have : ¬ (k : Int) = (i : Int) := by omega
    simp [h, this]
theorem M.tra_one (k : Nat) (xs : List (List Clip_)) (t : Nat) : M.tra (M.muteK [(k : Int)] xs.length xs) t = if t = k then M.tra xs t else [] := by
  unfold M.tra M.muteK
  rw [List.getElem?_mapIdx]
  by_cases ht : t < xs.length
  · rw [List.getElem?_eq_getElem ht]
    simp only [Option.map_some, Option.getD_some, ht, true_and, M.mem_one]
    by_cases h : t = k
    · simp [h]
    · simp [h]
  · simp [List.getElem?_eq_none (Nat.le_of_not_lt ht)]
theorem M.renT_all (src : List (List Int)) (xs : List Clip_) (n : Nat) : (M.renT src xs n).all M.smp = true := by
  rw [M.renT, List.all_map, List.all_eq_true]
  intro t _
  exact M.smp_wrap _
section
variable {L : Nat} {src : List (List Int)} {ts : List (List Clip_)} {fs : List Int} {ps : List Patch} {ms : List Strip}
end
end Go.Proofs.YtfkcoiefkjmdeaaGreat
namespace Go.Proofs.YtfkcoiefkjmdeaaGreat
open Go.RowKit
set_option maxHeartbeats 1000000
/-- One send adds to the sum of strip i. -/
def M.sumSend (f : Int × Int → Int) (i : Nat) (acc : List Int) (p : Int × Int) : List Int := acc.set i (wrap32 ((acc[i]?).getD 0 + f p * (acc[p.1.toNat]?).getD 0))
/-- The sums after t strips, from the last but one down. -/
def M.sumN (xs : List Strip) (f : Int × Int → Int) : Nat → List Int
  | 0 => (List.replicate xs.length 0).set (xs.length - 1) 1
  | t + 1 => ((xs[xs.length - 2 - t]?).getD M.sz).2.2.foldl (M.sumSend f (xs.length - 2 - t)) (M.sumN xs f t)
def M.sumS (xs : List Strip) (f : Int × Int → Int) (t : Nat) (us : List (Int × Int)) (j : Nat) : List Int := (us.take j).foldl (M.sumSend f (xs.length - 2 - t)) (M.sumN xs f t)
def M.sums (xs : List Strip) (f : Int × Int → Int) : List Int := M.sumN xs f (xs.length - 1)
def M.gainF : Int × Int → Int := fun p => p.2
theorem M.sumFold_len (f : Int × Int → Int) (i : Nat) (us : List (Int × Int)) : ∀ acc, (us.foldl (M.sumSend f i) acc).length = acc.length := by
  induction us with
  | nil => intro acc; rfl
  | cons u us ih => intro acc; rw [List.foldl_cons, ih]; simp [M.sumSend]
theorem M.sumN_len (xs : List Strip) (f : Int × Int → Int) : ∀ t, (M.sumN xs f t).length = xs.length := by
  intro t
  induction t with
  | zero => simp [M.sumN]
  | succ t ih => rw [M.sumN, M.sumFold_len, ih]
theorem M.sumS_next {xs : List Strip} {f : Int × Int → Int} {t : Nat} {us : List (Int × Int)} {j : Nat} {p : Int × Int} (h : us[j]? = some p) : M.sumS xs f t us (j + 1) = M.sumSend f (xs.length - 2 - t) (M.sumS xs f t us j) p := by
  rw [M.sumS, M.take_at h, List.foldl_append]; rfl
theorem M.sumS_end {xs : List Strip} {f : Int × Int → Int} {t : Nat} {s : ByteArray} {l : Int} {us : List (Int × Int)} (h : xs[xs.length - 2 - t]? = some (s, l, us)) : M.sumS xs f t us us.length = M.sumN xs f (t + 1) := by
  rw [M.sumS, M.sumN, h, List.take_of_length_le (Nat.le_refl _)]; rfl
theorem M.sumSend_eq {f : Int × Int → Int} {acc : List Int} {i q : Nat} {g a b : Int} (ha : acc[i]? = some a) (hb : acc[q]? = some b) : M.sumSend f i acc ((q : Int), g) = acc.set i (wrap32 (a + f ((q : Int), g) * b)) := by
  rw [M.sumSend]
  simp only [Int.toNat_natCast]
  rw [ha, hb]; rfl
def M.allSmp (acc : List Int) : Prop := ∀ v ∈ acc, M.smp v = true
theorem M.allSmp_at {acc : List Int} {i : Nat} {v : Int} (h : M.allSmp acc) (hv : acc[i]? = some v) : -2147483648 ≤ v ∧ v ≤ 2147483647 := M.smp_bd (h v (List.mem_of_getElem? hv))
theorem M.allSmp_send {f : Int × Int → Int} {i : Nat} {acc : List Int} {p : Int × Int} (h : M.allSmp acc) : M.allSmp (M.sumSend f i acc p) := by
  intro v hv
  rcases List.mem_or_eq_of_mem_set hv with h1 | rfl
  · exact h v h1
  · exact M.smp_wrap _
theorem M.allSmp_fold {f : Int × Int → Int} {i : Nat} (us : List (Int × Int)) : ∀ {acc : List Int}, M.allSmp acc → M.allSmp (us.foldl (M.sumSend f i) acc) := by
  induction us with
  | nil => intro acc h; exact h
  | cons u us ih => intro acc h; exact ih (M.allSmp_send h)
theorem M.sumN_smp (xs : List Strip) (f : Int × Int → Int) : ∀ t, M.allSmp (M.sumN xs f t) := by
  intro t
  induction t with
  | zero =>
    intro v hv
    rcases List.mem_or_eq_of_mem_set hv with h1 | rfl
    · rw [(List.mem_replicate.1 h1).2]; rfl
    · rfl
  | succ t ih => exact M.allSmp_fold _ ih
theorem M.sumS_smp (xs : List Strip) (f : Int × Int → Int) (t : Nat) (us : List (Int × Int)) (j : Nat) : M.allSmp (M.sumS xs f t us j) := M.allSmp_fold _ (M.sumN_smp xs f t)
def M.sumR (xs : List Strip) (f : Int × Int → Int) (k : Int) : Int × Int := if M.mixOk xs then (if M.inn k 0 ((xs.length : Int) - 1) then (((M.sums xs f)[k.toNat]?).getD 0, 0) else (0, 2)) else (0, 1)
end Go.Proofs.YtfkcoiefkjmdeaaGreat
namespace Go.Proofs.YtfkcoiefkjmdeaaGreat
open Go.RowKit Go.Sort
set_option maxHeartbeats 1000000
set_option linter.unusedVariables false
set_option linter.unusedSimpArgs false
/-! A track's stem without effects: the track times the gain from its strip. Plain. -/
/-- Gains times sums, from lo on. -/
def M.dot (G S : Nat → Int) (lo : Nat) : Nat → Int
  | 0 => 0
  | m + 1 => G lo * S lo + M.dot G S (lo + 1) m
theorem M.dot_congr {G H S : Nat → Int} {lo : Nat} : ∀ m, (∀ q, lo ≤ q → q < lo + m → G q = H q) → M.dot G S lo m = M.dot H S lo m := by
  intro m
  induction m generalizing lo with
  | zero => intro _; rfl
  | succ m ih =>
    intro h
    rw [M.dot, M.dot, h lo (Nat.le_refl _) (by omega), ih (fun q h1 h2 => h q (by omega) (by omega))]
theorem M.dot_add {G S : Nat → Int} {p : Nat} {x : Int} {lo : Nat} : ∀ m, lo ≤ p → p < lo + m → M.dot (fun q => if q = p then G q + x else G q) S lo m = M.dot G S lo m + x * S p := by
  intro m
  induction m generalizing lo with
  | zero => intro h1 h2; omega
  | succ m ih =>
    intro h1 h2
    rw [M.dot, M.dot]
    by_cases h : lo = p
    · subst h
      rw [if_pos rfl, M.dot_congr (H := G) m (fun q h3 h4 => if_neg (by omega)), Int.add_mul]
      omega
    · rw [if_neg h, ih (by omega) (by omega)]
      omega
/-- Signals that are one signal, late and times a gain. -/
structure M.Hd (m n : Nat) (E : Nat → Int) (a : List Int) (G : Nat → Int) (ins : List (List Int)) : Prop where
  len : ins.length = m
  at_ : ∀ q, q < m → (M.cel ins q).length = n ∧ ∀ i, i < n → M.i_ (M.cel ins q) i = wrap32 (G q * M.at_ a ((i : Int) - E q))
theorem M.Hd.congr {m n : Nat} {E : Nat → Int} {a : List Int} {G H : Nat → Int} {ins : List (List Int)} (h : M.Hd m n E a G ins) (e : ∀ q, q < m → G q = H q) : M.Hd m n E a H ins :=
  ⟨h.len, fun q hq => ⟨(h.at_ q hq).1, fun i hi => by rw [(h.at_ q hq).2 i hi, e q hq]⟩⟩
theorem M.Hd.add {m n : Nat} {E : Nat → Int} {a : List Int} {G : Nat → Int} {ins : List (List Int)} (h : M.Hd m n E a G ins) {k : Nat} (hk : k < m) {ys : List Int} (hy : ys.length = n) {g x : Int} (hx : ∀ i, i < n → M.cg (M.i_ ys i * g) (x * M.at_ a ((i : Int) - E k))) :
    M.Hd m n E a (fun q => if q = k then G q + x else G q) (M.addAt ins k ys g) := by
  unfold M.addAt
  refine ⟨by rw [List.length_set]; exact h.len, fun q hq => ?_⟩
  have hq0 := h.at_ q hq
  by_cases e : k = q
  · subst e
    rw [M.cel_set_eq (by rw [h.len]; exact hk)]
    refine ⟨by rw [M.addS_len, hq0.1, hy, Nat.max_self], fun i hi => ?_⟩
    rw [M.i_addS, hq0.2 i hi]
    simp only [if_true]
    rw [Int.add_mul]
    exact M.cg.wr ((M.cg.wrap _).add (hx i hi))
  · rw [M.cel_set_ne e]
    refine ⟨hq0.1, fun i hi => ?_⟩
    rw [hq0.2 i hi, if_neg (fun e2 => e e2.symm)]
theorem M.Hd.zero (m n : Nat) (E : Nat → Int) (a : List Int) : M.Hd m n E a (fun _ => 0) (List.replicate m (List.replicate n 0)) := by
  refine ⟨by simp, fun q hq => ?_⟩
  rw [M.cel_reps _ _ hq]
  refine ⟨by simp, fun i hi => ?_⟩
  rw [M.i_zeros, Int.zero_mul]
  unfold wrap32; omega
section
variable {L : Nat} {src : List (List Int)} {ts : List (List Clip_)} {fs : List Int} {ps : List Patch} {ms : List Strip}
/-- Only track k has clips. -/
theorem M.Hd.trk (h : M.SO L src ts fs ps ms) {k : Nat} {a : List Int} (ha : ∀ t, t < ts.length → M.renT src (M.tra ts t) L = if t = k then a else List.replicate L 0) (hl : a.length = L) : ∀ t, t ≤ ts.length →
    M.Hd ms.length (M.nT L ms) (M.ent ms) a (fun q => if q = (M.i_ fs k).toNat ∧ k < t then 1 else 0) (M.trk L src ts fs ms t) := by
  intro t
  induction t with
  | zero =>
    intro _
    exact (M.Hd.zero _ _ _ _).congr (fun q _ => (if_neg (by omega)).symm)
  | succ t ih =>
    intro ht
    have hf : fs[t]? = some (M.i_ fs t) := by
      have : t < fs.length := by rw [h.fl]; omega
      rw [M.i_, List.getElem?_eq_getElem this]; rfl
    have hr := h.fr _ (List.mem_of_getElem? hf)
    rw [M.trk, ha t (by omega)]
    by_cases e : t = k
    · subst e
      rw [if_pos rfl]
      refine ((ih (by omega)).add (k := (M.i_ fs t).toNat) (by omega) (M.late_len _ _ _) (x := 1) (fun i hi => ?_)).congr (fun q _ => ?_)
      · rw [M.i_late, if_pos hi]
        exact M.cg.of (by omega)
      · by_cases e2 : q = (M.i_ fs t).toNat
        · simp [e2]
        · simp [e2]
    · rw [if_neg e]
      refine ((ih (by omega)).add (k := (M.i_ fs t).toNat) (by omega) (M.late_len _ _ _) (x := 0) (fun i hi => ?_)).congr (fun q _ => ?_)
      · rw [M.i_late, if_pos hi, M.at_i]
        refine M.cg.of ?_
        split
        · rw [M.i_zeros]; omega
        · omega
      · have e3 : k < t + 1 ↔ k < t := by omega
        simp only [e3, Int.add_zero]
        split <;> rfl
end
/-- Gains after j sends of strip i. -/
def M.gS (us : List (Int × Int)) (i : Nat) (G : Nat → Int) : Nat → (Nat → Int)
  | 0 => G
  | j + 1 => fun q => if q = ((us[j]?).getD (0, 0)).1.toNat then M.gS us i G j q + ((us[j]?).getD (0, 0)).2 * G i else M.gS us i G j q
def M.gN (ms : List Strip) (G : Nat → Int) : Nat → (Nat → Int)
  | 0 => G
  | i + 1 => M.gS (M.stri ms i).2.2 i (M.gN ms G i) (M.stri ms i).2.2.length
section
variable {L : Nat} {src : List (List Int)} {ts : List (List Clip_)} {fs : List Int} {ps : List Patch} {ms : List Strip} {a : List Int} {G : Nat → Int}
theorem M.Hd.out (h : M.mixOk ms = true) {i : Nat} (hi : i < ms.length) (hp : M.pat ps i = M.p0) {ins : List (List Int)} (hd : M.Hd ms.length (M.nT L ms) (M.ent ms) a G ins) :
    (M.outI L ps ms i ins).length = M.nT L ms ∧ ∀ j, j < M.nT L ms → M.cg (M.i_ (M.outI L ps ms i ins) j) (G i * M.at_ a ((j : Int) - M.ent ms i - (M.stri ms i).2.1)) := by
  refine ⟨M.late_len _ _ _, fun j hj => ?_⟩
  unfold M.outI
  rw [hp, M.fx, if_pos rfl, M.i_late, if_pos hj]
  have h1 := (M.stri_ok h hi).1
  have h2 := M.ent_bd h i
  by_cases h3 : (M.stri ms i).2.1 ≤ (j : Int)
  · have e : (j : Int) - (M.stri ms i).2.1 = ((j - (M.stri ms i).2.1.toNat : Nat) : Int) := by omega
    rw [e, M.at_n, (hd.at_ i hi).2 _ (by omega)]
    refine (M.cg.wrap _).trans (M.cg.of ?_)
    rw [show ((j - (M.stri ms i).2.1.toNat : Nat) : Int) - M.ent ms i = (j : Int) - M.ent ms i - (M.stri ms i).2.1 by omega]
  · rw [M.at_none (Or.inl (by omega)), M.at_none (a := a) (Or.inl (by omega)), Int.mul_zero]
    exact M.cg.rfl' 0
theorem M.Hd.snd (h : M.mixOk ms = true) {i : Nat} (hi : i < ms.length) {out : List Int} (hl : out.length = M.nT L ms) (ho : ∀ j, j < M.nT L ms → M.cg (M.i_ out j) (G i * M.at_ a ((j : Int) - M.ent ms i - (M.stri ms i).2.1))) {ins : List (List Int)} (hd : M.Hd ms.length (M.nT L ms) (M.ent ms) a G ins) :
    ∀ j, j ≤ (M.stri ms i).2.2.length → M.Hd ms.length (M.nT L ms) (M.ent ms) a (M.gS (M.stri ms i).2.2 i G j) (M.snd L ms i out ins j) := by
  intro j
  induction j with
  | zero => exact fun _ => hd
  | succ j ih =>
    intro hj
    have hx : (M.stri ms i).2.2[j]? = some ((M.stri ms i).2.2[j]'(by omega)) := List.getElem?_eq_getElem (by omega)
    generalize (M.stri ms i).2.2[j]'(by omega) = u at hx
    obtain ⟨p0, p1⟩ := u
    have h4 := (M.stri_ok h hi).2.2 j p0 p1 hx
    have h5 := M.delay_at h hi hx
    have h6 := M.ent_bd h i
    have h7 := (M.stri_ok h hi).1
    have e : M.i_ (M.cel (M.delays ms) i) j = M.ent ms p0.toNat - M.ent ms i - (M.stri ms i).2.1 := by rw [M.i_, h5.1]; rfl
    rw [M.snd, hx]
    refine ((ih (by omega)).add (k := p0.toNat) (by omega) (M.late_len _ _ _) (x := p1 * G i) (fun t ht => ?_)).congr (fun q _ => ?_)
    · show M.cg (M.i_ (M.late out (M.i_ (M.cel (M.delays ms) i) j) (M.nT L ms)) t * p1) _
      rw [M.i_late, if_pos ht, e]
      obtain ⟨d, hd2⟩ : ∃ d, d = M.ent ms p0.toNat - M.ent ms i - (M.stri ms i).2.1 := ⟨_, rfl⟩
      rw [← hd2]
      by_cases h8 : d ≤ (t : Int)
      · have e2 : (t : Int) - d = ((t - d.toNat : Nat) : Int) := by omega
        rw [e2, M.at_n]
        refine ((ho _ (by omega)).mulr p1).trans (M.cg.of ?_)
        rw [show ((t - d.toNat : Nat) : Int) - M.ent ms i - (M.stri ms i).2.1 = (t : Int) - M.ent ms p0.toNat by omega, Int.mul_comm p1, Int.mul_assoc, Int.mul_assoc, Int.mul_comm p1]
      · rw [M.at_none (Or.inl (by omega)), M.at_none (a := a) (Or.inl (by omega)), Int.mul_zero, Int.zero_mul]
        exact M.cg.rfl' 0
    · rw [M.gS, hx]
      rfl
theorem M.Hd.stp (h : M.SO L src ts fs ps ms) (hp : ∀ p ∈ ps, p = M.p0) (h0 : M.Hd ms.length (M.nT L ms) (M.ent ms) a G (M.trk L src ts fs ms ts.length)) :
    ∀ i, i ≤ ms.length → M.Hd ms.length (M.nT L ms) (M.ent ms) a (M.gN ms G i) (M.stp L src ts fs ps ms i).1 ∧ (M.stp L src ts fs ps ms i).2.length = i ∧
      ∀ q, q < i → (M.cel (M.stp L src ts fs ps ms i).2 q).length = M.nT L ms ∧ ∀ j, j < M.nT L ms → M.cg (M.i_ (M.cel (M.stp L src ts fs ps ms i).2 q) j) (M.gN ms G q q * M.at_ a ((j : Int) - M.ent ms q - (M.stri ms q).2.1)) := by
  intro i
  induction i with
  | zero => exact fun _ => ⟨h0, rfl, fun q hq => absurd hq (by omega)⟩
  | succ i ih =>
    intro hi
    obtain ⟨h1, h2, h3⟩ := ih (by omega)
    have hk : i < ps.length := by rw [h.pl]; omega
    have hp0 : M.pat ps i = M.p0 := by
      rw [M.pat_at (List.getElem?_eq_getElem hk)]
      exact hp _ (List.getElem_mem hk)
    obtain ⟨o1, o2⟩ := h1.out (ps := ps) h.mix (i := i) (by omega) hp0
    rw [M.stp]
    refine ⟨h1.snd h.mix (by omega) o1 o2 _ (Nat.le_refl _), by rw [List.length_append, h2]; rfl, fun q hq => ?_⟩
    have hc : ∀ (l : List (List Int)) (x : List Int), M.cel (l ++ [x]) q = if q < l.length then M.cel l q else if q = l.length then x else [] := fun l x => by
      unfold M.cel
      by_cases h : q < l.length
      · rw [if_pos h, List.getElem?_append_left h]
      · rw [if_neg h, List.getElem?_append_right (by omega)]
        by_cases h2 : q = l.length
        · rw [if_pos h2, h2, Nat.sub_self]; rfl
        · rw [if_neg h2, List.getElem?_eq_none (by simp; omega)]; rfl
    rw [hc, h2]
    by_cases e : q < i
    · rw [if_pos e]; exact h3 q e
    · obtain rfl : q = i := by omega
      rw [if_neg e, if_pos rfl]
      exact ⟨o1, o2⟩
end
/-! The gain to the master, from behind. -/
section
variable {ms : List Strip}
theorem M.sumFold_ne (f : Int × Int → Int) (i : Nat) {q : Nat} (hq : i ≠ q) : ∀ (us : List (Int × Int)) (acc : List Int), M.i_ (us.foldl (M.sumSend f i) acc) q = M.i_ acc q := by
  intro us
  induction us with
  | nil => intro acc; rfl
  | cons u us ih => intro acc; rw [List.foldl_cons, ih, M.sumSend, M.i_set_ne hq]
/-- The sums of a strip's sends. -/
def M.ssum (S : Nat → Int) : List (Int × Int) → Int
  | [] => 0
  | u :: us => u.2 * S u.1.toNat + M.ssum S us
theorem M.sumFold_eq {i : Nat} : ∀ (us : List (Int × Int)) (acc : List Int), (∀ u ∈ us, i ≠ u.1.toNat) → i < acc.length → M.cg (M.i_ (us.foldl (M.sumSend M.gainF i) acc) i) (M.i_ acc i + M.ssum (M.i_ acc) us) := by
  intro us
  induction us with
  | nil => intro acc _ _; exact M.cg.of (by rw [M.ssum, Int.add_zero]; rfl)
  | cons u us ih =>
    intro acc hu hi
    have hu0 := hu u (by simp)
    rw [List.foldl_cons]
    have h1 := ih (M.sumSend M.gainF i acc u) (fun v hv => hu v (by simp [hv])) (by simp [M.sumSend, hi])
    have e1 : M.i_ (M.sumSend M.gainF i acc u) i = wrap32 (M.i_ acc i + u.2 * M.i_ acc u.1.toNat) := by
      rw [M.sumSend, M.i_set_eq hi]; rfl
    have e2 : M.ssum (M.i_ (M.sumSend M.gainF i acc u)) us = M.ssum (M.i_ acc) us := by
      have : ∀ us : List (Int × Int), (∀ v ∈ us, i ≠ v.1.toNat) → M.ssum (M.i_ (M.sumSend M.gainF i acc u)) us = M.ssum (M.i_ acc) us := by
        intro us
        induction us with
        | nil => intro _; rfl
        | cons v us ih2 =>
          intro hv
          rw [M.ssum, M.ssum, ih2 (fun x hx => hv x (by simp [hx])), M.sumSend, M.i_set_ne (hv v (by simp))]
      exact this us (fun v hv => hu v (by simp [hv]))
    rw [e1, e2] at h1
    refine h1.trans (((M.cg.wrap _).add (M.cg.rfl' _)).trans (M.cg.of ?_))
    rw [M.ssum]
    omega
theorem M.sumN_low (f : Int × Int → Int) : ∀ t q, q + 1 + t < ms.length → M.i_ (M.sumN ms f t) q = 0 := by
  intro t
  induction t with
  | zero =>
    intro q hq
    rw [M.sumN, M.i_set_ne (by omega), M.i_zeros]
  | succ t ih =>
    intro q hq
    rw [M.sumN, M.sumFold_ne _ _ (by omega), ih q (by omega)]
theorem M.sumN_fix (f : Int × Int → Int) {t : Nat} (q : Nat) (hq : ms.length ≤ q + 1 + t) : ∀ d, t + d ≤ ms.length - 1 → M.i_ (M.sumN ms f (t + d)) q = M.i_ (M.sumN ms f t) q := by
  intro d
  induction d with
  | zero => intro _; rfl
  | succ d ih =>
    intro hd
    rw [← Nat.add_assoc, M.sumN, M.sumFold_ne _ _ (by omega), ih (by omega)]
theorem M.sums_last (h : 0 < ms.length) : M.i_ (M.sums ms M.gainF) (ms.length - 1) = 1 := by
  have := M.sumN_fix (ms := ms) M.gainF (t := 0) (ms.length - 1) (by omega) (ms.length - 1) (by omega)
  rw [Nat.zero_add] at this
  rw [M.sums, this, M.sumN, M.i_set_eq (by simp; omega)]
theorem M.ssum_congr {S T : Nat → Int} : ∀ us : List (Int × Int), (∀ u ∈ us, S u.1.toNat = T u.1.toNat) → M.ssum S us = M.ssum T us := by
  intro us
  induction us with
  | nil => intro _; rfl
  | cons u us ih => intro h; rw [M.ssum, M.ssum, h u (by simp), ih (fun v hv => h v (by simp [hv]))]
theorem M.sums_at (h : M.mixOk ms = true) {i : Nat} (hi : i + 1 < ms.length) : M.cg (M.i_ (M.sums ms M.gainF) i) (M.ssum (M.i_ (M.sums ms M.gainF)) (M.stri ms i).2.2) := by
  obtain ⟨t, rfl⟩ : ∃ t, i = ms.length - 2 - t := ⟨ms.length - 2 - i, by omega⟩
  obtain ⟨i, ei⟩ : ∃ i, i = ms.length - 2 - t := ⟨_, rfl⟩
  rw [← ei]
  have ht : i + 1 + (t + 1) = ms.length ∨ (t > ms.length - 2 ∧ i = 0) := by omega
  obtain ⟨t', et⟩ : ∃ t', t' = ms.length - 2 - i := ⟨_, rfl⟩
  have ei' : i = ms.length - 2 - t' := by omega
  have ht' : t' + 1 ≤ ms.length - 1 := by omega
  have hgt := M.sends_gt h (k := i) (by omega)
  have e1 : M.i_ (M.sums ms M.gainF) i = M.i_ (M.sumN ms M.gainF (t' + 1)) i := by
    have := M.sumN_fix (ms := ms) M.gainF (t := t' + 1) i (by omega) (ms.length - 1 - (t' + 1)) (by omega)
    rw [show t' + 1 + (ms.length - 1 - (t' + 1)) = ms.length - 1 by omega] at this
    exact this
  have e2 : ∀ u ∈ (M.stri ms i).2.2, M.i_ (M.sumN ms M.gainF t') u.1.toNat = M.i_ (M.sums ms M.gainF) u.1.toNat := by
    intro u hu
    have hg := hgt u hu
    have := M.sumN_fix (ms := ms) M.gainF (t := t') u.1.toNat (by omega) (ms.length - 1 - t') (by omega)
    rw [show t' + (ms.length - 1 - t') = ms.length - 1 by omega] at this
    exact this.symm
  have e3 : M.sumN ms M.gainF (t' + 1) = (M.stri ms i).2.2.foldl (M.sumSend M.gainF i) (M.sumN ms M.gainF t') := by
    rw [M.sumN, ← ei']; rfl
  rw [e1, e3]
  refine (M.sumFold_eq _ _ (fun u hu => by have := hgt u hu; omega) (by rw [M.sumN_len]; omega)).trans (M.cg.of ?_)
  rw [M.sumN_low M.gainF t' i (by omega), Int.zero_add, M.ssum_congr _ e2]
/-- Sending keeps gains times sums. -/
theorem M.gS_dot (h : M.mixOk ms = true) {i : Nat} (hi : i < ms.length) (G S : Nat → Int) : ∀ j, j ≤ (M.stri ms i).2.2.length →
    M.dot (M.gS (M.stri ms i).2.2 i G j) S (i + 1) (ms.length - 1 - i) = M.dot G S (i + 1) (ms.length - 1 - i) + G i * M.ssum S ((M.stri ms i).2.2.take j) := by
  intro j
  induction j with
  | zero => intro _; rw [M.gS, List.take_zero, M.ssum, Int.mul_zero, Int.add_zero]
  | succ j ih =>
    intro hj
    have hx : (M.stri ms i).2.2[j]? = some ((M.stri ms i).2.2[j]'(by omega)) := List.getElem?_eq_getElem (by omega)
    generalize (M.stri ms i).2.2[j]'(by omega) = u at hx
    have hg := M.sends_gt h hi u (List.mem_of_getElem? hx)
    have hsn : ∀ (us : List (Int × Int)) (v : Int × Int), M.ssum S (us ++ [v]) = M.ssum S us + v.2 * S v.1.toNat := by
      intro us v
      induction us with
      | nil => simp [M.ssum]
      | cons w us ih2 => rw [List.cons_append, M.ssum, M.ssum, ih2]; omega
    rw [M.gS, hx, M.take_at hx, hsn, Int.mul_add, ← Int.add_assoc, ← ih (by omega)]
    show M.dot (fun q => if q = u.1.toNat then M.gS (M.stri ms i).2.2 i G j q + u.2 * G i else M.gS (M.stri ms i).2.2 i G j q) S (i + 1) (ms.length - 1 - i) = _
    rw [M.dot_add _ (by omega) (by omega), Int.mul_comm u.2 (G i), Int.mul_assoc]
theorem M.gN_dot (h : M.mixOk ms = true) (G : Nat → Int) : ∀ i, i < ms.length → M.cg (M.dot (M.gN ms G i) (M.i_ (M.sums ms M.gainF)) i (ms.length - i)) (M.dot G (M.i_ (M.sums ms M.gainF)) 0 ms.length) := by
  intro i
  induction i with
  | zero => intro _; exact M.cg.rfl' _
  | succ i ih =>
    intro hi
    refine M.cg.trans ?_ (ih (by omega))
    rw [M.gN, show ms.length - (i + 1) = ms.length - 1 - i by omega, M.gS_dot h (by omega) _ _ _ (Nat.le_refl _), List.take_length, show ms.length - i = (ms.length - 1 - i) + 1 by omega, M.dot]
    exact (M.cg.add (M.cg.rfl' _) ((M.sums_at h hi).symm.mull _)).trans (M.cg.of (Int.add_comm _ _))
theorem M.dot_zero (S : Nat → Int) : ∀ m lo, M.dot (fun _ => 0) S lo m = 0 := by
  intro m
  induction m with
  | zero => intro lo; rfl
  | succ m ih => intro lo; rw [M.dot, ih, Int.zero_mul]; rfl
theorem M.dot_one (S : Nat → Int) {f m : Nat} (hf : f < m) : M.dot (fun q => if q = f then 1 else 0) S 0 m = S f := by
  have := M.dot_add (G := fun _ => 0) (S := S) (p := f) (x := 1) (lo := 0) m (by omega) (by omega)
  rw [M.dot_zero] at this
  rw [show (fun q => if q = f then (1 : Int) else 0) = (fun q => if q = f then (fun _ => (0 : Int)) q + 1 else (fun _ => (0 : Int)) q) from rfl, this]
  omega
/-- The gain that arrives. -/
theorem M.gN_last (h : M.mixOk ms = true) {f : Nat} (hf : f < ms.length) : M.cg (M.gN ms (fun q => if q = f then 1 else 0) (ms.length - 1) (ms.length - 1)) (M.i_ (M.sums ms M.gainF) f) := by
  have h1 := M.gN_dot h (fun q => if q = f then 1 else 0) (ms.length - 1) (by omega)
  rw [M.dot_one _ hf, show ms.length - (ms.length - 1) = 0 + 1 by omega, M.dot, M.dot, M.sums_last (by omega), Int.mul_one, Int.add_zero] at h1
  exact h1
end
section
variable {L : Nat} {src : List (List Int)} {ts : List (List Clip_)} {fs : List Int} {ps : List Patch} {ms : List Strip}
/-- Without effects the stem of a track is the track times the gain from its strip to the master. -/
theorem M.stem_gain (h : M.SO L src ts fs ps ms) (hp : ∀ p ∈ ps, p = M.p0) {k : Nat} (hk : k < ts.length) : ∀ j, j < L → M.i_ (M.stemS L src ts fs ps ms (k : Int)) j = wrap32 (M.i_ (M.renT src (M.tra ts k) L) j * M.i_ (M.sums ms M.gainF) (M.i_ fs k).toNat) := by
  intro j hj
  have hmn := M.mix_n h.mix
  have hf : fs[k]? = some (M.i_ fs k) := by
    have : k < fs.length := by rw [h.fl]; omega
    rw [M.i_, List.getElem?_eq_getElem this]; rfl
  have hr := h.fr _ (List.mem_of_getElem? hf)
  have hS := M.SO_mute h [(k : Int)] ts.length
  have h0 := M.Hd.trk hS (k := k) (a := M.renT src (M.tra ts k) L) (fun t ht => by
    rw [M.tra_one]
    by_cases e : t = k
    · rw [if_pos e, if_pos e, e]
    · rw [if_neg e, if_neg e, M.renT_nil]) (M.renT_len ..) _ (Nat.le_refl _)
  have h0' := h0.congr (H := fun q => if q = (M.i_ fs k).toNat then 1 else 0) (fun q _ => by rw [M.muteK_len]; simp [hk])
  obtain ⟨-, -, h3⟩ := M.Hd.stp (ps := ps) hS hp h0' ms.length (Nat.le_refl _)
  have h4 := h3 (ms.length - 1) (by omega)
  have ht := M.total_bd h.mix
  have hnt := M.nT_int h
  unfold M.stemS M.mixS M.outs
  rw [M.i_sl, if_pos hj]
  obtain ⟨T, hT⟩ : ∃ T : Nat, M.total ms = T := ⟨(M.total ms).toNat, by omega⟩
  rw [hT, show (T : Int) + (j : Int) = ((T + j : Nat) : Int) by omega, M.at_n]
  have h5 := h4.2 (T + j) (by omega)
  have e : ((T + j : Nat) : Int) - M.ent ms (ms.length - 1) - (M.stri ms (ms.length - 1)).2.1 = (j : Int) := by
    have := M.total_eq (ms := ms)
    omega
  rw [e, M.at_n] at h5
  have h6 := h5.trans ((M.gN_last h.mix (f := (M.i_ fs k).toNat) (by omega)).mulr _)
  have s1 : M.smp (M.i_ (M.cel (M.stp L src (M.muteK [(k : Int)] ts.length ts) fs ps ms ms.length).2 (ms.length - 1)) (T + j)) = true :=
    M.i_smp ((M.stp_ok hS ms.length (Nat.le_refl _)).2.cel (by omega)).2 _
  rw [Int.mul_comm] at h6
  exact (h6.trans (M.cg.wrap _).symm).eq s1 (M.smp_wrap _)
end
end Go.Proofs.YtfkcoiefkjmdeaaGreat
namespace Go.Proofs.YtfkcoiefkjmdeaaGreat
open Go.RowKit Go.Sort
set_option maxHeartbeats 4000000
set_option maxRecDepth 100000
set_option linter.unusedVariables false
/-- How the bending of a mixer stands. -/
structure BE (w : World) (b lo : Nat) (A : Option Addr) (n c : Nat) (code : List UInt8) (X K : Nat) (v : Value) (Y : World) : Prop where
  q0 : Y.cell? ⟨w.heap.size, 0, none⟩ = some (.slice none 0 0)
  f0 : Y.frozen? ⟨w.heap.size, 0, none⟩ = false
  qX : Y.cell? ⟨X, 0, none⟩ = some v
  fX : Y.frozen? ⟨X, 0, none⟩ = false
  src : Src Y b lo A n c code K
  mid : Mid b (b + 1) w Y
  sz : X < Y.heap.size
  lo : w.heap.size < X
theorem BE.step {w Y Y' : World} {b lo : Nat} {A : Option Addr} {n c : Nat} {code : List UInt8} {X K K' : Nat} {v : Value} (h : BE w b lo A n c code X K v Y) (hb : b < w.heap.size) (hs : Src Y' b lo A n c code K') (hm : Mid b (b + 1) Y Y') : BE w b lo A n c code X K' v Y' := by
  have hz := h.sz
  have hl := h.lo
  exact ⟨hm.cellK (by omega) (.inr (by omega)) h.q0, hm.frozK (by omega) (.inr (by omega)) h.f0, hm.cellK (by omega) (.inr (by omega)) h.qX, hm.frozK (by omega) (.inr (by omega)) h.fX, hs, h.mid.trans hm, Nat.lt_of_lt_of_le hz hm.size, hl⟩
theorem BE.chg {w Y Y' : World} {b lo : Nat} {A : Option Addr} {n c : Nat} {code : List UInt8} {X K : Nat} {v : Value} (h : BE w b lo A n c code X K v Y) (hb : b < w.heap.size) {G : Nat → Prop} (hG : ∀ z, G z → w.heap.size < z ∧ z ≠ X) (hc : Chg G Y Y') : BE w b lo A n c code X K v Y' := by
  have hz := h.sz
  have hl := h.lo
  have n0 : ¬ G w.heap.size := fun hg => by have := hG _ hg; omega
  have nX : ¬ G X := fun hg => (hG _ hg).2 rfl
  have MB : Below (w.heap.size + 1) Y Y' := hc.toBelow (fun z h => by have := hG z h; omega) (by omega)
  exact ⟨(hc.cell1 (show w.heap.size < _ by omega) n0).trans h.q0, (hc.frozen1 (show w.heap.size < _ by omega) n0).trans h.f0, (hc.cell1 hz nX).trans h.qX, (hc.frozen1 hz nX).trans h.fX, h.src.below MB (by omega), ⟨MB.os.trans h.mid.os, MB.tape.trans h.mid.tape, MB.output.trans h.mid.output, Nat.le_trans h.mid.size MB.size, fun i hi' hm => (MB.block i (by omega)).trans (h.mid.block i hi' hm)⟩, Nat.lt_of_lt_of_le hz MB.size, hl⟩
def BentM (b : Nat) (w : World) (e : Ending) (w' : World) : Prop :=
  ∃ A1 c1 ms, e = .returned (.agg #[.slice A1 (List.length ms) c1]) ∧ OS tSt 100 w' (fun z => w.heap.size < z) (.slice A1 ms.length c1) ms ∧ ms.length ≤ 6 ∧ Hid (M.tiny 5 ms) ∧ Mid b (b + 1) w w'
theorem BE.fin {w Y : World} {b lo : Nat} {A : Option Addr} {n c : Nat} {code : List UInt8} {X K : Nat} {v : Value} {A1 : Option Addr} {m c1 : Nat} {ms : List Strip} {F : Nat → Prop} (h : BE w b lo A n c code X K v Y)
    (own : OS tSt 100 Y F (.slice A1 m c1) ms) (hF : ∀ z, F z → w.heap.size < z) (hl : m ≤ 6) (ht : M.tiny 5 ms) (hm : ms.length = m) :
    BentM b w (.returned (.agg #[.slice A1 m c1])) (Y.setCell ⟨w.heap.size, 0, none⟩ (.slice A1 m c1)) := by
  subst hm
  have CB : Chg (fun b => b = w.heap.size) Y (Y.setCell ⟨w.heap.size, 0, none⟩ (.slice A1 ms.length c1)) := Chg.set Y w.heap.size 0 _ rfl
  exact ⟨A1, c1, ms, rfl, (own.chg CB (fun z h1 (h2 : z = w.heap.size) => by have := hF z h1; omega)).wide hF, hl, Lib.hid ht, h.mid.thenB' ((Below.refl w.heap.size _).setCell (Nat.le_refl _) _) (Nat.le_refl _)⟩
section
variable {Y : World} {F : Nat → Prop} {g m c k : Nat} {ms : List Strip} {s0 : ByteArray} {l0 : Int} {us : List (Int × Int)}
end
end Go.Proofs.YtfkcoiefkjmdeaaGreat
namespace Go.Proofs.YtfkcoiefkjmdeaaGreat
open Go.RowKit Go.Sort
set_option maxHeartbeats 4000000
set_option maxRecDepth 100000
set_option linter.unusedVariables false
end Go.Proofs.YtfkcoiefkjmdeaaGreat
namespace Go.Proofs.YtfkcoiefkjmdeaaGreat
open Go.RowKit Go.Sort
set_option maxHeartbeats 4000000
set_option maxRecDepth 100000
theorem laws_b10Long (A : Option Addr) (n c : Nat) (w : World) :
    Calls Tryz.prog 5 #[.slice A n c] w fun e w' => e = .returned (.bool (decide (1048576 < n))) ∧ w = w' := by
  by_cases h1 : 1048576 < n
  · have h2 : (1048576 : Int) < (n : Int) := by omega
    go_enter Tryz.func5, Tryz.ntmps5
    go_wp2
    go_ret
    exact ⟨by simp [h1, h2], rfl⟩
  · have h2 : ¬ (1048576 : Int) < (n : Int) := by omega
    go_enter Tryz.func5, Tryz.ntmps5
    go_wp2
    go_ret
    exact ⟨by simp [h1, h2], rfl⟩
end Go.Proofs.YtfkcoiefkjmdeaaGreat
namespace Go.Proofs.YtfkcoiefkjmdeaaGreat
open Go.RowKit Go.Sort
set_option maxHeartbeats 4000000
set_option maxRecDepth 100000
set_option linter.unusedVariables false
set_option linter.unusedSimpArgs false
set_option synthInstance.maxSize 2000
set_option synthInstance.maxHeartbeats 400000
def M.stemR (x : Sess) (t : Int) : List Int × Int := if M.trkCode x [t] = 0 then (M.stemS x.1.toNat x.2.1 x.2.2.1 x.2.2.2.1 x.2.2.2.2.1 x.2.2.2.2.2 t, 0) else ([], M.trkCode x [t])
theorem M.trkCode_ok {x : Sess} {keep : List Int} (h : M.trkCode x keep = 0) : M.sessOk x = true := by
  cases hs : M.sessOk x
  · rw [M.trkCode, hs, if_neg Bool.false_ne_true] at h
    exact absurd h (by decide)
  · rfl
theorem M.stemR_ok {x : Sess} {t : Int} (h : M.trkCode x [t] = 0) : M.stemR x t = (M.stemS x.1.toNat x.2.1 x.2.2.1 x.2.2.2.1 x.2.2.2.2.1 x.2.2.2.2.2 t, 0) := by rw [M.stemR, if_pos h]
theorem M.stemR_no {x : Sess} {t : Int} (h : M.trkCode x [t] ≠ 0) : M.stemR x t = ([], M.trkCode x [t]) := by rw [M.stemR, if_neg h]
theorem impl_StemOf (a0 : Int) (A1 : Option Addr) (n1 c1 : Nat) (A2 : Option Addr) (n2 c2 : Nat) (A3 : Option Addr) (n3 c3 : Nat) (A4 : Option Addr) (n4 c4 : Nat) (A5 : Option Addr) (n5 c5 : Nat) (src : List (List Int)) (ts : List (List Clip_)) (fs : List Int) (ps : List Patch) (ms : List Strip) (t : Int) (w : World)
    (h1 : tSS.R w w.heap.size [.slice A1 n1 c1] src) (h2 : tTS.R w w.heap.size [.slice A2 n2 c2] ts) (h3 : tS.R w w.heap.size [.slice A3 n3 c3] fs) (h4 : tPS.R w w.heap.size [.slice A4 n4 c4] ps) (h5 : tM.R w w.heap.size [.slice A5 n5 c5] ms) (hn : hZ.sz ((a0, src, ts, fs, ps, ms) : Sess) ≤ 100000000) :
    Calls Tryz.prog 7 #[.agg #[.int .i64 a0, .slice A1 n1 c1, .slice A2 n2 c2, .slice A3 n3 c3, .slice A4 n4 c4, .slice A5 n5 c5], .int .i64 t] w (Ret2 2 w (M.stemR (a0, src, ts, fs, ps, ms) t)) := by
  obtain ⟨W_, hW_, B0_, sW_, p0, p1, p2, p3, p4, p5, pf⟩ := newbox6 w (.int .i64 a0) (.slice A1 n1 c1) (.slice A2 n2 c2) (.slice A3 n3 c3) (.slice A4 n4 c4) (.slice A5 n5 c5) 32
  obtain ⟨W, hW, B1_, sW, rk⟩ := newone W_ t
  have B0 := bel_trans B0_ B1_
  have HW_ := Lib.hid hW_
  rw [sW_] at rk
  have HW := Lib.hid hW
  have sz_ := Lib.hid sW_
  have lW : w.heap.size < W_.heap.size := by omega
  have k1 := tSS.later h1 B0
  have k2 := tTS.later h2 B0
  have k3 := tS.later h3 B0
  have k4 := tPS.later h4 B0
  have k5 := tM.later h5 B0
  obtain ⟨RR, hRR⟩ : ∃ RR, RR = M.stemR (a0, src, ts, fs, ps, ms) t := ⟨_, rfl⟩
  have HR := Lib.hid hRR
  rw [← hRR]
  clear hRR hW hW_
  obtain ⟨tc, htc⟩ : ∃ tc, tc = M.trkCode (a0, src, ts, fs, ps, ms) [t] := ⟨_, rfl⟩
  have HT := Lib.hid htc
  by_cases h0 : tc = 0
  · subst h0
    obtain ⟨L, rfl, hO⟩ := M.SO_of (M.trkCode_ok htc.symm)
    have E1 := Lib.hid (show RR = (M.stemS L src ts fs ps ms t, 0) by rw [HR.out, M.stemR_ok htc.symm]; rfl)
    clear htc
    go_enter Tryz.func7, Tryz.ntmps7
    go_wp2_with fail
    rw [← HW_.out, ← sz_.out, ← HW.out]
    refine (impl_tracksCode (L : Int) _ _ c1 _ _ c2 _ _ c3 _ _ c4 _ _ c5 src ts fs ps ms _ 1 1 [t] W k1 k2 k3 k4 k5 (by rw [sz_.out]; exact rk) (by omega) hn).mono ?_
    rw [← HT.out]
    rintro e w1 ⟨rfl, bel1⟩
    have s1 := bel1.size
    have B11 := bel_trans B1_ bel1
    have P0 := (B11.cell (p := ⟨w.heap.size, 0, none⟩) (by show w.heap.size < _; omega)).trans p0
    have P1 := (B11.cell (p := ⟨w.heap.size, 1, none⟩) (by show w.heap.size < _; omega)).trans p1
    have P2 := (B11.cell (p := ⟨w.heap.size, 2, none⟩) (by show w.heap.size < _; omega)).trans p2
    have P3 := (B11.cell (p := ⟨w.heap.size, 3, none⟩) (by show w.heap.size < _; omega)).trans p3
    have P4 := (B11.cell (p := ⟨w.heap.size, 4, none⟩) (by show w.heap.size < _; omega)).trans p4
    have P5 := (B11.cell (p := ⟨w.heap.size, 5, none⟩) (by show w.heap.size < _; omega)).trans p5
    go_wp2_with fail
    refine (impl_stem L _ _ c1 _ _ c2 _ _ c3 _ _ c4 _ _ c5 src ts fs ps ms t w1 (tSS.later k1 bel1) (tTS.later k2 bel1) (tS.later k3 bel1) (tPS.later k4 bel1) (tM.later k5 bel1) hn hO).mono ?_
    rintro e w2 ⟨v, rfl, own2, bel2⟩
    go_wp2_with fail
    go_ret2
    rw [E1.out]
    exact ⟨_, rfl, own2.base (by omega), bel_trans B0 (bel_trans bel1 bel2)⟩
  · have E1 := Lib.hid (show RR = ([], tc) by rw [HR.out, M.stemR_no (by rw [← htc]; exact h0), ← htc])
    have g0 : (tc != 0) = true := by simpa using h0
    clear htc
    go_enter Tryz.func7, Tryz.ntmps7
    go_wp2_with fail
    rw [← HW_.out, ← sz_.out, ← HW.out]
    refine (impl_tracksCode a0 _ _ c1 _ _ c2 _ _ c3 _ _ c4 _ _ c5 src ts fs ps ms _ 1 1 [t] W k1 k2 k3 k4 k5 (by rw [sz_.out]; exact rk) (by omega) hn).mono ?_
    rw [← HT.out]
    rintro e w1 ⟨rfl, bel1⟩
    go_wp2_with fail
    go_ret2
    rw [E1.out]
    exact ⟨_, rfl, OI.nil _ _ _, bel_trans B0 bel1⟩
end Go.Proofs.YtfkcoiefkjmdeaaGreat
namespace Go.Proofs.YtfkcoiefkjmdeaaGreat
open Go.RowKit
set_option maxHeartbeats 4000000
set_option maxRecDepth 100000
theorem impl_StemOf_Y (p : Int) (A : Option Addr) (n c : Nat) (Ab : Option Addr) (nb cb : Nat) (Ac : Option Addr) (nc cc : Nat) (Ad : Option Addr) (nd cd : Nat) (Ae : Option Addr) (ne ce : Nat) (x : Sess) (t : Int) (w : World) (hx : tZ.R w w.heap.size [.int .i64 p, .slice A n c, .slice Ab nb cb, .slice Ac nc cc, .slice Ad nd cd, .slice Ae ne ce] x) (hn : hZ.sz x ≤ 100000000) :
    Calls Tryz.prog 7 #[.agg #[.int .i64 p, .slice A n c, .slice Ab nb cb, .slice Ac nc cc, .slice Ad nd cd, .slice Ae ne ce], .int .i64 t] w (Ret2 2 w (M.stemR x t)) := by
  obtain ⟨a0, x1, x2, x3, x4, x5⟩ := x
  obtain ⟨A1, n1, c1, A2, n2, c2, A3, n3, c3, A4, n4, c4, A5, n5, c5, hcs, h1, h2, h3, h4, h5⟩ := tZ_R.1 hx
  simp only [List.cons.injEq, Value.int.injEq, Value.slice.injEq, true_and, and_true] at hcs
  obtain ⟨rfl, ⟨rfl, rfl, rfl⟩, ⟨rfl, rfl, rfl⟩, ⟨rfl, rfl, rfl⟩, ⟨rfl, rfl, rfl⟩, ⟨rfl, rfl, rfl⟩⟩ := hcs
  exact impl_StemOf _ _ _ c _ _ cb _ _ cc _ _ cd _ _ ce _ _ _ _ _ _ _ h1 h2 h3 h4 h5 hn
end Go.Proofs.YtfkcoiefkjmdeaaGreat
/-
  A region that draws its order, ends in operations of one forced order, and whose other operations are quiet in a class of worlds (they read, or call what only lays new memory): one walk serves every order.
  The kit has this for one fixed world (its still tail) and, without a tail, for a class of worlds (its quiet regions); this text joins the two.
-/
namespace Go.Proofs.YtfkcoiefkjmdeaaGreat
open Go
section
variable {P : Program} {ops : Array Oper} {md : Region.Mode} {C : World → Prop}
/-- Whatever comes up in the next f steps lies ahead of the tail and is quiet; then L. -/
def upTail (P : Program) (md : Region.Mode) (ops : Array Oper) (C : World → Prop) (n : Nat) (L : Array Bool → Act → Prop) : Nat → Array Bool → Act → Prop
  | 0, listed, a => L listed a
  | f + 1, listed, a => Region.ready md ops listed ≠ [] ∧ ∀ i ∈ Region.ready md ops listed, i < n ∧ qOp P ops C i (upTail P md ops C n L f (listed.setIfInBounds i true)) a
theorem any_of_upTail {n g : Nat} {L : Array Bool → Act → Prop} {Q' : Exit → Act → World → Prop} (hL : ∀ listed a w, C w → L listed a → wpAny P md ops Q' g listed a w) :
    ∀ (f : Nat) (listed : Array Bool) (a : Act) (w : World), C w → upTail P md ops C n L f listed a → wpAny P md ops Q' (f + g) listed a w := by
  intro f
  induction f with
  | zero => intro listed a w hw h; rw [Nat.zero_add]; exact hL _ _ _ hw h
  | succ f ih =>
    intro listed a w hw h
    rw [show f + 1 + g = (f + g) + 1 by omega]
    exact ⟨fun h0 => absurd h0 h.1, fun i hi => wpOp_of_qOp hw (fun a' w' hw' h' => ih _ a' w' hw' h') (h.2 i hi).2⟩
theorem upTail_first {n i : Nat} {oi : Oper} {v : Value} {L : Array Bool → Act → Prop} (hi : ops[i]? = some oi) (hsel : ∀ (j : Nat) (o : Oper) cs b, ops[j]? = some o → o.op ≠ .select cs b)
    (hs : Region.sinkB md ops n = true) (hc : Region.chainB md ops n = true) (hn : n < ops.size) (hin : i < n)
    (hdone : ∀ listed a, L listed a → ∀ j ∈ Region.ready md ops listed, n ≤ j) :
    ∀ (f : Nat) (listed : Array Bool) (a : Act), HeadInv md ops n listed →
      (∀ j oj, ops[j]? = some oj → j ≠ i → listed.getD j true = false → (∀ e ∈ oj.after, Region.binds md e = true → e.on ≠ i) → oi.apart ops oj = true) →
      i ∈ Region.ready md ops listed → YieldsIn P ops C oi v a →
      upTail P md ops C n L f (listed.setIfInBounds i true) (a.put oi.dst v) → upTail P md ops C n L (f + 1) listed a := by
  intro f
  induction f with
  | zero =>
    intro listed a inv _ hr hy H
    refine ⟨fun h => (by rw [h] at hr; cases hr), fun j hj => ?_⟩
    have hjn : j < n := Nat.lt_of_not_le fun h => tail_waits hs hc hn inv _ i rfl hin (mem_ready.1 hr).1 j h hj
    refine ⟨hjn, ?_⟩
    by_cases hji : j = i
    · subst hji
      exact hy.qOp hi H
    · exact absurd (hdone _ _ H j (ready_mono hj hji)) (by omega)
  | succ f ih =>
    intro listed a inv hfree hr hy H
    refine ⟨fun h => (by rw [h] at hr; cases hr), fun j hj => ?_⟩
    have hjn : j < n := Nat.lt_of_not_le fun h => tail_waits hs hc hn inv _ i rfl hin (mem_ready.1 hr).1 j h hj
    refine ⟨hjn, ?_⟩
    by_cases hji : j = i
    · subst hji
      exact hy.qOp hi H
    obtain ⟨hjun, oj, hoj, hall⟩ := mem_ready.1 hj
    have hnot : ∀ e ∈ oj.after, Region.binds md e = true → e.on ≠ i := fun e he hb heq => by
      have h1 := hall e he hb
      rw [heq, getD_both (mem_ready.1 hr).1] at h1
      cases h1
    have h2 := qOp_put hoj (hfree j oj hoj hji hjun hnot) (fun cs b => hsel i oi cs b hi) (fun cs b => hsel j oj cs b hoj) hy (H.2 j (ready_mono hj hji)).2
    refine qOp_mono (fun a' h3 => ih (listed.setIfInBounds j true) a' (inv.set hj hjn) (fun k ok hk hki hun hno => hfree k ok hk hki ?_ hno) (ready_mono hr (Ne.symm hji)) h3.1 ?_) h2
    · by_cases hjk : j = k
      · subst hjk
        exact hjun
      · rwa [getD_set_ne true hjk] at hun
    · rw [Array.setIfInBounds_comm _ _ hji]
      exact h3.2
theorem upTail_lex {n g : Nat} {Lq : Act → Prop} (hsel : Region.noSelect ops = true) (hs : Region.sinkB md ops n = true) (hc : Region.chainB md ops n = true) (hn : n < ops.size) :
    ∀ (l : List Oper) (k : Nat) (listed : Array Bool) (a : Act), (∀ j, j < l.length → l[j]? = ops[k + j]?) → k + l.length = n → HeadInv md ops n listed →
    Region.lexHead md ops g l.length k listed = true → wpQuiet P ops C Lq l a →
    upTail P md ops C n (fun listed' a' => Region.seqB md ops g n listed' = true ∧ Lq a') l.length listed a := by
  intro l
  induction l with
  | nil =>
    intro k listed a _ hk _ hB h
    have : k = n := by simpa using hk
    subst this
    exact ⟨by simpa [Region.lexHead] using hB, h⟩
  | cons o l ih =>
    intro k listed a hl hk inv hB h
    have h0 : ops[k]? = some o := by simpa using (hl 0 (by simp)).symm
    simp only [List.length_cons, Region.lexHead, Bool.and_eq_true] at hB
    simp only [List.length_cons] at hk
    have hkn : k < n := by omega
    have hr : k ∈ Region.ready md ops listed := by simpa using hB.1.1
    have hst : qOp P ops C k (wpQuiet P ops C Lq l) a := by unfold qOp; simp only [h0]; exact h
    obtain ⟨v, hy, hK⟩ := yieldsIn_of_qOp h0 hst
    refine upTail_first h0 (Region.noSelect_spec hsel) hs hc hn hkn (fun listed' a' hL => seqB_ready hL.1) l.length listed a inv (Region.free_spec h0 hB.1.2) hr hy ?_
    exact ih (k + 1) _ _ (fun j hj => by have := hl (j + 1) (by simp; omega); simpa [Nat.add_assoc, Nat.add_comm 1 j] using this) (by omega) (inv.set hr hkn) hB.2 hK
/-- The region: its first n operations quiet in C, the rest in their order. -/
theorem wp_region_quiet_tail {id : Nat} {Q : Exit → Act → World → Prop} {a : Act} {w : World} {l : List Oper} (n : Nat) (hm : P.follows .mixedOrders = true) (hB : Region.lexTailB .any l.toArray n = true) (hC : C { w with drawn := w.drawn + 1 })
    (h : wpQuiet P l.toArray C (fun a' => ∀ w', C w' → wpList P l.toArray Q (l.drop n) a' w') (l.take n) a) : (Code.region id l.toArray true).wp P Q a w := by
  simp only [Region.lexTailB, Bool.and_eq_true, decide_eq_true_eq] at hB
  obtain ⟨⟨⟨⟨hsel, hn⟩, hs⟩, hc⟩, hlex⟩ := hB
  have hn' : n < l.length := by simpa using hn
  have htl : (l.take n).length = n := by simp; omega
  have hdl : (l.drop n).length = l.toArray.size - n := by simp
  have inv0 : HeadInv .any l.toArray n (Array.replicate l.toArray.size false) :=
    ⟨by simp, fun j oj _ hl => (by rw [getD_replicate_false] at hl; cases hl), fun t _ ht => getD_in (by simpa using ht) (getD_replicate_false _ _)⟩
  have H := upTail_lex (md := .any) (g := l.toArray.size - n) hsel hs hc hn (l.take n) 0 _ a (fun j hj => by
    have hj' : j < n := by rw [htl] at hj; exact hj
    simp [hj']) (by simpa using htl) inv0 (by rw [htl]; exact hlex) h
  have H2 := any_of_upTail (Q' := Q) (g := l.toArray.size - n) (fun listed a' w' hw hL => by
    have := wpAny_of_seq (md := .any) (Q' := Q) (l.drop n) n listed a' w' (fun j => by simp [List.getElem?_drop]) (by rw [hdl]; exact hL.1) (hL.2 w' hw)
    rwa [hdl] at this) _ _ _ _ hC H
  rw [htl, show n + (l.toArray.size - n) = l.toArray.size by omega] at H2
  exact wp_region_any hm H2
/-- .. at the class 'w, drawn, with blocks laid behind it'. -/
theorem wp_region_below_tail {id : Nat} {Q : Exit → Act → World → Prop} {a : Act} {w : World} {l : List Oper} (n : Nat) (hm : P.follows .mixedOrders = true) (hB : Region.lexTailB .any l.toArray n = true)
    (h : wpQuiet P l.toArray (fun w' => ∃ p : Regrown, w' = Go.Sort.grow (redrawn w p.d) p.os) (fun a' => ∀ w', (∃ p : Regrown, w' = Go.Sort.grow (redrawn w p.d) p.os) → wpList P l.toArray Q (l.drop n) a' w') (l.take n) a) : (Code.region id l.toArray true).wp P Q a w :=
  wp_region_quiet_tail n hm hB ⟨⟨w.drawn + 1, #[]⟩, by rw [Go.Sort.grow_empty]; rfl⟩ h
end
end Go.Proofs.YtfkcoiefkjmdeaaGreat
namespace Go.Proofs.YtfkcoiefkjmdeaaGreat
open Go.RowKit Go.Sort
set_option maxHeartbeats 4000000
set_option maxRecDepth 100000
theorem impl_cGain (a b : Int) (w : World) : Calls Tryz.prog 28 #[.agg #[.int .i64 a, .int .i64 b]] w fun e w' => e = .returned (.int .i64 b) ∧ Below w.heap.size w w' := by
  go_enter Tryz.func28, Tryz.ntmps28
  go_wp2
  go_ret
  exact ⟨rfl, (Below.refl _ _).alloc (Nat.le_refl _) _⟩
theorem impl_sum_gain (A : Option Addr) (n c : Nat) (xs : List Strip) (k : Int) (w : World) (hx : tM.R w w.heap.size [.slice A n c] xs) (hn : hM.sz xs ≤ 100000000) (hok : M.mixOk xs = true) (hik : M.inn k 0 ((xs.length : Int) - 1) = true) :
    Calls Tryz.prog 27 #[.agg #[.slice A n c], .int .i64 k, .func (.func 28) #[] #[]] w fun e w' => e = .returned (.tuple #[.int .i64 (M.sumR xs M.gainF k).1, .int .i64 (M.sumR xs M.gainF k).2]) ∧ Below w.heap.size w w' := by
  have rx := sl_R.1 hx
  have hlx := rx.cap.1
  have hmn := M.mix_n hok
  have hnb : 1 ≤ n ∧ n ≤ 8 := by omega
  have HLX := Lib.hid hlx
  have HOK := Lib.hid hok
  have hk2 : IntKind.i64.wrap ((n : Int) - 2) = (n : Int) - 2 := IntWalk.i64_in _ (by omega)
  have hk1 := M.inn_iffM.1 hik
  obtain ⟨kk, rfl⟩ : ∃ kk : Nat, k = kk := ⟨k.toNat, by omega⟩
  have hkn : kk < n := by omega
  have hkn2 : (kk : Int) < (n : Int) := by omega
  have i0 : (0 : Int) ≤ (kk : Int) := by omega
  have HIK := Lib.hid (show M.inn (kk : Int) 0 ((n : Int) - 1) = true by rw [← hlx]; exact hik)
  have R := Lib.hid (show M.sumR xs M.gainF (kk : Int) = (((M.sums xs M.gainF)[kk]?).getD 0, 0) by rw [M.sumR, hok, hik]; rfl)
  have hk3 : IntKind.i64.wrap ((n : Int) - 1) = (n : Int) - 1 := IntWalk.i64_in _ (by omega)
  obtain ⟨W, hW⟩ : ∃ W, W = w.alloc (.cells #[.slice A n c] 30) := ⟨_, rfl⟩
  have B0 : Below w.heap.size w W := by rw [hW]; exact (Below.refl _ _).alloc (Nat.le_refl _) _
  have hself : W.cell? ⟨w.heap.size, 0, none⟩ = some (.slice A n c) := by rw [hW]; simp [go_sem]
  have lx : w.heap.size < W.heap.size := by rw [hW]; simp
  have hx2 := tM.later hx B0
  have HX2 := Lib.hid hx2
  have HW := Lib.hid hW
  have hm1 : (((n - 1 : Nat)) : Int) = (n : Int) - 1 := by omega
  have hml : n - 1 < n := by omega
  have j0 : (0 : Int) ≤ ((n - 1 : Nat) : Int) := by omega
  have j1 : ((n - 1 : Nat) : Int) < (n : Int) := by omega
  have hk4 : IntKind.i64.wrap ((n : Int) - 1) = ((n - 1 : Nat) : Int) := by rw [hk3, hm1]
  clear hlx hmn hok hik hk1 hW hx2 hk3
  go_enter Tryz.func27, Tryz.ntmps27
  go_wp2_with fail
  rw [← HW.out]
  go_wp2_with (first | (go_at_call 54; refine (impl_isMixer _ _ _ _ _ HX2.out hn).mono ?_; rw [HOK.out]; rintro e w1 ⟨rfl, bel1⟩; have hs1 : w1.cell? ⟨w.heap.size, 0, none⟩ = some (.slice A n c) := (by rw [bel1.cell lx]; exact hself)) | (go_at_call 55; refine (impl_size_impl_Strip _ _ _ _).mono ?_; rintro e w' ⟨rfl, rfl⟩) | (go_at_call 56; refine (impl_within _ _ _ _).mono ?_; rw [HIK.out]; rintro e w' ⟨rfl, rfl⟩) | (go_at_call 57; refine (impl_zeros _ _ (by omega) (by omega)).mono ?_; rintro e w2 ⟨v2, rfl, own2, bel2⟩; rw [Int.toNat_natCast] at own2; obtain ⟨A1, c1, rfl, -⟩ := own2.shape; rw [List.length_replicate] at own2 ⊢; obtain ⟨g, rfl, hg1, hg2⟩ := own2.form' (by omega); obtain ⟨z, -, cz, fz, -, -⟩ := own2.at' hml; have hs2 : w2.cell? ⟨w.heap.size, 0, none⟩ = some (.slice A n c) := (by rw [bel2.cell (Nat.lt_of_lt_of_le lx bel1.size)]; exact hs1)))
  have B1 := bel_trans B0 bel1
  have B2 := bel_trans B1 bel2
  have hw1 := bel1.size
  have lw1 : w.heap.size + 1 ≤ w1.heap.size := by omega
  have own3 : OI 2 (w.heap.size + 1) (w2.setCell ⟨g, n - 1, none⟩ (.int .i64 1)) (.slice (some ⟨g, 0, none⟩) n c1) (M.sumN xs M.gainF 0) := by
    have h1 := OI.stored' (own2.base lw1) (n - 1) 1
    show OI 2 (w.heap.size + 1) _ _ ((List.replicate xs.length 0).set (xs.length - 1) 1)
    rw [HLX.out]
    exact h1
  have B3 : Below w.heap.size w (w2.setCell ⟨g, n - 1, none⟩ (.int .i64 1)) := B2.setCell (by show w.heap.size ≤ g; omega) _
  have hs3 : (w2.setCell ⟨g, n - 1, none⟩ (.int .i64 1)).cell? ⟨w.heap.size, 0, none⟩ = some (.slice A n c) := by
    rw [World.cell?_of_block (heap_setCell_other w2 ⟨g, n - 1, none⟩ w.heap.size _ (fun e => by simp at e; omega))]
    exact hs2
  clear own2 bel1 bel2 hself B0 B1 B2 cz fz hs1 hs2 hw1
  obtain ⟨w3, hw3⟩ : ∃ w3, w3 = w2.setCell ⟨g, n - 1, none⟩ (.int .i64 1) := ⟨_, rfl⟩
  rw [← hw3] at own3 B3 hs3 ⊢
  go_loopw [10, 12, 43] (fun i _ _ wr => ∃ (z : Int) (t : Nat), i = .int .i64 z ∧ z + t + 2 = n ∧ -1 ≤ z ∧ OI 2 (w.heap.size + 1) wr (.slice (some ⟨g, 0, none⟩) n c1) (M.sumN xs M.gainF t) ∧ Below w.heap.size w wr ∧ wr.cell? ⟨w.heap.size, 0, none⟩ = some (.slice A n c) ∧ w.heap.size < wr.heap.size) (fun i _ _ _ => (intOf i + 1).toNat)
  case atStart => exact ⟨(n : Int) - 2, 0, by go_num, by omega, by omega, own3, B3, hs3, World.block_lt_of_cell? _ _ hs3⟩
  case round =>
    obtain ⟨z, t, rfl, hz, hz1, own, Bw, hsr, lwr⟩ := hrel
    by_cases hlt : 0 ≤ z
    · obtain ⟨ii, rfl⟩ : ∃ ii : Nat, z = ii := ⟨z.toNat, by omega⟩
      have hidx := Lib.hid (show xs.length - 2 - t = ii by rw [HLX.out]; omega)
      have hii : ii < n := by omega
      have hX := Lib.hid (List.getElem?_eq_getElem (l := xs) (i := ii) (by rw [HLX.out]; exact hii))
      obtain ⟨b, o1, cc, cs, hv, hab, -, hE, hcc⟩ := (rx.below Bw).atX hX.out
      simp only [Value.slice.injEq] at hv
      obtain ⟨rfl, -, rfl⟩ := hv
      generalize xs[ii]'(by rw [HLX.out]; exact hii) = x at hX hE
      obtain ⟨s, l, us⟩ := x
      obtain ⟨A2, n2, c2, rfl, -, hE⟩ := st_R.1 hE
      have e2 : wr.cell? ⟨b, o1 + ii * 3 + 2, none⟩ = some (.slice A2 n2 c2) := hcc 2 _ rfl
      have hbr : b < wr.heap.size := Nat.lt_of_lt_of_le hab Bw.size
      have rs := (tSdS_ra hE).1
      have hn2 := rs.1
      obtain ⟨hlat, hu4, hsb⟩ := M.mix_strip HOK.out hX.out
      have HN2 := Lib.hid hn2
      have HSB := Lib.hid hsb
      have n2b : n2 ≤ 4 := by omega
      have hin2 : (ii : Int) < (n : Int) := by omega
      have hX' : xs[xs.length - 2 - t]? = some (s, l, us) := by rw [hidx.out]; exact hX.out
      have HXP := Lib.hid hX'
      clear hcc hE hn2 hu4 hsb hX'
      go_wp2
      obtain ⟨wo, rfl⟩ : ∃ wo : World, wo = wr := ⟨_, rfl⟩
      go_loopw [12, 43] (fun _ i wr => ∃ j : Nat, i = .int .i64 j ∧ j ≤ n2 ∧ OI 2 (w.heap.size + 1) wr (.slice (some ⟨g, 0, none⟩) n c1) (M.sumS xs M.gainF t us j) ∧ Below w.heap.size w wr ∧ Below w.heap.size wo wr ∧ wr.cell? ⟨w.heap.size, 0, none⟩ = some (.slice (some ⟨b, o1, none⟩) n c) ∧ w.heap.size < wr.heap.size) (fun _ i _ => n2 - (intOf i).toNat)
      case atStart => exact ⟨0, rfl, by omega, own, Bw, (Below.refl _ _).mono Bw.size, hsr, lwr⟩
      case round =>
        obtain ⟨j, rfl, hj, ownj, Bj, Bo, hsj, lwj⟩ := hrel
        by_cases hlt2 : j < n2
        · obtain ⟨b2, o2, ⟨p0, p1⟩, rfl, hab2, X2, hdd⟩ := (rs.below Bo).at sd_len (by decide) hlt2
          have f0 : wr.cell? ⟨b2, o2 + j * 2, none⟩ = some (.int .i64 p0) := hdd 0 _ rfl
          have f1 : wr.cell? ⟨b2, o2 + j * 2 + 1, none⟩ = some (.int .i64 p1) := hdd 1 _ rfl
          obtain ⟨hp1, hp2, hp3⟩ := M.sends_at HSB.out X2.out
          obtain ⟨q, rfl⟩ : ∃ q : Nat, p0 = q := ⟨p0.toNat, by omega⟩
          have hqn : q < n := by have := HLX.out; omega
          have hqn2 : (q : Int) < (n : Int) := by omega
          have bp := M.smp_bd hp3
          obtain ⟨y, hyy, cy, fy, -, -⟩ := ownj.at' hqn
          obtain ⟨x, hxx, cx, fx, -, -⟩ := ownj.at' hii
          have bx := M.allSmp_at (M.sumS_smp xs M.gainF t us j) hxx.out
          have by_ := M.allSmp_at (M.sumS_smp xs M.gainF t us j) hyy.out
          have hE2 := Lib.hid (M.sumS_next (xs := xs) (f := M.gainF) (t := t) X2.out)
          have hE3 := Lib.hid (M.sumSend_eq (f := M.gainF) (g := p1) hxx.out hyy.out)
          obtain ⟨g2, hg2, hg3, hgw⟩ := ownj.form' (by omega)
          obtain rfl : g = g2 := by injection hg2 with hg2; injection hg2
          have hb2w : b2 < wr.heap.size := Nat.lt_of_lt_of_le hab2 Bj.size
          have hmb := M.wrap64_mul_bd p1 y bp by_
          have hm9 : IntKind.i64.wrap (p1 * y) = p1 * y := IntWalk.i64_in _ (by omega)
          have ha9 : IntKind.i64.wrap (x + p1 * y) = x + p1 * y := IntWalk.i64_in _ (by omega)
          clear hdd hp1 hp2 hp3 hg2 hmb
          obtain ⟨U, hU⟩ : ∃ U, U = wr.alloc (.cells #[.int .i64 (q : Int), .int .i64 p1] 68) := ⟨_, rfl⟩
          have G0 : Below wr.heap.size wr U := by rw [hU]; exact (Below.refl _ _).alloc (Nat.le_refl _) _
          have u0 : U.cell? ⟨wr.heap.size, 0, none⟩ = some (.int .i64 (q : Int)) := by rw [hU, cell_of_row _ wr.heap.size 0 _ 68 (0, 0) (heap_alloc_new wr _)]; rfl
          have u1 : U.cell? ⟨wr.heap.size, 1, none⟩ = some (.int .i64 p1) := by rw [hU, cell_of_row _ wr.heap.size 1 _ 68 (0, 0) (heap_alloc_new wr _)]; rfl
          have lu : wr.heap.size < U.heap.size := by rw [hU]; simp
          have gu : g < U.heap.size := by omega
          have wu : w.heap.size < U.heap.size := by omega
          have ux : U.cell? ⟨g, ii, none⟩ = some (.int .i64 x) := by rw [G0.cell hgw]; exact cx
          have uy : U.cell? ⟨g, q, none⟩ = some (.int .i64 y) := by rw [G0.cell hgw]; exact cy
          have fu : U.frozen? ⟨g, ii, none⟩ = false := by rw [G0.frozen hgw]; exact fx
          have us_ : U.cell? ⟨w.heap.size, 0, none⟩ = some (.slice (some ⟨b, o1, none⟩) n c) := by rw [G0.cell lwj]; exact hsj
          have ownU := ownj.below G0
          have HU := Lib.hid hU
          have k0' := cell_regrown u0
          have k1' := cell_regrown u1
          have kx' := cell_regrown ux
          have ky' := cell_regrown uy
          have cC : ∀ d os, Calls Tryz.prog 28 #[.agg #[.int .i64 (q : Int), .int .i64 p1]] (grow (redrawn U d) os) fun e w'' => e = .returned (.int .i64 p1) ∧ ∃ p : Regrown, w'' = grow (redrawn U p.d) p.os := fun d os => Calls.regrown_of (impl_cGain _ _ _)
          have cW : ∀ d os z, Calls Tryz.prog 58 #[.int .i64 z] (grow (redrawn U d) os) fun e w'' => e = .returned (.int .i64 (wrap32 z)) ∧ ∃ p : Regrown, w'' = grow (redrawn U p.d) p.os := fun d os z => Calls.regrown_of ((impl_Wrap z _).mono fun _ _ h => ⟨h.1, by rw [← h.2]; exact Below.refl _ _⟩)
          have zw : w.heap.size ≤ wr.heap.size := by omega
          clear hU
          go_wp2
          rw [← HU.out]
          refine wp_region_below_tail 18 (by kernel_rfl) (by kernel_rfl) ?_
          simp only [List.take_succ_cons, List.take_zero, List.drop_succ_cons, List.drop_zero]
          repeat (go_big_quiet_step ((first | exact cC _ _ | exact cW _ _ _)))
          refine wpQuiet_nil ?_
          intro _ hw9
          obtain ⟨⟨dq, osq⟩, hw9⟩ := hw9
          subst hw9
          have G2 := below_regrown U dq osq
          clear cC cW k0' k1' kx' ky'
          generalize grow (redrawn U dq) osq = w5 at G2 ⊢
          have fv : w5.frozen? ⟨g, ii, none⟩ = false := by rw [G2.frozen gu]; exact fu
          have vs : w5.cell? ⟨w.heap.size, 0, none⟩ = some (.slice (some ⟨b, o1, none⟩) n c) := by rw [G2.cell wu]; exact us_
          have cv5 : w5.cell? ⟨g, ii, none⟩ = some (.int .i64 x) := by rw [G2.cell gu]; exact ux
          have own5 := ownU.below G2
          have hu2 := G2.size
          go_wp2
          go_roundw
          case rel =>
            have h3 := OI.stored' own5 ii (wrap32 (x + p1 * y))
            have e3 : (M.sumS xs M.gainF t us j).set ii (wrap32 (x + p1 * y)) = M.sumS xs M.gainF t us (j + 1) := by
              rw [hE2.out, hidx.out, hE3.out]; rfl
            rw [e3] at h3
            have BB := Bj.trans (G0.mono zw)
            have BC := Bo.trans (G0.mono zw)
            have zU : w.heap.size ≤ U.heap.size := by omega
            have vt : (w5.setCell ⟨g, ii, none⟩ (.int .i64 (wrap32 (x + p1 * y)))).cell? ⟨w.heap.size, 0, none⟩ = some (.slice (some ⟨b, o1, none⟩) n c) := by
              rw [World.cell?_of_block (heap_setCell_other w5 ⟨g, ii, none⟩ w.heap.size _ (fun e => by simp at e; omega))]
              exact vs
            try simp only [Int.one_mul] at h3 vt ⊢
            exact ⟨j + 1, by go_num, by omega, h3, (BB.trans (G2.mono zU)).setCell (by show w.heap.size ≤ g; omega) _, (BC.trans (G2.mono zU)).setCell (by show w.heap.size ≤ g; omega) _, vt, World.block_lt_of_cell? _ _ vt⟩
          case measure => simp [intOf]; omega
        · obtain rfl : j = n2 := by omega
          have hend := M.sumS_end (f := M.gainF) HXP.out
          rw [HN2.out] at hend
          have HE := Lib.hid hend
          clear hend
          go_wp2
          go_roundw
          case rel => exact ⟨(ii : Int) - 1, t + 1, by go_num, by omega, by omega, by rw [← HE.out]; exact ownj, Bj, hsj, lwj⟩
          case measure => simp [intOf] <;> omega
    · obtain rfl : z = -1 := by omega
      obtain rfl : t = n - 1 := by omega
      obtain ⟨v, hvv, cv, fv, -, -⟩ := own.at' hkn
      have hR := Lib.hid (show M.sumR xs M.gainF (kk : Int) = (v, 0) by rw [R.out, M.sums, HLX.out, hvv.out]; rfl)
      go_wp2
      go_ret2
      exact ⟨by rw [hR.out]; rfl, Bw⟩
end Go.Proofs.YtfkcoiefkjmdeaaGreat
namespace Go.Proofs.YtfkcoiefkjmdeaaGreat
open Go.RowKit Go.Sort
set_option maxHeartbeats 4000000
set_option maxRecDepth 100000
theorem impl_sumAll_gain (A : Option Addr) (n c : Nat) (xs : List Strip) (k : Int) (w : World) (hx : tM.R w w.heap.size [.slice A n c] xs) (hn : hM.sz xs ≤ 100000000) :
    Calls Tryz.prog 27 #[.agg #[.slice A n c], .int .i64 k, .func (.func 28) #[] #[]] w fun e w' => e = .returned (.tuple #[.int .i64 (M.sumR xs M.gainF k).1, .int .i64 (M.sumR xs M.gainF k).2]) ∧ Below w.heap.size w w' := by
  have hlx := (sl_R.1 hx).cap.1
  obtain ⟨W, hW⟩ : ∃ W, W = w.alloc (.cells #[.slice A n c] 30) := ⟨_, rfl⟩
  have B0 : Below w.heap.size w W := by rw [hW]; exact (Below.refl _ _).alloc (Nat.le_refl _) _
  have hself : W.cell? ⟨w.heap.size, 0, none⟩ = some (.slice A n c) := by rw [hW]; simp [go_sem]
  have lx : w.heap.size < W.heap.size := by rw [hW]; simp
  have hx2 := tM.later hx B0
  cases hM : M.mixOk xs
  · have R := Lib.hid (show M.sumR xs M.gainF k = (0, 1) by rw [M.sumR, hM]; rfl)
    have HM := Lib.hid hM
    have HW := Lib.hid hW
    clear hM hW
    go_enter Tryz.func27, Tryz.ntmps27
    go_wp2_with fail
    rw [← HW.out]
    go_wp2_with (go_at_call 54; refine (impl_isMixer _ _ _ _ _ hx2 hn).mono ?_; rw [HM.out]; rintro e w1 ⟨rfl, bel1⟩)
    go_ret2
    exact ⟨by rw [R.out]; rfl, bel_trans B0 bel1⟩
  · cases hI : M.inn k 0 ((xs.length : Int) - 1)
    · have R := Lib.hid (show M.sumR xs M.gainF k = (0, 2) by rw [M.sumR, hM, hI]; rfl)
      have hmn := M.mix_n hM
      have hk4 : IntKind.i64.wrap ((n : Int) - 1) = (n : Int) - 1 := IntWalk.i64_in _ (by omega)
      rw [hlx] at hI
      have HI := Lib.hid hI
      have HM := Lib.hid hM
      have HW := Lib.hid hW
      clear hM hW hI
      go_enter Tryz.func27, Tryz.ntmps27
      go_wp2_with fail
      rw [← HW.out]
      go_wp2_with (first | (go_at_call 54; refine (impl_isMixer _ _ _ _ _ hx2 hn).mono ?_; rw [HM.out]; rintro e w1 ⟨rfl, bel1⟩; have hs1 : w1.cell? ⟨w.heap.size, 0, none⟩ = some (.slice A n c) := (by rw [bel1.cell lx]; exact hself)) | (go_at_call 55; refine (impl_size_impl_Strip _ _ _ _).mono ?_; rintro e w' ⟨rfl, rfl⟩) | (go_at_call 56; refine (impl_within _ _ _ _).mono ?_; rw [HI.out]; rintro e w' ⟨rfl, rfl⟩))
      go_ret2
      exact ⟨by rw [R.out]; rfl, bel_trans B0 bel1⟩
    · exact impl_sum_gain A n c xs k w hx hn hM hI
theorem impl_GainTo (A : Option Addr) (n c : Nat) (xs : List Strip) (k : Int) (w : World) (hx : tM.R w w.heap.size [.slice A n c] xs) (hn : hM.sz xs ≤ 100000000) :
    Calls Tryz.prog 9 #[.agg #[.slice A n c], .int .i64 k] w fun e w' => e = .returned (.tuple #[.int .i64 (M.sumR xs M.gainF k).1, .int .i64 (M.sumR xs M.gainF k).2]) ∧ Below w.heap.size w w' := by
  have hb : Below w.heap.size w (w.alloc (.cells #[.slice A n c] 30)) := (Below.refl _ _).alloc (Nat.le_refl _) _
  have hx2 := tM.later hx hb
  go_enter Tryz.func9, Tryz.ntmps9
  go_wp2_with (go_at_call 27; refine (impl_sumAll_gain _ _ _ _ _ _ hx2 hn).mono ?_; rintro e w2 ⟨rfl, bel2⟩)
  go_ret2
  exact ⟨rfl, bel_trans hb bel2⟩
end Go.Proofs.YtfkcoiefkjmdeaaGreat
namespace Go.Proofs.YtfkcoiefkjmdeaaGreat
open Go.RowKit Go.Sort
set_option maxHeartbeats 40000000
set_option maxRecDepth 100000
set_option linter.unusedVariables false
/-- The effects, of the first k none. -/
def M.zapK (k : Nat) (ps : List Patch) : List Patch := ps.mapIdx (fun i x => if i < k then M.p0 else x)
theorem M.zapK_len (k : Nat) (ps : List Patch) : (M.zapK k ps).length = ps.length := by simp [M.zapK]
theorem M.zapK_zero (ps : List Patch) : M.zapK 0 ps = ps := by
  apply List.ext_getElem (by simp [M.zapK])
  intro i h h'
  simp [M.zapK]
theorem M.zapK_at {k : Nat} {ps : List Patch} {x : Patch} (h : ps[k]? = some x) : (M.zapK k ps)[k]? = some x := by
  simp [M.zapK, List.getElem?_mapIdx, h]
theorem M.zapK_step (k : Nat) (ps : List Patch) : M.zapK (k + 1) ps = (M.zapK k ps).set k M.p0 := by
  apply List.ext_getElem (by simp [M.zapK])
  intro i h1 h2
  rw [List.getElem_set]
  simp only [M.zapK, List.getElem_mapIdx]
  by_cases hi : i = k
  · subst hi; simp
  · have e : (i < k + 1) ↔ (i < k) := by omega
    simp only [e, if_neg (show ¬ k = i by omega)]
theorem M.zapK_all (ps : List Patch) : ∀ p ∈ M.zapK ps.length ps, p = M.p0 := by
  intro p hp
  obtain ⟨i, hi, rfl⟩ := List.mem_iff_getElem.1 hp
  rw [M.zapK_len] at hi
  simp [M.zapK, hi]
theorem M.sums_i (ms : List Strip) (f : Int × Int → Int) (q : Nat) : M.smp (M.i_ (M.sums ms f) q) = true := by
  rw [M.i_]
  cases e : (M.sums ms f)[q]? with
  | none => rfl
  | some x => exact M.sumN_smp ms f _ x (List.mem_of_getElem? e)
theorem M.stem_want {L : Nat} {src : List (List Int)} {ts : List (List Clip_)} {fs : List Int} {ps : List Patch} {ms : List Strip} (h : M.SO L src ts fs ps ms) (hp : ∀ p ∈ ps, p = M.p0) {k : Nat} (hk : k < ts.length) :
    M.stemS L src ts fs ps ms (k : Int) = M.addS [] (M.renT src (M.tra ts k) L) (M.i_ (M.sums ms M.gainF) (M.i_ fs k).toNat) := by
  refine M.i_ext (by rw [M.stemS_len, M.addS_len, M.renT_len]; simp) fun j hj => ?_
  rw [M.stemS_len] at hj
  rw [M.stem_gain h hp hk j hj, M.i_addS, show M.i_ [] j = 0 from rfl, Int.zero_add]
theorem core_FnGains (A0 : Option Addr) (n0 : Nat) (c0 : Nat) (x0 : List UInt8) (w : World) (h0 : RS tU8 w w.heap.size (.slice A0 n0 c0) x0) :
    Calls Tryz.prog 3 #[.slice A0 n0 c0] w fun e w' => e = .returned (.bool true) ∧ Below w.heap.size w w' := by
  cases hlong : decide (1048576 < n0)
  · have hlong' := Lib.hid hlong
    clear hlong
    go_enter Tryz.func3, Tryz.ntmps3
    go_wp2_with fail
    refine (laws_b10Long _ _ _ _).mono ?_
    rw [hlong'.out]
    rintro e w' ⟨rfl, rfl⟩
    go_wp2_with fail
    refine (spec_DrawLinearSession _ _ _ _ _ h0).mono ?_
    rintro e w1 ⟨i0, A1, n1, c1, A2, n2, c2, A3, n3, c3, A4, n4, c4, A5, n5, c5, x, rfl, oz, HP, bel1⟩
    obtain ⟨a0, src, ts, fs, ps, ms⟩ := x
    have s1 := bel1.size
    obtain ⟨_, _, _, _, _, _, _, _, _, _, _, _, _, _, _, F1, F2, F3, F4, F5, hcs, g1, g2, g3, g4, g5, q1, q2, q3, q4, q5, r1_2, r1_3, r1_4, r1_5, r2_3, r2_4, r2_5, r3_4, r3_5, r4_5⟩ := tZ_O.1 oz
    simp only [List.cons.injEq, Value.int.injEq, Value.slice.injEq, and_true, true_and] at hcs
    obtain ⟨rfl, ⟨rfl, rfl, rfl⟩, ⟨rfl, rfl, rfl⟩, ⟨rfl, rfl, rfl⟩, ⟨rfl, rfl, rfl⟩, ⟨rfl, rfl, rfl⟩⟩ := hcs
    have hL := HP.out.len
    dsimp only at hL
    obtain ⟨L, rfl⟩ : ∃ L : Nat, i0 = L := ⟨i0.toNat, by omega⟩
    have hL4 : L ≤ 40 := by omega
    have ln1 := Lib.hid (sl_O.1 g1).read.cap.1
    have ln2 := Lib.hid (sl_O.1 g2).read.cap.1
    have ln3 := Lib.hid (sl_O.1 g3).read.cap.1
    have ln4 := Lib.hid (sl_O.1 g4).read.cap.1
    have ln5 := Lib.hid (sl_O.1 g5).read.cap.1
    have hok := Lib.hid (HP.out.ok (ps := M.zapK ps.length ps) (by rw [M.zapK_len]; exact HP.out.en) (fun p hp => by rw [M.zapK_all ps p hp]; rfl))
    have hSO : Hid (M.SO L src ts fs (M.zapK ps.length ps) ms) := by
      obtain ⟨L', e, h⟩ := M.SO_of hok.out
      obtain rfl : L = L' := by omega
      exact Lib.hid h
    have hfew := HP.out.few
    have hsz : hZ.sz ((L : Int), src, ts, fs, M.zapK ps.length ps, ms) ≤ 100000000 := (show M.fewZ ((L : Int), src, ts, fs, M.zapK ps.length ps, ms) from ⟨hfew.sn, hfew.tn, hfew.fn, by rw [M.zapK_len]; exact hfew.en, fun p hp => by rw [M.zapK_all ps p hp]; exact ⟨by simp [M.p0], by simp [M.p0]⟩, fun p hp => by rw [M.zapK_all ps p hp]; exact ⟨by simp [M.p0], by simp [M.p0]⟩, fun p hp => by rw [M.zapK_all ps p hp]; simp [M.p0], hfew.mn, hfew.mt⟩).sz
    have hszT : hTS.sz ts ≤ 100000000 := by rw [hZ_sz] at hsz; omega
    have hszM : hM.sz ms ≤ 100000000 := by rw [hZ_sz] at hsz; omega
    have hb1 : n1 ≤ 30 := by have : src.length ≤ 30 := hfew.sn.1; have h2 := ln1.out; omega
    have hb2 : n2 ≤ 30 := by have : ts.length ≤ 30 := hfew.tn.1; have h2 := ln2.out; omega
    have hb3 : n2 = n3 := by have := HP.out.fn; have h2 := ln2.out; have h3 := ln3.out; dsimp only at this; omega
    have hb4 : n4 ≤ 30 := by have : ps.length ≤ 30 := hfew.en; have h2 := ln4.out; omega
    have hb5 : 1 ≤ n5 ∧ n5 ≤ 8 := by have := HP.out.mn; have h2 := ln5.out; dsimp only at this; omega
    subst hb3
    have HSL := Lib.hid (show ∀ x ∈ src, x.length ≤ 1000000000 from fun s hs => by have := hfew.sn.2 s hs; omega)
    clear hL hfew
    obtain ⟨U, hU, BU, sU, d0, d1, d2, d3, d4, d5, df⟩ := newbox6 w1 (.int .i64 L) (.slice A1 n1 c1) (.slice A2 n2 c2) (.slice A3 n2 c3) (.slice A4 n4 c4) (.slice A5 n5 c5) 32
    have HU := Lib.hid hU
    have BWU := bel_trans bel1 BU
    clear hU oz df
    replace g1 := tSS.ochg g1 (Chg.of_below BU (fun _ => False)) (fun _ _ h => h)
    replace g2 := tTS.ochg g2 (Chg.of_below BU (fun _ => False)) (fun _ _ h => h)
    replace g3 := tS.ochg g3 (Chg.of_below BU (fun _ => False)) (fun _ _ h => h)
    replace g4 := tPS.ochg g4 (Chg.of_below BU (fun _ => False)) (fun _ _ h => h)
    replace g5 := tM.ochg g5 (Chg.of_below BU (fun _ => False)) (fun _ _ h => h)
    have gF4 : ∀ b, F4 b → w.heap.size ≤ b ∧ b < w1.heap.size := fun b hb => q4 b hb
    go_wp2_with fail
    rw [← HU.out]
    go_loopw [4] (fun i wr => ∃ k : Nat, i = .int .i64 k ∧ k ≤ n4 ∧ OS tP 36 wr F4 (.slice A4 n4 c4) (M.zapK k ps) ∧ Chg F4 U wr) (fun i _ => n4 - (intOf i).toNat)
    case atStart => exact ⟨0, rfl, by omega, by rw [M.zapK_zero]; exact sl_O.1 g4, Chg.refl _ _⟩
    case round =>
      obtain ⟨k, rfl, hk, own, ch⟩ := hrel
      have sr := ch.size
      have D4 : wr.cell? ⟨w1.heap.size, 4, none⟩ = some (.slice A4 n4 c4) := (ch.cell (by omega) (fun h => by have := gF4 _ h; omega)).trans d4
      by_cases hlt : k < n4
      · have hX := Lib.hid (List.getElem?_eq_getElem (show k < ps.length by rw [ln4.out]; exact hlt))
        generalize ps[k]'(by rw [ln4.out]; exact hlt) = x at hX
        have Q := Lib.hid (M.zapK_step k ps)
        obtain ⟨css, Fs, hole, cs, hcs, hE⟩ := own.openAt (M.zapK_at hX.out)
        obtain ⟨a0, x1, x2, x3⟩ := x
        obtain ⟨E1, m1, e1, E2, m2, e2, E3, m3, e3, _, _, _, rfl, -, -, -, -, -, -, -, -, -⟩ := tP_O.1 hE
        obtain ⟨g2_, rfl, hgF, hgn, hgl, -⟩ := hole.form (by rw [M.zapK_len, ln4.out]; exact hlt)
        have c0_ : wr.cell? ⟨g2_, k * 4 + 0, none⟩ = _ := (hole.cell hcs (j := 0) rfl).1
        have c1_ : wr.cell? ⟨g2_, k * 4 + 1, none⟩ = _ := (hole.cell hcs (j := 1) rfl).1
        have c2_ : wr.cell? ⟨g2_, k * 4 + 2, none⟩ = _ := (hole.cell hcs (j := 2) rfl).1
        have c3_ : wr.cell? ⟨g2_, k * 4 + 3, none⟩ = _ := (hole.cell hcs (j := 3) rfl).1
        have f0_ : wr.frozen? ⟨g2_, k * 4 + 0, none⟩ = _ := (hole.cell hcs (j := 0) rfl).2
        have f1_ : wr.frozen? ⟨g2_, k * 4 + 1, none⟩ = _ := (hole.cell hcs (j := 1) rfl).2
        have f2_ : wr.frozen? ⟨g2_, k * 4 + 2, none⟩ = _ := (hole.cell hcs (j := 2) rfl).2
        have f3_ : wr.frozen? ⟨g2_, k * 4 + 3, none⟩ = _ := (hole.cell hcs (j := 3) rfl).2
        rw [Nat.add_zero] at c0_ f0_
        go_wp2_with fail
        go_roundw
        case rel =>
          have s0 := hole.set hcs 0 (by decide) (.int .i64 0)
          have s1 := s0.1.set s0.2 1 (by decide) (.slice none 0 0)
          have s2 := s1.1.set s1.2 2 (by decide) (.slice none 0 0)
          have s3 := s2.1.set s2.2 3 (by decide) (.slice none 0 0)
          have h3 := s3.1.fill s3.2 (y := M.p0) (tP_O.2 ⟨none, 0, 0, none, 0, 0, none, 0, 0, fun _ => False, fun _ => False, fun _ => False, rfl, sl_O.2 (OS.nil _ _ _ _), sl_O.2 (OS.nil _ _ _ _), sl_O.2 (OS.nil _ _ _ _), fun _ h => h.elim, fun _ h => h.elim, fun _ h => h.elim, fun _ h => h.elim, fun _ h => h.elim, fun _ h => h.elim⟩)
          rw [Nat.add_zero, show tP.s = 4 from rfl] at h3
          exact ⟨k + 1, by go_num, by omega, by rw [Q.out]; exact h3, (((ch.trans (Chg.set _ g2_ _ _ hgF)).trans (Chg.set _ g2_ _ _ hgF)).trans (Chg.set _ g2_ _ _ hgF)).trans (Chg.set _ g2_ _ _ hgF)⟩
        case measure => simp [intOf]; omega
      · obtain rfl : k = n4 := by omega
        obtain ⟨X, rfl⟩ : ∃ X : World, X = wr := ⟨_, rfl⟩
        have D0 : X.cell? ⟨w1.heap.size, 0, none⟩ = some (.int .i64 L) := (ch.cell (by omega) (fun h => by have := gF4 _ h; omega)).trans d0
        have D1 : X.cell? ⟨w1.heap.size, 1, none⟩ = some (.slice A1 n1 c1) := (ch.cell (by omega) (fun h => by have := gF4 _ h; omega)).trans d1
        have D2 : X.cell? ⟨w1.heap.size, 2, none⟩ = some (.slice A2 n2 c2) := (ch.cell (by omega) (fun h => by have := gF4 _ h; omega)).trans d2
        have D3 : X.cell? ⟨w1.heap.size, 3, none⟩ = some (.slice A3 n2 c3) := (ch.cell (by omega) (fun h => by have := gF4 _ h; omega)).trans d3
        have D5 : X.cell? ⟨w1.heap.size, 5, none⟩ = some (.slice A5 n5 c5) := (ch.cell (by omega) (fun h => by have := gF4 _ h; omega)).trans d5
        have R1 := tSS.read (tSS.ochg g1 ch (fun b h h2 => r1_4 b h h2))
        have R2 := tTS.read (tTS.ochg g2 ch (fun b h h2 => r2_4 b h h2))
        have R3 := tS.read (tS.ochg g3 ch (fun b h h2 => r3_4 b h h2))
        have R4 := tPS.read (sl_O.2 own)
        have R5 := tM.read (tM.ochg g5 ch (fun b h h2 => r4_5 b h2 h))
        have RZ := Lib.hid (show tZ.R X X.heap.size [.int .i64 L, .slice A1 n1 c1, .slice A2 n2 c2, .slice A3 n2 c3, .slice A4 k c4, .slice A5 n5 c5] ((L : Int), src, ts, fs, M.zapK k ps, ms) from tZ_R.2 ⟨A1, n1, c1, A2, n2, c2, A3, n2, c3, A4, k, c4, A5, n5, c5, rfl, R1, R2, R3, R4, R5⟩)
        have lX : w1.heap.size < X.heap.size := by omega
        have K1 := sl_R.1 R1
        have K2 := sl_R.1 R2
        have K3 := sl_R.1 R3
        rw [ln4.out] at hSO hok hsz
        have BX : Below w.heap.size w X := BWU.trans (ch.toBelow (fun b hb => (gF4 b hb).1) (by omega))
        clear own R1 R2 R3 R4 g1 g2 g3 g4 g5 q1 q2 q3 q4 q5 r1_2 r1_3 r1_4 r1_5 r2_3 r2_4 r2_5 r3_4 r3_5 r4_5 ch gF4 d0 d1 d2 d3 d4 d5
        go_wp2_with fail
        go_loopw [5] (fun i wr => ∃ t : Nat, i = .int .i64 t ∧ t ≤ n2 ∧ Below X.heap.size X wr) (fun i _ => n2 - (intOf i).toNat)
        case atStart => exact ⟨0, rfl, by omega, Below.refl _ _⟩
        case round =>
          obtain ⟨t, rfl, ht, B⟩ := hrel
          have sB := B.size
          have e0 : wr.cell? ⟨w1.heap.size, 0, none⟩ = some (.int .i64 L) := by rw [B.cell (by show w1.heap.size < _; omega)]; exact D0
          have e1 : wr.cell? ⟨w1.heap.size, 1, none⟩ = some (.slice A1 n1 c1) := by rw [B.cell (by show w1.heap.size < _; omega)]; exact D1
          have e2 : wr.cell? ⟨w1.heap.size, 2, none⟩ = some (.slice A2 n2 c2) := by rw [B.cell (by show w1.heap.size < _; omega)]; exact D2
          have e3 : wr.cell? ⟨w1.heap.size, 3, none⟩ = some (.slice A3 n2 c3) := by rw [B.cell (by show w1.heap.size < _; omega)]; exact D3
          have e4 : wr.cell? ⟨w1.heap.size, 4, none⟩ = some (.slice A4 k c4) := by rw [B.cell (by show w1.heap.size < _; omega)]; exact D4
          have e5 : wr.cell? ⟨w1.heap.size, 5, none⟩ = some (.slice A5 n5 c5) := by rw [B.cell (by show w1.heap.size < _; omega)]; exact D5
          by_cases hlt : t < n2
          · have RZr := tZ.later RZ.out B
            have TC : M.trkCode ((L : Int), src, ts, fs, M.zapK k ps, ms) [(t : Int)] = 0 := by
              have h1 : M.idx (ts.length : Int) (t : Int) = true := M.inn_iff.2 (by have := ln2.out; omega)
              rw [M.trkCode, if_pos hok.out, if_pos (by rw [List.all_cons, List.all_nil, Bool.and_true]; exact h1)]
            have RS_ := Lib.hid (show M.stemR ((L : Int), src, ts, fs, M.zapK k ps, ms) (t : Int) = (M.stemS L src ts fs (M.zapK k ps) ms (t : Int), 0) by
              rw [M.stemR, if_pos TC]; rfl)
            clear TC
            have t0 : (0 : Int) ≤ (t : Int) := by omega
            have t1 : (t : Int) < (n2 : Int) := by omega
            go_wp2_with fail
            refine (impl_StemOf_Y _ _ _ _ _ _ _ _ _ _ _ _ _ _ _ _ _ (t : Int) wr RZr hsz).mono ?_
            rw [RS_.out]
            rintro e w2 ⟨v2, rfl, own2, b2⟩
            obtain ⟨S1, d1, e6, rs1⟩ := own2.shape
            rw [M.stemS_len] at e6 rs1
            subst e6
            have B2 := B.trans (b2.mono sB)
            have z2 := b2.size
            have q0 : w2.cell? ⟨w1.heap.size, 0, none⟩ = some (.int .i64 L) := by rw [B2.cell (by show w1.heap.size < _; omega)]; exact D0
            have q1 : w2.cell? ⟨w1.heap.size, 1, none⟩ = some (.slice A1 n1 c1) := by rw [B2.cell (by show w1.heap.size < _; omega)]; exact D1
            have q2 : w2.cell? ⟨w1.heap.size, 2, none⟩ = some (.slice A2 n2 c2) := by rw [B2.cell (by show w1.heap.size < _; omega)]; exact D2
            obtain ⟨bb, o, A7, n7, c7, x, rfl, hbb, XX, ct, -, hra, hn7⟩ := track_cell (K2.below B2) hszT hlt
            have htr := hSO.out.tr x (List.mem_of_getElem? XX.out)
            have RR := Lib.hid (M.renderR_ok hSO.out.so htr.1 htr.2 (show L ≤ 4000 by omega))
            have HTRA := Lib.hid (M.tra_at XX.out)
            have y0 := cell_regrown q0
            have y1 := cell_regrown q1
            have y2 := cell_regrown q2
            have yt := cell_regrown ct
            have D1_ : Below w2.heap.size w2 w2.drew := below_drewN (Below.refl _ _) 1
            have hdU : w2.drew.heap.size = w2.heap.size := rfl
            clear e0 e1 e2 e3 e4 e5 htr RZr
            go_wp2_with fail
            (refine wp_region_fresh2 [0, 2, 4, 7] [1, 3, 5, 6, 8] 4 (.one 9 (.first 10 (.first 11 (.first 12 .rest)))) [13] [13, 14] (by kernel_rfl) (by kernel_rfl) ?_; simp only [pickOps]; simp only [List.filterMap, List.getElem?_cons_succ, List.getElem?_cons_zero]; (repeat (go_big_quiet_step (fail))); refine wpQuiet_nil ?_; (repeat (go_big_quiet_step (fail))); refine wpQuiet_nil ?_)
            refine seqT_one2 rfl ?_
            go_wp2_with fail
            have BD1 := B2.trans (D1_.mono (by omega))
            refine (spec_RenderTrack _ _ _ c1 _ c7 (L : Int) src x _ ((K1.below BD1).more (by omega)) ((hra.below (D1_.mono (by omega))).more (by omega)) HSL (by omega) (by omega)).mono ?_
            rw [RR.out]
            rintro e w3 ⟨v3, rfl, own3, b3⟩
            rw [← HTRA.out] at own3
            dsimp only at own3
            have B3 := bel_trans D1_ b3
            have z3 := b3.size
            obtain ⟨A8, c8, e8, r8⟩ := own3.shape
            rw [M.renT_len] at e8 r8
            subst e8
            go_wp2_with fail
            refine ⟨regrown_of_below B3, ?_⟩
            (refine seqT_first2 rfl ?_; (repeat (go_big_quiet_step (fail))); refine wpQuiet_nil ?_)
            (refine seqT_first2 rfl ?_; (repeat (go_big_quiet_step (fail))); refine wpQuiet_nil ?_)
            (refine seqT_first2 rfl ?_; (repeat (go_big_quiet_step (fail))); refine wpQuiet_nil ?_)
            refine seqT_rest2 ?_
            have BX3 := B2.trans (B3.mono (by omega))
            have q3 : w3.cell? ⟨w1.heap.size, 3, none⟩ = some (.slice A3 n2 c3) := by rw [BX3.cell (by show w1.heap.size < _; omega)]; exact D3
            have q5 : w3.cell? ⟨w1.heap.size, 5, none⟩ = some (.slice A5 n5 c5) := by rw [BX3.cell (by show w1.heap.size < _; omega)]; exact D5
            have rs3 := rs1.later B3
            have hft : fs[t]? = some (M.i_ fs t) := by
              have : t < fs.length := by rw [ln3.out]; exact hlt
              rw [M.i_, List.getElem?_eq_getElem this]; rfl
            have hfr := hSO.out.fr _ (List.mem_of_getElem? hft)
            have kf3 : RI w3 X.heap.size A3 n2 fs := (K3.ri.below BX3)
            obtain ⟨b3_, o3, rfl, hb3_, hc3⟩ := ri_lit kf3 (by omega)
            have cf := hc3 t _ hft
            obtain ⟨q, hq⟩ : ∃ q : Nat, M.i_ fs t = (q : Int) := ⟨(M.i_ fs t).toNat, by omega⟩
            have WANT := Lib.hid (M.stem_want hSO.out (fun p hp => by rw [← ln4.out] at hp; exact M.zapK_all ps p hp) (k := t) (by rw [ln2.out]; exact hlt))
            rw [hq] at cf hfr
            rw [hq, Int.toNat_natCast] at WANT
            have SR := Lib.hid (show M.sumR ms M.gainF (q : Int) = (M.i_ (M.sums ms M.gainF) q, 0) by
              rw [M.sumR, if_pos hSO.out.mix, if_pos (M.inn_iff.2 (by omega))]; rfl)
            have hsg := M.sums_i ms M.gainF q
            generalize hG : M.i_ (M.sums ms M.gainF) q = gain at *
            have y3 := cell_regrown q3
            have y5 := cell_regrown q5
            have yf := cell_regrown cf
            have D3_ : Below w3.heap.size w3 w3.drew := below_drewN (Below.refl _ _) 1
            have hd3 : w3.drew.heap.size = w3.heap.size := rfl
            have r8' := r8.later D3_
            have rs3' := rs3.later D3_
            clear y0 y1 y2 yt hc3 hq hft q0 q1 q2 ct hG
            go_wp2_with fail
            (refine wp_region_fresh2 [0, 2, 4] [1, 3, 5, 6] 4 (.one 7 (.first 8 (.first 9 (.first 10 .rest)))) [11] [11, 12] (by kernel_rfl) (by kernel_rfl) ?_; simp only [pickOps]; simp only [List.filterMap, List.getElem?_cons_succ, List.getElem?_cons_zero]; (repeat (go_big_quiet_step (fail))); refine wpQuiet_nil ?_; (repeat (go_big_quiet_step (fail))); refine wpQuiet_nil ?_)
            refine seqT_one2 rfl ?_
            go_wp2_with fail
            have BD3 := BX3.trans (D3_.mono (by omega))
            refine (impl_GainTo _ _ _ ms (q : Int) _ (tM.later R5 BD3) hszM).mono ?_
            rw [SR.out]
            rintro e w4 ⟨rfl, b4⟩
            have B4 := bel_trans D3_ b4
            have z4 := b4.size
            have r84 := r8'.later b4
            have rs4 := rs3'.later b4
            go_wp2_with fail
            refine ⟨regrown_of_below B4, ?_⟩
            (refine seqT_first2 rfl ?_; (repeat (go_big_quiet_step (fail))); refine wpQuiet_nil ?_)
            (refine seqT_first2 rfl ?_; (repeat (go_big_quiet_step (fail))); refine wpQuiet_nil ?_)
            (refine seqT_first2 rfl ?_; (repeat (go_big_quiet_step (fail))); refine wpQuiet_nil ?_)
            refine seqT_rest2 ?_
            clear y3 y5 yf
            go_wp2_with fail
            refine (spec_ScaleSignal _ _ _ _ gain w4 r84 (by omega) (by rw [M.sig, Bool.and_eq_true, decide_eq_true_eq]; exact ⟨by rw [M.renT_len]; omega, M.renT_all _ _ _⟩) hsg).mono ?_
            rintro e w5 ⟨v5, rfl, own5, b5⟩
            obtain ⟨A9, c9, e9, r9⟩ := own5.shape
            have hwl : (M.addS [] (M.renT src (M.tra ts t) L) gain).length = L := by rw [M.addS_len, M.renT_len]; simp
            rw [hwl] at e9 r9
            subst e9
            have rs5 := rs4.later b5
            have BX5 := BX3.trans ((bel_trans B4 b5).mono (by omega))
            go_wp2_with (go_at_call 11; refine (laws_b10Nums _ _ _ _ _ _ _ _ w5 rs5 r9 (by omega)).mono ?_; rw [decide_eq_true WANT.out]; rintro e w6 ⟨rfl, b6⟩)
            go_roundw
            case rel => exact ⟨t + 1, by go_num, by omega, BX5.trans (b6.mono (by have := BX5.size; omega))⟩
            case measure => simp [intOf]; omega
          · go_wp2
            go_ret
            exact ⟨rfl, bel_trans BX B⟩
  · go_enter Tryz.func3, Tryz.ntmps3
    go_wp2_with fail
    refine (laws_b10Long _ _ _ _).mono ?_
    rw [hlong]
    rintro e w' ⟨rfl, rfl⟩
    go_wp2
    go_ret
    exact ⟨rfl, Below.refl _ _⟩
end Go.Proofs.YtfkcoiefkjmdeaaGreat
namespace Go.Proofs.YtfkcoiefkjmdeaaGreat
open Go.ChangeShapes Go.WideShapes Go.Deep Go.RowKit
/-- Whatever came in at this type reads as something. -/
def Opens (P : Program) (T : TypeId) {α : Type} (t : Ty α) : Prop :=
  ∀ {H : Type} (enc : TypeId × Value → H) (w : World) (base : Nat) (spare : Nat → Bool) (held : Bool) (fuel : Nat) (cs : List Value) (d : DataW H × List MemPlace), DataW.trod enc P w base spare held fuel T cs = some d → ∃ x, t.R w w.heap.size cs x
section
variable {P : Program} {T : TypeId}
theorem opens_sl {α : Type} {t : Ty α} {e e' : TypeId} (ht : P.underlying T = some (.slice e)) (hC : P.cellsOf e = t.s) (he : Opens P e t) : Opens P T (t.sl e') := by
  intro H enc w base spare held fuel cs d h
  rcases open_slice ht h with ⟨rfl, _⟩ | ⟨a, len, cap, m, n, D, Pl, rfl, hb, hl, hm, hmm, hx, hi⟩
  · exact ⟨[], _, rfl, RS.nil _ _ _⟩
  · have hlm : len ≤ m := by rw [hmm]; split <;> omega
    have key : ∀ i, ∃ p : List Value × α, i < len → t.R w w.heap.size p.1 p.2 ∧ ∀ j u, p.1[j]? = some u → w.cell? (a.add (i * t.s + j)) = some u := by
      intro i
      by_cases hil : i < len
      · obtain ⟨cs', hc, ht'⟩ := hi i (by omega)
        rw [hC] at hc
        obtain ⟨x, hR⟩ := he enc w base spare held n cs' _ ht'
        obtain ⟨_, hcl, hat⟩ := World.cells?_some hc
        refine ⟨(cs', x), fun _ => ⟨hR, fun j u hu => ?_⟩⟩
        have hj : j < t.s := by rw [← hcl]; exact (List.getElem?_eq_some_iff.1 hu).1
        have := hat j hj
        rw [Go.Deep.add_add] at this
        rw [this]
        exact hu
      · exact ⟨([], t.zero), fun hc => absurd hc hil⟩
    obtain ⟨g, hg⟩ : ∃ g : Nat → List Value × α, ∀ i, i < len → t.R w w.heap.size (g i).1 (g i).2 ∧ ∀ j u, (g i).1[j]? = some u → w.cell? (a.add (i * t.s + j)) = some u := ⟨fun i => Classical.choose (key i), fun i => Classical.choose_spec (key i)⟩
    have hs : ∀ c ∈ (List.range len).map (fun i => (g i).1), c.length = t.s := by
      intro c hc
      obtain ⟨i, hi, rfl⟩ := List.mem_map.1 hc
      exact t.rlen (hg i (List.mem_range.1 hi)).1
    refine ⟨(List.range len).map fun i => (g i).2, _, rfl, some a, cap, (List.range len).map fun i => (g i).1, by simp, by simpa using hl, hm, by simp, ?_, ?_⟩
    · refine ⟨by rw [flat2_len hs]; simp, fun hn => ⟨a, rfl, ?_, fun j u hu => ?_⟩⟩
      · have hn' : 0 < len := by simpa using hn
        have h0 := (hg 0 hn')
        have hp := t.pos
        obtain ⟨u, hu⟩ : ∃ u, (g 0).1[0]? = some u := ⟨_, List.getElem?_eq_getElem (by rw [t.rlen h0.1]; exact hp)⟩
        have := World.block_lt_of_cell? _ _ (h0.2 0 u hu)
        rwa [block_of_add] at this
      · have hj : j < len * t.s := by have := (List.getElem?_eq_some_iff.1 hu).1; rw [flat2_len hs] at this; simpa using this
        have hk : j / t.s < len := Nat.div_lt_of_lt_mul (by rw [Nat.mul_comm]; exact hj)
        have hr : j % t.s < t.s := Nat.mod_lt _ t.pos
        have e0 : j / t.s * t.s + j % t.s = j := by rw [Nat.mul_comm]; exact Nat.div_add_mod j t.s
        have hf := flat2_at hs (k := j / t.s) (c := (g (j / t.s)).1) (by simp [hk]) (j % t.s) hr
        rw [e0, hu] at hf
        have := (hg _ hk).2 (j % t.s) u hf.symm
        rwa [e0] at this
    · intro k hk hk'
      simp only [List.length_map, List.length_range] at hk
      simp only [List.getElem_map, List.getElem_range]
      exact (hg k hk).1
end
end Go.Proofs.YtfkcoiefkjmdeaaGreat
namespace Go.Proofs.YtfkcoiefkjmdeaaGreat
open Go.RowKit
theorem opens_u8 {P : Program} {T : TypeId} (h : P.underlying T = some (.int .u8)) : Opens P T tU8 := fun _ _ _ _ _ _ _ _ ht => by
  obtain ⟨n, rfl, _, hw⟩ := DataW.trod_int h ht
  have hb : 0 ≤ n ∧ n ≤ 255 := by
    simp only [Lit.wf, Bool.and_eq_true, decide_eq_true_eq, show IntKind.u8.min = 0 from by decide, show IntKind.u8.max = 255 from by decide] at hw
    exact hw
  refine ⟨UInt8.ofNat n.toNat, ?_⟩
  show [Value.int .u8 n] = [.int .u8 ((UInt8.ofNat n.toNat).toNat : Int)]
  have h2 : (UInt8.ofNat n.toNat).toNat = n.toNat := by rw [UInt8.toNat_ofNat']; omega
  rw [h2, Int.toNat_of_nonneg hb.1]
abbrev tU : Ty (List UInt8) := tU8.sl 5
theorem opens_U : Opens Tryz.prog 22 tU := opens_sl Tryz.underlying22 (by kernel_rfl) (opens_u8 Tryz.underlying5)
end Go.Proofs.YtfkcoiefkjmdeaaGreat
