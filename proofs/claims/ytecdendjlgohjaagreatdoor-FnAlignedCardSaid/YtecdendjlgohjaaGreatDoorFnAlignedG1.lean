import Derived.Lib.ItoaNum
import Derived.Lib.ItoaLen
import Derived.Lib.Join
import Derived.Lib.Strings
import Derived.Lib.AtoiTie
import Derived.Lib.ParseIntBTie
import Derived.Lib.Split
import Derived.Lib.SplitLaws
import Derived.Lib.IndexMore
import Derived.WalkKit
import Derived.WalkSpells
import Derived.WalkLawsBesides
import Derived.Deep.AppendLies
import Derived.Deep.Draws
import Derived.Deep.QuietTactic
import Derived.BigQuiet
import Derived.StillTailTactics
import Derived.Deep.RegionHeld3
import Derived.RegionTactic
import Derived.Lib.Hide
import Derived.RowKit
import Derived.Test.YtecdendjlgohjaaGreatDoorProg
import Derived.Lib.UnsafeStr
import Derived.Lib.AppendIntMem
import Derived.Laws.IdiomStrings
import Derived.StillTail
import Derived.Deep.Quiet
import Derived.Lib.QuietBelow
set_option linter.unusedVariables false
set_option linter.unusedSimpArgs false
namespace Go.Proofs.YtecdendjlgohjaaGreatDoor
open Go
theorem M.dd_ne (u : Nat) : Lib.decDigits u ≠ [] := by
  rw [Lib.decDigits]; split <;> simp
theorem M.join_snoc (xs : List (List UInt8)) (y sep : List UInt8) : Lib.join (xs ++ [y]) sep = if xs = [] then y else Lib.join xs sep ++ sep ++ y := by
  cases xs with
  | nil => simp [Lib.join_one]
  | cons a r => simp [Lib.join_cons, Lib.joinTail, List.append_assoc]
theorem M.itoa_le (n : Int) (h0 : -9223372036854775808 ≤ n) (h1 : n ≤ 9223372036854775807) : (Lib.itoa n).length ≤ 21 := Lib.itoa_length_le n h0 h1
end Go.Proofs.YtecdendjlgohjaaGreatDoor
namespace Go.Proofs.YtecdendjlgohjaaGreatDoor
open Go
/-! ### Numerals read -/
/-- The number with a text, as spec.l01Number reads it. -/
def M.num (s : List UInt8) : Option Int :=
  if 1 ≤ (Lib.trimPrefix s [45]).length ∧ (Lib.trimPrefix s [45]).length ≤ 18 then
    (Lib.decNat (Lib.trimPrefix s [45])).bind fun u =>
      if Lib.itoa (if (Lib.trimPrefix s [45]).length < s.length then -(u : Int) else u) = s then some (if (Lib.trimPrefix s [45]).length < s.length then -(u : Int) else u) else none
  else none
/-- The number with a text, as impl.ReadDecimal reads it. -/
def M.numI (s : List UInt8) : Option Int :=
  match Lib.parseIntB 64 s with
  | .ok v => if Lib.itoa v = s ∧ (Lib.trimPrefix s [45]).length ≤ 18 then some v else none
  | _ => none
theorem M.trim_minus (r : List UInt8) : Lib.trimPrefix (45 :: r) [45] = r := by
  unfold Lib.trimPrefix Lib.hasPrefix
  simp
theorem M.trim_other {c : UInt8} (h : c ≠ 45) (r : List UInt8) : Lib.trimPrefix (c :: r) [45] = c :: r := by
  unfold Lib.trimPrefix Lib.hasPrefix
  have : ([45] : List UInt8).isPrefixOf (c :: r) = false := by
    simp only [List.isPrefixOf, Bool.and_eq_false_iff, beq_eq_false_iff_ne]
    exact Or.inl (Ne.symm h)
  rw [this]; rfl
theorem M.dg_fin : ∀ x : Fin 10, 48 ≤ (UInt8.ofNat (48 + x.val)).toNat ∧ (UInt8.ofNat (48 + x.val)).toNat ≤ 57 ∧ Lib.digitVal (UInt8.ofNat (48 + x.val)) = some x.val := by decide
theorem M.dg_ok {x : Nat} (h : x < 10) : 48 ≤ (UInt8.ofNat (48 + x)).toNat ∧ (UInt8.ofNat (48 + x)).toNat ≤ 57 ∧ Lib.digitVal (UInt8.ofNat (48 + x)) = some x := M.dg_fin ⟨x, h⟩
theorem M.dd_digit (u : Nat) : ∀ b ∈ Lib.decDigits u, 48 ≤ b.toNat ∧ b.toNat ≤ 57 := by
  intro b hb
  rw [Lib.decDigits_eq] at hb
  obtain ⟨t, -, rfl⟩ := List.mem_map.1 hb
  unfold Lib.dg
  have := M.dg_ok (Nat.mod_lt (u / 10 ^ (Lib.nDigits u - 1 - t)) (by decide : 10 > 0))
  exact ⟨this.1, this.2.1⟩
theorem M.decFrom_snoc : ∀ (l : List UInt8) (acc : Nat) (b : UInt8), Lib.decFrom acc (l ++ [b]) = (Lib.decFrom acc l).bind fun m => (Lib.digitVal b).map fun d => m * 10 + d
  | [], acc, b => by
    simp only [List.nil_append, Lib.decFrom]
    cases Lib.digitVal b <;> rfl
  | c :: r, acc, b => by
    simp only [List.cons_append, Lib.decFrom]
    cases Lib.digitVal c with
    | none => rfl
    | some d => exact M.decFrom_snoc r _ b
theorem M.decFrom_dd (u : Nat) : Lib.decFrom 0 (Lib.decDigits u) = some u := by
  induction u using Nat.strongRecOn with
  | _ u ih =>
    rw [Lib.decDigits]
    by_cases h : u < 10
    · rw [dif_pos h]
      simp only [Lib.decFrom, (M.dg_ok h).2.2]
      simp
    · rw [dif_neg h, M.decFrom_snoc, ih (u / 10) (by omega)]
      simp only [Option.bind_some, (M.dg_ok (Nat.mod_lt u (by decide : 10 > 0))).2.2, Option.map_some]
      congr 1
      omega
theorem M.decNat_dd (u : Nat) : Lib.decNat (Lib.decDigits u) = some u := by
  unfold Lib.decNat
  rw [if_neg (by simpa using M.dd_ne u), M.decFrom_dd]
theorem M.nDigits_le : ∀ (k u : Nat), u < 10 ^ (k + 1) → Lib.nDigits u ≤ k + 1
  | 0, u, h => by rw [Lib.nDigits_small (by simpa using h)]; exact Nat.le_refl _
  | k + 1, u, h => by
    by_cases hu : u < 10
    · rw [Lib.nDigits_small hu]; omega
    · rw [Lib.nDigits_big hu]
      have := M.nDigits_le k (u / 10) (by rw [Nat.pow_succ] at h; omega)
      omega
theorem M.itoa_nat (u : Nat) : Lib.itoa (u : Int) = Lib.decDigits u := by
  rw [Lib.itoa, if_neg (by omega), Int.toNat_natCast]
theorem M.itoa_digit (n : Int) : ∀ b ∈ Lib.itoa n, b = 45 ∨ 48 ≤ b.toNat ∧ b.toNat ≤ 57 := by
  intro b hb
  unfold Lib.itoa at hb
  split at hb
  · rcases List.mem_cons.1 hb with h | h
    · exact Or.inl h
    · exact Or.inr (M.dd_digit _ b h)
  · exact Or.inr (M.dd_digit _ b hb)
theorem M.trim_dd (u : Nat) : Lib.trimPrefix (Lib.decDigits u) [45] = Lib.decDigits u := by
  cases hd : Lib.decDigits u with
  | nil => rfl
  | cons c r =>
    refine M.trim_other (fun hc => ?_) r
    have := M.dd_digit u c (by rw [hd]; simp)
    rw [hc] at this
    exact absurd this.1 (by decide)
theorem M.num_itoa {n : Int} (h : n.natAbs < 10 ^ 18) : M.num (Lib.itoa n) = some n := by
  have hl : (Lib.decDigits n.natAbs).length ≤ 18 := by rw [Lib.decDigits_length]; exact M.nDigits_le 17 _ h
  have h1 : 1 ≤ (Lib.decDigits n.natAbs).length := by rw [Lib.decDigits_length]; exact Lib.nDigits_pos _
  by_cases hn : n < 0
  · have e : Lib.itoa n = 45 :: Lib.decDigits n.natAbs := by rw [Lib.itoa, if_pos hn]
    have et : Lib.trimPrefix (Lib.itoa n) [45] = Lib.decDigits n.natAbs := by rw [e, M.trim_minus]
    have el : (Lib.decDigits n.natAbs).length < (Lib.itoa n).length := by rw [e]; simp
    unfold M.num
    rw [et, if_pos ⟨h1, hl⟩, M.decNat_dd, Option.bind_some, if_pos el, show -(n.natAbs : Int) = n by omega, if_pos rfl]
  · have e : Lib.itoa n = Lib.decDigits n.natAbs := by rw [Lib.itoa, if_neg hn, show n.toNat = n.natAbs by omega]
    have et : Lib.trimPrefix (Lib.itoa n) [45] = Lib.decDigits n.natAbs := by rw [e, M.trim_dd]
    have el : ¬ (Lib.decDigits n.natAbs).length < (Lib.itoa n).length := by rw [e]; omega
    unfold M.num
    rw [et, if_pos ⟨h1, hl⟩, M.decNat_dd, Option.bind_some, if_neg el, show (n.natAbs : Int) = n by omega, if_pos rfl]
theorem M.num_some {s : List UInt8} {n : Int} (h : M.num s = some n) : Lib.itoa n = s := by
  unfold M.num at h
  split at h
  · obtain ⟨u, -, h2⟩ := Option.bind_eq_some_iff.1 h
    generalize (if (Lib.trimPrefix s [45]).length < s.length then -(u : Int) else u) = z at h2
    by_cases h3 : Lib.itoa z = s
    · rw [if_pos h3] at h2
      rw [← Option.some.inj h2]
      exact h3
    · rw [if_neg h3] at h2
      cases h2
  · cases h
theorem M.num_digit {s : List UInt8} {n : Int} (h : M.num s = some n) : ∀ b ∈ s, b = 45 ∨ 48 ≤ b.toNat ∧ b.toNat ≤ 57 := by
  rw [← M.num_some h]; exact M.itoa_digit n
theorem M.decNat_nil : Lib.decNat [] = none := rfl
theorem M.decNat_pos {r : List UInt8} {u : Nat} (h : Lib.decNat r = some u) : 1 ≤ r.length := by
  cases r with
  | nil => rw [M.decNat_nil] at h; cases h
  | cons a r => simp
theorem M.numI_eq (s : List UInt8) : M.numI s = M.num s := by
  unfold M.numI
  rw [Lib.parseIntB_64]
  by_cases hl : (Lib.trimPrefix s [45]).length ≤ 18
  case neg =>
    have e : M.num s = none := by unfold M.num; rw [if_neg (fun h => hl h.2)]
    rw [e]
    split
    · rw [if_neg (fun h => hl h.2)]
    · rfl
  case pos =>
    cases s with
    | nil => rfl
    | cons c r =>
      by_cases h45 : c = 45
      · subst h45
        rw [M.trim_minus] at hl
        rw [Lib.atoiAll_minus, Lib.signed_short hl]
        unfold M.num
        rw [M.trim_minus]
        cases hd : Lib.decNat r with
        | none =>
          split <;> simp_all [Lib.NumEnd.ofOption]
        | some u =>
          have el : r.length < (45 :: r).length := by simp
          rw [if_pos ⟨M.decNat_pos hd, hl⟩, Option.bind_some, if_pos el]
          simp only [Option.map_some, Lib.NumEnd.ofOption]
          by_cases he : Lib.itoa (-(u : Int)) = 45 :: r
          · rw [if_pos he, if_pos ⟨he, hl⟩]
          · rw [if_neg he, if_neg (fun h => he h.1)]
      · have et := M.trim_other h45 r
        rw [et] at hl
        by_cases h43 : c = 43
        · subst h43
          rw [Lib.atoiAll_plus, Lib.signless_short (by simp at hl; omega)]
          have e : M.num (43 :: r) = none := by
            cases hn : M.num (43 :: r) with
            | none => rfl
            | some n => exact absurd (M.num_digit hn 43 (by simp)) (by decide)
          rw [e]
          cases hd : Lib.decNat r with
          | none => rfl
          | some u =>
            simp only [Option.map_some, Lib.NumEnd.ofOption]
            rw [if_neg]
            intro h
            have := M.dd_digit u 43 (by rw [← M.itoa_nat, h.1]; simp)
            exact absurd this (by decide)
        · have n43 : c.toNat ≠ 43 := fun h => h43 (UInt8.toNat_inj.1 (by simpa using h))
          have n45 : c.toNat ≠ 45 := fun h => h45 (UInt8.toNat_inj.1 (by simpa using h))
          rw [Lib.atoiAll_plain c r n43 n45, Lib.signless_short hl]
          unfold M.num
          rw [et]
          cases hd : Lib.decNat (c :: r) with
          | none =>
            split <;> simp_all [Lib.NumEnd.ofOption]
          | some u =>
            rw [if_pos ⟨M.decNat_pos hd, hl⟩, Option.bind_some, if_neg (Nat.lt_irrefl _)]
            simp only [Option.map_some, Lib.NumEnd.ofOption]
            by_cases he : Lib.itoa (u : Int) = c :: r
            · rw [if_pos he, if_pos ⟨he, hl⟩]
            · rw [if_neg he, if_neg (fun h => he h.1)]
/-! ### A text split at a byte -/
def M.splitBy (c : UInt8) : List UInt8 → List (List UInt8)
  | [] => [[]]
  | b :: l => if b = c then [] :: M.splitBy c l else (b :: (M.splitBy c l).headD []) :: (M.splitBy c l).tail
theorem M.splitBy_ne (c : UInt8) (l : List UInt8) : M.splitBy c l ≠ [] := by
  cases l with
  | nil => simp [M.splitBy]
  | cons b l => rw [M.splitBy]; split <;> simp
theorem M.splitBy_none {c : UInt8} : ∀ {x : List UInt8}, c ∉ x → M.splitBy c x = [x]
  | [], _ => rfl
  | b :: l, h => by
    rw [M.splitBy, if_neg (fun e => h (by rw [e]; simp)), M.splitBy_none (x := l) (fun e => h (by simp [e]))]
    rfl
theorem M.splitBy_at {c : UInt8} : ∀ {x y : List UInt8}, c ∉ x → M.splitBy c (x ++ c :: y) = x :: M.splitBy c y
  | [], y, _ => by rw [List.nil_append, M.splitBy, if_pos rfl]
  | b :: l, y, h => by
    rw [List.cons_append, M.splitBy, if_neg (fun e => h (by rw [e]; simp)), M.splitBy_at (x := l) (fun e => h (by simp [e]))]
    rfl
theorem M.join_cons2 (x y : List UInt8) (r : List (List UInt8)) (sep : List UInt8) : Lib.join (x :: y :: r) sep = x ++ sep ++ Lib.join (y :: r) sep := by
  simp [Lib.join_cons, Lib.joinTail]
theorem M.splitBy_join {c : UInt8} : ∀ {xs : List (List UInt8)}, xs ≠ [] → (∀ x ∈ xs, c ∉ x) → M.splitBy c (Lib.join xs [c]) = xs
  | [], h, _ => absurd rfl h
  | [x], _, h => by rw [Lib.join_one]; exact M.splitBy_none (h x (by simp))
  | x :: y :: r, _, h => by
    have e : Lib.join (x :: y :: r) [c] = x ++ c :: Lib.join (y :: r) [c] := by rw [M.join_cons2]; simp
    rw [e, M.splitBy_at (h x (by simp)), M.splitBy_join (by simp) (fun z hz => h z (List.mem_cons_of_mem _ hz))]
theorem M.mem_cut {c : UInt8} : ∀ {s : List UInt8}, c ∈ s → ∃ x y, s = x ++ c :: y ∧ c ∉ x
  | b :: l, h => by
    by_cases hb : b = c
    · exact ⟨[], l, by rw [hb]; rfl, by simp⟩
    · rcases List.mem_cons.1 h with h | h
      · exact absurd h.symm hb
      · obtain ⟨x, y, rfl, hx⟩ := M.mem_cut h
        exact ⟨b :: x, y, rfl, by simp [Ne.symm hb, hx]⟩
theorem M.index_at {c : UInt8} : ∀ {x y : List UInt8}, c ∉ x → Lib.index (x ++ c :: y) [c] = x.length
  | [], y, _ => by simp [Lib.index]
  | b :: l, y, h => by
    have hb : ¬ c = b := fun e => h (by rw [e]; simp)
    rw [List.cons_append, Lib.index, M.index_at (x := l) (fun e => h (by simp [e]))]
    have : ¬ ((l.length : Int) = -1) := by omega
    simp [hb, this]
theorem M.splitK_eq (c : UInt8) : ∀ (k : Nat) (s : List UInt8), s.count c = k → Lib.splitK [c] 0 k s = M.splitBy c s
  | 0, s, h => by rw [M.splitBy_none (List.count_eq_zero.1 h)]; rfl
  | k + 1, s, h => by
    obtain ⟨x, y, rfl, hx⟩ := M.mem_cut (List.count_pos_iff.1 (by omega : 0 < s.count c))
    have hc : y.count c = k := by rw [List.count_append, List.count_cons_self, List.count_eq_zero.2 hx] at h; omega
    have hn : ¬ ((x.length : Int) == -1) = true := by simp only [beq_iff_eq]; omega
    rw [Lib.splitK, M.index_at hx, if_neg hn, M.splitBy_at hx, Int.toNat_natCast]
    have e1 : (x ++ c :: y).take (x.length + 0) = x := by simp
    have e2 : (x ++ c :: y).drop (x.length + ([c] : List UInt8).length) = y := by
      rw [List.length_singleton, List.drop_append]
      simp
    rw [e1, e2, M.splitK_eq c k y hc]
/-! ### The text of a curve read -/
def M.wordsOf (s : List UInt8) : List (List UInt8) := (M.splitBy 32 s).filter (fun w => !w.isEmpty)
end Go.Proofs.YtecdendjlgohjaaGreatDoor
namespace Go.Proofs.YtecdendjlgohjaaGreatDoor
open Go.RowKit

theorem block_of_add (a : Addr) (n : Nat) : (a.add n).block = a.block := by unfold Addr.add; split <;> rfl

theorem add_of_add (a : Addr) (i j : Nat) : (a.add i).add j = a.add (i + j) := by
  unfold Addr.add
  by_cases hi : i = 0 <;> by_cases hj : j = 0 <;> simp [hi, hj, Nat.add_assoc]

/-- A slice value with address A and n elements of 'size' cells holds the cells cs; its block lies below B. -/
def Reads (w : World) (B size : Nat) (A : Option Addr) (n : Nat) (cs : List Value) : Prop :=
  cs.length = n * size ∧ (0 < n → ∃ ad, A = some ad ∧ ad.block < B ∧ ∀ j u, cs[j]? = some u → w.cell? (ad.add j) = some u)

section
variable {w w' : World} {B B' size n : Nat} {A : Option Addr} {cs : List Value}
theorem Reads.none_ : Reads w B size A 0 [] := ⟨by simp, fun h => absurd h (by omega)⟩
theorem Reads.keep (h : Reads w B size A n cs) (hk : ∀ p : Addr, p.block < B → w'.cell? p = w.cell? p) : Reads w' B size A n cs :=
  ⟨h.1, fun hn => by
    obtain ⟨ad, e, hb, hc⟩ := h.2 hn
    exact ⟨ad, e, hb, fun j u hu => (hk _ (by rw [block_of_add]; exact hb)).trans (hc j u hu)⟩⟩
theorem Reads.more (h : Reads w B size A n cs) (hB : B ≤ B') : Reads w B' size A n cs :=
  ⟨h.1, fun hn => by
    obtain ⟨ad, e, hb, hc⟩ := h.2 hn
    exact ⟨ad, e, Nat.lt_of_lt_of_le hb hB, hc⟩⟩
theorem Reads.below (h : Reads w B size A n cs) (hb : Below B w w') : Reads w' B size A n cs := h.keep fun _ hp => hb.cell hp
theorem Reads.later (h : Reads w w.heap.size size A n cs) (hb : Below w.heap.size w w') : Reads w' w'.heap.size size A n cs := (h.below hb).more hb.size
theorem Reads.cut (h : Reads w B size A n cs) {k cap : Nat} (hk : k ≤ n) (hc : n ≤ cap) :
    Reads w B size (if cap = k then A else A.map (·.add (k * size))) (n - k) (cs.drop (k * size)) := by
  refine ⟨by rw [List.length_drop, h.1, Nat.sub_mul], fun hn => ?_⟩
  obtain ⟨ad, rfl, hb, hcell⟩ := h.2 (by omega)
  rw [if_neg (by omega)]
  refine ⟨ad.add (k * size), rfl, by rw [block_of_add]; exact hb, fun j u hu => ?_⟩
  rw [add_of_add]
  exact hcell _ u (by rw [← hu, List.getElem?_drop])
theorem Reads.of_own {base : Nat} {e : TypeId} {c : Nat} (h : w.ownsRow base e size (.slice A n c) n cs) : Reads w w.heap.size size A n cs := by
  refine ⟨h.1, fun hn => ?_⟩
  obtain ⟨g, cap, hv, _, hlt⟩ := h.form hn
  have hA : A = some ⟨g, 0, none⟩ := by injection hv
  subst hA
  exact ⟨_, rfl, hlt, h.cells (g := g) rfl⟩
/-- The call's own row, as a slice that reads as its cells. -/
theorem own_shape {base : Nat} {e : TypeId} {v : Value} (h : w.ownsRow base e size v n cs) : ∃ A c, v = .slice A n c ∧ n ≤ c ∧ c ≤ maxLen ∧ Reads w w.heap.size size A n cs := by
  rcases h.2 with ⟨rfl, rfl⟩ | ⟨g, cap, cur, rfl, h1, h2, h3, h4, h5, h6⟩
  · exact ⟨none, 0, rfl, Nat.le_refl _, by simp [maxLen], Reads.of_own h⟩
  · exact ⟨_, cap, rfl, h3, h4, Reads.of_own h⟩
/-- What is owned stays so in every later world. -/
theorem own_below {base : Nat} {e : TypeId} {v : Value} (h : w.ownsRow base e size v n cs) (hb : Below w.heap.size w w') : w'.ownsRow base e size v n cs := by
  refine ⟨h.1, ?_⟩
  rcases h.2 with h2 | ⟨g, cap, cur, hv, hg, hh, r⟩
  · exact .inl h2
  · exact .inr ⟨g, cap, cur, hv, hg, by rw [hb.block g (Array.getElem?_eq_some_iff.1 hh).1]; exact hh, r⟩
theorem own_base {base base' : Nat} {e : TypeId} {v : Value} (h : w.ownsRow base e size v n cs) (hb : base' ≤ base) : w.ownsRow base' e size v n cs :=
  ⟨h.1, h.2.imp id fun ⟨g, cap, cur, hv, hg, r⟩ => ⟨g, cap, cur, hv, Nat.le_trans hb hg, r⟩⟩
theorem below_drewN {B : Nat} {a w : World} (h : Below B a w) (n : Nat) : Below B a (w.drewN n) := ⟨h.os, h.tape, h.output, h.size, h.block⟩
theorem bel_trans {a b c : World} (h1 : Below a.heap.size a b) (h2 : Below b.heap.size b c) : Below a.heap.size a c := h1.trans (h2.mono h1.size)
theorem bel_trans' {B : Nat} {a b c : World} (h1 : Below B a b) (hB : B ≤ b.heap.size) (h2 : Below b.heap.size b c) : Below B a c := h1.trans (h2.mono hB)
end

/-- 'A slice value with address A and n elements reads as the int64 list xs; its block lies below B.' -/
def RI (w : World) (B : Nat) (A : Option Addr) (n : Nat) (xs : List Int) : Prop := Reads w B 1 A n (xs.map (.int .i64))

section
variable {w w' : World} {B B' n : Nat} {A : Option Addr} {xs : List Int}
theorem RI.len (h : RI w B A n xs) : xs.length = n := by have := h.1; simpa using this
theorem RI.below (h : RI w B A n xs) (hb : Below B w w') : RI w' B A n xs := Reads.below h hb
theorem RI.later (h : RI w w.heap.size A n xs) (hb : Below w.heap.size w w') : RI w' w'.heap.size A n xs := Reads.later h hb
theorem RI.more (h : RI w B A n xs) (hB : B ≤ B') : RI w B' A n xs := Reads.more h hB
theorem RI.at (h : RI w B A n xs) {k : Nat} (hk : k < n) : ∃ ad x, A = some ad ∧ ad.block < B ∧ Hid (xs[k]? = some x) ∧ w.cell? (ad.add k) = some (.int .i64 x) := by
  obtain ⟨ad, e, hb, hc⟩ := h.2 (by omega)
  have hl : k < xs.length := by rw [h.len]; exact hk
  exact ⟨ad, xs[k], e, hb, List.getElem?_eq_getElem hl, hc k _ (by simp [hl])⟩
theorem RI.cell {ad : Addr} (h : RI w B (some ad) n xs) {k : Nat} (hk : k < n) : ∃ x, Hid (xs[k]? = some x) ∧ w.cell? (ad.add k) = some (.int .i64 x) := by
  obtain ⟨ad', x, e, _, h1, h2⟩ := h.at hk
  injection e with e
  subst e
  exact ⟨x, h1, h2⟩
theorem RI.nil (w : World) (B : Nat) (A : Option Addr) : RI w B A 0 [] := Reads.none_
end

/-- The element type's row of the table. -/
def EI (P : Program) (t e : TypeId) (z : Value) (size bytes : Nat) : Prop :=
  P.underlying t = some (.slice e) ∧ (P.info? e).map (fun i => (i.zero, i.size, i.bytes)) = some (some z, size, bytes) ∧ z.cells.size = size ∧ 0 < size

section
variable {P : Program} {t e : TypeId} {z : Value} {size bytes : Nat}

end

section
variable {P : Program} {t e : TypeId} {z : Value} {size bytes : Nat} (w : World)
theorem run_append_of_nil (base : Nat) (t ty e : TypeId) (i : TypeInfo) (size : Nat) (ht : P.underlying t = some (.slice e)) (hi : P.info? e = some i)
    (v : Value) (n : Nat) (xs : List Value) (hown : w.ownsRow base e size v n xs) (c : Nat) : (Builtin.append_ #[t, t] ty #[v, .slice none 0 c]).run P w = .ok v w := by
  rcases hown.2 with ⟨rfl, rfl⟩ | ⟨g, cap, cur, rfl, _, _, hnc, _⟩
  · simp [Builtin.append_, run_underlying ht, sizeOf, typeInfo, hi, Builtin.lenOf, Builtin.firstCells]
  · simp [Builtin.append_, run_underlying ht, sizeOf, typeInfo, hi, Builtin.lenOf, Builtin.firstCells, hnc, storeCells]
/-- 'append(out, xs...)': the source nil, empty or not. -/
theorem wpList_cat (hE : EI P t e z size bytes) {w : World} {ops : Array Oper} {rest : List Oper} {o : Oper} {a : Act} {Q : Exit → Act → World → Prop}
    (hgd : o.guard = none) (s x : Operand) (ho : o.op = .call { callee := .builtin .append, args := #[s, x], argTypes := #[t, t] })
    {B : Nat} {v : Value} {n : Nat} {xs : List Value} (hown : w.ownsRow B e size v n xs) (hs : a.eval s = v)
    {B' : Nat} {A : Option Addr} {m c : Nat} {news : List Value} (hr : Reads w B' size A m news) (hx : a.eval x = .slice A m c) (h1 : ∀ u ∈ news, u.oneCell' = true)
    (hn : n + m ≤ maxLen) (hbytes : (n + m) * bytes ≤ 140737488355328) (hbase : B ≤ w.heap.size)
    (K : ∀ v' w', w'.ownsRow B e size v' (n + m) (xs ++ news) → w.grownBy w' v.ownBlock → Below B w w' → wpList P ops Q rest (a.put o.dst v') w') :
    wpList P ops Q (o :: rest) a w := by
  obtain ⟨ht, hinfo, hzs, hsz⟩ := hE
  obtain ⟨i0, hi, hz0, hz1, hz2⟩ := info_parts hinfo
  rcases A with _ | ad
  · have hm : m = 0 := by
      rcases Nat.eq_zero_or_pos m with h0 | h0
      · exact h0
      · obtain ⟨ad, h, _⟩ := hr.2 h0
        cases h
    subst hm
    have hnil : news = [] := List.eq_nil_of_length_eq_zero (by simpa using hr.1)
    subst hnil
    refine wpList_plain hgd fun K' hK' => ?_
    have hrun := run_append_of_nil (P := P) w B t o.type e i0 size ht hi v n xs hown c
    unfold Oper.wp execOp
    simp only [ho, resolve, invoke, builtin, Sem.run_bind, Sem.run_pure, Result.andThen_ok, List.map_toArray, List.map_cons, List.map_nil, hs, hx, hrun]
    exact hK' _ _ (K v w (by simpa using hown) (World.grownBy.refl w _) (Below.refl _ _))
  · have hcells : ∀ j u, news[j]? = some u → w.cell? (ad.add j) = some u := by
      intro j u hu
      rcases Nat.eq_zero_or_pos m with h0 | h0
      · subst h0
        have hnil : news = [] := List.eq_nil_of_length_eq_zero (by simpa using hr.1)
        subst hnil
        simp at hu
      · obtain ⟨ad', h, _, hc⟩ := hr.2 h0
        injection h with h
        subst h
        exact hc j u hu
    refine wpList_append_own _ hgd s x t ho B e i0 z size bytes ht hi hz0 hz1 hz2 hzs hsz v n xs hs hown ad m c news hx hr.1 hcells h1 hn hbytes hbase ?_
    intro v' w' h2 h3 _
    exact K v' w' h2 h3 ((Below.refl _ _).grown h3 hbase fun k hk => (hown.lt k hk).1)
/-- 'make([]T, n)' -/
theorem wpList_mk (hE : EI P t e z size bytes) {w : World} {ops : Array Oper} {rest : List Oper} {o : Oper} {a : Act} {Q : Exit → Act → World → Prop}
    (hgd : o.guard = none) (l c : Operand) (ho : o.op = Op.makeSlice t l c) (n : Nat) (L C : Int) (hl : a.eval l = .int .i64 L) (hc : a.eval c = .int .i64 C) (hL : L = (n : Int)) (hC : C = (n : Int))
    (hbytes : bytes * n ≤ 281474976710656) (hn : n ≤ maxLen)
    (K : ∀ w', w'.ownsRow w.heap.size e size (.slice (some ⟨w.heap.size, 0, none⟩) n n) n (madeCells z.cells (n * size)).toList → Below w.heap.size w w' → wpList P ops Q rest (a.put o.dst (.slice (some ⟨w.heap.size, 0, none⟩) n n)) w') :
    wpList P ops Q (o :: rest) a w := by
  obtain ⟨ht, hinfo, hzs, hsz⟩ := hE
  obtain ⟨i0, hi, hz0, hz1, hz2⟩ := info_parts hinfo
  exact wpList_make_full w hgd l c t ho w.heap.size e i0 z size ht hi hz0 hz1 .i64 .i64 L C n hl hc hL hC (by rw [hz2]; exact hbytes) hn (Nat.le_refl _)
    fun w' h1 h2 => K w' h1 ((Below.refl _ _).grown h2 (Nat.le_refl _) (by simp))
end

section
variable {P : Program} {t e : TypeId} {z : Value} {size bytes : Nat}
/-- 'append(out, x)' in a region that draws its order: the element's cells lie in a block of their own, in whatever world. -/
theorem step_push (hE : EI P t e z size bytes) {W : World} {ops : Array Oper} {o : Oper} {a : Act} {K : Act → World → Prop} {Q : Exit → Act → World → Prop} {E : Prop} (us : List Value)
    (hgd : o.guard = none) (s x : Operand) (ho : o.op = .call { callee := .builtin .append, args := #[s, x], argTypes := #[t, t] })
    {B : Nat} {v : Value} {n g : Nat} {xs : List Value} (hown : W.ownsRow B e size v n xs) (hs : a.eval s = v)
    (hx : a.eval x = .slice (some ⟨g, 0, none⟩) 1 1) (hg : ∀ j u, us[j]? = some u → W.cell? ⟨g, j, none⟩ = some u) (hus : us.length = size) (h1 : ∀ u ∈ us, u.oneCell' = true)
    (hn : n + 1 ≤ maxLen) (hbytes : (n + 1) * bytes ≤ 140737488355328) (hbase : B ≤ W.heap.size)
    (H : ∀ v' w', w'.ownsRow B e size v' (n + 1) (xs ++ us) → W.grownBy w' v.ownBlock → Below B W w' → K (a.put o.dst v') w') :
    if Region.wanted o (yielded ops a.tmps) = true then Oper.wp P o a W K Q else E := by
  have hw : Region.wanted o (yielded ops a.tmps) = true := by simp [Region.wanted, hgd]
  rw [if_pos hw]
  obtain ⟨ht, hinfo, hzs, hsz⟩ := hE
  obtain ⟨i0, hi, hz0, hz1, hz2⟩ := info_parts hinfo
  refine wp_append_own (P := P) W s x t ho B e i0 z size bytes ht hi hz0 hz1 hz2 hzs hsz v n xs hs hown ⟨g, 0, none⟩ 1 1 us hx (by simp [hus]) ?_ h1 hn hbytes hbase ?_
  · intro j u hj
    have hadd : (⟨g, 0, none⟩ : Addr).add j = ⟨g, j, none⟩ := by unfold Addr.add; split <;> simp_all
    rw [hadd]
    exact hg j u hj
  · intro v' w' h2 h3 _
    exact H v' w' h2 h3 ((Below.refl _ _).grown h3 hbase fun k hk => (hown.lt k hk).1)
theorem step_push1 (hE : EI P t e z 1 bytes) {W : World} {ops : Array Oper} {o : Oper} {a : Act} {K : Act → World → Prop} {Q : Exit → Act → World → Prop} {E : Prop} {u : Value}
    (hgd : o.guard = none) (s x : Operand) (ho : o.op = .call { callee := .builtin .append, args := #[s, x], argTypes := #[t, t] })
    {B : Nat} {v : Value} {n g : Nat} {xs : List Value} (hown : W.ownsRow B e 1 v n xs) (hs : a.eval s = v)
    (hx : a.eval x = .slice (some ⟨g, 0, none⟩) 1 1) (hg : W.cell? ⟨g, 0, none⟩ = some u) (h1 : u.oneCell' = true)
    (hn : n + 1 ≤ maxLen) (hbytes : (n + 1) * bytes ≤ 140737488355328) (hbase : B ≤ W.heap.size)
    (H : ∀ v' w', w'.ownsRow B e 1 v' (n + 1) (xs ++ [u]) → W.grownBy w' v.ownBlock → Below B W w' → K (a.put o.dst v') w') :
    if Region.wanted o (yielded ops a.tmps) = true then Oper.wp P o a W K Q else E :=
  step_push hE [u] hgd s x ho hown hs hx (fun j w hj => by
    match j, hj with
    | 0, hj => simp at hj; subst hj; exact hg) rfl (by simpa using h1) hn hbytes hbase H
end

theorem base_alloc {B : Nat} {w : World} {o : Obj} (h : B ≤ w.heap.size) : B ≤ (w.alloc o).drew.heap.size := by
  show B ≤ (w.heap.push o).size
  rw [Array.size_push]
  omega
theorem cell_alloc1 (w : World) (u : Value) (e : TypeId) : (w.alloc (.cells #[u] e)).drew.cell? ⟨w.heap.size, 0, none⟩ = some u := by
  rw [show (w.alloc (.cells #[u] e)).drew.cell? ⟨w.heap.size, 0, none⟩ = (w.alloc (.cells #[u] e)).cell? ⟨w.heap.size, 0, none⟩ from rfl, cell_of_row _ w.heap.size 0 #[u] e (0, 0) (heap_alloc_new w _)]
  rfl
/-- The int64 list that the call itself owns. -/
def OI (e : TypeId) (B : Nat) (w : World) (v : Value) (xs : List Int) : Prop := w.ownsRow B e 1 v xs.length (xs.map (.int .i64))
theorem OI.push {e : TypeId} {B : Nat} {w : World} {v : Value} {xs : List Int} {x : Int} (h : w.ownsRow B e 1 v (xs.length + 1) (xs.map (.int .i64) ++ [.int .i64 x])) : OI e B w v (xs ++ [x]) := by
  unfold OI
  simpa using h
section
variable {e : TypeId} {B : Nat} {w w' : World} {v : Value} {xs : List Int}
theorem OI.below (h : OI e B w v xs) (hb : Below w.heap.size w w') : OI e B w' v xs := own_below h hb
theorem OI.base {B' : Nat} (h : OI e B w v xs) (hb : B' ≤ B) : OI e B' w v xs := own_base h hb
theorem OI.shape (h : OI e B w v xs) : ∃ A c, v = .slice A xs.length c ∧ RI w w.heap.size A xs.length xs := by
  obtain ⟨A, c, hv, _, _, hr⟩ := own_shape h
  exact ⟨A, c, hv, hr⟩
theorem OI.at (h : OI e B w v xs) {k : Nat} (hk : k < xs.length) : ∃ g cap x, v = .slice (some ⟨g, 0, none⟩) xs.length cap ∧ B ≤ g ∧ g < w.heap.size ∧ Hid (xs[k]? = some x) ∧
    w.cell? ⟨g, k, none⟩ = some (.int .i64 x) ∧ w.frozen? ⟨g, k, none⟩ = false := by
  obtain ⟨g, cap, hv, hg, hlt⟩ := World.ownsRow.form h (by omega)
  subst hv
  refine ⟨g, cap, xs[k], rfl, hg, hlt, List.getElem?_eq_getElem hk, ?_, World.ownsRow.frozenAt h k⟩
  rw [World.ownsRow.cellAt h k (by omega)]
  simp [hk]
theorem OI.stored {g cap : Nat} (h : OI e B w (.slice (some ⟨g, 0, none⟩) xs.length cap) xs) (k : Nat) (y : Int) : OI e B (w.setCell ⟨g, k, none⟩ (.int .i64 y)) (.slice (some ⟨g, 0, none⟩) xs.length cap) (xs.set k y) := by
  unfold OI at h ⊢
  have := (World.ownsRow.stored h k (.int .i64 y)).1
  simpa [List.map_set] using this
theorem OI.n_eq {g n cap : Nat} (h : OI e B w (.slice (some ⟨g, 0, none⟩) n cap) xs) : n = xs.length := by
  rcases h.2 with ⟨h0, _⟩ | ⟨g', cap', cur, h0, _⟩
  · simp at h0
  · simp only [Value.slice.injEq] at h0
    exact h0.2.1
theorem OI.at' {g n cap : Nat} (h : OI e B w (.slice (some ⟨g, 0, none⟩) n cap) xs) {k : Nat} (hk : k < n) : ∃ x, Hid (xs[k]? = some x) ∧ w.cell? ⟨g, k, none⟩ = some (.int .i64 x) ∧ w.frozen? ⟨g, k, none⟩ = false ∧ B ≤ g ∧ g < w.heap.size := by
  have hn := h.n_eq
  subst hn
  obtain ⟨g', cap', x, hv, hB, hlt, hx, hc, hf⟩ := h.at hk
  simp only [Value.slice.injEq, Option.some.injEq, Addr.mk.injEq] at hv
  obtain ⟨⟨rfl, _⟩, _⟩ := hv
  exact ⟨x, hx, hc, hf, hB, hlt⟩
theorem OI.stored' {g n cap : Nat} (h : OI e B w (.slice (some ⟨g, 0, none⟩) n cap) xs) (k : Nat) (y : Int) : OI e B (w.setCell ⟨g, k, none⟩ (.int .i64 y)) (.slice (some ⟨g, 0, none⟩) n cap) (xs.set k y) := by
  have hn := h.n_eq
  subst hn
  exact h.stored k y
/-- The shape of a row with elements. -/
theorem OI.form (h : OI e B w v xs) (hn : 0 < xs.length) : ∃ g cap, v = .slice (some ⟨g, 0, none⟩) xs.length cap ∧ B ≤ g ∧ g < w.heap.size := World.ownsRow.form h hn
theorem OI.form' {A : Option Addr} {n c : Nat} (h : OI e B w (.slice A n c) xs) (hn : 0 < n) : ∃ g, A = some ⟨g, 0, none⟩ ∧ B ≤ g ∧ g < w.heap.size := by
  have hn' : 0 < xs.length := by
    rcases h.2 with ⟨h0, _⟩ | ⟨g', cap', cur, h0, _⟩
    · simp only [Value.slice.injEq] at h0
      omega
    · simp only [Value.slice.injEq] at h0
      omega
  obtain ⟨g, cap, hv, hB, hg⟩ := h.form hn'
  simp only [Value.slice.injEq] at hv
  exact ⟨g, hv.1, hB, hg⟩
/-- A store into the row turns no other block. -/
theorem grown_setCell (w : World) (g k : Nat) (u : Value) : w.grownBy (w.setCell ⟨g, k, none⟩ u) (some g) :=
  ⟨rfl, rfl, rfl, by simp, fun j _ hj => heap_setCell_other w ⟨g, k, none⟩ j u (fun e => hj (by simp [e]))⟩
theorem OI.kept {row : Option Nat} (h : OI e B w v xs) (hg : w.grownBy w' row) (hne : v.ownBlock = none ∨ v.ownBlock ≠ row) : OI e B w' v xs := World.ownsRow.kept h hg hne
/-- What a function of a signal and a code gives back. -/
def Ret2 (e : TypeId) (w : World) (r : List Int × Int) (en : Ending) (w' : World) : Prop := ∃ v, en = .returned (.tuple #[v, .int .i64 r.2]) ∧ OI e w.heap.size w' v r.1 ∧ Below w.heap.size w w'
def Ret1 (e : TypeId) (w : World) (r : List Int) (en : Ending) (w' : World) : Prop := ∃ v, en = .returned v ∧ OI e w.heap.size w' v r ∧ Below w.heap.size w w'
theorem OI.nil (e : TypeId) (B : Nat) (w : World) : OI e B w (.slice none 0 0) [] := World.ownsRow_nil _ _ _ _
theorem OI.made (e : TypeId) (w : World) : OI e w.heap.size (w.alloc (.cells #[] e)) (.slice (some ⟨w.heap.size, 0, none⟩) 0 0) [] := World.ownsRow_made _ _ _ (Nat.le_refl _) (by simp [maxLen]) rfl
theorem OI.ri {A : Option Addr} {c : Nat} (h : OI e B w (.slice A xs.length c) xs) : RI w w.heap.size A xs.length xs := Reads.of_own h
end
end Go.Proofs.YtecdendjlgohjaaGreatDoor
namespace Go.Proofs.YtecdendjlgohjaaGreatDoor
open Go.RowKit
namespace M
def inn (n lo hi : Int) : Bool := decide (lo ≤ n) && decide (n ≤ hi)
def smp (n : Int) : Bool := inn n (-2147483648) 2147483647
/-- The 32 low bits, taken as a number that is no less than 0. -/
theorem and_low (n : Int) : bits .and .i64 n 4294967295 = n % 4294967296 := by
  have h0 : 0 ≤ n % 18446744073709551616 := Int.emod_nonneg _ (by decide)
  have hx : ((BitVec.ofInt 64 n &&& BitVec.ofInt 64 4294967295).toNat : Int) = n % 4294967296 := by
    rw [BitVec.toNat_and, show (BitVec.ofInt 64 4294967295).toNat = 2 ^ 32 - 1 from by decide, Nat.and_two_pow_sub_one_eq_mod, BitVec.toNat_ofInt]
    omega
  show IntKind.i64.wrap ((BitVec.ofInt 64 n &&& BitVec.ofInt 64 4294967295).toNat : Int) = _
  rw [hx, IntKind.wrap_i64]
  omega
theorem drop_at {α : Type} {xs : List α} {k : Nat} {x : α} (h : xs[k]? = some x) : xs.drop k = x :: xs.drop (k + 1) := by
  obtain ⟨hk, rfl⟩ := List.getElem?_eq_some_iff.1 h
  exact List.drop_eq_getElem_cons hk
theorem take_at {α : Type} {xs : List α} {k : Nat} {x : α} (h : xs[k]? = some x) : xs.take (k + 1) = xs.take k ++ [x] := by
  rw [List.take_add_one, h]; rfl
def fold (x : Int) : Int := if x < 0 then -2 * x - 1 else 2 * x
theorem smp_bd {x : Int} (h : smp x = true) : -2147483648 ≤ x ∧ x ≤ 2147483647 := by simpa [smp, inn] using h
def bits (x k : Int) : Int := if fold x / 2 ^ k.toNat < 20 then fold x / 2 ^ k.toNat + 1 + k else 52
end M
end Go.Proofs.YtecdendjlgohjaaGreatDoor
namespace Go.Proofs.YtecdendjlgohjaaGreatDoor
open Go.RowKit

/-- Only blocks from lo to hi may have turned; what is new lies behind. -/
structure Mid (lo hi : Nat) (w w' : World) : Prop where
  os : w'.os = w.os
  tape : w'.tape = w.tape
  output : w'.output = w.output
  size : w.heap.size ≤ w'.heap.size
  block : ∀ k, k < w.heap.size → (k < lo ∨ hi ≤ k) → w'.heap[k]? = w.heap[k]?
section
variable {lo hi lo' hi' B : Nat} {a b c w w' : World}
theorem Mid.refl (lo hi : Nat) (w : World) : Mid lo hi w w := ⟨rfl, rfl, rfl, Nat.le_refl _, fun _ _ _ => rfl⟩
theorem Mid.trans (h : Mid lo hi a b) (k : Mid lo hi b c) : Mid lo hi a c :=
  ⟨k.os.trans h.os, k.tape.trans h.tape, k.output.trans h.output, Nat.le_trans h.size k.size, fun i hi' hm => (k.block i (Nat.lt_of_lt_of_le hi' h.size) hm).trans (h.block i hi' hm)⟩
theorem Mid.toBelow (h : Mid lo hi a b) (hl : lo ≤ a.heap.size) : Below lo a b := ⟨h.os, h.tape, h.output, h.size, fun k hk => h.block k (by omega) (.inl hk)⟩
theorem Mid.of_below (h : Below a.heap.size a b) (lo hi : Nat) : Mid lo hi a b := ⟨h.os, h.tape, h.output, h.size, fun k hk _ => h.block k hk⟩
theorem Mid.of_grown {row : Option Nat} (h : a.grownBy b row) (hr : ∀ k, row = some k → lo ≤ k ∧ k < hi) : Mid lo hi a b :=
  ⟨h.os, h.tape, h.output, h.size, fun k hk hm => h.block k hk (fun e => by have := hr k e.symm; omega)⟩
theorem Mid.wide (h : Mid lo hi a b) (h1 : lo' ≤ lo) (h2 : hi ≤ hi') : Mid lo' hi' a b := ⟨h.os, h.tape, h.output, h.size, fun k hk hm => h.block k hk (by omega)⟩
end

/-- The call's own row whose block lies from lo to hi. -/
def OX (e : TypeId) (s lo hi : Nat) (w : World) (v : Value) (n : Nat) (cs : List Value) : Prop := w.ownsRow lo e s v n cs ∧ ∀ k, v.ownBlock = some k → k < hi
section
variable {e : TypeId} {s lo hi lo' hi' n : Nat} {w w' : World} {v : Value} {cs : List Value}
theorem OX.of_own (h : w.ownsRow lo e s v n cs) : OX e s lo w.heap.size w v n cs := ⟨h, fun k hk => (h.lt k hk).2⟩
theorem OX.same (h : OX e s lo hi w v n cs) (hk : ∀ k, lo ≤ k → k < hi → w'.heap[k]? = w.heap[k]?) : OX e s lo hi w' v n cs := by
  refine ⟨⟨h.1.1, ?_⟩, h.2⟩
  rcases h.1.2 with h2 | ⟨g, cap, cur, rfl, hg, hh, r⟩
  · exact .inl h2
  · exact .inr ⟨g, cap, cur, rfl, hg, by rw [hk g hg (h.2 g rfl)]; exact hh, r⟩
theorem OX.below {B : Nat} (h : OX e s lo hi w v n cs) (hb : Below B w w') (hB : hi ≤ B) : OX e s lo hi w' v n cs := h.same fun k _ hk => hb.block k (by omega)
theorem OX.mid {l r : Nat} (h : OX e s lo hi w v n cs) (hm : Mid l r w w') (hd : hi ≤ l ∨ r ≤ lo) (hs : hi ≤ w.heap.size) : OX e s lo hi w' v n cs := h.same fun k h1 h2 => hm.block k (by omega) (by omega)
theorem OX.wide (h : OX e s lo hi w v n cs) (h1 : lo' ≤ lo) (h2 : hi ≤ hi') : OX e s lo' hi' w v n cs := ⟨own_base h.1 h1, fun k hk => Nat.lt_of_lt_of_le (h.2 k hk) h2⟩
theorem OX.nil (e : TypeId) (s lo hi : Nat) (w : World) : OX e s lo hi w (.slice none 0 0) 0 [] := ⟨World.ownsRow_nil _ _ _ _, by simp [Value.ownBlock]⟩
theorem OX.shape (h : OX e s lo hi w v n cs) : ∃ A c, v = .slice A n c ∧ n ≤ c ∧ Reads w w.heap.size s A n cs := by
  obtain ⟨A, c, hv, h1, _, hr⟩ := own_shape h.1
  exact ⟨A, c, hv, h1, hr⟩
theorem OX.form {A : Option Addr} {c m : Nat} (h : OX e s lo hi w (.slice A m c) n cs) (hn : 0 < m) : ∃ g, A = some ⟨g, 0, none⟩ ∧ lo ≤ g ∧ g < hi ∧ g < w.heap.size ∧ m = n := by
  rcases h.1.2 with ⟨h0, _⟩ | ⟨g, cap, cur, h0, h1, h2, _⟩
  · simp only [Value.slice.injEq] at h0
    omega
  · simp only [Value.slice.injEq] at h0
    obtain ⟨rfl, rfl, rfl⟩ := h0
    exact ⟨g, rfl, h1, h.2 g rfl, (Array.getElem?_eq_some_iff.1 h2).1, rfl⟩
theorem OX.cell {g c : Nat} (h : OX e s lo hi w (.slice (some ⟨g, 0, none⟩) n c) n cs) {j : Nat} {u : Value} (hj : cs[j]? = some u) : w.cell? ⟨g, j, none⟩ = some u ∧ w.frozen? ⟨g, j, none⟩ = false := by
  obtain ⟨hl, _⟩ := List.getElem?_eq_some_iff.1 hj
  exact ⟨by rw [World.ownsRow.cellAt h.1 j (by rw [← h.1.1]; exact hl)]; exact hj, World.ownsRow.frozenAt h.1 j⟩
theorem OX.set {g c : Nat} (h : OX e s lo hi w (.slice (some ⟨g, 0, none⟩) n c) n cs) (j : Nat) (u : Value) :
    OX e s lo hi (w.setCell ⟨g, j, none⟩ u) (.slice (some ⟨g, 0, none⟩) n c) n (cs.set j u) ∧ Mid lo hi w (w.setCell ⟨g, j, none⟩ u) := by
  have h1 := World.ownsRow.stored h.1 j u
  refine ⟨⟨h1.1, h.2⟩, Mid.of_grown h1.2 fun k hk => ?_⟩
  injection hk with hk
  subst hk
  exact ⟨(World.ownsRow.lt h.1 g rfl).1, h.2 g rfl⟩
end

/-- A slice of structs that reads as a list: x's cells are 'enc x', s of them. -/
def RA {α : Type} (enc : α → List Value) (s : Nat) (w : World) (B : Nat) (A : Option Addr) (n : Nat) (xs : List α) : Prop := xs.length = n ∧ Reads w B s A n (xs.flatMap enc)
section
variable {α : Type} {enc : α → List Value} {s : Nat} {w w' : World} {B B' n : Nat} {A : Option Addr} {xs : List α}
theorem flat_at (henc : ∀ x, (enc x).length = s) {xs : List α} {k : Nat} {x : α} (hk : xs[k]? = some x) (j : Nat) (hj : j < s) : (xs.flatMap enc)[k * s + j]? = (enc x)[j]? := by
  induction xs generalizing k with
  | nil => simp at hk
  | cons y ys ih =>
    cases k with
    | zero =>
      simp only [List.getElem?_cons_zero, Option.some.injEq] at hk
      subst hk
      rw [List.flatMap_cons, Nat.zero_mul, Nat.zero_add, List.getElem?_append_left (by rw [henc]; exact hj)]
    | succ k =>
      simp only [List.getElem?_cons_succ] at hk
      rw [List.flatMap_cons, List.getElem?_append_right (by rw [henc, Nat.succ_mul]; omega), henc, ← ih hk]
      congr 1
      rw [Nat.succ_mul]
      omega
theorem flat_len (henc : ∀ x, (enc x).length = s) (xs : List α) : (xs.flatMap enc).length = xs.length * s := by
  induction xs with
  | nil => simp
  | cons y ys ih => rw [List.flatMap_cons, List.length_append, henc, ih, List.length_cons, Nat.succ_mul, Nat.add_comm]
theorem flat_set (henc : ∀ x, (enc x).length = s) {xs : List α} {k : Nat} {x y : α} {j : Nat} {u : Value} (hk : xs[k]? = some x) (hj : j < s) (hy : enc y = (enc x).set j u) : (xs.flatMap enc).set (k * s + j) u = (xs.set k y).flatMap enc := by
  induction xs generalizing k with
  | nil => simp at hk
  | cons z zs ih =>
    cases k with
    | zero =>
      simp only [List.getElem?_cons_zero, Option.some.injEq] at hk
      subst hk
      rw [List.flatMap_cons, Nat.zero_mul, Nat.zero_add, List.set_append_left _ _ (by rw [henc]; exact hj), List.set_cons_zero, List.flatMap_cons, hy]
    | succ k =>
      simp only [List.getElem?_cons_succ] at hk
      rw [List.flatMap_cons, List.set_append_right _ _ (by rw [henc, Nat.succ_mul]; omega), henc, List.set_cons_succ, List.flatMap_cons, ← ih hk]
      congr 2
      rw [Nat.succ_mul]
      omega
theorem RA.len (h : RA enc s w B A n xs) : xs.length = n := h.1
theorem RA.below (h : RA enc s w B A n xs) (hb : Below B w w') : RA enc s w' B A n xs := ⟨h.1, h.2.below hb⟩
theorem RA.later (h : RA enc s w w.heap.size A n xs) (hb : Below w.heap.size w w') : RA enc s w' w'.heap.size A n xs := ⟨h.1, h.2.later hb⟩
theorem RA.more (h : RA enc s w B A n xs) (hB : B ≤ B') : RA enc s w B' A n xs := ⟨h.1, h.2.more hB⟩
theorem RA.nil (w : World) (B : Nat) (A : Option Addr) : RA enc s w B A 0 [] := ⟨rfl, Reads.none_⟩
theorem spot_none {ad : Addr} {u : Value} (h : w.cell? ad = some u) : ad = ⟨ad.block, ad.off, none⟩ := by
  cases ad with
  | mk b o sp =>
    cases sp with
    | none => rfl
    | some x =>
      exfalso
      simp only [World.cell?] at h
      split at h <;> simp at h
theorem RA.at (henc : ∀ x, (enc x).length = s) (hs : 0 < s) (h : RA enc s w B A n xs) {k : Nat} (hk : k < n) :
    ∃ b o x, A = some ⟨b, o, none⟩ ∧ b < B ∧ Hid (xs[k]? = some x) ∧ ∀ j u, (enc x)[j]? = some u → w.cell? ⟨b, o + k * s + j, none⟩ = some u := by
  obtain ⟨ad, e, hb, hc⟩ := h.2.2 (by omega)
  have hl : k < xs.length := by rw [h.1]; exact hk
  have h0 : 0 < (xs.flatMap enc).length := by
    rw [flat_len henc]
    exact Nat.mul_pos (by omega) hs
  have hsp := spot_none (hc 0 _ (List.getElem?_eq_getElem h0))
  have hsp' : ad = ⟨ad.block, ad.off, none⟩ := by simpa [Addr.add] using hsp
  refine ⟨ad.block, ad.off, xs[k], by rw [e, ← hsp'], hb, List.getElem?_eq_getElem hl, fun j u hu => ?_⟩
  have := hc (k * s + j) u (by
    rw [flat_at henc (List.getElem?_eq_getElem hl) j (by rw [← henc xs[k]]; exact (List.getElem?_eq_some_iff.1 hu).1)]
    exact hu)
  rw [hsp', Addr.add_lit, ← Nat.add_assoc] at this
  exact this
theorem RA.cells {b o : Nat} (henc : ∀ x, (enc x).length = s) (hs : 0 < s) (h : RA enc s w B (some ⟨b, o, none⟩) n xs) {k : Nat} (hk : k < n) :
    ∃ x, Hid (xs[k]? = some x) ∧ ∀ j u, (enc x)[j]? = some u → w.cell? ⟨b, o + k * s + j, none⟩ = some u := by
  obtain ⟨b', o', x, e, _, h1, h2⟩ := h.at henc hs hk
  injection e with e
  injection e with e1 e2
  subst e1 e2
  exact ⟨x, h1, h2⟩
end

/-- The call's own slice of structs. -/
def OA {α : Type} (enc : α → List Value) (e : TypeId) (s lo hi : Nat) (w : World) (v : Value) (xs : List α) : Prop := OX e s lo hi w v xs.length (xs.flatMap enc)
section
variable {α : Type} {enc : α → List Value} {e : TypeId} {s lo hi lo' hi' : Nat} {w w' : World} {v : Value} {xs : List α}
theorem OA.below {B : Nat} (h : OA enc e s lo hi w v xs) (hb : Below B w w') (hB : hi ≤ B) : OA enc e s lo hi w' v xs := OX.below h hb hB
theorem OA.mid {l r : Nat} (h : OA enc e s lo hi w v xs) (hm : Mid l r w w') (hd : hi ≤ l ∨ r ≤ lo) (hs : hi ≤ w.heap.size) : OA enc e s lo hi w' v xs := OX.mid h hm hd hs
theorem OA.wide (h : OA enc e s lo hi w v xs) (h1 : lo' ≤ lo) (h2 : hi ≤ hi') : OA enc e s lo' hi' w v xs := OX.wide h h1 h2
theorem OA.nil (w : World) : OA enc e s lo hi w (.slice none 0 0) [] := OX.nil _ _ _ _ _
theorem OA.shape (h : OA enc e s lo hi w v xs) : ∃ A c, v = .slice A xs.length c ∧ RA enc s w w.heap.size A xs.length xs := by
  obtain ⟨A, c, hv, _, hr⟩ := OX.shape h
  exact ⟨A, c, hv, rfl, hr⟩
theorem OX.m_eq {g c m n : Nat} {cs : List Value} (h : OX e s lo hi w (.slice (some ⟨g, 0, none⟩) m c) n cs) : m = n := by
  rcases h.1.2 with ⟨h0, _⟩ | ⟨g', cap, cur, h0, _⟩
  · simp at h0
  · simp only [Value.slice.injEq] at h0
    exact h0.2.1
/-- A field of the k-th struct is written. -/
theorem OA.set {g c m : Nat} (henc : ∀ x, (enc x).length = s) (h : OA enc e s lo hi w (.slice (some ⟨g, 0, none⟩) m c) xs) {k j : Nat} {x y : α} {u : Value} (hk : xs[k]? = some x) (hj : j < s) (hy : enc y = (enc x).set j u) :
    OA enc e s lo hi (w.setCell ⟨g, k * s + j, none⟩ u) (.slice (some ⟨g, 0, none⟩) m c) (xs.set k y) ∧ Mid lo hi w (w.setCell ⟨g, k * s + j, none⟩ u) := by
  have hm := OX.m_eq h
  subst hm
  have h1 := OX.set h (k * s + j) u
  rw [flat_set henc hk hj hy] at h1
  refine ⟨?_, h1.2⟩
  unfold OA
  rw [List.length_set]
  exact h1.1
theorem OA.cell {g c m : Nat} (henc : ∀ x, (enc x).length = s) (h : OA enc e s lo hi w (.slice (some ⟨g, 0, none⟩) m c) xs) {k : Nat} {x : α} (hk : xs[k]? = some x) {j : Nat} {u : Value} (hj : (enc x)[j]? = some u) :
    w.cell? ⟨g, k * s + j, none⟩ = some u ∧ w.frozen? ⟨g, k * s + j, none⟩ = false := by
  have hm := OX.m_eq h
  subst hm
  exact OX.cell h (by rw [flat_at henc hk j (by rw [← henc x]; exact (List.getElem?_eq_some_iff.1 hj).1)]; exact hj)
theorem made_flat (zs : Array Value) (n : Nat) (x : α) (hz : enc x = zs.toList) (henc : ∀ x, (enc x).length = s) (hs : 0 < s) : (madeCells zs (n * s)).toList = (List.replicate n x).flatMap enc := by
  have hzs : zs.size = s := by have := henc x; rw [hz] at this; simpa using this
  apply List.ext_getElem?
  intro i
  by_cases hi : i < n * s
  · have hk : i / s < n := Nat.div_lt_of_lt_mul (by rw [Nat.mul_comm]; exact hi)
    have hj : i % s < s := Nat.mod_lt _ hs
    have e0 : i / s * s + i % s = i := by rw [Nat.mul_comm]; exact Nat.div_add_mod i s
    have h1 := flat_at henc (xs := List.replicate n x) (k := i / s) (x := x) (by simp [hk]) (i % s) hj
    rw [e0] at h1
    rw [h1, hz]
    simp [madeCells, hi, hzs, hj]
  · rw [List.getElem?_eq_none (by simp [madeCells]; omega), List.getElem?_eq_none (by rw [flat_len henc, List.length_replicate]; omega)]
theorem OA.made {z : Value} {n : Nat} {x : α} (henc : ∀ x, (enc x).length = s) (hs : 0 < s) (hz : enc x = z.cells.toList) (h : w.ownsRow lo e s v n (madeCells z.cells (n * s)).toList) (hv : ∀ k, v.ownBlock = some k → k < hi) :
    OA enc e s lo hi w v (List.replicate n x) := by
  unfold OA
  rw [List.length_replicate, ← made_flat z.cells n x hz henc hs]
  exact ⟨h, hv⟩
theorem OA.form {A : Option Addr} {c m : Nat} (h : OA enc e s lo hi w (.slice A m c) xs) (hn : 0 < m) : ∃ g, A = some ⟨g, 0, none⟩ ∧ lo ≤ g ∧ g < hi ∧ g < w.heap.size ∧ m = xs.length := OX.form h hn
theorem OA.push {x : α} (h : w.ownsRow lo e s v (xs.length + 1) (xs.flatMap enc ++ enc x)) : OA enc e s lo w.heap.size w v (xs ++ [x]) := by
  unfold OA
  have := OX.of_own h
  simpa [List.flatMap_append] using this
end
end Go.Proofs.YtecdendjlgohjaaGreatDoor
namespace Go.Proofs.YtecdendjlgohjaaGreatDoor
open Go.RowKit
set_option maxHeartbeats 400000
theorem ret_int {k : IntKind} {a b : Int} (h : a = b) : Ending.returned (.int k a) = .returned (.int k b) := by rw [h]
theorem ret_bool {a b : Bool} (h : a = b) : Ending.returned (.bool a) = .returned (.bool b) := by rw [h]
theorem ei_i64 : EI Tryz.prog 33 2 (.int .i64 0) 1 8 := ⟨Tryz.underlying33, by kernel_rfl, rfl, by decide⟩
theorem impl_within (n lo hi : Int) (w : World) :
    Calls Tryz.prog 48 #[.int .i64 n, .int .i64 lo, .int .i64 hi] w fun e w' => e = .returned (.bool (M.inn n lo hi)) ∧ w = w' := by
  go_enter Tryz.func48, Tryz.ntmps48
  go_wp2
  all_goals go_ret
  all_goals exact ⟨by simp [M.inn] <;> omega, rfl⟩
theorem spec_l00In (n lo hi : Int) (w : World) :
    Calls Tryz.prog 39 #[.int .i64 n, .int .i64 lo, .int .i64 hi] w fun e w' => e = .returned (.bool (M.inn n lo hi)) ∧ w = w' := by
  go_enter Tryz.func39, Tryz.ntmps39
  go_wp2
  all_goals go_ret
  all_goals exact ⟨by simp [M.inn] <;> omega, rfl⟩
theorem impl_isSample (n : Int) (w : World) :
    Calls Tryz.prog 69 #[.int .i64 n] w fun e w' => e = .returned (.bool (M.smp n)) ∧ w = w' := by
  go_enter Tryz.func69, Tryz.ntmps69
  go_wp2_with (go_at_call 48; refine (impl_within _ _ _ _).mono ?_; rintro e w' ⟨rfl, rfl⟩)
  go_ret
  exact ⟨rfl, rfl⟩
theorem spec_l01Sample (n : Int) (w : World) :
    Calls Tryz.prog 64 #[.int .i64 n] w fun e w' => e = .returned (.bool (M.smp n)) ∧ w = w' := by
  go_enter Tryz.func64, Tryz.ntmps64
  go_wp2_with (go_at_call 39; refine (spec_l00In _ _ _ _).mono ?_; rintro e w' ⟨rfl, rfl⟩)
  go_ret
  exact ⟨rfl, rfl⟩
theorem spec_l01Wrap (n : Int) (w : World) : Calls Tryz.prog 87 #[.int .i64 n] w fun e w' => e = .returned (.int .i64 (wrap32 n)) ∧ w = w' := by
  have h := Lib.hid (M.and_low n)
  by_cases hm : 2147483647 < bits BinOp.and IntKind.i64 n 4294967295
  all_goals
    go_enter Tryz.func87, Tryz.ntmps87
    go_wp2
    go_ret
    exact ⟨ret_int (by have := h.out; unfold wrap32; (try unfold wrap64); omega), rfl⟩
end Go.Proofs.YtecdendjlgohjaaGreatDoor
namespace Go.Proofs.YtecdendjlgohjaaGreatDoor
open Go.RowKit
set_option maxHeartbeats 1000000
set_option maxRecDepth 100000
/-- The table that strconv's numerals are read from, whatever is laid behind w. -/
def TAB (w : World) : Prop := Lib.TabBelow Tryz.prog w.heap.size w "internal/strconv.uint64pow10" .u64 Lib.pow10Tab
theorem TAB.on {w u : World} (h : TAB w) (b : Below w.heap.size w u) : TAB u := fun w' hb => h w' (bel_trans b hb)
theorem TAB.here {w : World} (h : TAB w) : Lib.TabIs Tryz.prog w "internal/strconv.uint64pow10" .u64 Lib.pow10Tab := h w (Below.refl _ _)
end Go.Proofs.YtecdendjlgohjaaGreatDoor
/-
  A region that draws its order, holds calls (or allocations) that come in one forced order, and loads and moves beside them: one walk serves every order. The loads are read first (they read old blocks, which nothing in the window writes), then the rest runs in its forced order.
-/
namespace Go.Proofs.YtecdendjlgohjaaGreatDoor
open Go
section
variable {P : Program} {ops : Array Oper} {md : Region.Mode} {D : World → Prop}
/-- No exit. -/
def noX : Exit → Act → World → Prop := fun _ _ _ => False
/-- Operations that never enter a function and write nothing. -/
def plainB (o : Oper) : Bool :=
  match o.op with
  | .move _ | .assign _ | .load .. | .fieldAddr .. | .indexAddr .. | .nilCheck _ | .binOp .. | .unOp .. | .pick .. | .slice .. | .convert .. | .extract .. => true
  | _ => false
def NE (s : Sem Next) : Prop := ∀ (P : Program) (w : World) (n : Next) (w' : World), s.run P w = .ok n w' → ∃ v, n = .value v
theorem NE.bind {α : Type} {s : Sem α} {k : α → Sem Next} (h : ∀ x, NE (k x)) : NE (s >>= k) := by
  intro P w n w' e
  rw [Sem.run_bind] at e
  cases hs : s.run P w with
  | ok x w2 => rw [hs] at e; exact h x P w2 n w' e
  | halt x w2 => rw [hs] at e; simp [Result.andThen] at e
theorem NE.value (v : Value) : NE (pure (.value v)) := by
  intro P w n w' e
  rw [Sem.run_pure] at e
  injection e with e
  exact ⟨v, e.symm⟩
theorem NE.v (s : Sem Value) : NE (do pure (Next.value (← s))) := NE.bind fun _ => NE.value _
theorem plain_enter {o : Oper} (h : plainB o = true) (ρ : Operand → Value) : NE (execOp ρ o) := by
  obtain ⟨dst, op, type, pos, after, guard⟩ := o
  cases op <;> simp only [plainB, Bool.false_eq_true] at h <;> simp only [execOp]
  case nilCheck x =>
    split
    · intro P w n w' e; simp [runtimePanic, Sem.run] at e
    · intro P w n w' e; simp [runtimePanic, Sem.run] at e
    · intro P w n w' e; simp [runtimePanic, Sem.run] at e
    · split
      · intro P w n w' e; simp [runtimePanic, Sem.run] at e
      · refine NE.bind fun p => NE.bind fun y => ?_
        split
        · exact NE.bind fun _ => NE.value _
        · exact NE.value _
      · exact NE.value _
    · exact NE.value _
  case pick c x y => exact NE.bind fun _ => NE.value _
  all_goals first | exact NE.v _ | exact NE.value _
/-- The value that a plain operation leaves, in every world of the class. -/
def YieldsD (P : Program) (ops : Array Oper) (D : World → Prop) (o : Oper) (v : Value) (a : Act) : Prop :=
  (Region.wanted o (yielded ops a.tmps) = true ∧ ∀ w, D w → (execOp a.eval o).run P w = .ok (.value v) w) ∨
  (Region.wanted o (yielded ops a.tmps) = false ∧ v = undef)
theorem YieldsD.of_same {o : Oper} {v : Value} {a a' : Act} (hy : YieldsD P ops D o v a) (he : execOp a'.eval o = execOp a.eval o)
    (hw : Region.wanted o (yielded ops a'.tmps) = Region.wanted o (yielded ops a.tmps)) : YieldsD P ops D o v a' := by
  unfold YieldsD at *
  rw [he, hw]
  exact hy
theorem YieldsD.of_quiet {o : Oper} {a : Act} {v : Value} (hp : plainB o = true) (h : ∀ w, D w → o.quietAt P a D w v) (w : World) (hw : D w) : (execOp a.eval o).run P w = .ok (.value v) w := by
  have h1 := h w hw
  have h2 := plain_enter hp a.eval P w
  unfold Oper.quietAt at h1
  generalize (execOp a.eval o).run P w = r at h1 h2
  cases r with
  | ok n w' =>
    obtain ⟨u, rfl⟩ := h2 n w' rfl
    simp only [Oper.quietUpon] at h1
    obtain ⟨e1, e2⟩ := h1
    rw [e1, e2]
  | halt x w' => simp only [Oper.quietUpon] at h1
theorem YieldsD.wpOp {i : Nat} {o : Oper} {v : Value} {a : Act} (hi : ops[i]? = some o) (hy : YieldsD P ops D o v a) {K : Act → World → Prop} {w : World} {Q : Exit → Act → World → Prop} (hD : D w) (h : K (a.put o.dst v) w) : wpOp P ops Q i K a w := by
  unfold Go.wpOp
  simp only [hi]
  rcases hy with ⟨hw, hv⟩ | ⟨hw, rfl⟩
  · simp only [hw, if_true, Oper.wp]
    rw [hv w hD]
    exact .inl h
  · simp only [hw, Bool.false_eq_true, if_false]; exact h
theorem wpOp_putD {j : Nat} {oi oj : Oper} {v : Value} (hj : ops[j]? = some oj) (hap : oi.apart ops oj = true)
    (hsi : ∀ cs b, oi.op ≠ .select cs b) (hsj : ∀ cs b, oj.op ≠ .select cs b) {K : Act → World → Prop} {a : Act} {w : World}
    (hy : YieldsD P ops D oi v a) (h : wpOp P ops noX j K (a.put oi.dst v) w) :
    wpOp P ops noX j (fun a' w' => YieldsD P ops D oi v a' ∧ K (a'.put oi.dst v) w') a w := by
  obtain ⟨h1, h2, h3⟩ := Oper.apart_spec hap
  have keep : ∀ (a : Act), YieldsD P ops D oi v a → ∀ u, YieldsD P ops D oi v (a.put oj.dst u) := fun a hy u =>
    hy.of_same (execOp_put oi hsi a oj.dst u h3) (wanted_put oi a oj.dst u h3)
  have keepD : ∀ d, YieldsD P ops D oi v { a with defers := d :: a.defers } := fun d => hy.of_same rfl rfl
  unfold wpOp at *
  simp only [hj] at *
  rw [wanted_put oj a oi.dst v h1] at h
  split
  · rename_i hw
    simp only [hw, if_true] at h
    rcases h with h | ⟨hasks, hlets⟩
    case inr => exact .inr ⟨by unfold Oper.asks at *; rw [execOp_put oj hsj a oi.dst v h1] at hasks; exact hasks, hlets⟩
    refine .inl ?_
    unfold Oper.wp at *
    rw [execOp_put oj hsj a oi.dst v h1] at h
    generalize (execOp a.eval oj).run P w = r at *
    cases r with
    | ok n w' =>
      cases n <;> simp only [Oper.upon] at h ⊢
      case value u => exact ⟨keep a hy u, by rw [← Act.put_comm a v u h2]; exact h⟩
      case skip => exact ⟨keep a hy _, by rw [← Act.put_comm a v undef h2]; exact h⟩
      case defer d =>
        refine ⟨keep _ (keepD d) _, ?_⟩
        rw [← Act.put_comm _ v undef h2, ← Act.put_defers]
        exact h
      case enter f args =>
        refine Calls.mono h fun e w'' he => ?_
        cases e with
        | returned u => exact ⟨keep a hy u, by rw [← Act.put_comm a v u h2]; exact he⟩
        | panicked c => exact he
        | outgrown => exact he
      case row row args => exact Rows.mono h fun u w'' he => ⟨keep a hy u, by rw [← Act.put_comm a v u h2]; exact he⟩
    | halt x w' =>
      cases x <;> simp only [Oper.upon] at h ⊢
      case panic u => exact h
  · rename_i hw
    simp only [hw] at h
    exact ⟨keep a hy _, by rw [← Act.put_comm a v undef h2]; exact h⟩
/-- The next f steps lie in the window (none of them is one of T), worlds of D come up before each; then L. -/
def upD (P : Program) (md : Region.Mode) (ops : Array Oper) (D : World → Prop) (T : Nat → Bool) (L : Array Bool → Act → World → Prop) : Nat → Array Bool → Act → World → Prop
  | 0, listed, a, w => D w ∧ L listed a w
  | f + 1, listed, a, w => D w ∧ Region.ready md ops listed ≠ [] ∧ ∀ i ∈ Region.ready md ops listed, T i = false ∧ wpOp P ops noX i (upD P md ops D T L f (listed.setIfInBounds i true)) a w
theorem wpOp_exit {i : Nat} {K : Act → World → Prop} {a : Act} {w : World} {Q : Exit → Act → World → Prop} (h : wpOp P ops noX i K a w) : wpOp P ops Q i K a w := by
  unfold wpOp at *
  split
  · rename_i ho; simp only [ho] at h; exact h
  · rename_i o ho
    simp only [ho] at h
    split
    · rename_i hw
      simp only [hw, if_true] at h
      rcases h with h | ⟨_, a2, w2, hl⟩
      · refine .inl ?_
        unfold Oper.wp at *
        generalize (execOp a.eval o).run P w = r at *
        cases r with
        | ok n w' =>
          cases n <;> simp only [Oper.upon] at h ⊢
          case value u => exact h
          case skip => exact h
          case defer d => exact h
          case enter f args =>
            refine Calls.mono h fun e w'' he => ?_
            cases e with
            | returned u => exact he
            | panicked c => exact he.elim
            | outgrown => obtain ⟨a3, w3, hl⟩ := he; exact hl.elim
          case row row args => exact h
        | halt x w' =>
          cases x <;> simp only [Oper.upon] at h ⊢
          case panic u => exact h.elim
      · exact hl.elim
    · rename_i hw
      simp only [hw] at h
      exact h
theorem any_of_upD {T : Nat → Bool} {g : Nat} {L : Array Bool → Act → World → Prop} {Q : Exit → Act → World → Prop} (hL : ∀ listed a w, L listed a w → wpAny P md ops Q g listed a w) :
    ∀ (f : Nat) (listed : Array Bool) (a : Act) (w : World), upD P md ops D T L f listed a w → wpAny P md ops Q (f + g) listed a w := by
  intro f
  induction f with
  | zero => intro listed a w h; rw [Nat.zero_add]; exact hL _ _ _ h.2
  | succ f ih =>
    intro listed a w h
    rw [show f + 1 + g = (f + g) + 1 by omega]
    exact ⟨fun h0 => absurd h0 h.2.1, fun i hi => wpOp_exit (wpOp_mono (fun a' w' h' => ih _ a' w' h') (h.2.2 i hi).2)⟩
/-- t waits for i, at once or by others. -/
def reachB (md : Region.Mode) (ops : Array Oper) : Nat → Nat → Nat → Bool
  | 0, _, _ => false
  | f + 1, t, i => match ops[t]? with
    | some ot => ot.after.any fun e => Region.binds md e && (e.on == i || reachB md ops f e.on i)
    | none => false
def Closed (md : Region.Mode) (ops : Array Oper) (listed : Array Bool) : Prop :=
  ∀ j oj, ops[j]? = some oj → listed.getD j false = true → ∀ e ∈ oj.after, Region.binds md e = true → listed.getD e.on false = true
theorem Closed.set {listed : Array Bool} (h : Closed md ops listed) {i : Nat} (hi : i ∈ Region.ready md ops listed) : Closed md ops (listed.setIfInBounds i true) := by
  obtain ⟨_, oi, hoi, hall⟩ := mem_ready.1 hi
  intro j oj hj hl e he hb
  by_cases hij : i = j
  · subst hij
    have : oj = oi := Option.some.inj (hj.symm.trans hoi)
    subst this
    exact getD_set_true (hall e he hb)
  · rw [getD_set_ne false hij] at hl
    exact getD_set_true (h j oj hj hl e he hb)
theorem reach_listed {listed : Array Bool} (hc : Closed md ops listed) : ∀ (f t i : Nat) (ot : Oper), ops[t]? = some ot → (∀ e ∈ ot.after, Region.binds md e = true → listed.getD e.on false = true) → reachB md ops f t i = true → listed.getD i false = true := by
  intro f
  induction f with
  | zero => intro t i ot _ _ h; simp [reachB] at h
  | succ f ih =>
    intro t i ot ho hall h
    simp only [reachB, ho] at h
    obtain ⟨e, he, hb⟩ := Array.any_eq_true'.1 h
    simp only [Bool.and_eq_true, Bool.or_eq_true, beq_iff_eq] at hb
    obtain ⟨hb1, hb2⟩ := hb
    have hl := hall e he hb1
    rcases hb2 with h2 | h2
    · rw [← h2]; exact hl
    · cases ho2 : ops[e.on]? with
      | none =>
        cases f with
        | zero => simp [reachB] at h2
        | succ f => simp [reachB, ho2] at h2
      | some o2 => exact ih e.on i o2 ho2 (fun e2 he2 hb2 => hc e.on o2 ho2 hl e2 he2 hb2) h2
/-- A plain operation of the window may be taken first. -/
theorem upD_first {T : Nat → Bool} {i : Nat} {oi : Oper} {v : Value} {L : Array Bool → Act → World → Prop} (hi : ops[i]? = some oi) (hsel : Region.noSelect ops = true)
    (hwait : ∀ t, T t = true → reachB md ops ops.size t i = true) (hTi : T i = false)
    (hdone : ∀ listed a w, L listed a w → ∀ j ∈ Region.ready md ops listed, T j = true) :
    ∀ (f : Nat) (listed : Array Bool) (a : Act) (w : World), Closed md ops listed →
      (∀ j oj, ops[j]? = some oj → j ≠ i → listed.getD j true = false → (∀ e ∈ oj.after, Region.binds md e = true → e.on ≠ i) → oi.apart ops oj = true) →
      i ∈ Region.ready md ops listed → YieldsD P ops D oi v a → D w →
      upD P md ops D T L f (listed.setIfInBounds i true) (a.put oi.dst v) w → upD P md ops D T L (f + 1) listed a w := by
  have late : ∀ (listed : Array Bool), Closed md ops listed → listed.getD i true = false → ∀ j ∈ Region.ready md ops listed, T j = false := by
    intro listed hcl hun j hj
    cases hT : T j with
    | false => rfl
    | true =>
      obtain ⟨_, oj, hoj, hall⟩ := mem_ready.1 hj
      have := reach_listed hcl ops.size j i oj hoj hall (hwait j hT)
      rw [getD_both hun] at this
      cases this
  intro f
  induction f with
  | zero =>
    intro listed a w hcl _ hr hy hD H
    refine ⟨hD, fun h => (by rw [h] at hr; cases hr), fun j hj => ?_⟩
    have hTj := late listed hcl (mem_ready.1 hr).1 j hj
    refine ⟨hTj, ?_⟩
    by_cases hji : j = i
    · subst hji
      exact hy.wpOp hi hD H
    · have := hdone _ _ _ H.2 j (ready_mono hj hji)
      rw [hTj] at this
      cases this
  | succ f ih =>
    intro listed a w hcl hfree hr hy hD H
    refine ⟨hD, fun h => (by rw [h] at hr; cases hr), fun j hj => ?_⟩
    refine ⟨late listed hcl (mem_ready.1 hr).1 j hj, ?_⟩
    by_cases hji : j = i
    · subst hji
      exact hy.wpOp hi hD H
    obtain ⟨hjun, oj, hoj, hall⟩ := mem_ready.1 hj
    have hnot : ∀ e ∈ oj.after, Region.binds md e = true → e.on ≠ i := fun e he hb heq => by
      have h1 := hall e he hb
      rw [heq, getD_both (mem_ready.1 hr).1] at h1
      cases h1
    have h2 := wpOp_putD hoj (hfree j oj hoj hji hjun hnot) (fun cs b => Region.noSelect_spec hsel i oi cs b hi) (fun cs b => Region.noSelect_spec hsel j oj cs b hoj) hy (H.2.2 j (ready_mono hj hji)).2
    refine wpOp_mono (fun a' w' h3 => ?_) h2
    obtain ⟨h3, h4⟩ := h3
    have hD' : D w' := by
      cases f with
      | zero => exact h4.1
      | succ f => exact h4.1
    refine ih (listed.setIfInBounds j true) a' w' (hcl.set hj) (fun k ok hk hki hun hno => hfree k ok hk hki ?_ hno) (ready_mono hr (Ne.symm hji)) h3 hD' ?_
    · by_cases hjk : j = k
      · subst hjk
        exact hjun
      · rwa [getD_set_ne true hjk] at hun
    · rw [Array.setIfInBounds_comm _ _ hji]
      exact h4
/-- A forced order. -/
def forcedB (md : Region.Mode) (ops : Array Oper) : List Nat → Array Bool → Bool
  | [], listed => (Region.ready md ops listed).isEmpty
  | b :: bs, listed => decide (Region.ready md ops listed = [b]) && forcedB md ops bs (listed.setIfInBounds b true)
theorem any_of_forced {Q : Exit → Act → World → Prop} : ∀ (B : List Nat) (l : List Oper) (listed : Array Bool) (a : Act) (w : World), l.map some = B.map (ops[·]?) →
    forcedB md ops B listed = true → wpList P ops Q l a w → wpAny P md ops Q B.length listed a w := by
  intro B
  induction B with
  | nil =>
    intro l listed a w hl hB h
    obtain rfl : l = [] := by cases l with | nil => rfl | cons x xs => simp at hl
    exact ⟨by simpa [forcedB] using hB, h⟩
  | cons b bs ih =>
    intro l listed a w hl hB h
    cases l with
    | nil => simp at hl
    | cons o l =>
      simp only [List.map_cons, List.cons.injEq] at hl
      simp only [forcedB, Bool.and_eq_true, decide_eq_true_eq] at hB
      refine ⟨fun h1 => (by rw [hB.1] at h1; cases h1), fun i hi => ?_⟩
      rw [hB.1] at hi
      obtain rfl : i = b := by simpa using hi
      have hw : wpOp P ops Q i (wpList P ops Q l) a w := by unfold wpOp; simp only [← hl.1]; exact h
      exact wpOp_mono (fun a' w' h' => ih l _ a' w' hl.2 hB.2 h') hw
/-- The window's calls and allocations: one at a time, or two that may come either way round. -/
inductive Tr where
  | rest
  | one (b : Nat) (t : Tr)
  | two (b : Nat) (t : Tr) (b' : Nat) (t' : Tr)
def Tr.inB (l : List Nat) : Tr → Bool
  | .rest => true
  | .one b t => !l.contains b && t.inB l
  | .two b t b' t' => !l.contains b && !l.contains b' && t.inB l && t'.inB l
def treeB (md : Region.Mode) (ops : Array Oper) (R : List Nat) : Nat → Tr → Array Bool → Bool
  | 0, .rest, listed => forcedB md ops R listed
  | m + 1, .one b t, listed => decide (Region.ready md ops listed = [b]) && treeB md ops R m t (listed.setIfInBounds b true)
  | m + 1, .two b t b' t', listed => decide (Region.ready md ops listed = [b, b']) && treeB md ops R m t (listed.setIfInBounds b true) && treeB md ops R m t' (listed.setIfInBounds b' true)
  | _, _, _ => false
/-- D is shown behind each; then the rest. -/
def seqT (P : Program) (l : List Oper) (D : World → Prop) (Q : Exit → Act → World → Prop) (lr : List Oper) : Tr → Act → World → Prop
  | .rest, a, w => wpList P l.toArray Q lr a w
  | .one b t, a, w => match l[b]? with
    | some o => wpList P l.toArray (fun x a' w' => x = .normal ∧ D w' ∧ seqT P l D Q lr t a' w') [o] a w
    | none => False
  | .two b t b' t', a, w => (match l[b]? with
    | some o => wpList P l.toArray (fun x a' w' => x = .normal ∧ D w' ∧ seqT P l D Q lr t a' w') [o] a w
    | none => False) ∧ (match l[b']? with
    | some o => wpList P l.toArray (fun x a' w' => x = .normal ∧ D w' ∧ seqT P l D Q lr t' a' w') [o] a w
    | none => False)
theorem opX_of_list {o : Oper} {i : Nat} (hi : ops[i]? = some o) {K : Act → World → Prop} {a : Act} {w : World} (h : wpList P ops (fun x a' w' => x = .normal ∧ K a' w') [o] a w) : wpOp P ops noX i K a w := by
  unfold wpOp
  simp only [hi]
  unfold wpList at h
  split
  · rename_i hw
    simp only [hw, if_true] at h
    rcases h with h | ⟨_, a2, w2, hl, _⟩
    · refine .inl ?_
      unfold Oper.wp at *
      generalize (execOp a.eval o).run P w = r at *
      cases r with
      | ok n w' =>
        cases n <;> simp only [Oper.upon] at h ⊢
        case value u => exact h.2
        case skip => exact h.2
        case defer d => exact h.2
        case enter f args =>
          refine Calls.mono h fun e w'' he => ?_
          cases e with
          | returned u => exact he.2
          | panicked c => exact absurd he.1 (by simp)
          | outgrown => obtain ⟨a3, w3, hl, _⟩ := he; exact absurd hl (by simp)
        case row row args => exact Rows.mono h fun u w'' he => he.2
      | halt x w' =>
        cases x <;> simp only [Oper.upon] at h ⊢
        case panic u => exact absurd h.1 (by simp)
    · exact absurd hl (by simp)
  · rename_i hw
    simp only [hw] at h
    exact h.2
theorem step_of {l : List Oper} {b : Nat} {K : Act → World → Prop} {a : Act} {w : World} (h : match l[b]? with
    | some o => wpList P l.toArray (fun x a' w' => x = .normal ∧ K a' w') [o] a w
    | none => False) : wpOp P l.toArray noX b K a w := by
  cases ho : l[b]? with
  | none => rw [ho] at h; exact h.elim
  | some o => rw [ho] at h; exact opX_of_list (ops := l.toArray) (by simpa using ho) h
theorem upD_tree {l : List Oper} {T : Nat → Bool} {Q : Exit → Act → World → Prop} {R : List Nat} {lr : List Oper} : ∀ (m : Nat) (t : Tr) (listed : Array Bool) (a : Act) (w : World),
    treeB md l.toArray R m t listed = true → t.inB R = true → (∀ b, T b = R.contains b) → D w → seqT P l D Q lr t a w →
    upD P md l.toArray D T (fun listed' a' w' => forcedB md l.toArray R listed' = true ∧ wpList P l.toArray Q lr a' w') m listed a w := by
  intro m
  induction m with
  | zero =>
    intro t listed a w hB _ _ hD h
    cases t with
    | rest => exact ⟨hD, by simpa [treeB] using hB, h⟩
    | one b t => simp [treeB] at hB
    | two b t b' t' => simp [treeB] at hB
  | succ m ih =>
    intro t listed a w hB hI hT hD h
    cases t with
    | rest => simp [treeB] at hB
    | one b t =>
      simp only [treeB, Bool.and_eq_true, decide_eq_true_eq] at hB
      simp only [Tr.inB, Bool.and_eq_true, Bool.not_eq_true'] at hI
      refine ⟨hD, fun h1 => (by rw [hB.1] at h1; cases h1), fun i hi => ?_⟩
      rw [hB.1] at hi
      obtain rfl : i = b := by simpa using hi
      refine ⟨by rw [hT]; exact hI.1, ?_⟩
      exact wpOp_mono (fun a' w' h' => ih t _ a' w' hB.2 hI.2 hT h'.1 h'.2) (step_of (K := fun a' w' => D w' ∧ seqT P l D Q lr t a' w') h)
    | two b t b' t' =>
      simp only [treeB, Bool.and_eq_true, decide_eq_true_eq] at hB
      simp only [Tr.inB, Bool.and_eq_true, Bool.not_eq_true'] at hI
      refine ⟨hD, fun h1 => (by rw [hB.1.1] at h1; cases h1), fun i hi => ?_⟩
      rw [hB.1.1] at hi
      have hi' : i = b ∨ i = b' := by simpa using hi
      rcases hi' with rfl | rfl
      · refine ⟨by rw [hT]; exact hI.1.1.1, ?_⟩
        exact wpOp_mono (fun a' w' h' => ih t _ a' w' hB.1.2 hI.1.2 hT h'.1 h'.2) (step_of (K := fun a' w' => D w' ∧ seqT P l D Q lr t a' w') h.1)
      · refine ⟨by rw [hT]; exact hI.1.1.2, ?_⟩
        exact wpOp_mono (fun a' w' h' => ih t' _ a' w' hB.2 hI.2 hT h'.1 h'.2) (step_of (K := fun a' w' => D w' ∧ seqT P l D Q lr t' a' w') h.2)
/-- The plain operations in front: each may be taken first. -/
def firstB (md : Region.Mode) (ops : Array Oper) (R : List Nat) (m : Nat) (t : Tr) : List Nat → Array Bool → Bool
  | [], listed => treeB md ops R m t listed
  | i :: is, listed => (Region.ready md ops listed).contains i && Region.free md ops listed i && firstB md ops R m t is (listed.setIfInBounds i true)
theorem upD_plain {l : List Oper} {T : Nat → Bool} {Q : Exit → Act → World → Prop} {R : List Nat} {lr : List Oper} {m : Nat} {t : Tr} (hsel : Region.noSelect l.toArray = true) (hI : t.inB R = true) (hT : ∀ b, T b = R.contains b) :
    ∀ (F : List Nat) (k : List Oper) (listed : Array Bool) (a : Act) (w : World), k.map some = F.map (l.toArray[·]?) → k.all plainB = true → Closed md l.toArray listed → firstB md l.toArray R m t F listed = true →
    (∀ i ∈ F, T i = false ∧ ∀ t, T t = true → reachB md l.toArray l.toArray.size t i = true) → D w → wpQuiet P l.toArray D (fun a' => seqT P l D Q lr t a' w) k a →
    upD P md l.toArray D T (fun listed' a' w' => forcedB md l.toArray R listed' = true ∧ wpList P l.toArray Q lr a' w') (F.length + m) listed a w := by
  intro F
  induction F with
  | nil =>
    intro k listed a w hk _ hc hB _ hD h
    obtain rfl : k = [] := by cases k with | nil => rfl | cons x xs => simp at hk
    simp only [List.length_nil, Nat.zero_add]
    exact upD_tree m t listed a w hB hI hT hD h
  | cons i is ih =>
    intro k listed a w hk hp hc hB hW hD h
    cases k with
    | nil => simp at hk
    | cons o k =>
      simp only [List.map_cons, List.cons.injEq] at hk
      simp only [List.all_cons, Bool.and_eq_true] at hp
      simp only [firstB, Bool.and_eq_true] at hB
      obtain ⟨⟨hr, hf⟩, hB2⟩ := hB
      have hr' : i ∈ Region.ready md l.toArray listed := by simpa using hr
      have hq : qOp P l.toArray D i (wpQuiet P l.toArray D (fun a' => seqT P l D Q lr t a' w) k) a := by unfold qOp; simp only [← hk.1]; exact h
      obtain ⟨v, hy, hK⟩ := yieldsIn_of_qOp hk.1.symm hq
      have hy2 : YieldsD P l.toArray D o v a := by
        rcases hy with ⟨hw, h1⟩ | ⟨hw, rfl⟩
        · exact .inl ⟨hw, YieldsD.of_quiet hp.1 h1⟩
        · exact .inr ⟨hw, rfl⟩
      obtain ⟨hTi, hwait⟩ := hW i (by simp)
      rw [List.length_cons, show is.length + 1 + m = (is.length + m) + 1 by omega]
      refine upD_first hk.1.symm hsel hwait hTi ?_ (is.length + m) listed a w hc (Region.free_spec hk.1.symm hf) hr' hy2 hD (ih k _ _ w hk.2 hp.2 (hc.set hr') hB2 (fun j hj => hW j (by simp [hj])) hD hK)
      intro listed' a' w' hL j hj
      cases hd : R with
      | nil =>
        rw [hd] at hL
        have := hL.1
        simp only [forcedB, List.isEmpty_iff] at this
        rw [this] at hj
        cases hj
      | cons b bs =>
        rw [hd] at hL
        have := hL.1
        simp only [forcedB, Bool.and_eq_true, decide_eq_true_eq] at this
        rw [this.1] at hj
        obtain rfl : j = b := by simpa using hj
        rw [hT, hd]
        simp
def planGo (md : Region.Mode) (ops : Array Oper) (F : List Nat) (m : Nat) (t : Tr) (R : List Nat) : List Nat → Array Bool → Bool
  | [], listed => firstB md ops R m t F listed
  | i :: is, listed => (Region.ready md ops listed).contains i && Region.free md ops listed i && planGo md ops F m t R is (listed.setIfInBounds i true)
def planB (md : Region.Mode) (ops : Array Oper) (A F : List Nat) (m : Nat) (t : Tr) (R : List Nat) : Bool :=
  Region.noSelect ops && decide (A.length + F.length + (m + R.length) = ops.size) && R.all (fun t => F.all fun i => reachB md ops ops.size t i) && F.all (fun i => !R.contains i) && t.inB R &&
    planGo md ops F m t R A (Array.replicate ops.size false)
theorem any_plan {l : List Oper} {Q : Exit → Act → World → Prop} (hsel : Region.noSelect l.toArray = true) (hQ : ∀ c a w, Q (.panic c) a w → False) {F R : List Nat} {m : Nat} {t : Tr} {lf lr : List Oper} (hlr : lr.map some = R.map (l.toArray[·]?)) (hlf : lf.map some = F.map (l.toArray[·]?)) (hpf : lf.all plainB = true)
    (hreach : ∀ t ∈ R, ∀ i ∈ F, reachB md l.toArray l.toArray.size t i = true) (hF : ∀ i ∈ F, R.contains i = false) (hI : t.inB R = true) :
    ∀ (A : List Nat) (la : List Oper) (listed : Array Bool) (a : Act) (w : World), la.map some = A.map (l.toArray[·]?) → la.all plainB = true → Closed md l.toArray listed → planGo md l.toArray F m t R A listed = true →
    D w → wpQuiet P l.toArray (fun _ => True) (fun a' => wpQuiet P l.toArray D (fun a' => seqT P l D Q lr t a' w) lf a') la a → wpAny P md l.toArray Q (A.length + F.length + (m + R.length)) listed a w := by
  intro A
  induction A with
  | nil =>
    intro la listed a w hla _ hc hB hD h
    obtain rfl : la = [] := by cases la with | nil => rfl | cons x xs => simp at hla
    have h2 := upD_plain (md := md) (T := fun t => R.contains t) (Q := Q) (lr := lr) hsel hI (fun b => rfl) F lf listed a w hlf hpf hc hB (fun i hi => ⟨hF i hi, fun t ht => hreach t (by simpa using ht) i hi⟩) hD h
    have h3 := any_of_upD (Q := Q) (g := R.length) (fun listed' a' w' hL => any_of_forced R lr listed' a' w' hlr hL.1 hL.2) _ _ _ _ h2
    rw [List.length_nil, Nat.zero_add, show F.length + (m + R.length) = F.length + m + R.length by omega]
    exact h3
  | cons i is ih =>
    intro la listed a w hla hp hc hB hD h
    cases la with
    | nil => simp at hla
    | cons o la =>
      simp only [List.map_cons, List.cons.injEq] at hla
      simp only [List.all_cons, Bool.and_eq_true] at hp
      simp only [planGo, Bool.and_eq_true] at hB
      obtain ⟨⟨hr, hf⟩, hB2⟩ := hB
      have hr' : i ∈ Region.ready md l.toArray listed := by simpa using hr
      have hq : qOp P l.toArray (fun _ => True) i (wpQuiet P l.toArray (fun _ => True) (fun a' => wpQuiet P l.toArray D (fun a' => seqT P l D Q lr t a' w) lf a') la) a := by unfold qOp; simp only [← hla.1]; exact h
      obtain ⟨v, hy, hK⟩ := yieldsIn_of_qOp hla.1.symm hq
      rw [List.length_cons, show is.length + 1 + F.length + (m + R.length) = (is.length + F.length + (m + R.length)) + 1 by omega]
      have hy2 : Yields P l.toArray o v a := by
        rcases hy with ⟨hw, h1⟩ | ⟨hw, rfl⟩
        · exact .inl ⟨hw, fun w => YieldsD.of_quiet hp.1 h1 w trivial⟩
        · exact .inr ⟨hw, rfl⟩
      exact wpAny_first hla.1.symm (Region.noSelect_spec hsel) (fun c a w h => (hQ c _ w h).elim) _ listed a w (Region.free_spec hla.1.symm hf) hr' hy2 (ih la _ _ w hla.2 hp.2 (hc.set hr') hB2 hD hK)
theorem wpOp_monoQ {i : Nat} {K K' : Act → World → Prop} {a : Act} {w : World} {Q Q' : Exit → Act → World → Prop} (hK : ∀ a w, K a w → K' a w) (hQ : ∀ x a w, Q x a w → Q' x a w) (h : wpOp P ops Q i K a w) : wpOp P ops Q' i K' a w := by
  unfold wpOp at *
  split
  · rename_i ho; simp only [ho] at h; exact hK _ _ h
  · rename_i o ho
    simp only [ho] at h
    split
    · rename_i hw
      simp only [hw, if_true] at h
      rcases h with h | ⟨h1, a2, w2, hl⟩
      · refine .inl ?_
        unfold Oper.wp at *
        generalize (execOp a.eval o).run P w = r at *
        cases r with
        | ok n w' =>
          cases n <;> simp only [Oper.upon] at h ⊢
          case value u => exact hK _ _ h
          case skip => exact hK _ _ h
          case defer d => exact hK _ _ h
          case enter f args =>
            refine Calls.mono h fun e w'' he => ?_
            cases e with
            | returned u => exact hK _ _ he
            | panicked c => exact hQ _ _ _ he
            | outgrown => obtain ⟨a3, w3, hl⟩ := he; exact ⟨a3, w3, hQ _ _ _ hl⟩
          case row row args => exact Rows.mono h fun u w'' he => hK _ _ he
        | halt x w' =>
          cases x <;> simp only [Oper.upon] at h ⊢
          case panic u => exact hQ _ _ _ h
      · exact .inr ⟨h1, a2, w2, hQ _ _ _ hl⟩
    · rename_i hw
      simp only [hw] at h
      exact hK _ _ h
theorem wpAny_monoQ {Q Q' : Exit → Act → World → Prop} (hQ : ∀ x a w, Q x a w → Q' x a w) : ∀ (f : Nat) (listed : Array Bool) (a : Act) (w : World), wpAny P md ops Q f listed a w → wpAny P md ops Q' f listed a w := by
  intro f
  induction f with
  | zero => intro listed a w h; exact ⟨h.1, hQ _ _ _ h.2⟩
  | succ f ih => intro listed a w h; exact ⟨fun h0 => hQ _ _ _ (h.1 h0), fun i hi => wpOp_monoQ (fun a w h => ih _ a w h) hQ (h.2 i hi)⟩
/-- The operations of a list of indices. -/
def pickOps (l : List Oper) (is : List Nat) : List Oper := is.filterMap (l[·]?)
theorem pick_spec {l : List Oper} : ∀ {is : List Nat}, is.all (fun i => decide (i < l.length)) = true → (pickOps l is).map some = is.map (l.toArray[·]?) := by
  intro is
  induction is with
  | nil => intro _; rfl
  | cons i is ih =>
    intro h
    simp only [List.all_cons, Bool.and_eq_true, decide_eq_true_eq] at h
    have e : l[i]? = some l[i] := List.getElem?_eq_getElem h.1
    have e2 : pickOps l (i :: is) = l[i] :: pickOps l is := by simp [pickOps, e]
    rw [e2, List.map_cons, List.map_cons, ih h.2]
    congr 1
    simp [e]
/-- THE REGION: A are plain operations that need no memory (they may come up at whatever time); F plain ones, loads too, that all of R wait for; t the calls and allocations of the window (D is shown behind each), m of them; R the rest, in its one order. -/
theorem wp_region_plan {id : Nat} {Q : Exit → Act → World → Prop} {a : Act} {w : World} {l : List Oper} (A F : List Nat) (m : Nat) (t : Tr) (R : List Nat) (hm : P.follows .mixedOrders = true)
    (hB : (planB .any l.toArray A F m t R && (A ++ F ++ R).all (fun i => decide (i < l.length)) && (pickOps l A).all plainB && (pickOps l F).all plainB) = true) (hD : D { w with drawn := w.drawn + 1 })
    (h : wpQuiet P l.toArray (fun _ => True) (fun a' => wpQuiet P l.toArray D (fun a' => seqT P l D (fun x a w => x = .normal ∧ Q .normal a w) (pickOps l R) t a' { w with drawn := w.drawn + 1 }) (pickOps l F) a') (pickOps l A) a) :
    (Code.region id l.toArray true).wp P Q a w := by
  simp only [Bool.and_eq_true, List.all_append] at hB
  obtain ⟨⟨⟨hP, ⟨hA, hF⟩, hBB⟩, hpA⟩, hpF⟩ := hB
  simp only [planB, Bool.and_eq_true, decide_eq_true_eq] at hP
  obtain ⟨⟨⟨⟨⟨hsel, hsz⟩, hre⟩, hFn⟩, hI⟩, hgo⟩ := hP
  refine wp_region_any hm ?_
  have hc : Closed .any l.toArray (Array.replicate l.toArray.size false) := fun j oj _ hl => (by rw [getD_replicate_false] at hl; cases hl)
  have h2 := any_plan (P := P) (md := .any) (D := D) (Q := fun x a w => x = .normal ∧ Q .normal a w) hsel (fun c a w h => by cases h.1) (F := F) (R := R) (m := m) (pick_spec hBB) (pick_spec hF) hpF
    (fun t ht i hi => List.all_eq_true.1 (List.all_eq_true.1 hre t ht) i hi) (fun i hi => by simpa using List.all_eq_true.1 hFn i hi) hI
    A (pickOps l A) _ a _ (pick_spec hA) hpA hc hgo hD h
  rw [hsz] at h2
  exact wpAny_monoQ (fun x a w hx => by obtain ⟨rfl, h⟩ := hx; exact h) _ _ _ _ h2
/-- .. at the class 'w, drawn, with blocks laid behind it'. -/
theorem wp_region_fresh {id : Nat} {Q : Exit → Act → World → Prop} {a : Act} {w : World} {l : List Oper} (A F : List Nat) (m : Nat) (t : Tr) (R : List Nat) (hm : P.follows .mixedOrders = true)
    (hB : (planB .any l.toArray A F m t R && (A ++ F ++ R).all (fun i => decide (i < l.length)) && (pickOps l A).all plainB && (pickOps l F).all plainB) = true)
    (h : wpQuiet P l.toArray (fun _ => True) (fun a' => wpQuiet P l.toArray (fun w' => ∃ p : Regrown, w' = Go.Sort.grow (redrawn w p.d) p.os) (fun a' => seqT P l (fun w' => ∃ p : Regrown, w' = Go.Sort.grow (redrawn w p.d) p.os) (fun x a w => x = .normal ∧ Q .normal a w) (pickOps l R) t a' w.drew) (pickOps l F) a') (pickOps l A) a) :
    (Code.region id l.toArray true).wp P Q a w :=
  wp_region_plan (D := fun w' => ∃ p : Regrown, w' = Go.Sort.grow (redrawn w p.d) p.os) A F m t R hm hB ⟨⟨w.drawn + 1, #[]⟩, by rw [Go.Sort.grow_empty]; rfl⟩ h
variable {l : List Oper} {Q : Exit → Act → World → Prop} {lr : List Oper} {t t' : Tr} {b b' : Nat} {o o' : Oper} {a : Act} {w : World}
theorem seqT_one (h : l[b]? = some o) (k : wpList P l.toArray (fun x a' w' => x = .normal ∧ D w' ∧ seqT P l D Q lr t a' w') [o] a w) : seqT P l D Q lr (.one b t) a w := by
  unfold seqT
  rw [h]
  exact k
theorem seqT_rest (k : wpList P l.toArray Q lr a w) : seqT P l D Q lr .rest a w := k
end
end Go.Proofs.YtecdendjlgohjaaGreatDoor
/-
  A region that draws its order, more freely than in X50: loads and calls as there (each but the operations of T keeps the class of worlds D, and those of T wait for all loads), and behind the calls plain operations that may come in whatever order with what is left.
-/
namespace Go.Proofs.YtecdendjlgohjaaGreatDoor
open Go
section
variable {P : Program} {ops : Array Oper} {md : Region.Mode} {D : World → Prop}
inductive Tw where
  | rest
  | one (b : Nat) (t : Tw)
  | two (b : Nat) (t : Tw) (b' : Nat) (t' : Tw)
  | first (i : Nat) (t : Tw)
  | load (i : Nat) (t : Tw)
/-- All that is listed before an operation of T keeps D. -/
def anyD (P : Program) (md : Region.Mode) (ops : Array Oper) (D : World → Prop) (T : List Nat) (Q : Exit → Act → World → Prop) : Nat → Array Bool → Act → World → Prop
  | 0, listed, a, w => D w ∧ Region.ready md ops listed = [] ∧ Q .normal a w
  | f + 1, listed, a, w => D w ∧ Region.ready md ops listed ≠ [] ∧ ∀ i ∈ Region.ready md ops listed,
      (T.contains i = true → wpOp P ops Q i (wpAny P md ops Q f (listed.setIfInBounds i true)) a w) ∧ (T.contains i = false → wpOp P ops noX i (anyD P md ops D T Q f (listed.setIfInBounds i true)) a w)
theorem anyD_D {T : List Nat} {Q : Exit → Act → World → Prop} : ∀ {f : Nat} {listed : Array Bool} {a : Act} {w : World}, anyD P md ops D T Q f listed a w → D w
  | 0, _, _, _, h => h.1
  | _ + 1, _, _, _, h => h.1
theorem any_of_anyD {T : List Nat} {Q : Exit → Act → World → Prop} : ∀ (f : Nat) (listed : Array Bool) (a : Act) (w : World), anyD P md ops D T Q f listed a w → wpAny P md ops Q f listed a w := by
  intro f
  induction f with
  | zero => intro listed a w h; exact ⟨h.2.1, h.2.2⟩
  | succ f ih =>
    intro listed a w h
    refine ⟨fun h0 => absurd h0 h.2.1, fun i hi => ?_⟩
    cases hT : T.contains i with
    | true => exact (h.2.2 i hi).1 hT
    | false => exact wpOp_exit (wpOp_mono (fun a' w' h' => ih _ a' w' h') ((h.2.2 i hi).2 hT))
/-- A load may be taken first. -/
theorem anyD_load {T : List Nat} {Q : Exit → Act → World → Prop} {i : Nat} {oi : Oper} {v : Value} (hi : ops[i]? = some oi) (hsel : Region.noSelect ops = true)
    (hwait : ∀ t, T.contains t = true → reachB md ops ops.size t i = true) (hTi : T.contains i = false) :
    ∀ (f : Nat) (listed : Array Bool) (a : Act) (w : World), Closed md ops listed →
      (∀ j oj, ops[j]? = some oj → j ≠ i → listed.getD j true = false → (∀ e ∈ oj.after, Region.binds md e = true → e.on ≠ i) → oi.apart ops oj = true) →
      i ∈ Region.ready md ops listed → YieldsD P ops D oi v a → D w →
      anyD P md ops D T Q f (listed.setIfInBounds i true) (a.put oi.dst v) w → anyD P md ops D T Q (f + 1) listed a w := by
  have late : ∀ (listed : Array Bool), Closed md ops listed → listed.getD i true = false → ∀ j ∈ Region.ready md ops listed, T.contains j = false := by
    intro listed hcl hun j hj
    cases hT : T.contains j with
    | false => rfl
    | true =>
      obtain ⟨_, oj, hoj, hall⟩ := mem_ready.1 hj
      have := reach_listed hcl ops.size j i oj hoj hall (hwait j hT)
      rw [getD_both hun] at this
      cases this
  intro f
  induction f with
  | zero =>
    intro listed a w hcl _ hr hy hD H
    refine ⟨hD, fun h => (by rw [h] at hr; cases hr), fun j hj => ?_⟩
    have hTj := late listed hcl (mem_ready.1 hr).1 j hj
    refine ⟨fun h => (by rw [hTj] at h; cases h), fun _ => ?_⟩
    by_cases hji : j = i
    · subst hji
      exact hy.wpOp hi hD H
    · have := ready_mono hj hji
      rw [H.2.1] at this
      cases this
  | succ f ih =>
    intro listed a w hcl hfree hr hy hD H
    refine ⟨hD, fun h => (by rw [h] at hr; cases hr), fun j hj => ?_⟩
    have hTj := late listed hcl (mem_ready.1 hr).1 j hj
    refine ⟨fun h => (by rw [hTj] at h; cases h), fun _ => ?_⟩
    by_cases hji : j = i
    · subst hji
      exact hy.wpOp hi hD H
    obtain ⟨hjun, oj, hoj, hall⟩ := mem_ready.1 hj
    have hnot : ∀ e ∈ oj.after, Region.binds md e = true → e.on ≠ i := fun e he hb heq => by
      have h1 := hall e he hb
      rw [heq, getD_both (mem_ready.1 hr).1] at h1
      cases h1
    have h2 := wpOp_putD hoj (hfree j oj hoj hji hjun hnot) (fun cs b => Region.noSelect_spec hsel i oi cs b hi) (fun cs b => Region.noSelect_spec hsel j oj cs b hoj) hy ((H.2.2 j (ready_mono hj hji)).2 hTj)
    refine wpOp_mono (fun a' w' h3 => ?_) h2
    obtain ⟨h3, h4⟩ := h3
    refine ih (listed.setIfInBounds j true) a' w' (hcl.set hj) (fun k ok hk hki hun hno => hfree k ok hk hki ?_ hno) (ready_mono hr (Ne.symm hji)) h3 (anyD_D h4) ?_
    · by_cases hjk : j = k
      · subst hjk
        exact hjun
      · rwa [getD_set_ne true hjk] at hun
    · rw [Array.setIfInBounds_comm _ _ hji]
      exact h4
/-- An operation that needs no memory may be taken first. -/
theorem anyD_plain {T : List Nat} {Q : Exit → Act → World → Prop} (hQ : ∀ c a w, Q (.panic c) a w → False) {i : Nat} {oi : Oper} {v : Value} (hi : ops[i]? = some oi) (hsel : Region.noSelect ops = true) (hTi : T.contains i = false) :
    ∀ (f : Nat) (listed : Array Bool) (a : Act) (w : World),
      (∀ j oj, ops[j]? = some oj → j ≠ i → listed.getD j true = false → (∀ e ∈ oj.after, Region.binds md e = true → e.on ≠ i) → oi.apart ops oj = true) →
      i ∈ Region.ready md ops listed → Yields P ops oi v a →
      anyD P md ops D T Q f (listed.setIfInBounds i true) (a.put oi.dst v) w → anyD P md ops D T Q (f + 1) listed a w := by
  intro f
  induction f with
  | zero =>
    intro listed a w _ hr hy H
    refine ⟨H.1, fun h => (by rw [h] at hr; cases hr), fun j hj => ?_⟩
    by_cases hji : j = i
    · subst hji
      exact ⟨fun h => (by rw [hTi] at h; cases h), fun _ => hy.wpOp hi H⟩
    · have := ready_mono hj hji
      rw [H.2.1] at this
      cases this
  | succ f ih =>
    intro listed a w hfree hr hy H
    refine ⟨H.1, fun h => (by rw [h] at hr; cases hr), fun j hj => ?_⟩
    by_cases hji : j = i
    · subst hji
      exact ⟨fun h => (by rw [hTi] at h; cases h), fun _ => hy.wpOp hi H⟩
    obtain ⟨hjun, oj, hoj, hall⟩ := mem_ready.1 hj
    have hnot : ∀ e ∈ oj.after, Region.binds md e = true → e.on ≠ i := fun e he hb heq => by
      have h1 := hall e he hb
      rw [heq, getD_both (mem_ready.1 hr).1] at h1
      cases h1
    have hap := hfree j oj hoj hji hjun hnot
    have hfree2 : ∀ k ok, ops[k]? = some ok → k ≠ i → (listed.setIfInBounds j true).getD k true = false → (∀ e ∈ ok.after, Region.binds md e = true → e.on ≠ i) → oi.apart ops ok = true := fun k ok hk hki hun hno => hfree k ok hk hki (by
      by_cases hjk : j = k
      · subst hjk
        exact hjun
      · rwa [getD_set_ne true hjk] at hun) hno
    have si := fun cs b => Region.noSelect_spec hsel i oi cs b hi
    have sj := fun cs b => Region.noSelect_spec hsel j oj cs b hoj
    refine ⟨fun hTj => ?_, fun hTj => ?_⟩
    · have h2 := wpOp_put hoj hap si sj (fun c a w h => (hQ c _ w h).elim) hy ((H.2.2 j (ready_mono hj hji)).1 hTj)
      refine wpOp_mono (fun a' w' h3 => ?_) h2
      refine wpAny_first hi (Region.noSelect_spec hsel) (fun c a w h => (hQ c _ w h).elim) _ _ a' w' hfree2 (ready_mono hr (Ne.symm hji)) h3.1 ?_
      rw [Array.setIfInBounds_comm _ _ hji]
      exact h3.2
    · have h2 := wpOp_put (Q := noX) hoj hap si sj (fun c a w h => h.elim) hy ((H.2.2 j (ready_mono hj hji)).2 hTj)
      refine wpOp_mono (fun a' w' h3 => ?_) h2
      refine ih (listed.setIfInBounds j true) a' w' hfree2 (ready_mono hr (Ne.symm hji)) h3.1 ?_
      rw [Array.setIfInBounds_comm _ _ hji]
      exact h3.2
def headB (T R : List Nat) : Bool := match R with
  | [] => true
  | r :: _ => T.contains r
def treeW (md : Region.Mode) (ops : Array Oper) (T R : List Nat) : Nat → Tw → Array Bool → Bool
  | 0, .rest, listed => forcedB md ops R listed && headB T R
  | m + 1, .one b t, listed => decide (Region.ready md ops listed = [b]) && !T.contains b && treeW md ops T R m t (listed.setIfInBounds b true)
  | m + 1, .two b t b' t', listed => decide (Region.ready md ops listed = [b, b']) && !T.contains b && !T.contains b' && treeW md ops T R m t (listed.setIfInBounds b true) && treeW md ops T R m t' (listed.setIfInBounds b' true)
  | m + 1, .first i t, listed => (Region.ready md ops listed).contains i && Region.free md ops listed i && !T.contains i && ((ops[i]?).map plainB).getD false && treeW md ops T R m t (listed.setIfInBounds i true)
  | m + 1, .load i t, listed => (Region.ready md ops listed).contains i && Region.free md ops listed i && !T.contains i && T.all (fun t => reachB md ops ops.size t i) && ((ops[i]?).map plainB).getD false && treeW md ops T R m t (listed.setIfInBounds i true)
  | _, _, _ => false
/-- D is shown behind each; then the rest. -/
def seqW (P : Program) (l : List Oper) (D : World → Prop) (Q : Exit → Act → World → Prop) (lr : List Oper) : Tw → Act → World → Prop
  | .rest, a, w => wpList P l.toArray Q lr a w
  | .one b t, a, w => match l[b]? with
    | some o => wpList P l.toArray (fun x a' w' => x = .normal ∧ D w' ∧ seqW P l D Q lr t a' w') [o] a w
    | none => False
  | .two b t b' t', a, w => (match l[b]? with
    | some o => wpList P l.toArray (fun x a' w' => x = .normal ∧ D w' ∧ seqW P l D Q lr t a' w') [o] a w
    | none => False) ∧ (match l[b']? with
    | some o => wpList P l.toArray (fun x a' w' => x = .normal ∧ D w' ∧ seqW P l D Q lr t' a' w') [o] a w
    | none => False)
  | .first i t, a, w => match l[i]? with
    | some o => wpQuiet P l.toArray (fun _ => True) (fun a' => seqW P l D Q lr t a' w) [o] a
    | none => False
  | .load i t, a, w => match l[i]? with
    | some o => wpQuiet P l.toArray D (fun a' => seqW P l D Q lr t a' w) [o] a
    | none => False
theorem yields_of_quiet {l : List Oper} {i : Nat} {o : Oper} {a : Act} {K : Act → Prop} (hi : l[i]? = some o) (hp : plainB o = true) (h : wpQuiet P l.toArray (fun _ => True) K [o] a) : ∃ v, Yields P l.toArray o v a ∧ K (a.put o.dst v) := by
  have hi' : l.toArray[i]? = some o := by simpa using hi
  have hq : qOp P l.toArray (fun _ => True) i (wpQuiet P l.toArray (fun _ => True) K []) a := by unfold qOp; simp only [hi']; exact h
  obtain ⟨v, hy, hK⟩ := yieldsIn_of_qOp hi' hq
  refine ⟨v, ?_, hK⟩
  rcases hy with ⟨hw, h1⟩ | ⟨hw, rfl⟩
  · exact .inl ⟨hw, fun w => YieldsD.of_quiet hp h1 w trivial⟩
  · exact .inr ⟨hw, rfl⟩
theorem anyD_tree {l : List Oper} {T R : List Nat} {lr : List Oper} {Q : Exit → Act → World → Prop} (hsel : Region.noSelect l.toArray = true) (hQ : ∀ c a w, Q (.panic c) a w → False) (hlr : lr.map some = R.map (l.toArray[·]?)) :
    ∀ (m : Nat) (t : Tw) (listed : Array Bool) (a : Act) (w : World), Closed md l.toArray listed → treeW md l.toArray T R m t listed = true → D w → seqW P l D Q lr t a w → anyD P md l.toArray D T Q (m + R.length) listed a w := by
  intro m
  induction m with
  | zero =>
    intro t listed a w hc hB hD h
    cases t with
    | rest =>
      simp only [treeW, Bool.and_eq_true] at hB
      have h2 := any_of_forced R lr listed a w hlr hB.1 h
      rw [Nat.zero_add]
      cases R with
      | nil => exact ⟨hD, h2.1, h2.2⟩
      | cons r rs =>
        have hr := hB.1
        simp only [forcedB, Bool.and_eq_true, decide_eq_true_eq] at hr
        refine ⟨hD, by rw [hr.1]; simp, fun i hi => ⟨fun _ => h2.2 i hi, fun hT => ?_⟩⟩
        rw [hr.1] at hi
        obtain rfl : i = r := by simpa using hi
        have := hB.2
        simp only [headB] at this
        rw [this] at hT
        cases hT
    | one b t => simp [treeW] at hB
    | two b t b' t' => simp [treeW] at hB
    | first i t => simp [treeW] at hB
    | load i t => simp [treeW] at hB
  | succ m ih =>
    intro t listed a w hc hB hD h
    rw [show m + 1 + R.length = (m + R.length) + 1 by omega]
    cases t with
    | rest => simp [treeW] at hB
    | one b t =>
      simp only [treeW, Bool.and_eq_true, decide_eq_true_eq, Bool.not_eq_true'] at hB
      refine ⟨hD, by rw [hB.1.1]; simp, fun i hi => ?_⟩
      have hi0 := hi
      rw [hB.1.1] at hi
      obtain rfl : i = b := by simpa using hi
      exact ⟨fun hT => (by rw [hB.1.2] at hT; cases hT), fun _ => wpOp_mono (fun a' w' h' => ih t _ a' w' (hc.set hi0) hB.2 h'.1 h'.2) (step_of (K := fun a' w' => D w' ∧ seqW P l D Q lr t a' w') h)⟩
    | two b t b' t' =>
      simp only [treeW, Bool.and_eq_true, decide_eq_true_eq, Bool.not_eq_true'] at hB
      obtain ⟨⟨⟨⟨g1, g2⟩, g3⟩, g4⟩, g5⟩ := hB
      refine ⟨hD, by rw [g1]; simp, fun i hi => ?_⟩
      have hi0 := hi
      rw [g1] at hi
      have hi' : i = b ∨ i = b' := by simpa using hi
      rcases hi' with rfl | rfl
      · exact ⟨fun hT => (by rw [g2] at hT; cases hT), fun _ => wpOp_mono (fun a' w' h' => ih t _ a' w' (hc.set hi0) g4 h'.1 h'.2) (step_of (K := fun a' w' => D w' ∧ seqW P l D Q lr t a' w') h.1)⟩
      · exact ⟨fun hT => (by rw [g3] at hT; cases hT), fun _ => wpOp_mono (fun a' w' h' => ih t' _ a' w' (hc.set hi0) g5 h'.1 h'.2) (step_of (K := fun a' w' => D w' ∧ seqW P l D Q lr t' a' w') h.2)⟩
    | first i t =>
      simp only [treeW, Bool.and_eq_true, Bool.not_eq_true'] at hB
      obtain ⟨⟨⟨⟨g1, g2⟩, g3⟩, g4⟩, g5⟩ := hB
      cases ho : l[i]? with
      | none => simp [ho] at g4
      | some o =>
        have ho' : l.toArray[i]? = some o := by simpa using ho
        simp only [ho', Option.map_some, Option.getD_some] at g4
        simp only [seqW, ho] at h
        obtain ⟨v, hy, hK⟩ := yields_of_quiet ho g4 h
        exact anyD_plain hQ ho' hsel g3 _ listed a w (Region.free_spec ho' g2) (by simpa using g1) hy (ih t _ _ w (hc.set (by simpa using g1)) g5 hD hK)
    | load i t =>
      simp only [treeW, Bool.and_eq_true, Bool.not_eq_true'] at hB
      obtain ⟨⟨⟨⟨⟨g1, g2⟩, g3⟩, g6⟩, g4⟩, g5⟩ := hB
      cases ho : l[i]? with
      | none => simp [ho] at g4
      | some o =>
        have ho' : l.toArray[i]? = some o := by simpa using ho
        simp only [ho', Option.map_some, Option.getD_some] at g4
        simp only [seqW, ho] at h
        have hq : qOp P l.toArray D i (wpQuiet P l.toArray D (fun a' => seqW P l D Q lr t a' w) []) a := by unfold qOp; simp only [ho']; exact h
        obtain ⟨v, hy, hK⟩ := yieldsIn_of_qOp ho' hq
        have hy2 : YieldsD P l.toArray D o v a := by
          rcases hy with ⟨hw, h1⟩ | ⟨hw, rfl⟩
          · exact .inl ⟨hw, YieldsD.of_quiet g4 h1⟩
          · exact .inr ⟨hw, rfl⟩
        have g1' : i ∈ Region.ready md l.toArray listed := by simpa using g1
        exact anyD_load ho' hsel (fun t ht => List.all_eq_true.1 g6 t (by simpa using ht)) g3 _ listed a w hc (Region.free_spec ho' g2) g1' hy2 hD (ih t _ _ w (hc.set g1') g5 hD hK)
def loadsW (md : Region.Mode) (ops : Array Oper) (T R : List Nat) (m : Nat) (t : Tw) : List Nat → Array Bool → Bool
  | [], listed => treeW md ops T R m t listed
  | i :: is, listed => (Region.ready md ops listed).contains i && Region.free md ops listed i && loadsW md ops T R m t is (listed.setIfInBounds i true)
theorem anyD_loads {l : List Oper} {T R : List Nat} {lr : List Oper} {m : Nat} {t : Tw} {Q : Exit → Act → World → Prop} (hsel : Region.noSelect l.toArray = true) (hQ : ∀ c a w, Q (.panic c) a w → False) (hlr : lr.map some = R.map (l.toArray[·]?)) :
    ∀ (F : List Nat) (k : List Oper) (listed : Array Bool) (a : Act) (w : World), k.map some = F.map (l.toArray[·]?) → k.all plainB = true → Closed md l.toArray listed → loadsW md l.toArray T R m t F listed = true →
    (∀ i ∈ F, T.contains i = false ∧ ∀ t, T.contains t = true → reachB md l.toArray l.toArray.size t i = true) → D w → wpQuiet P l.toArray D (fun a' => seqW P l D Q lr t a' w) k a →
    anyD P md l.toArray D T Q (F.length + (m + R.length)) listed a w := by
  intro F
  induction F with
  | nil =>
    intro k listed a w hk _ hc hB _ hD h
    obtain rfl : k = [] := by cases k with | nil => rfl | cons x xs => simp at hk
    simp only [List.length_nil, Nat.zero_add]
    exact anyD_tree hsel hQ hlr m t listed a w hc hB hD h
  | cons i is ih =>
    intro k listed a w hk hp hc hB hW hD h
    cases k with
    | nil => simp at hk
    | cons o k =>
      simp only [List.map_cons, List.cons.injEq] at hk
      simp only [List.all_cons, Bool.and_eq_true] at hp
      simp only [loadsW, Bool.and_eq_true] at hB
      obtain ⟨⟨hr, hf⟩, hB2⟩ := hB
      have hr' : i ∈ Region.ready md l.toArray listed := by simpa using hr
      have hq : qOp P l.toArray D i (wpQuiet P l.toArray D (fun a' => seqW P l D Q lr t a' w) k) a := by unfold qOp; simp only [← hk.1]; exact h
      obtain ⟨v, hy, hK⟩ := yieldsIn_of_qOp hk.1.symm hq
      have hy2 : YieldsD P l.toArray D o v a := by
        rcases hy with ⟨hw, h1⟩ | ⟨hw, rfl⟩
        · exact .inl ⟨hw, YieldsD.of_quiet hp.1 h1⟩
        · exact .inr ⟨hw, rfl⟩
      obtain ⟨hTi, hwait⟩ := hW i (by simp)
      rw [List.length_cons, show is.length + 1 + (m + R.length) = (is.length + (m + R.length)) + 1 by omega]
      exact anyD_load hk.1.symm hsel hwait hTi _ listed a w hc (Region.free_spec hk.1.symm hf) hr' hy2 hD (ih k _ _ w hk.2 hp.2 (hc.set hr') hB2 (fun j hj => hW j (by simp [hj])) hD hK)
def planGoW (md : Region.Mode) (ops : Array Oper) (F : List Nat) (m : Nat) (t : Tw) (T R : List Nat) : List Nat → Array Bool → Bool
  | [], listed => loadsW md ops T R m t F listed
  | i :: is, listed => (Region.ready md ops listed).contains i && Region.free md ops listed i && !T.contains i && planGoW md ops F m t T R is (listed.setIfInBounds i true)
def planW (md : Region.Mode) (ops : Array Oper) (A F : List Nat) (m : Nat) (t : Tw) (T R : List Nat) : Bool :=
  Region.noSelect ops && decide (A.length + (F.length + (m + R.length)) = ops.size) && T.all (fun t => F.all fun i => reachB md ops ops.size t i) && F.all (fun i => !T.contains i) &&
    planGoW md ops F m t T R A (Array.replicate ops.size false)
theorem anyD_plan {l : List Oper} {T R : List Nat} {lr : List Oper} {m : Nat} {t : Tw} {Q : Exit → Act → World → Prop} (hsel : Region.noSelect l.toArray = true) (hQ : ∀ c a w, Q (.panic c) a w → False) (hlr : lr.map some = R.map (l.toArray[·]?)) {F : List Nat} {lf : List Oper} (hlf : lf.map some = F.map (l.toArray[·]?)) (hpf : lf.all plainB = true)
    (hW : ∀ i ∈ F, T.contains i = false ∧ ∀ t, T.contains t = true → reachB md l.toArray l.toArray.size t i = true) :
    ∀ (A : List Nat) (la : List Oper) (listed : Array Bool) (a : Act) (w : World), la.map some = A.map (l.toArray[·]?) → la.all plainB = true → Closed md l.toArray listed → planGoW md l.toArray F m t T R A listed = true →
    D w → wpQuiet P l.toArray (fun _ => True) (fun a' => wpQuiet P l.toArray D (fun a' => seqW P l D Q lr t a' w) lf a') la a → anyD P md l.toArray D T Q (A.length + (F.length + (m + R.length))) listed a w := by
  intro A
  induction A with
  | nil =>
    intro la listed a w hla _ hc hB hD h
    obtain rfl : la = [] := by cases la with | nil => rfl | cons x xs => simp at hla
    rw [List.length_nil, Nat.zero_add]
    exact anyD_loads hsel hQ hlr F lf listed a w hlf hpf hc hB hW hD h
  | cons i is ih =>
    intro la listed a w hla hp hc hB hD h
    cases la with
    | nil => simp at hla
    | cons o la =>
      simp only [List.map_cons, List.cons.injEq] at hla
      simp only [List.all_cons, Bool.and_eq_true] at hp
      simp only [planGoW, Bool.and_eq_true, Bool.not_eq_true'] at hB
      obtain ⟨⟨⟨hr, hf⟩, hTi⟩, hB2⟩ := hB
      have hr' : i ∈ Region.ready md l.toArray listed := by simpa using hr
      have hq : qOp P l.toArray (fun _ => True) i (wpQuiet P l.toArray (fun _ => True) (fun a' => wpQuiet P l.toArray D (fun a' => seqW P l D Q lr t a' w) lf a') la) a := by unfold qOp; simp only [← hla.1]; exact h
      obtain ⟨v, hy, hK⟩ := yieldsIn_of_qOp hla.1.symm hq
      rw [List.length_cons, show is.length + 1 + (F.length + (m + R.length)) = (is.length + (F.length + (m + R.length))) + 1 by omega]
      have hy2 : Yields P l.toArray o v a := by
        rcases hy with ⟨hw, h1⟩ | ⟨hw, rfl⟩
        · exact .inl ⟨hw, fun w => YieldsD.of_quiet hp.1 h1 w trivial⟩
        · exact .inr ⟨hw, rfl⟩
      exact anyD_plain hQ hla.1.symm hsel hTi _ listed a w (Region.free_spec hla.1.symm hf) hr' hy2 (ih la _ _ w hla.2 hp.2 (hc.set hr') hB2 hD hK)
/-- THE REGION: A are plain operations that need no memory; F plain ones, loads too, that all of T (what writes) wait for; t what the rest does first (D is shown behind each call or allocation), m steps; R what is left, in its one order. -/
theorem wp_region_planW {id : Nat} {Q : Exit → Act → World → Prop} {a : Act} {w : World} {l : List Oper} (A F : List Nat) (m : Nat) (t : Tw) (T R : List Nat) (hm : P.follows .mixedOrders = true)
    (hB : (planW .any l.toArray A F m t T R && (A ++ F ++ R).all (fun i => decide (i < l.length)) && (pickOps l A).all plainB && (pickOps l F).all plainB) = true) (hD : D { w with drawn := w.drawn + 1 })
    (h : wpQuiet P l.toArray (fun _ => True) (fun a' => wpQuiet P l.toArray D (fun a' => seqW P l D (fun x a w => x = .normal ∧ Q .normal a w) (pickOps l R) t a' { w with drawn := w.drawn + 1 }) (pickOps l F) a') (pickOps l A) a) :
    (Code.region id l.toArray true).wp P Q a w := by
  simp only [Bool.and_eq_true, List.all_append] at hB
  obtain ⟨⟨⟨hP, ⟨hA, hF⟩, hBB⟩, hpA⟩, hpF⟩ := hB
  simp only [planW, Bool.and_eq_true, decide_eq_true_eq] at hP
  obtain ⟨⟨⟨⟨hsel, hsz⟩, hre⟩, hFn⟩, hgo⟩ := hP
  refine wp_region_any hm ?_
  have hc : Closed .any l.toArray (Array.replicate l.toArray.size false) := fun j oj _ hl => (by rw [getD_replicate_false] at hl; cases hl)
  have h2 := anyD_plan (P := P) (md := .any) (D := D) (T := T) (Q := fun x a w => x = .normal ∧ Q .normal a w) hsel (fun c a w h => by cases h.1) (R := R) (m := m) (F := F) (pick_spec hBB) (pick_spec hF) hpF
    (fun i hi => ⟨by have := List.all_eq_true.1 hFn i hi; rw [Bool.not_eq_true'] at this; exact this, fun t ht => List.all_eq_true.1 (List.all_eq_true.1 hre t (by simpa using ht)) i hi⟩)
    A (pickOps l A) _ a _ (pick_spec hA) hpA hc hgo hD h
  rw [hsz] at h2
  exact wpAny_monoQ (fun x a w hx => by obtain ⟨rfl, h⟩ := hx; exact h) _ _ _ _ (any_of_anyD _ _ _ _ h2)
/-- .. at the class 'w, drawn, with blocks laid behind it'. -/
theorem wp_region_fresh2 {id : Nat} {Q : Exit → Act → World → Prop} {a : Act} {w : World} {l : List Oper} (A F : List Nat) (m : Nat) (t : Tw) (T R : List Nat) (hm : P.follows .mixedOrders = true)
    (hB : (planW .any l.toArray A F m t T R && (A ++ F ++ R).all (fun i => decide (i < l.length)) && (pickOps l A).all plainB && (pickOps l F).all plainB) = true)
    (h : wpQuiet P l.toArray (fun _ => True) (fun a' => wpQuiet P l.toArray (fun w' => ∃ p : Regrown, w' = Go.Sort.grow (redrawn w p.d) p.os) (fun a' => seqW P l (fun w' => ∃ p : Regrown, w' = Go.Sort.grow (redrawn w p.d) p.os) (fun x a w => x = .normal ∧ Q .normal a w) (pickOps l R) t a' w.drew) (pickOps l F) a') (pickOps l A) a) :
    (Code.region id l.toArray true).wp P Q a w :=
  wp_region_planW (D := fun w' => ∃ p : Regrown, w' = Go.Sort.grow (redrawn w p.d) p.os) A F m t T R hm hB ⟨⟨w.drawn + 1, #[]⟩, by rw [Go.Sort.grow_empty]; rfl⟩ h
variable {l : List Oper} {Q : Exit → Act → World → Prop} {lr : List Oper} {t t' : Tw} {b b' : Nat} {o o' : Oper} {a : Act} {w : World}
theorem seqT_one2 (h : l[b]? = some o) (k : wpList P l.toArray (fun x a' w' => x = .normal ∧ D w' ∧ seqW P l D Q lr t a' w') [o] a w) : seqW P l D Q lr (.one b t) a w := by
  unfold seqW
  rw [h]
  exact k
theorem seqT_first2 (h : l[b]? = some o) (k : wpQuiet P l.toArray (fun _ => True) (fun a' => seqW P l D Q lr t a' w) [o] a) : seqW P l D Q lr (.first b t) a w := by
  unfold seqW
  rw [h]
  exact k
theorem seqT_rest2 (k : wpList P l.toArray Q lr a w) : seqW P l D Q lr .rest a w := k
end
end Go.Proofs.YtecdendjlgohjaaGreatDoor
namespace Go.Proofs.YtecdendjlgohjaaGreatDoor
open Go.RowKit
set_option maxHeartbeats 400000
theorem impl_zeros (i : Int) (w : World) (h0 : 0 ≤ i) (hi : i ≤ 1000000000) :
    Calls Tryz.prog 58 #[.int .i64 i] w fun e w' => ∃ v, e = .returned v ∧ OI 2 w.heap.size w' v (List.replicate i.toNat 0) ∧ Below w.heap.size w w' := by
  obtain ⟨n, rfl⟩ := Int.eq_ofNat_of_zero_le h0
  go_enter Tryz.func58, Tryz.ntmps58
  go_wp2_with (at_make; refine wpList_mk ei_i64 rfl _ _ rfl n _ _ rfl rfl rfl rfl (by omega) (by unfold maxLen; omega) ?_; intro w1 own1 bel1)
  go_ret
  refine ⟨_, rfl, ?_, bel1⟩
  unfold OI
  have := toList_madeCells_one (.int .i64 0) n
  simp only [Nat.mul_one, Value.cells] at own1
  rw [this] at own1
  simpa using own1
end Go.Proofs.YtecdendjlgohjaaGreatDoor
namespace Go.Proofs.YtecdendjlgohjaaGreatDoor
open Go.RowKit
set_option maxHeartbeats 400000
end Go.Proofs.YtecdendjlgohjaaGreatDoor
namespace Go.Proofs.YtecdendjlgohjaaGreatDoor
open Go.RowKit
set_option maxHeartbeats 400000
set_option maxRecDepth 100000
theorem Mid.cell (w : World) (b o : Nat) (u : Value) : Mid b (b + 1) w (w.setCell ⟨b, o, none⟩ u) :=
  Mid.of_grown (grown_setCell w b o u) fun k hk => by
    injection hk with hk
    omega
end Go.Proofs.YtecdendjlgohjaaGreatDoor
namespace Go.Proofs.YtecdendjlgohjaaGreatDoor
open Go.RowKit
set_option maxHeartbeats 400000
set_option maxRecDepth 100000
end Go.Proofs.YtecdendjlgohjaaGreatDoor
namespace Go.Proofs.YtecdendjlgohjaaGreatDoor
open Go.RowKit
set_option maxHeartbeats 400000
set_option maxRecDepth 100000
end Go.Proofs.YtecdendjlgohjaaGreatDoor
namespace Go.Proofs.YtecdendjlgohjaaGreatDoor
open Go.RowKit
set_option maxHeartbeats 400000
set_option maxRecDepth 100000
/-- The point before the k-th lies before it. -/
def M.after (xs : List (Int × Int)) (k : Nat) : Bool := k == 0 || decide (((xs[k - 1]?).getD (0, 0)).1 < ((xs[k]?).getD (0, 0)).1)
end Go.Proofs.YtecdendjlgohjaaGreatDoor
namespace Go.Proofs.YtecdendjlgohjaaGreatDoor
open Go.RowKit Go.Sort
set_option maxHeartbeats 400000
set_option maxRecDepth 100000
end Go.Proofs.YtecdendjlgohjaaGreatDoor
namespace Go.Proofs.YtecdendjlgohjaaGreatDoor
open Go.RowKit Go.Sort
set_option maxHeartbeats 400000
set_option maxRecDepth 100000
end Go.Proofs.YtecdendjlgohjaaGreatDoor
namespace Go.Proofs.YtecdendjlgohjaaGreatDoor
open Go.RowKit Go.Sort
set_option maxHeartbeats 400000
set_option maxRecDepth 100000
end Go.Proofs.YtecdendjlgohjaaGreatDoor
