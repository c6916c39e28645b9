import Derived.WalkKit
import Derived.WalkSpells
import Derived.WalkLawsBesides
import Derived.Deep.AppendLies
import Derived.Deep.Draws
import Derived.Deep.QuietTactic
import Derived.BigQuiet
import Derived.StillTailTactics
import Derived.Deep.RegionHeld3
import Derived.RegionTactic
import Derived.Lib.Hide
import Derived.RowKit
import Derived.Test.YtecdendjlgohjaaDoorProg
import Derived.Maps.AppendAt
import Derived.Laws.IdiomStrings
import Derived.Lib.ItoaNum
import Derived.Lib.ItoaLen
import Derived.Lib.Join
import Derived.Lib.Strings
import Derived.Lib.UnsafeStr
import Derived.Lib.AppendIntMem
set_option linter.unusedVariables false
set_option linter.unusedSimpArgs false
namespace Go.Proofs.YtecdendjlgohjaaDoor
open Go.RowKit

theorem block_of_add (a : Addr) (n : Nat) : (a.add n).block = a.block := by unfold Addr.add; split <;> rfl

theorem add_of_add (a : Addr) (i j : Nat) : (a.add i).add j = a.add (i + j) := by
  unfold Addr.add
  by_cases hi : i = 0 <;> by_cases hj : j = 0 <;> simp [hi, hj, Nat.add_assoc]

/-- A slice value with address A and n elements of 'size' cells holds the cells cs; its block lies below B. -/
def Reads (w : World) (B size : Nat) (A : Option Addr) (n : Nat) (cs : List Value) : Prop :=
  cs.length = n * size ∧ (0 < n → ∃ ad, A = some ad ∧ ad.block < B ∧ ∀ j u, cs[j]? = some u → w.cell? (ad.add j) = some u)

section
variable {w w' : World} {B B' size n : Nat} {A : Option Addr} {cs : List Value}
theorem Reads.none_ : Reads w B size A 0 [] := ⟨by simp, fun h => absurd h (by omega)⟩
theorem Reads.keep (h : Reads w B size A n cs) (hk : ∀ p : Addr, p.block < B → w'.cell? p = w.cell? p) : Reads w' B size A n cs :=
  ⟨h.1, fun hn => by
    obtain ⟨ad, e, hb, hc⟩ := h.2 hn
    exact ⟨ad, e, hb, fun j u hu => (hk _ (by rw [block_of_add]; exact hb)).trans (hc j u hu)⟩⟩
theorem Reads.more (h : Reads w B size A n cs) (hB : B ≤ B') : Reads w B' size A n cs :=
  ⟨h.1, fun hn => by
    obtain ⟨ad, e, hb, hc⟩ := h.2 hn
    exact ⟨ad, e, Nat.lt_of_lt_of_le hb hB, hc⟩⟩
theorem Reads.below (h : Reads w B size A n cs) (hb : Below B w w') : Reads w' B size A n cs := h.keep fun _ hp => hb.cell hp
theorem Reads.later (h : Reads w w.heap.size size A n cs) (hb : Below w.heap.size w w') : Reads w' w'.heap.size size A n cs := (h.below hb).more hb.size
theorem Reads.cut (h : Reads w B size A n cs) {k cap : Nat} (hk : k ≤ n) (hc : n ≤ cap) :
    Reads w B size (if cap = k then A else A.map (·.add (k * size))) (n - k) (cs.drop (k * size)) := by
  refine ⟨by rw [List.length_drop, h.1, Nat.sub_mul], fun hn => ?_⟩
  obtain ⟨ad, rfl, hb, hcell⟩ := h.2 (by omega)
  rw [if_neg (by omega)]
  refine ⟨ad.add (k * size), rfl, by rw [block_of_add]; exact hb, fun j u hu => ?_⟩
  rw [add_of_add]
  exact hcell _ u (by rw [← hu, List.getElem?_drop])
theorem Reads.of_own {base : Nat} {e : TypeId} {c : Nat} (h : w.ownsRow base e size (.slice A n c) n cs) : Reads w w.heap.size size A n cs := by
  refine ⟨h.1, fun hn => ?_⟩
  obtain ⟨g, cap, hv, _, hlt⟩ := h.form hn
  have hA : A = some ⟨g, 0, none⟩ := by injection hv
  subst hA
  exact ⟨_, rfl, hlt, h.cells (g := g) rfl⟩
/-- The call's own row, as a slice that reads as its cells. -/
theorem own_shape {base : Nat} {e : TypeId} {v : Value} (h : w.ownsRow base e size v n cs) : ∃ A c, v = .slice A n c ∧ n ≤ c ∧ c ≤ maxLen ∧ Reads w w.heap.size size A n cs := by
  rcases h.2 with ⟨rfl, rfl⟩ | ⟨g, cap, cur, rfl, h1, h2, h3, h4, h5, h6⟩
  · exact ⟨none, 0, rfl, Nat.le_refl _, by simp [maxLen], Reads.of_own h⟩
  · exact ⟨_, cap, rfl, h3, h4, Reads.of_own h⟩
/-- What is owned stays so in every later world. -/
theorem own_below {base : Nat} {e : TypeId} {v : Value} (h : w.ownsRow base e size v n cs) (hb : Below w.heap.size w w') : w'.ownsRow base e size v n cs := by
  refine ⟨h.1, ?_⟩
  rcases h.2 with h2 | ⟨g, cap, cur, hv, hg, hh, r⟩
  · exact .inl h2
  · exact .inr ⟨g, cap, cur, hv, hg, by rw [hb.block g (Array.getElem?_eq_some_iff.1 hh).1]; exact hh, r⟩
theorem own_base {base base' : Nat} {e : TypeId} {v : Value} (h : w.ownsRow base e size v n cs) (hb : base' ≤ base) : w.ownsRow base' e size v n cs :=
  ⟨h.1, h.2.imp id fun ⟨g, cap, cur, hv, hg, r⟩ => ⟨g, cap, cur, hv, Nat.le_trans hb hg, r⟩⟩
theorem below_drewN {B : Nat} {a w : World} (h : Below B a w) (n : Nat) : Below B a (w.drewN n) := ⟨h.os, h.tape, h.output, h.size, h.block⟩
theorem bel_trans {a b c : World} (h1 : Below a.heap.size a b) (h2 : Below b.heap.size b c) : Below a.heap.size a c := h1.trans (h2.mono h1.size)
theorem bel_trans' {B : Nat} {a b c : World} (h1 : Below B a b) (hB : B ≤ b.heap.size) (h2 : Below b.heap.size b c) : Below B a c := h1.trans (h2.mono hB)
end

/-- 'A slice value with address A and n elements reads as the int64 list xs; its block lies below B.' -/
def RI (w : World) (B : Nat) (A : Option Addr) (n : Nat) (xs : List Int) : Prop := Reads w B 1 A n (xs.map (.int .i64))

section
variable {w w' : World} {B B' n : Nat} {A : Option Addr} {xs : List Int}
theorem RI.len (h : RI w B A n xs) : xs.length = n := by have := h.1; simpa using this
theorem RI.below (h : RI w B A n xs) (hb : Below B w w') : RI w' B A n xs := Reads.below h hb
theorem RI.later (h : RI w w.heap.size A n xs) (hb : Below w.heap.size w w') : RI w' w'.heap.size A n xs := Reads.later h hb
theorem RI.more (h : RI w B A n xs) (hB : B ≤ B') : RI w B' A n xs := Reads.more h hB
theorem RI.at (h : RI w B A n xs) {k : Nat} (hk : k < n) : ∃ ad x, A = some ad ∧ ad.block < B ∧ Hid (xs[k]? = some x) ∧ w.cell? (ad.add k) = some (.int .i64 x) := by
  obtain ⟨ad, e, hb, hc⟩ := h.2 (by omega)
  have hl : k < xs.length := by rw [h.len]; exact hk
  exact ⟨ad, xs[k], e, hb, List.getElem?_eq_getElem hl, hc k _ (by simp [hl])⟩
theorem RI.cell {ad : Addr} (h : RI w B (some ad) n xs) {k : Nat} (hk : k < n) : ∃ x, Hid (xs[k]? = some x) ∧ w.cell? (ad.add k) = some (.int .i64 x) := by
  obtain ⟨ad', x, e, _, h1, h2⟩ := h.at hk
  injection e with e
  subst e
  exact ⟨x, h1, h2⟩
theorem RI.nil (w : World) (B : Nat) (A : Option Addr) : RI w B A 0 [] := Reads.none_
end

/-- The element type's row of the table. -/
def EI (P : Program) (t e : TypeId) (z : Value) (size bytes : Nat) : Prop :=
  P.underlying t = some (.slice e) ∧ (P.info? e).map (fun i => (i.zero, i.size, i.bytes)) = some (some z, size, bytes) ∧ z.cells.size = size ∧ 0 < size

section
variable {P : Program} {t e : TypeId} {z : Value} {size bytes : Nat}

end

section
variable {P : Program} {t e : TypeId} {z : Value} {size bytes : Nat} (w : World)
theorem run_append_of_nil (base : Nat) (t ty e : TypeId) (i : TypeInfo) (size : Nat) (ht : P.underlying t = some (.slice e)) (hi : P.info? e = some i)
    (v : Value) (n : Nat) (xs : List Value) (hown : w.ownsRow base e size v n xs) (c : Nat) : (Builtin.append_ #[t, t] ty #[v, .slice none 0 c]).run P w = .ok v w := by
  rcases hown.2 with ⟨rfl, rfl⟩ | ⟨g, cap, cur, rfl, _, _, hnc, _⟩
  · simp [Builtin.append_, run_underlying ht, sizeOf, typeInfo, hi, Builtin.lenOf, Builtin.firstCells]
  · simp [Builtin.append_, run_underlying ht, sizeOf, typeInfo, hi, Builtin.lenOf, Builtin.firstCells, hnc, storeCells]
/-- 'append(out, xs...)': the source nil, empty or not. -/
theorem wpList_cat (hE : EI P t e z size bytes) {w : World} {ops : Array Oper} {rest : List Oper} {o : Oper} {a : Act} {Q : Exit → Act → World → Prop}
    (hgd : o.guard = none) (s x : Operand) (ho : o.op = .call { callee := .builtin .append, args := #[s, x], argTypes := #[t, t] })
    {B : Nat} {v : Value} {n : Nat} {xs : List Value} (hown : w.ownsRow B e size v n xs) (hs : a.eval s = v)
    {B' : Nat} {A : Option Addr} {m c : Nat} {news : List Value} (hr : Reads w B' size A m news) (hx : a.eval x = .slice A m c) (h1 : ∀ u ∈ news, u.oneCell' = true)
    (hn : n + m ≤ maxLen) (hbytes : (n + m) * bytes ≤ 140737488355328) (hbase : B ≤ w.heap.size)
    (K : ∀ v' w', w'.ownsRow B e size v' (n + m) (xs ++ news) → w.grownBy w' v.ownBlock → Below B w w' → wpList P ops Q rest (a.put o.dst v') w') :
    wpList P ops Q (o :: rest) a w := by
  obtain ⟨ht, hinfo, hzs, hsz⟩ := hE
  obtain ⟨i0, hi, hz0, hz1, hz2⟩ := info_parts hinfo
  rcases A with _ | ad
  · have hm : m = 0 := by
      rcases Nat.eq_zero_or_pos m with h0 | h0
      · exact h0
      · obtain ⟨ad, h, _⟩ := hr.2 h0
        cases h
    subst hm
    have hnil : news = [] := List.eq_nil_of_length_eq_zero (by simpa using hr.1)
    subst hnil
    refine wpList_plain hgd fun K' hK' => ?_
    have hrun := run_append_of_nil (P := P) w B t o.type e i0 size ht hi v n xs hown c
    unfold Oper.wp execOp
    simp only [ho, resolve, invoke, builtin, Sem.run_bind, Sem.run_pure, Result.andThen_ok, List.map_toArray, List.map_cons, List.map_nil, hs, hx, hrun]
    exact hK' _ _ (K v w (by simpa using hown) (World.grownBy.refl w _) (Below.refl _ _))
  · have hcells : ∀ j u, news[j]? = some u → w.cell? (ad.add j) = some u := by
      intro j u hu
      rcases Nat.eq_zero_or_pos m with h0 | h0
      · subst h0
        have hnil : news = [] := List.eq_nil_of_length_eq_zero (by simpa using hr.1)
        subst hnil
        simp at hu
      · obtain ⟨ad', h, _, hc⟩ := hr.2 h0
        injection h with h
        subst h
        exact hc j u hu
    refine wpList_append_own _ hgd s x t ho B e i0 z size bytes ht hi hz0 hz1 hz2 hzs hsz v n xs hs hown ad m c news hx hr.1 hcells h1 hn hbytes hbase ?_
    intro v' w' h2 h3 _
    exact K v' w' h2 h3 ((Below.refl _ _).grown h3 hbase fun k hk => (hown.lt k hk).1)
/-- 'make([]T, n)' -/
theorem wpList_mk (hE : EI P t e z size bytes) {w : World} {ops : Array Oper} {rest : List Oper} {o : Oper} {a : Act} {Q : Exit → Act → World → Prop}
    (hgd : o.guard = none) (l c : Operand) (ho : o.op = Op.makeSlice t l c) (n : Nat) (L C : Int) (hl : a.eval l = .int .i64 L) (hc : a.eval c = .int .i64 C) (hL : L = (n : Int)) (hC : C = (n : Int))
    (hbytes : bytes * n ≤ 281474976710656) (hn : n ≤ maxLen)
    (K : ∀ w', w'.ownsRow w.heap.size e size (.slice (some ⟨w.heap.size, 0, none⟩) n n) n (madeCells z.cells (n * size)).toList → Below w.heap.size w w' → wpList P ops Q rest (a.put o.dst (.slice (some ⟨w.heap.size, 0, none⟩) n n)) w') :
    wpList P ops Q (o :: rest) a w := by
  obtain ⟨ht, hinfo, hzs, hsz⟩ := hE
  obtain ⟨i0, hi, hz0, hz1, hz2⟩ := info_parts hinfo
  exact wpList_make_full w hgd l c t ho w.heap.size e i0 z size ht hi hz0 hz1 .i64 .i64 L C n hl hc hL hC (by rw [hz2]; exact hbytes) hn (Nat.le_refl _)
    fun w' h1 h2 => K w' h1 ((Below.refl _ _).grown h2 (Nat.le_refl _) (by simp))
end

section
variable {P : Program} {t e : TypeId} {z : Value} {size bytes : Nat}
end

/-- The int64 list that the call itself owns. -/
def OI (e : TypeId) (B : Nat) (w : World) (v : Value) (xs : List Int) : Prop := w.ownsRow B e 1 v xs.length (xs.map (.int .i64))
section
variable {e : TypeId} {B : Nat} {w w' : World} {v : Value} {xs : List Int}
theorem OI.below (h : OI e B w v xs) (hb : Below w.heap.size w w') : OI e B w' v xs := own_below h hb
theorem OI.shape (h : OI e B w v xs) : ∃ A c, v = .slice A xs.length c ∧ RI w w.heap.size A xs.length xs := by
  obtain ⟨A, c, hv, _, _, hr⟩ := own_shape h
  exact ⟨A, c, hv, hr⟩
theorem OI.at (h : OI e B w v xs) {k : Nat} (hk : k < xs.length) : ∃ g cap x, v = .slice (some ⟨g, 0, none⟩) xs.length cap ∧ B ≤ g ∧ g < w.heap.size ∧ Hid (xs[k]? = some x) ∧
    w.cell? ⟨g, k, none⟩ = some (.int .i64 x) ∧ w.frozen? ⟨g, k, none⟩ = false := by
  obtain ⟨g, cap, hv, hg, hlt⟩ := World.ownsRow.form h (by omega)
  subst hv
  refine ⟨g, cap, xs[k], rfl, hg, hlt, List.getElem?_eq_getElem hk, ?_, World.ownsRow.frozenAt h k⟩
  rw [World.ownsRow.cellAt h k (by omega)]
  simp [hk]
theorem OI.stored {g cap : Nat} (h : OI e B w (.slice (some ⟨g, 0, none⟩) xs.length cap) xs) (k : Nat) (y : Int) : OI e B (w.setCell ⟨g, k, none⟩ (.int .i64 y)) (.slice (some ⟨g, 0, none⟩) xs.length cap) (xs.set k y) := by
  unfold OI at h ⊢
  have := (World.ownsRow.stored h k (.int .i64 y)).1
  simpa [List.map_set] using this
/-- The shape of a row with elements. -/
theorem OI.form (h : OI e B w v xs) (hn : 0 < xs.length) : ∃ g cap, v = .slice (some ⟨g, 0, none⟩) xs.length cap ∧ B ≤ g ∧ g < w.heap.size := World.ownsRow.form h hn
/-- A store into the row turns no other block. -/
theorem grown_setCell (w : World) (g k : Nat) (u : Value) : w.grownBy (w.setCell ⟨g, k, none⟩ u) (some g) :=
  ⟨rfl, rfl, rfl, by simp, fun j _ hj => heap_setCell_other w ⟨g, k, none⟩ j u (fun e => hj (by simp [e]))⟩
theorem OI.kept {row : Option Nat} (h : OI e B w v xs) (hg : w.grownBy w' row) (hne : v.ownBlock = none ∨ v.ownBlock ≠ row) : OI e B w' v xs := World.ownsRow.kept h hg hne
theorem OI.nil (e : TypeId) (B : Nat) (w : World) : OI e B w (.slice none 0 0) [] := World.ownsRow_nil _ _ _ _
theorem OI.made (e : TypeId) (w : World) : OI e w.heap.size (w.alloc (.cells #[] e)) (.slice (some ⟨w.heap.size, 0, none⟩) 0 0) [] := World.ownsRow_made _ _ _ (Nat.le_refl _) (by simp [maxLen]) rfl
end
end Go.Proofs.YtecdendjlgohjaaDoor
namespace Go.Proofs.YtecdendjlgohjaaDoor
open Go.RowKit
namespace M
def inn (n lo hi : Int) : Bool := decide (lo ≤ n) && decide (n ≤ hi)
def smp (n : Int) : Bool := inn n (-2147483648) 2147483647
theorem drop_at {α : Type} {xs : List α} {k : Nat} {x : α} (h : xs[k]? = some x) : xs.drop k = x :: xs.drop (k + 1) := by
  obtain ⟨hk, rfl⟩ := List.getElem?_eq_some_iff.1 h
  exact List.drop_eq_getElem_cons hk
theorem take_at {α : Type} {xs : List α} {k : Nat} {x : α} (h : xs[k]? = some x) : xs.take (k + 1) = xs.take k ++ [x] := by
  rw [List.take_add_one, h]; rfl
theorem set_mid {α : Type} {c xs : List α} {k : Nat} {y : α} (hl : c.length = xs.length) (h : c[k]? = some y) : (c.take k ++ xs.drop k).set k y = c.take (k + 1) ++ xs.drop (k + 1) := by
  obtain ⟨hk, rfl⟩ := List.getElem?_eq_some_iff.1 h
  have h2 : k < xs.length := by omega
  have h3 : (c.take k).length = k := by rw [List.length_take]; omega
  rw [List.set_append, if_neg (by omega), h3, Nat.sub_self, List.take_add_one, h, List.drop_eq_getElem_cons h2]
  simp only [List.set_cons_zero, Option.toList_some, List.append_assoc, List.singleton_append]
theorem mid_at {α : Type} {c xs : List α} {k : Nat} (hl : c.length = xs.length) : (c.take k ++ xs.drop k)[k]? = xs[k]? := by
  by_cases hk : k < c.length
  · rw [List.getElem?_append_right (by rw [List.length_take]; omega), List.length_take, Nat.min_eq_left (by omega), Nat.sub_self, List.getElem?_drop]
    simp
  · rw [List.getElem?_eq_none (by simp; omega), List.getElem?_eq_none (by omega)]
end M
end Go.Proofs.YtecdendjlgohjaaDoor
namespace Go.Proofs.YtecdendjlgohjaaDoor
open Go.RowKit
set_option maxHeartbeats 400000
theorem ret_int {k : IntKind} {a b : Int} (h : a = b) : Ending.returned (.int k a) = .returned (.int k b) := by rw [h]
theorem ret_bool {a b : Bool} (h : a = b) : Ending.returned (.bool a) = .returned (.bool b) := by rw [h]
theorem impl_within (n lo hi : Int) (w : World) :
    Calls Tryd.prog 62 #[.int .i64 n, .int .i64 lo, .int .i64 hi] w fun e w' => e = .returned (.bool (M.inn n lo hi)) ∧ w = w' := by
  go_enter Tryd.func62, Tryd.ntmps62
  go_wp2
  all_goals go_ret
  all_goals exact ⟨by simp [M.inn] <;> omega, rfl⟩
theorem spec_l00In (n lo hi : Int) (w : World) :
    Calls Tryd.prog 59 #[.int .i64 n, .int .i64 lo, .int .i64 hi] w fun e w' => e = .returned (.bool (M.inn n lo hi)) ∧ w = w' := by
  go_enter Tryd.func59, Tryd.ntmps59
  go_wp2
  all_goals go_ret
  all_goals exact ⟨by simp [M.inn] <;> omega, rfl⟩
theorem impl_isSample (n : Int) (w : World) :
    Calls Tryd.prog 93 #[.int .i64 n] w fun e w' => e = .returned (.bool (M.smp n)) ∧ w = w' := by
  go_enter Tryd.func93, Tryd.ntmps93
  go_wp2_with (go_at_call 62; refine (impl_within _ _ _ _).mono ?_; rintro e w' ⟨rfl, rfl⟩)
  go_ret
  exact ⟨rfl, rfl⟩
theorem spec_l01Sample (n : Int) (w : World) :
    Calls Tryd.prog 91 #[.int .i64 n] w fun e w' => e = .returned (.bool (M.smp n)) ∧ w = w' := by
  go_enter Tryd.func91, Tryd.ntmps91
  go_wp2_with (go_at_call 59; refine (spec_l00In _ _ _ _).mono ?_; rintro e w' ⟨rfl, rfl⟩)
  go_ret
  exact ⟨rfl, rfl⟩
end Go.Proofs.YtecdendjlgohjaaDoor
namespace Go.Proofs.YtecdendjlgohjaaDoor
open Go.RowKit
set_option maxHeartbeats 400000
end Go.Proofs.YtecdendjlgohjaaDoor
namespace Go.Proofs.YtecdendjlgohjaaDoor
open Go.RowKit
set_option maxHeartbeats 400000
end Go.Proofs.YtecdendjlgohjaaDoor
namespace Go.Proofs.YtecdendjlgohjaaDoor
open Go.RowKit

/-- Only blocks from lo to hi may have turned; what is new lies behind. -/
structure Mid (lo hi : Nat) (w w' : World) : Prop where
  os : w'.os = w.os
  tape : w'.tape = w.tape
  output : w'.output = w.output
  size : w.heap.size ≤ w'.heap.size
  block : ∀ k, k < w.heap.size → (k < lo ∨ hi ≤ k) → w'.heap[k]? = w.heap[k]?
section
variable {lo hi lo' hi' B : Nat} {a b c w w' : World}
theorem Mid.refl (lo hi : Nat) (w : World) : Mid lo hi w w := ⟨rfl, rfl, rfl, Nat.le_refl _, fun _ _ _ => rfl⟩
theorem Mid.trans (h : Mid lo hi a b) (k : Mid lo hi b c) : Mid lo hi a c :=
  ⟨k.os.trans h.os, k.tape.trans h.tape, k.output.trans h.output, Nat.le_trans h.size k.size, fun i hi' hm => (k.block i (Nat.lt_of_lt_of_le hi' h.size) hm).trans (h.block i hi' hm)⟩
theorem Mid.toBelow (h : Mid lo hi a b) (hl : lo ≤ a.heap.size) : Below lo a b := ⟨h.os, h.tape, h.output, h.size, fun k hk => h.block k (by omega) (.inl hk)⟩
theorem Mid.of_grown {row : Option Nat} (h : a.grownBy b row) (hr : ∀ k, row = some k → lo ≤ k ∧ k < hi) : Mid lo hi a b :=
  ⟨h.os, h.tape, h.output, h.size, fun k hk hm => h.block k hk (fun e => by have := hr k e.symm; omega)⟩
theorem Mid.wide (h : Mid lo hi a b) (h1 : lo' ≤ lo) (h2 : hi ≤ hi') : Mid lo' hi' a b := ⟨h.os, h.tape, h.output, h.size, fun k hk hm => h.block k hk (by omega)⟩
end

/-- The call's own row whose block lies from lo to hi. -/
def OX (e : TypeId) (s lo hi : Nat) (w : World) (v : Value) (n : Nat) (cs : List Value) : Prop := w.ownsRow lo e s v n cs ∧ ∀ k, v.ownBlock = some k → k < hi
section
variable {e : TypeId} {s lo hi lo' hi' n : Nat} {w w' : World} {v : Value} {cs : List Value}
theorem OX.of_own (h : w.ownsRow lo e s v n cs) : OX e s lo w.heap.size w v n cs := ⟨h, fun k hk => (h.lt k hk).2⟩
theorem OX.same (h : OX e s lo hi w v n cs) (hk : ∀ k, lo ≤ k → k < hi → w'.heap[k]? = w.heap[k]?) : OX e s lo hi w' v n cs := by
  refine ⟨⟨h.1.1, ?_⟩, h.2⟩
  rcases h.1.2 with h2 | ⟨g, cap, cur, rfl, hg, hh, r⟩
  · exact .inl h2
  · exact .inr ⟨g, cap, cur, rfl, hg, by rw [hk g hg (h.2 g rfl)]; exact hh, r⟩
theorem OX.below {B : Nat} (h : OX e s lo hi w v n cs) (hb : Below B w w') (hB : hi ≤ B) : OX e s lo hi w' v n cs := h.same fun k _ hk => hb.block k (by omega)
theorem OX.wide (h : OX e s lo hi w v n cs) (h1 : lo' ≤ lo) (h2 : hi ≤ hi') : OX e s lo' hi' w v n cs := ⟨own_base h.1 h1, fun k hk => Nat.lt_of_lt_of_le (h.2 k hk) h2⟩
theorem OX.nil (e : TypeId) (s lo hi : Nat) (w : World) : OX e s lo hi w (.slice none 0 0) 0 [] := ⟨World.ownsRow_nil _ _ _ _, by simp [Value.ownBlock]⟩
theorem OX.shape (h : OX e s lo hi w v n cs) : ∃ A c, v = .slice A n c ∧ n ≤ c ∧ Reads w w.heap.size s A n cs := by
  obtain ⟨A, c, hv, h1, _, hr⟩ := own_shape h.1
  exact ⟨A, c, hv, h1, hr⟩
theorem OX.form {A : Option Addr} {c m : Nat} (h : OX e s lo hi w (.slice A m c) n cs) (hn : 0 < m) : ∃ g, A = some ⟨g, 0, none⟩ ∧ lo ≤ g ∧ g < hi ∧ g < w.heap.size ∧ m = n := by
  rcases h.1.2 with ⟨h0, _⟩ | ⟨g, cap, cur, h0, h1, h2, _⟩
  · simp only [Value.slice.injEq] at h0
    omega
  · simp only [Value.slice.injEq] at h0
    obtain ⟨rfl, rfl, rfl⟩ := h0
    exact ⟨g, rfl, h1, h.2 g rfl, (Array.getElem?_eq_some_iff.1 h2).1, rfl⟩
theorem OX.cell {g c : Nat} (h : OX e s lo hi w (.slice (some ⟨g, 0, none⟩) n c) n cs) {j : Nat} {u : Value} (hj : cs[j]? = some u) : w.cell? ⟨g, j, none⟩ = some u ∧ w.frozen? ⟨g, j, none⟩ = false := by
  obtain ⟨hl, _⟩ := List.getElem?_eq_some_iff.1 hj
  exact ⟨by rw [World.ownsRow.cellAt h.1 j (by rw [← h.1.1]; exact hl)]; exact hj, World.ownsRow.frozenAt h.1 j⟩
theorem OX.set {g c : Nat} (h : OX e s lo hi w (.slice (some ⟨g, 0, none⟩) n c) n cs) (j : Nat) (u : Value) :
    OX e s lo hi (w.setCell ⟨g, j, none⟩ u) (.slice (some ⟨g, 0, none⟩) n c) n (cs.set j u) ∧ Mid lo hi w (w.setCell ⟨g, j, none⟩ u) := by
  have h1 := World.ownsRow.stored h.1 j u
  refine ⟨⟨h1.1, h.2⟩, Mid.of_grown h1.2 fun k hk => ?_⟩
  injection hk with hk
  subst hk
  exact ⟨(World.ownsRow.lt h.1 g rfl).1, h.2 g rfl⟩
end

/-- A slice of structs that reads as a list: x's cells are 'enc x', s of them. -/
def RA {α : Type} (enc : α → List Value) (s : Nat) (w : World) (B : Nat) (A : Option Addr) (n : Nat) (xs : List α) : Prop := xs.length = n ∧ Reads w B s A n (xs.flatMap enc)
section
variable {α : Type} {enc : α → List Value} {s : Nat} {w w' : World} {B B' n : Nat} {A : Option Addr} {xs : List α}
theorem flat_at (henc : ∀ x, (enc x).length = s) {xs : List α} {k : Nat} {x : α} (hk : xs[k]? = some x) (j : Nat) (hj : j < s) : (xs.flatMap enc)[k * s + j]? = (enc x)[j]? := by
  induction xs generalizing k with
  | nil => simp at hk
  | cons y ys ih =>
    cases k with
    | zero =>
      simp only [List.getElem?_cons_zero, Option.some.injEq] at hk
      subst hk
      rw [List.flatMap_cons, Nat.zero_mul, Nat.zero_add, List.getElem?_append_left (by rw [henc]; exact hj)]
    | succ k =>
      simp only [List.getElem?_cons_succ] at hk
      rw [List.flatMap_cons, List.getElem?_append_right (by rw [henc, Nat.succ_mul]; omega), henc, ← ih hk]
      congr 1
      rw [Nat.succ_mul]
      omega
theorem flat_len (henc : ∀ x, (enc x).length = s) (xs : List α) : (xs.flatMap enc).length = xs.length * s := by
  induction xs with
  | nil => simp
  | cons y ys ih => rw [List.flatMap_cons, List.length_append, henc, ih, List.length_cons, Nat.succ_mul, Nat.add_comm]
theorem flat_set (henc : ∀ x, (enc x).length = s) {xs : List α} {k : Nat} {x y : α} {j : Nat} {u : Value} (hk : xs[k]? = some x) (hj : j < s) (hy : enc y = (enc x).set j u) : (xs.flatMap enc).set (k * s + j) u = (xs.set k y).flatMap enc := by
  induction xs generalizing k with
  | nil => simp at hk
  | cons z zs ih =>
    cases k with
    | zero =>
      simp only [List.getElem?_cons_zero, Option.some.injEq] at hk
      subst hk
      rw [List.flatMap_cons, Nat.zero_mul, Nat.zero_add, List.set_append_left _ _ (by rw [henc]; exact hj), List.set_cons_zero, List.flatMap_cons, hy]
    | succ k =>
      simp only [List.getElem?_cons_succ] at hk
      rw [List.flatMap_cons, List.set_append_right _ _ (by rw [henc, Nat.succ_mul]; omega), henc, List.set_cons_succ, List.flatMap_cons, ← ih hk]
      congr 2
      rw [Nat.succ_mul]
      omega
theorem RA.len (h : RA enc s w B A n xs) : xs.length = n := h.1
theorem RA.below (h : RA enc s w B A n xs) (hb : Below B w w') : RA enc s w' B A n xs := ⟨h.1, h.2.below hb⟩
theorem RA.later (h : RA enc s w w.heap.size A n xs) (hb : Below w.heap.size w w') : RA enc s w' w'.heap.size A n xs := ⟨h.1, h.2.later hb⟩
theorem RA.more (h : RA enc s w B A n xs) (hB : B ≤ B') : RA enc s w B' A n xs := ⟨h.1, h.2.more hB⟩
theorem RA.nil (w : World) (B : Nat) (A : Option Addr) : RA enc s w B A 0 [] := ⟨rfl, Reads.none_⟩
theorem spot_none {ad : Addr} {u : Value} (h : w.cell? ad = some u) : ad = ⟨ad.block, ad.off, none⟩ := by
  cases ad with
  | mk b o sp =>
    cases sp with
    | none => rfl
    | some x =>
      exfalso
      simp only [World.cell?] at h
      split at h <;> simp at h
theorem RA.at (henc : ∀ x, (enc x).length = s) (hs : 0 < s) (h : RA enc s w B A n xs) {k : Nat} (hk : k < n) :
    ∃ b o x, A = some ⟨b, o, none⟩ ∧ b < B ∧ Hid (xs[k]? = some x) ∧ ∀ j u, (enc x)[j]? = some u → w.cell? ⟨b, o + k * s + j, none⟩ = some u := by
  obtain ⟨ad, e, hb, hc⟩ := h.2.2 (by omega)
  have hl : k < xs.length := by rw [h.1]; exact hk
  have h0 : 0 < (xs.flatMap enc).length := by
    rw [flat_len henc]
    exact Nat.mul_pos (by omega) hs
  have hsp := spot_none (hc 0 _ (List.getElem?_eq_getElem h0))
  have hsp' : ad = ⟨ad.block, ad.off, none⟩ := by simpa [Addr.add] using hsp
  refine ⟨ad.block, ad.off, xs[k], by rw [e, ← hsp'], hb, List.getElem?_eq_getElem hl, fun j u hu => ?_⟩
  have := hc (k * s + j) u (by
    rw [flat_at henc (List.getElem?_eq_getElem hl) j (by rw [← henc xs[k]]; exact (List.getElem?_eq_some_iff.1 hu).1)]
    exact hu)
  rw [hsp', Addr.add_lit, ← Nat.add_assoc] at this
  exact this
theorem RA.cells {b o : Nat} (henc : ∀ x, (enc x).length = s) (hs : 0 < s) (h : RA enc s w B (some ⟨b, o, none⟩) n xs) {k : Nat} (hk : k < n) :
    ∃ x, Hid (xs[k]? = some x) ∧ ∀ j u, (enc x)[j]? = some u → w.cell? ⟨b, o + k * s + j, none⟩ = some u := by
  obtain ⟨b', o', x, e, _, h1, h2⟩ := h.at henc hs hk
  injection e with e
  injection e with e1 e2
  subst e1 e2
  exact ⟨x, h1, h2⟩
end

/-- The call's own slice of structs. -/
def OA {α : Type} (enc : α → List Value) (e : TypeId) (s lo hi : Nat) (w : World) (v : Value) (xs : List α) : Prop := OX e s lo hi w v xs.length (xs.flatMap enc)
section
variable {α : Type} {enc : α → List Value} {e : TypeId} {s lo hi lo' hi' : Nat} {w w' : World} {v : Value} {xs : List α}
theorem OA.below {B : Nat} (h : OA enc e s lo hi w v xs) (hb : Below B w w') (hB : hi ≤ B) : OA enc e s lo hi w' v xs := OX.below h hb hB
theorem OA.wide (h : OA enc e s lo hi w v xs) (h1 : lo' ≤ lo) (h2 : hi ≤ hi') : OA enc e s lo' hi' w v xs := OX.wide h h1 h2
theorem OA.nil (w : World) : OA enc e s lo hi w (.slice none 0 0) [] := OX.nil _ _ _ _ _
theorem OA.shape (h : OA enc e s lo hi w v xs) : ∃ A c, v = .slice A xs.length c ∧ RA enc s w w.heap.size A xs.length xs := by
  obtain ⟨A, c, hv, _, hr⟩ := OX.shape h
  exact ⟨A, c, hv, rfl, hr⟩
theorem OX.m_eq {g c m n : Nat} {cs : List Value} (h : OX e s lo hi w (.slice (some ⟨g, 0, none⟩) m c) n cs) : m = n := by
  rcases h.1.2 with ⟨h0, _⟩ | ⟨g', cap, cur, h0, _⟩
  · simp at h0
  · simp only [Value.slice.injEq] at h0
    exact h0.2.1
/-- A field of the k-th struct is written. -/
theorem OA.set {g c m : Nat} (henc : ∀ x, (enc x).length = s) (h : OA enc e s lo hi w (.slice (some ⟨g, 0, none⟩) m c) xs) {k j : Nat} {x y : α} {u : Value} (hk : xs[k]? = some x) (hj : j < s) (hy : enc y = (enc x).set j u) :
    OA enc e s lo hi (w.setCell ⟨g, k * s + j, none⟩ u) (.slice (some ⟨g, 0, none⟩) m c) (xs.set k y) ∧ Mid lo hi w (w.setCell ⟨g, k * s + j, none⟩ u) := by
  have hm := OX.m_eq h
  subst hm
  have h1 := OX.set h (k * s + j) u
  rw [flat_set henc hk hj hy] at h1
  refine ⟨?_, h1.2⟩
  unfold OA
  rw [List.length_set]
  exact h1.1
theorem OA.cell {g c m : Nat} (henc : ∀ x, (enc x).length = s) (h : OA enc e s lo hi w (.slice (some ⟨g, 0, none⟩) m c) xs) {k : Nat} {x : α} (hk : xs[k]? = some x) {j : Nat} {u : Value} (hj : (enc x)[j]? = some u) :
    w.cell? ⟨g, k * s + j, none⟩ = some u ∧ w.frozen? ⟨g, k * s + j, none⟩ = false := by
  have hm := OX.m_eq h
  subst hm
  exact OX.cell h (by rw [flat_at henc hk j (by rw [← henc x]; exact (List.getElem?_eq_some_iff.1 hj).1)]; exact hj)
theorem made_flat (zs : Array Value) (n : Nat) (x : α) (hz : enc x = zs.toList) (henc : ∀ x, (enc x).length = s) (hs : 0 < s) : (madeCells zs (n * s)).toList = (List.replicate n x).flatMap enc := by
  have hzs : zs.size = s := by have := henc x; rw [hz] at this; simpa using this
  apply List.ext_getElem?
  intro i
  by_cases hi : i < n * s
  · have hk : i / s < n := Nat.div_lt_of_lt_mul (by rw [Nat.mul_comm]; exact hi)
    have hj : i % s < s := Nat.mod_lt _ hs
    have e0 : i / s * s + i % s = i := by rw [Nat.mul_comm]; exact Nat.div_add_mod i s
    have h1 := flat_at henc (xs := List.replicate n x) (k := i / s) (x := x) (by simp [hk]) (i % s) hj
    rw [e0] at h1
    rw [h1, hz]
    simp [madeCells, hi, hzs, hj]
  · rw [List.getElem?_eq_none (by simp [madeCells]; omega), List.getElem?_eq_none (by rw [flat_len henc, List.length_replicate]; omega)]
theorem OA.made {z : Value} {n : Nat} {x : α} (henc : ∀ x, (enc x).length = s) (hs : 0 < s) (hz : enc x = z.cells.toList) (h : w.ownsRow lo e s v n (madeCells z.cells (n * s)).toList) (hv : ∀ k, v.ownBlock = some k → k < hi) :
    OA enc e s lo hi w v (List.replicate n x) := by
  unfold OA
  rw [List.length_replicate, ← made_flat z.cells n x hz henc hs]
  exact ⟨h, hv⟩
theorem OA.form {A : Option Addr} {c m : Nat} (h : OA enc e s lo hi w (.slice A m c) xs) (hn : 0 < m) : ∃ g, A = some ⟨g, 0, none⟩ ∧ lo ≤ g ∧ g < hi ∧ g < w.heap.size ∧ m = xs.length := OX.form h hn
end
end Go.Proofs.YtecdendjlgohjaaDoor
namespace Go.Proofs.YtecdendjlgohjaaDoor
open Go.RowKit

/-- Only blocks of F, and new ones, have turned. -/
structure Chg (F : Nat → Prop) (w w' : World) : Prop where
  os : w'.os = w.os
  tape : w'.tape = w.tape
  output : w'.output = w.output
  size : w.heap.size ≤ w'.heap.size
  block : ∀ k, k < w.heap.size → ¬ F k → w'.heap[k]? = w.heap[k]?
section
variable {F F' : Nat → Prop} {a b c w w' : World} {lo hi B : Nat}
theorem Chg.refl (F : Nat → Prop) (w : World) : Chg F w w := ⟨rfl, rfl, rfl, Nat.le_refl _, fun _ _ _ => rfl⟩
theorem Chg.trans (h : Chg F a b) (k : Chg F b c) : Chg F a c :=
  ⟨k.os.trans h.os, k.tape.trans h.tape, k.output.trans h.output, Nat.le_trans h.size k.size, fun i hi hm => (k.block i (Nat.lt_of_lt_of_le hi h.size) hm).trans (h.block i hi hm)⟩
theorem Chg.wide (h : Chg F a b) (hf : ∀ k, F k → F' k) : Chg F' a b := ⟨h.os, h.tape, h.output, h.size, fun k hk hn => h.block k hk fun hF => hn (hf k hF)⟩
theorem Chg.of_grown {row : Option Nat} (h : a.grownBy b row) (hr : ∀ k, row = some k → F k) : Chg F a b :=
  ⟨h.os, h.tape, h.output, h.size, fun k hk hn => h.block k hk fun e => hn (hr k e.symm)⟩
theorem Chg.toBelow (h : Chg F a b) (hF : ∀ k, F k → B ≤ k) (hB : B ≤ a.heap.size) : Below B a b := ⟨h.os, h.tape, h.output, h.size, fun k hk => h.block k (by omega) fun hk' => by have := hF k hk'; omega⟩
theorem Chg.set (w : World) (g o : Nat) (u : Value) (hF : F g) : Chg F w (w.setCell ⟨g, o, none⟩ u) := Chg.of_grown (grown_setCell w g o u) fun k hk => by injection hk with hk; rw [← hk]; exact hF
end

/-- Rows of cells, s each. -/
theorem flat2_at {s : Nat} {css : List (List Value)} (hs : ∀ c ∈ css, c.length = s) {k : Nat} {c : List Value} (hk : css[k]? = some c) (j : Nat) (hj : j < s) : css.flatten[k * s + j]? = c[j]? := by
  induction css generalizing k with
  | nil => simp at hk
  | cons y ys ih =>
    have hy := hs y (by simp)
    cases k with
    | zero =>
      simp only [List.getElem?_cons_zero, Option.some.injEq] at hk
      subst hk
      rw [List.flatten_cons, Nat.zero_mul, Nat.zero_add, List.getElem?_append_left (by omega)]
    | succ k =>
      simp only [List.getElem?_cons_succ] at hk
      rw [List.flatten_cons, List.getElem?_append_right (by rw [hy, Nat.succ_mul]; omega), hy, ← ih (fun c hc => hs c (by simp [hc])) hk]
      congr 1
      rw [Nat.succ_mul]
      omega
theorem flat2_len {s : Nat} {css : List (List Value)} (hs : ∀ c ∈ css, c.length = s) : css.flatten.length = css.length * s := by
  induction css with
  | nil => simp
  | cons y ys ih => rw [List.flatten_cons, List.length_append, hs y (by simp), ih (fun c hc => hs c (by simp [hc])), List.length_cons, Nat.succ_mul, Nat.add_comm]
theorem flat2_set {s : Nat} {css : List (List Value)} (hs : ∀ c ∈ css, c.length = s) {k j : Nat} {c : List Value} {u : Value} (hk : css[k]? = some c) (hj : j < s) : css.flatten.set (k * s + j) u = (css.set k (c.set j u)).flatten := by
  induction css generalizing k with
  | nil => simp at hk
  | cons y ys ih =>
    have hy := hs y (by simp)
    cases k with
    | zero =>
      simp only [List.getElem?_cons_zero, Option.some.injEq] at hk
      subst hk
      rw [List.flatten_cons, Nat.zero_mul, Nat.zero_add, List.set_append_left _ _ (by omega), List.set_cons_zero, List.flatten_cons]
    | succ k =>
      simp only [List.getElem?_cons_succ] at hk
      rw [List.flatten_cons, List.set_append_right _ _ (by rw [hy, Nat.succ_mul]; omega), hy, List.set_cons_succ, List.flatten_cons, ← ih (fun c hc => hs c (by simp [hc])) hk]
      congr 2
      rw [Nat.succ_mul]
      omega

/-- How a plain type lies in cells: what reads as x (R), and what the call owns, in blocks of F (O). -/
structure Ty (α : Type) where
  s : Nat
  pos : 0 < s
  zero : α
  R : World → Nat → List Value → α → Prop
  O : World → (Nat → Prop) → List Value → α → Prop
  rlen : ∀ {w B cs x}, R w B cs x → cs.length = s
  keep : ∀ {w w' B cs x}, (∀ p : Addr, p.block < B → w'.cell? p = w.cell? p) → R w B cs x → R w' B cs x
  more : ∀ {w B B' cs x}, B ≤ B' → R w B cs x → R w B' cs x
  read : ∀ {w F cs x}, O w F cs x → R w w.heap.size cs x
  okeep : ∀ {w w' F cs x}, (∀ b, F b → w'.heap[b]? = w.heap[b]?) → O w F cs x → O w' F cs x
  owide : ∀ {w F F' cs x}, (∀ b, F b → F' b) → O w F cs x → O w F' cs x
  ocells : ∀ {w F cs x}, O w F cs x → ∀ u ∈ cs, u.oneCell' = true
  oreal : ∀ {w F cs x}, O w F cs x → O w (fun b => F b ∧ b < w.heap.size) cs x

/-- A type whose cells are the value itself. -/
def Ty.flat {α : Type} (s : Nat) (pos : 0 < s) (zero : α) (enc : α → List Value) (henc : ∀ x, (enc x).length = s) (h1 : ∀ x, ∀ u ∈ enc x, u.oneCell' = true) : Ty α where
  s := s
  pos := pos
  zero := zero
  R _ _ cs x := cs = enc x
  O _ _ cs x := cs = enc x
  rlen h := by rw [h]; exact henc _
  keep _ h := h
  more _ h := h
  read h := h
  okeep _ h := h
  owide _ h := h
  ocells h := by rw [h]; exact h1 _
  oreal h := h
def tI : Ty Int := Ty.flat 1 (by decide) 0 (fun x => [.int .i64 x]) (fun _ => rfl) (by simp [Value.oneCell'])
/-- Two types side by side: a struct. -/
def Ty.prod {α β : Type} (a : Ty α) (b : Ty β) : Ty (α × β) where
  s := a.s + b.s
  pos := Nat.add_pos_left a.pos _
  zero := (a.zero, b.zero)
  R w B cs x := ∃ c1 c2, cs = c1 ++ c2 ∧ a.R w B c1 x.1 ∧ b.R w B c2 x.2
  O w F cs x := ∃ c1 c2 F1 F2, cs = c1 ++ c2 ∧ a.O w F1 c1 x.1 ∧ b.O w F2 c2 x.2 ∧ (∀ k, F1 k → F k) ∧ (∀ k, F2 k → F k) ∧ (∀ k, F1 k → ¬ F2 k)
  rlen := by rintro w B cs x ⟨c1, c2, rfl, h1, h2⟩; rw [List.length_append, a.rlen h1, b.rlen h2]
  keep := by rintro w w' B cs x hk ⟨c1, c2, rfl, h1, h2⟩; exact ⟨c1, c2, rfl, a.keep hk h1, b.keep hk h2⟩
  more := by rintro w B B' cs x hk ⟨c1, c2, rfl, h1, h2⟩; exact ⟨c1, c2, rfl, a.more hk h1, b.more hk h2⟩
  read := by rintro w F cs x ⟨c1, c2, F1, F2, rfl, h1, h2, _⟩; exact ⟨c1, c2, rfl, a.read h1, b.read h2⟩
  okeep := by rintro w w' F cs x hk ⟨c1, c2, F1, F2, rfl, h1, h2, f1, f2, f3⟩; exact ⟨c1, c2, F1, F2, rfl, a.okeep (fun b hb => hk b (f1 b hb)) h1, b.okeep (fun b hb => hk b (f2 b hb)) h2, f1, f2, f3⟩
  owide := by rintro w F F' cs x hk ⟨c1, c2, F1, F2, rfl, h1, h2, f1, f2, f3⟩; exact ⟨c1, c2, F1, F2, rfl, h1, h2, fun k h => hk k (f1 k h), fun k h => hk k (f2 k h), f3⟩
  ocells := by
    rintro w F cs x ⟨c1, c2, F1, F2, rfl, h1, h2, _⟩ u hu
    rcases List.mem_append.1 hu with h | h
    · exact a.ocells h1 u h
    · exact b.ocells h2 u h
  oreal := by
    rintro w F cs x ⟨c1, c2, F1, F2, rfl, h1, h2, f1, f2, f3⟩
    exact ⟨c1, c2, _, _, rfl, a.oreal h1, b.oreal h2, fun k h => ⟨f1 k h.1, h.2⟩, fun k h => ⟨f2 k h.1, h.2⟩, fun k h h' => f3 k h.1 h'.1⟩

section
variable {α : Type} (t : Ty α)
/-- A slice that reads as a list. -/
def RS (w : World) (B : Nat) (v : Value) (xs : List α) : Prop :=
  ∃ (A : Option Addr) (c : Nat) (css : List (List Value)), v = .slice A xs.length c ∧ xs.length ≤ c ∧ c ≤ maxLen ∧ css.length = xs.length ∧ Reads w B t.s A xs.length css.flatten ∧ ∀ k (h : k < xs.length) (h' : k < css.length), t.R w B css[k] xs[k]
/-- The call's own slice: a row of its own, each element in blocks of its own. -/
def OS (e : TypeId) (w : World) (F : Nat → Prop) (v : Value) (xs : List α) : Prop :=
  ∃ (css : List (List Value)) (Fs : Nat → Nat → Prop), w.ownsRow 0 e t.s v xs.length css.flatten ∧ css.length = xs.length ∧ (∀ g, v.ownBlock = some g → F g) ∧ (∀ k b, Fs k b → F b ∧ v.ownBlock ≠ some b) ∧
    (∀ j k b, j ≠ k → Fs j b → ¬ Fs k b) ∧ ∀ k (h : k < xs.length) (h' : k < css.length), t.O w (Fs k) css[k] xs[k]
end
section
variable {α : Type} {t : Ty α} {e : TypeId} {w w' : World} {F F' : Nat → Prop} {B B' : Nat} {v : Value} {xs : List α}
theorem RS.keep (hk : ∀ p : Addr, p.block < B → w'.cell? p = w.cell? p) (h : RS t w B v xs) : RS t w' B v xs := by
  obtain ⟨A, c, css, hv, h1, h2, h3, h4, h5⟩ := h
  exact ⟨A, c, css, hv, h1, h2, h3, h4.keep hk, fun k h h' => t.keep hk (h5 k h h')⟩
theorem RS.more (hB : B ≤ B') (h : RS t w B v xs) : RS t w B' v xs := by
  obtain ⟨A, c, css, hv, h1, h2, h3, h4, h5⟩ := h
  exact ⟨A, c, css, hv, h1, h2, h3, h4.more hB, fun k h h' => t.more hB (h5 k h h')⟩
theorem OS.read (h : OS t e w F v xs) : RS t w w.heap.size v xs := by
  obtain ⟨css, Fs, h1, h2, _, _, _, h6⟩ := h
  obtain ⟨A, c, rfl, hc, hm, hr⟩ := own_shape h1
  exact ⟨A, c, css, rfl, hc, hm, h2, hr, fun k h h' => t.read (h6 k h h')⟩
theorem OS.keep (hk : ∀ b, F b → w'.heap[b]? = w.heap[b]?) (h : OS t e w F v xs) : OS t e w' F v xs := by
  obtain ⟨css, Fs, h1, h2, h3, h4, h5, h6⟩ := h
  refine ⟨css, Fs, ⟨h1.1, ?_⟩, h2, h3, h4, h5, fun k h h' => t.okeep (fun b hb => hk b (h4 k b hb).1) (h6 k h h')⟩
  rcases h1.2 with hn | ⟨g, cap, cur, rfl, hb, hg, rest⟩
  · exact .inl hn
  · exact .inr ⟨g, cap, cur, rfl, hb, by rw [hk g (h3 g rfl)]; exact hg, rest⟩
theorem OS.wide (hF : ∀ b, F b → F' b) (h : OS t e w F v xs) : OS t e w F' v xs := by
  obtain ⟨css, Fs, h1, h2, h3, h4, h5, h6⟩ := h
  exact ⟨css, Fs, h1, h2, fun g hg => hF g (h3 g hg), fun k b hb => ⟨hF b (h4 k b hb).1, (h4 k b hb).2⟩, h5, h6⟩
theorem RS.cap {A : Option Addr} {n c : Nat} (h : RS t w B (.slice A n c) xs) : xs.length = n ∧ n ≤ c ∧ c ≤ maxLen := by
  obtain ⟨A', c', css, hv, h1, h2, _⟩ := h
  simp only [Value.slice.injEq] at hv
  obtain ⟨rfl, rfl, rfl⟩ := hv
  exact ⟨rfl, h1, h2⟩
theorem RS.shape (h : RS t w B v xs) : ∃ A c, v = .slice A xs.length c := by
  obtain ⟨A, c, css, hv, _⟩ := h
  exact ⟨A, c, hv⟩
theorem OS.shape (h : OS t e w F v xs) : ∃ A c, v = .slice A xs.length c := RS.shape h.read
/-- The k-th element's cells. -/
theorem RS.at (h : RS t w B v xs) {k : Nat} (hk : k < xs.length) : ∃ b o c cs, v = .slice (some ⟨b, o, none⟩) xs.length c ∧ b < B ∧ cs.length = t.s ∧ t.R w B cs xs[k] ∧ ∀ j u, cs[j]? = some u → w.cell? ⟨b, o + k * t.s + j, none⟩ = some u := by
  obtain ⟨A, c, css, rfl, h1, h2, h3, h4, h5⟩ := h
  obtain ⟨ad, rfl, hb, hc⟩ := h4.2 (by omega)
  have hs : ∀ c ∈ css, c.length = t.s := fun c hc => by
    obtain ⟨i, hi, rfl⟩ := List.getElem_of_mem hc
    exact t.rlen (h5 i (by omega) hi)
  have h0 : 0 < css.flatten.length := by
    rw [flat2_len hs]
    exact Nat.mul_pos (by omega) t.pos
  have hsp := spot_none (hc 0 _ (List.getElem?_eq_getElem h0))
  have hsp' : ad = ⟨ad.block, ad.off, none⟩ := by simpa [Addr.add] using hsp
  have hr := h5 k hk (by omega)
  refine ⟨ad.block, ad.off, c, css[k]'(by omega), by rw [← hsp'], hb, t.rlen hr, hr, fun j u hu => ?_⟩
  have hj : j < t.s := by rw [← t.rlen hr]; exact (List.getElem?_eq_some_iff.1 hu).1
  have := hc (k * t.s + j) u (by rw [flat2_at hs (List.getElem?_eq_getElem (by omega)) j hj]; exact hu)
  rw [hsp', Addr.add_lit, ← Nat.add_assoc] at this
  exact this
end

/-- A slice as a type of one cell. -/
def Ty.sl {α : Type} (t : Ty α) (e : TypeId) : Ty (List α) where
  s := 1
  pos := Nat.one_pos
  zero := []
  R w B cs x := ∃ v, cs = [v] ∧ RS t w B v x
  O w F cs x := ∃ v, cs = [v] ∧ OS t e w F v x
  rlen := by rintro w B cs x ⟨v, rfl, _⟩; rfl
  keep := by rintro w w' B cs x hk ⟨v, rfl, h⟩; exact ⟨v, rfl, h.keep hk⟩
  more := by rintro w B B' cs x hk ⟨v, rfl, h⟩; exact ⟨v, rfl, h.more hk⟩
  read := by rintro w F cs x ⟨v, rfl, h⟩; exact ⟨v, rfl, h.read⟩
  okeep := by rintro w w' F cs x hk ⟨v, rfl, h⟩; exact ⟨v, rfl, h.keep hk⟩
  owide := by rintro w F F' cs x hk ⟨v, rfl, h⟩; exact ⟨v, rfl, h.wide hk⟩
  ocells := by
    rintro w F cs x ⟨v, rfl, h⟩ u hu
    obtain ⟨A, c, hv⟩ := h.shape
    simp only [List.mem_singleton] at hu
    subst hu hv
    rfl
  oreal := by
    rintro w F cs x ⟨v, rfl, css, Fs, h1, h2, h3, h4, h5, h6⟩
    exact ⟨v, rfl, css, _, h1, h2, fun g hg => ⟨h3 g hg, (h1.lt g hg).2⟩, fun k b hb => ⟨⟨(h4 k b hb.1).1, hb.2⟩, (h4 k b hb.1).2⟩, fun j k b hne h h' => h5 j k b hne h.1 h'.1, fun k h h' => t.oreal (h6 k h h')⟩

section
variable {α : Type} {t : Ty α} {e : TypeId} {w w' : World} {F F' : Nat → Prop} {B B' lo hi : Nat} {v : Value} {xs : List α}
/-- Blocks from lo on and below hi. -/
def Iv (lo hi : Nat) : Nat → Prop := fun k => lo ≤ k ∧ k < hi
theorem Iv.mono {lo hi lo' hi' : Nat} (h1 : lo' ≤ lo) (h2 : hi ≤ hi') : ∀ b, Iv lo hi b → Iv lo' hi' b := fun b ⟨h, h'⟩ => ⟨Nat.le_trans h1 h, Nat.lt_of_lt_of_le h' h2⟩
theorem RS.later (h : RS t w w.heap.size v xs) (hb : Below w.heap.size w w') : RS t w' w'.heap.size v xs := (h.keep fun _ hp => hb.cell hp).more hb.size
theorem RS.below (h : RS t w B v xs) (hb : Below B w w') : RS t w' B v xs := h.keep fun _ hp => hb.cell hp
theorem OS.below (h : OS t e w (Iv lo hi) v xs) (hb : Below B w w') (hB : hi ≤ B) : OS t e w' (Iv lo hi) v xs := h.keep fun b hF => hb.block b (Nat.lt_of_lt_of_le hF.2 hB)
theorem OS.iv {lo' hi' : Nat} (h : OS t e w (Iv lo hi) v xs) (h1 : lo' ≤ lo) (h2 : hi ≤ hi') : OS t e w (Iv lo' hi') v xs := h.wide (Iv.mono h1 h2)
theorem OS.nil (t : Ty α) (e : TypeId) (w : World) (F : Nat → Prop) : OS t e w F (.slice none 0 0) [] :=
  ⟨[], fun _ _ => False, World.ownsRow_nil _ _ _ _, rfl, by simp [Value.ownBlock], fun _ _ h => h.elim, fun _ _ _ _ h => h.elim, fun k h => by simp at h⟩
theorem RS.nil (t : Ty α) (w : World) (B : Nat) : RS t w B (.slice none 0 0) [] := ⟨none, 0, [], rfl, Nat.le_refl _, by simp [maxLen], rfl, Reads.none_, fun k h => by simp at h⟩
/-- All of an own slice but its k-th element. -/
def OH (t : Ty α) (e : TypeId) (w : World) (F : Nat → Prop) (v : Value) (xs : List α) (css : List (List Value)) (Fs : Nat → Nat → Prop) (k : Nat) : Prop :=
  w.ownsRow 0 e t.s v xs.length css.flatten ∧ css.length = xs.length ∧ (∀ c ∈ css, c.length = t.s) ∧ (∀ g, v.ownBlock = some g → F g) ∧ (∀ k b, Fs k b → F b ∧ v.ownBlock ≠ some b) ∧
    (∀ j k b, j ≠ k → Fs j b → ¬ Fs k b) ∧ ∀ i (h : i < xs.length) (h' : i < css.length), i ≠ k → t.O w (Fs i) css[i] xs[i]
theorem OS.open (h : OS t e w F v xs) {k : Nat} (hk : k < xs.length) : ∃ css Fs, OH t e w F v xs css Fs k ∧ ∃ cs, css[k]? = some cs ∧ t.O w (Fs k) cs xs[k] := by
  obtain ⟨css, Fs, h1, h2, h3, h4, h5, h6⟩ := h
  exact ⟨css, Fs, ⟨h1, h2, fun c hc => by
    obtain ⟨i, hi, rfl⟩ := List.getElem_of_mem hc
    exact t.rlen (t.read (h6 i (by omega) hi)), h3, h4, h5, fun i h h' _ => h6 i h h'⟩, css[k]'(by omega), List.getElem?_eq_getElem (by omega), h6 k hk (by omega)⟩
variable {css : List (List Value)} {Fs : Nat → Nat → Prop} {k : Nat}
theorem OH.form {A : Option Addr} {m c : Nat} (h : OH t e w F (.slice A m c) xs css Fs k) (hk : k < xs.length) : ∃ g, A = some ⟨g, 0, none⟩ ∧ F g ∧ ¬ Fs k g ∧ g < w.heap.size ∧ m = xs.length := by
  obtain ⟨h1, h2, h3, h4, h5, h6, h7⟩ := h
  rcases h1.2 with ⟨h0, _⟩ | ⟨g, cap, cur, h0, hg1, hg2, _⟩
  · simp only [Value.slice.injEq] at h0
    omega
  · simp only [Value.slice.injEq] at h0
    obtain ⟨rfl, rfl, rfl⟩ := h0
    exact ⟨g, rfl, h4 g rfl, fun hf => (h5 k g hf).2 rfl, (Array.getElem?_eq_some_iff.1 hg2).1, rfl⟩
theorem OH.cell {g m c : Nat} (h : OH t e w F (.slice (some ⟨g, 0, none⟩) m c) xs css Fs k) {cs : List Value} (hcs : css[k]? = some cs) {j : Nat} {u : Value} (hj : cs[j]? = some u) :
    w.cell? ⟨g, k * t.s + j, none⟩ = some u ∧ w.frozen? ⟨g, k * t.s + j, none⟩ = false := by
  obtain ⟨h1, h2, h3, _⟩ := h
  have hk : k < css.length := (List.getElem?_eq_some_iff.1 hcs).1
  have hm : m = xs.length := by
    rcases h1.2 with ⟨h0, _⟩ | ⟨g', cap, cur, h0, _⟩
    · simp at h0
    · simp only [Value.slice.injEq] at h0
      exact h0.2.1
  subst hm
  have hl : cs.length = t.s := h3 cs (List.mem_of_getElem? hcs)
  have hjs : j < t.s := by rw [← hl]; exact (List.getElem?_eq_some_iff.1 hj).1
  have hf := flat2_at h3 hcs j hjs
  rw [hj] at hf
  have hlt := (List.getElem?_eq_some_iff.1 hf).1
  exact ⟨by rw [World.ownsRow.cellAt h1 _ (by rw [← h1.1]; exact hlt)]; exact hf, World.ownsRow.frozenAt h1 _⟩
/-- A cell of the k-th element is written. -/
theorem OH.set {g m c : Nat} (h : OH t e w F (.slice (some ⟨g, 0, none⟩) m c) xs css Fs k) {cs : List Value} (hcs : css[k]? = some cs) (j : Nat) (hj : j < t.s) (u : Value) :
    OH t e (w.setCell ⟨g, k * t.s + j, none⟩ u) F (.slice (some ⟨g, 0, none⟩) m c) xs (css.set k (cs.set j u)) Fs k ∧ (css.set k (cs.set j u))[k]? = some (cs.set j u) := by
  obtain ⟨h1, h2, h3, h4, h5, h6, h7⟩ := h
  have hk : k < css.length := (List.getElem?_eq_some_iff.1 hcs).1
  have hm : m = xs.length := by
    rcases h1.2 with ⟨h0, _⟩ | ⟨g', cap, cur, h0, _⟩
    · simp at h0
    · simp only [Value.slice.injEq] at h0
      exact h0.2.1
  subst hm
  have hl : cs.length = t.s := h3 cs (List.mem_of_getElem? hcs)
  have hst := (World.ownsRow.stored h1 (k * t.s + j) u).1
  rw [flat2_set h3 hcs hj] at hst
  refine ⟨⟨hst, by rw [List.length_set]; exact h2, fun c hc => ?_, h4, h5, h6, fun i hi hi' hne => ?_⟩, by simp [hk]⟩
  · rcases List.mem_or_eq_of_mem_set hc with hc | rfl
    · exact h3 c hc
    · rw [List.length_set]; exact hl
  · rw [List.getElem_set_ne (fun e => hne e.symm)]
    refine t.okeep (fun b hb => ?_) (h7 i hi (by rw [List.length_set] at hi'; exact hi') hne)
    exact heap_setCell_other w ⟨g, k * t.s + j, none⟩ b u (fun e => (h5 i b hb).2 (by rw [e]; rfl))
theorem OH.keep (h : OH t e w F v xs css Fs k) (hk : ∀ b, F b → w'.heap[b]? = w.heap[b]?) : OH t e w' F v xs css Fs k := by
  obtain ⟨h1, h2, h3, h4, h5, h6, h7⟩ := h
  refine ⟨⟨h1.1, ?_⟩, h2, h3, h4, h5, h6, fun i hi hi' hne => t.okeep (fun b hb => hk b (h5 i b hb).1) (h7 i hi hi' hne)⟩
  rcases h1.2 with hn | ⟨g, cap, cur, rfl, hb, hg, rest⟩
  · exact .inl hn
  · exact .inr ⟨g, cap, cur, rfl, hb, by rw [hk g (h4 g rfl)]; exact hg, rest⟩
/-- The k-th element is there again, in its own blocks or in others. -/
theorem OH.fill (h : OH t e w F v xs css Fs k) {cs : List Value} (hcs : css[k]? = some cs) {y : α} (hy : t.O w (Fs k) cs y) : OS t e w F v (xs.set k y) := by
  obtain ⟨h1, h2, h3, h4, h5, h6, h7⟩ := h
  refine ⟨css, Fs, by rw [List.length_set]; exact h1, by rw [List.length_set]; exact h2, h4, h5, h6, fun i hi hi' => ?_⟩
  by_cases hik : i = k
  · subst hik
    rw [List.getElem_set_self]
    rw [List.getElem?_eq_getElem hi', Option.some.injEq] at hcs
    rw [hcs]
    exact hy
  · rw [List.getElem_set_ne (fun e => hik e.symm)]
    exact h7 i (by rw [List.length_set] at hi; exact hi) hi' hik
theorem OH.fill' (h : OH t e w F v xs css Fs k) {cs : List Value} (hcs : css[k]? = some cs) {y : α} {Fe : Nat → Prop} (hy : t.O w Fe cs y) (hd : ∀ b, Fe b → ¬ F b) : OS t e w (fun b => F b ∨ Fe b) v (xs.set k y) := by
  obtain ⟨h1, h2, h3, h4, h5, h6, h7⟩ := h
  refine ⟨css, fun i => if i = k then Fe else Fs i, by rw [List.length_set]; exact h1, by rw [List.length_set]; exact h2, fun g hg => .inl (h4 g hg), fun i b hb => ?_, fun i j b hne hi hj => ?_, fun i hi hi' => ?_⟩
  · change (if i = k then Fe else Fs i) b at hb
    by_cases hik : i = k
    · rw [if_pos hik] at hb
      exact ⟨.inr hb, fun hg => hd b hb (h4 b hg)⟩
    · rw [if_neg hik] at hb
      exact ⟨.inl (h5 i b hb).1, (h5 i b hb).2⟩
  · change (if i = k then Fe else Fs i) b at hi
    change (if j = k then Fe else Fs j) b at hj
    by_cases hik : i = k
    · rw [if_pos hik] at hi
      rw [if_neg (fun e => hne (hik.trans e.symm))] at hj
      exact hd b hi (h5 j b hj).1
    · rw [if_neg hik] at hi
      by_cases hjk : j = k
      · rw [if_pos hjk] at hj
        exact hd b hj (h5 i b hi).1
      · rw [if_neg hjk] at hj
        exact h6 i j b hne hi hj
  · by_cases hik : i = k
    · subst hik
      rw [List.getElem_set_self]
      rw [List.getElem?_eq_getElem hi', Option.some.injEq] at hcs
      rw [hcs]
      simpa using hy
    · rw [List.getElem_set_ne (fun e => hik e.symm)]
      simpa [hik] using h7 i (by rw [List.length_set] at hi; exact hi) hi' hik
/-- A fresh row of zeros. -/
theorem OS.made {zc : List Value} {n : Nat} {z : Value} {c : Nat} (hz : ∀ w F, t.O w F zc t.zero) (hzl : z.cells.toList = zc) (hF : F w.heap.size) (h : w'.ownsRow w.heap.size e t.s (.slice (some ⟨w.heap.size, 0, none⟩) n c) n (madeCells z.cells (n * t.s)).toList) :
    OS t e w' F (.slice (some ⟨w.heap.size, 0, none⟩) n c) (List.replicate n t.zero) := by
  have hl : zc.length = t.s := t.rlen (t.read (hz w F))
  have hm := made_flat (enc := fun _ : Unit => zc) (s := t.s) z.cells n () hzl.symm (fun _ => hl) t.pos
  refine ⟨List.replicate n zc, fun _ _ => False, ?_, by simp, fun g hg => ?_, fun _ _ h => h.elim, fun _ _ _ _ h => h.elim, fun k hk hk' => by simpa using hz w' _⟩
  · rw [List.length_replicate]
    rw [hm] at h
    have e0 : (List.replicate n ()).flatMap (fun _ => zc) = (List.replicate n zc).flatten := by
      rw [List.flatMap_def, List.map_replicate]
    rw [e0] at h
    exact own_base h (Nat.zero_le _)
  · simp only [Value.ownBlock, Option.some.injEq] at hg
    rw [← hg]
    exact hF
theorem OS.lt (h : OS t e w F v xs) : ∀ g, v.ownBlock = some g → F g ∧ g < w.heap.size := by
  obtain ⟨css, Fs, h1, _, h3, _⟩ := h
  exact fun g hg => ⟨h3 g hg, (h1.lt g hg).2⟩
end
section
variable {α : Type} {t : Ty α} {P : Program} {T e : TypeId} {z : Value} {bytes : Nat}
end
end Go.Proofs.YtecdendjlgohjaaDoor
namespace Go.Proofs.YtecdendjlgohjaaDoor
open Go.RowKit
section
variable {α : Type} (t : Ty α) {w w' : World} {B lo hi lo' hi' l r : Nat} {cs : List Value} {x : α} {F F' : Nat → Prop}
theorem Ty.below (h : t.R w B cs x) (hb : Below B w w') : t.R w' B cs x := t.keep (fun _ hp => hb.cell hp) h
theorem Ty.later (h : t.R w w.heap.size cs x) (hb : Below w.heap.size w w') : t.R w' w'.heap.size cs x := t.more hb.size (t.below h hb)
theorem Ty.obelow (h : t.O w (Iv lo hi) cs x) (hb : Below B w w') (hB : hi ≤ B) : t.O w' (Iv lo hi) cs x := t.okeep (fun b hF => hb.block b (Nat.lt_of_lt_of_le hF.2 hB)) h
theorem Ty.omid (h : t.O w (Iv lo hi) cs x) (hm : Mid l r w w') (hd : hi ≤ l ∨ r ≤ lo) (hs : hi ≤ w.heap.size) : t.O w' (Iv lo hi) cs x :=
  t.okeep (fun b ⟨h1, h2⟩ => hm.block b (by omega) (by omega)) h
theorem Ty.oiv (h : t.O w (Iv lo hi) cs x) (h1 : lo' ≤ lo) (h2 : hi ≤ hi') : t.O w (Iv lo' hi') cs x := t.owide (Iv.mono h1 h2) h
end
section
variable {w w' : World} {B lo hi n c : Nat} {A : Option Addr} {v : Value} {e : TypeId}
/-- Flat elements. -/
theorem RS.flat {α : Type} {s : Nat} {pos : 0 < s} {zero : α} {enc : α → List Value} {henc : ∀ x, (enc x).length = s} {h1 : ∀ x, ∀ u ∈ enc x, u.oneCell' = true} {xs : List α}
    (h : RS (Ty.flat s pos zero enc henc h1) w B (.slice A n c) xs) : RA enc s w B A n xs ∧ n ≤ c ∧ c ≤ maxLen := by
  obtain ⟨A', c', css, hv, h1', h2, h3, h4, h5⟩ := h
  simp only [Value.slice.injEq] at hv
  obtain ⟨rfl, rfl, rfl⟩ := hv
  refine ⟨⟨rfl, ?_⟩, h1', h2⟩
  have e0 : css = xs.map enc := by
    apply List.ext_getElem (by simp [h3])
    intro i hi hi'
    rw [List.getElem_map]
    exact h5 i (by omega) hi
  rw [List.flatMap_def, ← e0]
  exact h4
theorem RS.of_flat {α : Type} {s : Nat} {pos : 0 < s} {zero : α} {enc : α → List Value} {henc : ∀ x, (enc x).length = s} {h1 : ∀ x, ∀ u ∈ enc x, u.oneCell' = true} {xs : List α}
    (h : RA enc s w B A n xs) (hc : n ≤ c) (hm : c ≤ maxLen) : RS (Ty.flat s pos zero enc henc h1) w B (.slice A n c) xs := by
  obtain ⟨rfl, h2⟩ := h
  rw [List.flatMap_def] at h2
  exact ⟨A, c, xs.map enc, rfl, hc, hm, by simp, h2, fun k hk hk' => by
    show (xs.map enc)[k] = enc xs[k]
    rw [List.getElem_map]⟩
theorem OS.flat {α : Type} {s : Nat} {pos : 0 < s} {zero : α} {enc : α → List Value} {henc : ∀ x, (enc x).length = s} {h1 : ∀ x, ∀ u ∈ enc x, u.oneCell' = true} {xs : List α}
    (h : OS (Ty.flat s pos zero enc henc h1) e w (Iv lo hi) v xs) : OA enc e s lo hi w v xs := by
  obtain ⟨css, Fs, g1, g2, g3, _, _, g6⟩ := h
  have e0 : css = xs.map enc := by
    apply List.ext_getElem (by simp [g2])
    intro i hi hi'
    rw [List.getElem_map]
    exact g6 i (by omega) hi
  subst e0
  refine ⟨⟨by rw [List.flatMap_def]; exact g1.1, ?_⟩, fun k hk => (g3 k hk).2⟩
  rcases g1.2 with hn | ⟨g, cap, cur, rfl, hb, rest⟩
  · exact .inl hn
  · rw [List.flatMap_def]
    exact .inr ⟨g, cap, cur, rfl, (g3 g rfl).1, rest⟩
theorem OS.of_flat {α : Type} {s : Nat} {pos : 0 < s} {zero : α} {enc : α → List Value} {henc : ∀ x, (enc x).length = s} {h1 : ∀ x, ∀ u ∈ enc x, u.oneCell' = true} {xs : List α}
    (h : OA enc e s lo hi w v xs) : OS (Ty.flat s pos zero enc henc h1) e w (Iv lo hi) v xs := by
  refine ⟨xs.map enc, fun _ _ => False, ?_, by simp, fun g hg => ⟨(h.1.lt g hg).1, h.2 g hg⟩, fun _ _ h => h.elim, fun _ _ _ _ h => h.elim, fun k hk hk' => ?_⟩
  · rw [← List.flatMap_def]
    exact own_base h.1 (Nat.zero_le _)
  · show (xs.map enc)[k] = enc xs[k]
    rw [List.getElem_map]
theorem flat_ints (xs : List Int) : xs.flatMap (fun x : Int => [Value.int .i64 x]) = xs.map (.int .i64) := by
  induction xs with
  | nil => rfl
  | cons y ys ih => rw [List.flatMap_cons, ih]; rfl
theorem OS.of_oi {xs : List Int} (h : OI e lo w v xs) (hh : ∀ k, v.ownBlock = some k → k < hi) : OS tI e w (Iv lo hi) v xs :=
  OS.of_flat ⟨by rw [flat_ints]; exact h, hh⟩
theorem OI.os {xs : List Int} (h : OI e lo w v xs) : OS tI e w (Iv lo w.heap.size) v xs := OS.of_oi h fun k hk => (World.ownsRow.lt h k hk).2
end
/-- All ints of a list bounded .. what a harness counts: its measure of size, its marks. -/
structure Hs (α : Type) where
  sz : α → Nat
  mark : Int → α → α
  cnt : α → Nat
def hI : Hs Int := ⟨fun _ => 0, fun k _ => k, fun _ => 1⟩
section
variable {α β : Type}
def Hs.mkL (h : Hs α) : Int → List α → List α
  | _, [] => []
  | k, x :: xs => h.mark k x :: h.mkL (k + h.cnt x) xs
def Hs.cntL (h : Hs α) : List α → Nat
  | [] => 0
  | x :: xs => h.cnt x + h.cntL xs
def Hs.szL (h : Hs α) : List α → Nat
  | [] => 0
  | x :: xs => h.sz x + h.szL xs
def Hs.sl (h : Hs α) : Hs (List α) := ⟨fun xs => xs.length + h.szL xs, h.mkL, h.cntL⟩
def Hs.prod (a : Hs α) (b : Hs β) : Hs (α × β) := ⟨fun x => a.sz x.1 + b.sz x.2, fun k x => (a.mark k x.1, b.mark (k + a.cnt x.1) x.2), fun x => a.cnt x.1 + b.cnt x.2⟩
theorem Hs.szL_take (h : Hs α) {xs : List α} {i : Nat} {x : α} (hx : xs[i]? = some x) : h.szL (xs.take (i + 1)) = h.szL (xs.take i) + h.sz x := by
  induction xs generalizing i with
  | nil => simp at hx
  | cons y ys ih =>
    cases i with
    | zero => simp at hx; subst hx; simp [Hs.szL]
    | succ i =>
      simp only [List.getElem?_cons_succ] at hx
      rw [List.take_succ_cons, List.take_succ_cons, Hs.szL, Hs.szL, ih hx]
      omega
theorem Hs.szL_mono (h : Hs α) (xs : List α) (i : Nat) : h.szL (xs.take i) ≤ h.szL xs := by
  induction xs generalizing i with
  | nil => simp
  | cons y ys ih =>
    cases i with
    | zero => simp [Hs.szL]
    | succ i => rw [List.take_succ_cons, Hs.szL, Hs.szL]; have := ih i; omega
theorem Hs.szL_at (h : Hs α) {xs : List α} {i : Nat} {x : α} (hx : xs[i]? = some x) : h.szL (xs.take i) + h.sz x ≤ h.szL xs := by
  rw [← h.szL_take hx]
  exact h.szL_mono _ _
end
end Go.Proofs.YtecdendjlgohjaaDoor
namespace Go.Proofs.YtecdendjlgohjaaDoor
open Go.RowKit
set_option maxHeartbeats 400000
set_option maxRecDepth 100000
/-! []int64 -/
abbrev hS : Hs (List Int) := hI.sl
end Go.Proofs.YtecdendjlgohjaaDoor
namespace Go.Proofs.YtecdendjlgohjaaDoor
open Go.RowKit
set_option maxHeartbeats 1000000
set_option maxRecDepth 100000
section
variable {α : Type} {t : Ty α} {e : TypeId} {w : World} {B : Nat} {F : Nat → Prop} {v : Value} {xs : List α}
theorem sl_R : (t.sl e).R w B [v] xs ↔ RS t w B v xs := ⟨fun ⟨v, h, h'⟩ => by injection h with h; rw [h]; exact h', fun h => ⟨_, rfl, h⟩⟩
theorem sl_O : (t.sl e).O w F [v] xs ↔ OS t e w F v xs := ⟨fun ⟨v, h, h'⟩ => by injection h with h; rw [h]; exact h', fun h => ⟨_, rfl, h⟩⟩
end
theorem keptB_all {B : Nat} {w w1 w2 : World} (h1 : Below B w1 w2) (hB : B = w1.heap.size) (h0 : Below w.heap.size w w1) : Below w.heap.size w w2 := by
  subst hB
  exact h0.trans (h1.mono h0.size)
theorem keptB {B : Nat} {w w1 w2 : World} {b o : Nat} {u : Value} (h1 : Below B w1 w2) (hB : B = w1.heap.size) (h0 : Below w.heap.size w w1) (h : w.cell? ⟨b, o, none⟩ = some u) (hb : b < w.heap.size) : w2.cell? ⟨b, o, none⟩ = some u := by
  subst hB
  rw [h1.cell (by simpa using Nat.lt_of_lt_of_le hb h0.size), h0.cell (by simpa using hb)]
  exact h
theorem OS.openAt {α : Type} {t : Ty α} {e : TypeId} {w : World} {F : Nat → Prop} {v : Value} {xs : List α} (h : OS t e w F v xs) {k : Nat} {x : α} (hx : xs[k]? = some x) : ∃ css Fs, OH t e w F v xs css Fs k ∧ ∃ cs, css[k]? = some cs ∧ t.O w (Fs k) cs x := by
  obtain ⟨hk, rfl⟩ := List.getElem?_eq_some_iff.1 hx
  exact h.open hk
theorem RS.atX {α : Type} {t : Ty α} {w : World} {B : Nat} {v : Value} {xs : List α} (h : RS t w B v xs) {k : Nat} {x : α} (hx : xs[k]? = some x) : ∃ b o c cs, v = .slice (some ⟨b, o, none⟩) xs.length c ∧ b < B ∧ cs.length = t.s ∧ t.R w B cs x ∧ ∀ j u, cs[j]? = some u → w.cell? ⟨b, o + k * t.s + j, none⟩ = some u := by
  obtain ⟨hk, rfl⟩ := List.getElem?_eq_some_iff.1 hx
  exact h.at hk
end Go.Proofs.YtecdendjlgohjaaDoor
namespace Go.Proofs.YtecdendjlgohjaaDoor
open Go.RowKit
set_option maxHeartbeats 1000000
set_option maxRecDepth 100000
theorem ei_sd : EI Tryd.prog 77 81 (.agg #[.int .i64 0, .int .i64 0]) 2 16 := ⟨Tryd.underlying77, by kernel_rfl, rfl, by decide⟩
def sd (p : (Int × Int)) : List Value := [.int .i64 p.1, .int .i64 p.2]
theorem sd_len (p : (Int × Int)) : (sd p).length = 2 := rfl
abbrev tSd : Ty (Int × Int) := Ty.flat 2 (by decide) (0, 0) sd sd_len (by simp [sd, Value.oneCell'])
abbrev hSd : Hs (Int × Int) := hI.prod hI
abbrev tSdS : Ty (List (Int × Int)) := tSd.sl 81
abbrev hSdS : Hs (List (Int × Int)) := hSd.sl
theorem hSd_szL (xs : List (Int × Int)) : hSd.szL xs = 0 := by
  induction xs with
  | nil => rfl
  | cons x xs ih => rw [Hs.szL, ih]; rfl
theorem hSd_cntL (xs : List (Int × Int)) : hSd.cntL xs = 2 * xs.length := by
  induction xs with
  | nil => rfl
  | cons x xs ih =>
    rw [Hs.cntL, ih, List.length_cons]
    show (1 + 1) + _ = _
    omega
theorem hSdS_sz (xs : List (Int × Int)) : hSdS.sz xs = xs.length := by show xs.length + hSd.szL xs = _; rw [hSd_szL]; rfl
theorem hSdS_cnt (xs : List (Int × Int)) : hSdS.cnt xs = 2 * xs.length := hSd_cntL xs
theorem laws_toSend (p0 p1 : Int) (w : World) :
    Calls Tryd.prog 108 #[.agg #[.int .i64 p0, .int .i64 p1]] w fun e w' => e = .returned (.agg #[.int .i64 p0, .int .i64 p1]) ∧ Below w.heap.size w w' := by
  go_enter Tryd.func108, Tryd.ntmps108
  go_wp2
  exact bodyPost_ret (v := .agg #[.int .i64 p0, .int .i64 p1]) (by simp [results, Tryd.results108, go_sem]) rfl ⟨rfl, (((Below.refl _ _).alloc (Nat.le_refl _) _).alloc (by simp) _).alloc (by simp; omega) _⟩
theorem nf_eq_Send (p0 p1 : Int) (w : World) :
    Calls Tryd.prog 109 #[.agg #[.int .i64 p0, .int .i64 p1], .agg #[.int .i64 p0, .int .i64 p1]] w fun e w' => e = .returned (.bool true) ∧ Below w.heap.size w w' := by
  go_enter Tryd.func109, Tryd.ntmps109
  go_wp2
  go_ret
  exact ⟨rfl, ((Below.refl _ _).alloc (Nat.le_refl _) _).alloc (by simp) _⟩
theorem nf_to_SdS_ (A : Option Addr) (n c : Nat) (xs : List (Int × Int)) (w : World) (hx : tSdS.R w w.heap.size [.slice A n c] xs) (hn : hSdS.sz xs ≤ 100000000) :
    Calls Tryd.prog 92 #[.slice A n c] w fun e w' => ∃ A' n' c', e = .returned (.slice A' n' c') ∧ tSdS.O w' (Iv w.heap.size w'.heap.size) [.slice A' n' c'] xs ∧ Below w.heap.size w w' := by
  have hr := sl_R.1 hx
  obtain rfl : xs.length = n := hr.cap.1
  rw [hSdS_sz] at hn
  clear hx
  go_enter Tryd.func92, Tryd.ntmps92
  go_wp2_with (at_make; refine wpList_mk ei_sd rfl _ _ rfl xs.length _ _ rfl rfl rfl rfl (by omega) (by unfold maxLen; omega) ?_; intro w1 own1 bel1)
  have hs1 : w.heap.size + 1 ≤ w1.heap.size := (World.ownsRow.lt own1 _ rfl).2
  have own2 : OS tSd 81 w1 (Iv w.heap.size (w.heap.size + 1)) (.slice (some ⟨w.heap.size, 0, none⟩) xs.length xs.length) (List.replicate xs.length (0, 0)) :=
    OS.made (zc := [.int .i64 0, .int .i64 0]) (fun _ _ => rfl) rfl ⟨Nat.le_refl _, by omega⟩ own1
  clear own1
  go_loopw [4] (fun i wr => ∃ k : Nat, i = .int .i64 k ∧ k ≤ xs.length ∧ OS tSd 81 wr (Iv w.heap.size (w.heap.size + 1)) (.slice (some ⟨w.heap.size, 0, none⟩) xs.length xs.length) (xs.take k ++ (List.replicate xs.length (0, 0)).drop k) ∧ w.heap.size + 1 ≤ wr.heap.size ∧ Below w.heap.size w wr)
    (fun i _ => xs.length - (intOf i).toNat)
  case atStart => exact ⟨0, rfl, by omega, by simpa using own2, hs1, bel1⟩
  case round =>
    obtain ⟨k, rfl, hk, own, hsz, hb⟩ := hrel
    by_cases hlt : k < xs.length
    · have hX := Lib.hid (List.getElem?_eq_getElem hlt)
      obtain ⟨b, o, c1, cs, hv, hab, -, hE, hc⟩ := (hr.below hb).atX hX.out
      simp only [Value.slice.injEq] at hv
      obtain ⟨rfl, -, rfl⟩ := hv
      generalize xs[k] = x at hX hE
      obtain ⟨p0, p1⟩ := x
      obtain rfl : cs = [.int .i64 p0, .int .i64 p1] := hE
      have hc0 : wr.cell? ⟨b, o + k * 2, none⟩ = some (.int .i64 p0) := hc 0 _ rfl
      have hc1 : wr.cell? ⟨b, o + k * 2 + 1, none⟩ = some (.int .i64 p1) := hc 1 _ rfl
      have hD := Lib.hid (show (xs.take k ++ (List.replicate xs.length ((0, 0) : (Int × Int))).drop k)[k]? = some (0, 0) by rw [M.mid_at (by rw [List.length_replicate])]; simp [hlt])
      clear hc
      go_wp2_with (go_at_call 108; refine (laws_toSend _ _ _).mono ?_; rintro e w2 ⟨rfl, bel2⟩; have own' := own.below bel2 hsz; obtain ⟨css, Fs, hole, cs, hcs, hE⟩ := own'.openAt hD.out; obtain rfl : cs = [.int .i64 0, .int .i64 0] := hE; have q0 : w2.cell? ⟨w.heap.size, k * 2, none⟩ = some (.int .i64 0) := (hole.cell hcs (j := 0) rfl).1; have r0 : w2.frozen? ⟨w.heap.size, k * 2, none⟩ = false := (hole.cell hcs (j := 0) rfl).2; have q1 : w2.cell? ⟨w.heap.size, k * 2 + 1, none⟩ = some (.int .i64 0) := (hole.cell hcs (j := 1) rfl).1; have r1 : w2.frozen? ⟨w.heap.size, k * 2 + 1, none⟩ = false := (hole.cell hcs (j := 1) rfl).2)
      go_roundw
      case rel =>
        have s0 := hole.set hcs 0 (by decide) (.int .i64 p0)
        have s1 := s0.1.set s0.2 1 (by decide) (.int .i64 p1)
        have h3 := s1.1.fill s1.2 (y := (p0, p1)) rfl
        rw [M.set_mid (by rw [List.length_replicate]) hX.out] at h3
        have hb2 := hb.trans (bel2.mono hb.size)
        exact ⟨k + 1, by go_num, by omega, h3, by simpa using Nat.le_trans hsz bel2.size, (hb2.setCell (Nat.le_refl _) _).setCell (Nat.le_refl _) _⟩
      case measure => simp [intOf]; omega
    · go_wp2
      go_ret
      rw [List.take_of_length_le (by omega), List.drop_eq_nil_of_le (by simp; omega), List.append_nil] at own
      exact ⟨_, _, _, rfl, sl_O.2 (own.iv (Nat.le_refl _) hsz), hb⟩
theorem nf_eq_SdS_ (A A' : Option Addr) (n c n' c' : Nat) (xs : List (Int × Int)) (w : World) (hx : tSdS.R w w.heap.size [.slice A n c] xs) (hy : tSdS.R w w.heap.size [.slice A' n' c'] xs) (hn : hSdS.sz xs ≤ 100000000) :
    Calls Tryd.prog 95 #[.slice A n c, .slice A' n' c'] w fun e w' => e = .returned (.bool true) ∧ Below w.heap.size w w' := by
  have hr := sl_R.1 hx
  have hr' := sl_R.1 hy
  obtain rfl : xs.length = n := hr.cap.1
  obtain rfl : xs.length = n' := hr'.cap.1
  rw [hSdS_sz] at hn
  clear hx hy
  go_enter Tryd.func95, Tryd.ntmps95
  go_wp2
  go_loopw [5] (fun i wr => ∃ k : Nat, i = .int .i64 k ∧ k ≤ xs.length ∧ Below w.heap.size w wr) (fun i _ => xs.length - (intOf i).toNat)
  case atStart => exact ⟨0, rfl, by omega, Below.refl _ _⟩
  case round =>
    obtain ⟨k, rfl, hk, hb⟩ := hrel
    by_cases hlt : k < xs.length
    · have hX := Lib.hid (List.getElem?_eq_getElem hlt)
      obtain ⟨b, o, c1, cs, hv, hab, -, hE, hc⟩ := (hr.below hb).atX hX.out
      obtain ⟨b', o', c1', cs', hv', hab', -, hE', hc'⟩ := (hr'.below hb).atX hX.out
      simp only [Value.slice.injEq] at hv hv'
      obtain ⟨rfl, -, rfl⟩ := hv
      obtain ⟨rfl, -, rfl⟩ := hv'
      generalize xs[k] = x at hX hE hE'
      obtain ⟨p0, p1⟩ := x
      obtain rfl : cs = [.int .i64 p0, .int .i64 p1] := hE
      obtain rfl : cs' = [.int .i64 p0, .int .i64 p1] := hE'
      have hc0 : wr.cell? ⟨b, o + k * 2, none⟩ = some (.int .i64 p0) := hc 0 _ rfl
      have hc1 : wr.cell? ⟨b, o + k * 2 + 1, none⟩ = some (.int .i64 p1) := hc 1 _ rfl
      have hd0 : wr.cell? ⟨b', o' + k * 2, none⟩ = some (.int .i64 p0) := hc' 0 _ rfl
      have hd1 : wr.cell? ⟨b', o' + k * 2 + 1, none⟩ = some (.int .i64 p1) := hc' 1 _ rfl
      have hbr : b < wr.heap.size := Nat.lt_of_lt_of_le hab hb.size
      have hbr' : b' < wr.heap.size := Nat.lt_of_lt_of_le hab' hb.size
      clear hc hc'
      go_wp2
      go_region_held3 (fun w' => Below wr.heap.size wr w' ∧ w'.cell? ⟨b, o + k * 2, none⟩ = some (.int .i64 p0) ∧ w'.cell? ⟨b, o + k * 2 + 1, none⟩ = some (.int .i64 p1) ∧ w'.cell? ⟨b', o' + k * 2, none⟩ = some (.int .i64 p0) ∧ w'.cell? ⟨b', o' + k * 2 + 1, none⟩ = some (.int .i64 p1))
        (first
          | exact ⟨below_drewN (Below.refl _ _) _, hc0, hc1, hd0, hd1⟩
          | exact ⟨keptB_all bel2 rfl (And.left (by assumption)), keptB bel2 rfl (And.left (by assumption)) hc0 hbr, keptB bel2 rfl (And.left (by assumption)) hc1 hbr, keptB bel2 rfl (And.left (by assumption)) hd0 hbr', keptB bel2 rfl (And.left (by assumption)) hd1 hbr'⟩)
        (first | (go_at_call 109; refine (nf_eq_Send _ _ _).mono ?_; rintro e w2 ⟨rfl, bel2⟩))
      go_wp2
      go_roundw
      case rel => exact ⟨k + 1, by go_num, by omega, hb.trans ((keptB_all bel2 rfl (below_drewN (Below.refl _ _) _)).mono hb.size)⟩
      case measure => simp [intOf]; omega
    · go_wp2
      go_ret
      exact ⟨rfl, hb⟩
theorem nf_sz_SdS_ (A : Option Addr) (n c : Nat) (xs : List (Int × Int)) (l : Int) (w : World) (hx : tSdS.R w w.heap.size [.slice A n c] xs) (hl : 0 ≤ l ∧ l ≤ 1000000000) :
    Calls Tryd.prog 89 #[.slice A n c, .int .i64 l] w fun e w' => e = .returned (.int .i64 (if (hSdS.sz xs : Int) ≤ l then l - hSdS.sz xs else -1)) ∧ Below w.heap.size w w' := by
  obtain ⟨h1, h2, h3⟩ := (sl_R.1 hx).cap
  have hn : n ≤ 9223372036854775807 := by unfold maxLen at h3; omega
  rw [hSdS_sz, h1]
  clear h1 h2 h3 hx
  by_cases h : (n : Int) ≤ l
  all_goals
    go_enter Tryd.func89, Tryd.ntmps89
    go_wp2
    go_ret
    exact ⟨rfl, Below.refl _ _⟩
end Go.Proofs.YtecdendjlgohjaaDoor
namespace Go.Proofs.YtecdendjlgohjaaDoor
open Go.RowKit
set_option maxHeartbeats 2000000
set_option maxRecDepth 100000
/-- A text. -/
def tStr : Ty ByteArray where
  s := 1
  pos := Nat.one_pos
  zero := ⟨#[]⟩
  R _ _ cs x := cs = [.string x] ∧ x.size ≤ maxLen
  O _ _ cs x := cs = [.string x] ∧ x.size ≤ maxLen
  rlen := by rintro w B cs x ⟨rfl, _⟩; rfl
  keep := fun _ h => h
  more := fun _ h => h
  read := fun h => h
  okeep := fun _ h => h
  owide := fun _ h => h
  ocells := by rintro w F cs x ⟨rfl, _⟩ u hu; simp only [List.mem_singleton] at hu; subst hu; rfl
  oreal := fun h => h
def M.digs (k : Nat) : List UInt8 := if k = 0 then [] else M.digs (k / 10) ++ [UInt8.ofNat (48 + k % 10)]
/-- The text that a mark writes. -/
def M.markT (k : Int) : ByteArray := if k ≤ 0 then ⟨#[109, 48]⟩ else ⟨(109 :: M.digs k.toNat).toArray⟩
def hStr : Hs ByteArray := ⟨fun s => s.size, fun k _ => M.markT k, fun _ => 1⟩
abbrev Strip := ByteArray × Int × List (Int × Int)
abbrev tSt : Ty Strip := tStr.prod (tI.prod tSdS)
abbrev hSt : Hs Strip := hStr.prod (hI.prod hSdS)
abbrev tM : Ty (List Strip) := tSt.sl 79
abbrev hM : Hs (List Strip) := hSt.sl
section
variable {w : World} {B : Nat} {F : Nat → Prop} {cs : List Value} {s : ByteArray} {l : Int} {xs : List (Int × Int)}
theorem open_Sd {cs : List Value} (h : tSdS.R w B cs xs) : ∃ A n c, cs = [.slice A n c] := by
  obtain ⟨v, rfl, hr⟩ := h
  obtain ⟨A, c, rfl⟩ := hr.shape
  exact ⟨_, _, _, rfl⟩
theorem st_R : tSt.R w B cs (s, l, xs) ↔ ∃ A n c, cs = [.string s, .int .i64 l, .slice A n c] ∧ s.size ≤ maxLen ∧ tSdS.R w B [.slice A n c] xs := by
  constructor
  · rintro ⟨c1, c2, rfl, ⟨rfl, h1⟩, c3, c4, rfl, h2, h3⟩
    obtain rfl : c3 = [.int .i64 l] := h2
    obtain ⟨A, n, c, rfl⟩ := open_Sd h3
    exact ⟨A, n, c, rfl, h1, h3⟩
  · rintro ⟨A, n, c, rfl, h1, h3⟩
    exact ⟨[.string s], _, rfl, ⟨rfl, h1⟩, [.int .i64 l], _, rfl, rfl, h3⟩
theorem st_O : tSt.O w F cs (s, l, xs) ↔ ∃ A n c, cs = [.string s, .int .i64 l, .slice A n c] ∧ s.size ≤ maxLen ∧ tSdS.O w F [.slice A n c] xs := by
  constructor
  · rintro ⟨c1, c2, F1, F2, rfl, ⟨rfl, h1⟩, ⟨c3, c4, F3, F4, rfl, h2, h3, f3, f4, _⟩, f1, f2, _⟩
    obtain rfl : c3 = [.int .i64 l] := h2
    obtain ⟨A, n, c, rfl⟩ := open_Sd (tSdS.read h3)
    exact ⟨A, n, c, rfl, h1, tSdS.owide (fun b hb => f2 b (f4 b hb)) h3⟩
  · rintro ⟨A, n, c, rfl, h1, h3⟩
    exact ⟨[.string s], _, fun _ => False, F, rfl, ⟨rfl, h1⟩, ⟨[.int .i64 l], _, fun _ => False, F, rfl, rfl, h3, fun _ h => h.elim, fun _ h => h, fun _ h => h.elim⟩, fun _ h => h.elim, fun _ h => h, fun _ h => h.elim⟩
theorem hSt_sz (s : ByteArray) (l : Int) (xs : List (Int × Int)) : hSt.sz (s, l, xs) = s.size + xs.length := by
  show s.size + (0 + hSdS.sz xs) = _
  rw [hSdS_sz, Nat.zero_add]
theorem hSt_cnt (s : ByteArray) (l : Int) (xs : List (Int × Int)) : hSt.cnt (s, l, xs) = 2 + 2 * xs.length := by
  show 1 + (1 + hSdS.cnt xs) = _
  rw [hSdS_cnt]
  omega
end
theorem nf_sz_St (s : ByteArray) (l0 : Int) (A : Option Addr) (n c : Nat) (xs : List (Int × Int)) (l : Int) (w : World) (hs : s.size ≤ maxLen) (hx : tSdS.R w w.heap.size [.slice A n c] xs) (hl : 0 ≤ l ∧ l ≤ 1000000000) :
    Calls Tryd.prog 69 #[.agg #[.string s, .int .i64 l0, .slice A n c], .int .i64 l] w fun e w' => e = .returned (.int .i64 (if (hSt.sz (s, l0, xs) : Int) ≤ l then l - hSt.sz (s, l0, xs) else -1)) ∧ Below w.heap.size w w' := by
  have hb : Below w.heap.size w (w.alloc (.cells #[.string s, .int .i64 l0, .slice A n c] 118)) := (Below.refl _ _).alloc (Nat.le_refl _) _
  have hx2 := tSdS.later hx hb
  unfold maxLen at hs
  rw [hSt_sz]
  have hz := hSdS_sz xs
  by_cases h1 : (s.size : Int) ≤ l
  · by_cases h2 : (xs.length : Int) ≤ l - s.size
    · have hi := Lib.hid (show (if (hSdS.sz xs : Int) ≤ l - s.size then l - s.size - hSdS.sz xs else -1) = l - s.size - xs.length by rw [hz, if_pos h2])
      have hj := Lib.hid (show (if ((s.size + xs.length : Nat) : Int) ≤ l then l - ((s.size + xs.length : Nat) : Int) else -1) = l - s.size - xs.length by rw [if_pos (by omega)]; omega)
      rw [hj.out]
      clear hz
      go_enter Tryd.func69, Tryd.ntmps69
      go_wp2_with (go_at_call 89; refine (nf_sz_SdS_ _ _ _ _ _ _ hx2 (by omega)).mono ?_; rw [hi.out]; rintro e w2 ⟨rfl, bel2⟩)
      go_ret
      exact ⟨rfl, hb.trans (bel2.mono hb.size)⟩
    · have hi := Lib.hid (show (if (hSdS.sz xs : Int) ≤ l - s.size then l - s.size - hSdS.sz xs else -1) = -1 by rw [hz, if_neg h2])
      have hj := Lib.hid (show (if ((s.size + xs.length : Nat) : Int) ≤ l then l - ((s.size + xs.length : Nat) : Int) else -1) = -1 by rw [if_neg (by omega)])
      rw [hj.out]
      clear hz
      go_enter Tryd.func69, Tryd.ntmps69
      go_wp2_with (go_at_call 89; refine (nf_sz_SdS_ _ _ _ _ _ _ hx2 (by omega)).mono ?_; rw [hi.out]; rintro e w2 ⟨rfl, bel2⟩)
      go_ret
      exact ⟨rfl, hb.trans (bel2.mono hb.size)⟩
  · have hj := Lib.hid (show (if ((s.size + xs.length : Nat) : Int) ≤ l then l - ((s.size + xs.length : Nat) : Int) else -1) = -1 by rw [if_neg (by omega)])
    rw [hj.out]
    clear hz
    go_enter Tryd.func69, Tryd.ntmps69
    go_wp2
    go_ret
    exact ⟨rfl, hb⟩
theorem nf_sz_M_ (A : Option Addr) (n c : Nat) (xs : List Strip) (l : Int) (w : World) (hx : tM.R w w.heap.size [.slice A n c] xs) (hl : 0 ≤ l ∧ l ≤ 1000000000) :
    Calls Tryd.prog 38 #[.slice A n c, .int .i64 l] w fun e w' => e = .returned (.int .i64 (if (hM.sz xs : Int) ≤ l then l - hM.sz xs else -1)) ∧ Below w.heap.size w w' := by
  have hr := sl_R.1 hx
  obtain ⟨h1, h2, h3⟩ := hr.cap
  have hn : n ≤ 9223372036854775807 := by unfold maxLen at h3; omega
  obtain rfl : xs.length = n := h1
  have hzz : hM.sz xs = xs.length + hSt.szL xs := rfl
  have HZ := Lib.hid hzz
  clear h2 h3 hx hzz
  generalize hR : (if (hM.sz xs : Int) ≤ l then l - (hM.sz xs : Int) else -1) = R
  have HR := Lib.hid hR
  clear hR
  by_cases h : (xs.length : Int) ≤ l
  · go_enter Tryd.func38, Tryd.ntmps38
    go_wp2
    go_loopw [1, 5] (fun q i wr => ∃ k : Nat, i = .int .i64 k ∧ k ≤ xs.length ∧ (hSt.szL (xs.take k) : Int) ≤ l - xs.length ∧ q = .int .i64 (l - xs.length - hSt.szL (xs.take k)) ∧ Below w.heap.size w wr) (fun _ i _ => xs.length - (intOf i).toNat)
    case atStart => exact ⟨0, rfl, by omega, by simp [Hs.szL]; omega, by simp [Hs.szL], Below.refl _ _⟩
    case round =>
      obtain ⟨k, rfl, hk, hz, rfl, hb⟩ := hrel
      by_cases hlt : k < xs.length
      · have hX := Lib.hid (List.getElem?_eq_getElem hlt)
        obtain ⟨b, o, c1, cs, hv, hab, -, hE, hc⟩ := (hr.below hb).atX hX.out
        simp only [Value.slice.injEq] at hv
        obtain ⟨rfl, -, rfl⟩ := hv
        have hT := Lib.hid (hSt.szL_take hX.out)
        have hU := hSt.szL_at hX.out
        generalize xs[k] = x at hX hE hT hU
        obtain ⟨s, l0, ys⟩ := x
        obtain ⟨A1, n1, c1, rfl, hs, hE⟩ := st_R.1 hE
        have hc0 : wr.cell? ⟨b, o + k * 3, none⟩ = some (.string s) := hc 0 _ rfl
        have hc1 : wr.cell? ⟨b, o + k * 3 + 1, none⟩ = some (.int .i64 l0) := hc 1 _ rfl
        have hc2 : wr.cell? ⟨b, o + k * 3 + 2, none⟩ = some (.slice A1 n1 c1) := hc 2 _ rfl
        have hF := tSdS.more hb.size hE
        clear hc
        by_cases hle : (hSt.sz (s, l0, ys) : Int) ≤ l - xs.length - hSt.szL (xs.take k)
        · have hi := Lib.hid (show (if (hSt.sz (s, l0, ys) : Int) ≤ l - xs.length - hSt.szL (xs.take k) then l - xs.length - hSt.szL (xs.take k) - hSt.sz (s, l0, ys) else -1) = l - xs.length - hSt.szL (xs.take k) - hSt.sz (s, l0, ys) by rw [if_pos hle])
          go_wp2_with (go_at_call 69; refine (nf_sz_St _ _ _ _ _ _ _ _ hs hF (by omega)).mono ?_; rw [hi.out]; rintro e w2 ⟨rfl, bel2⟩)
          go_roundw
          case rel => exact ⟨k + 1, by go_num, by omega, by rw [hT.out]; omega, by rw [hT.out]; go_num, hb.trans (bel2.mono hb.size)⟩
          case measure => simp [intOf]; omega
        · have hi := Lib.hid (show (if (hSt.sz (s, l0, ys) : Int) ≤ l - xs.length - hSt.szL (xs.take k) then l - xs.length - hSt.szL (xs.take k) - hSt.sz (s, l0, ys) else -1) = -1 by rw [if_neg hle])
          have hj := Lib.hid (show (if (hM.sz xs : Int) ≤ l then l - hM.sz xs else -1) = -1 by rw [HZ.out, if_neg (by omega)])
          go_wp2_with (go_at_call 69; refine (nf_sz_St _ _ _ _ _ _ _ _ hs hF (by omega)).mono ?_; rw [hi.out]; rintro e w2 ⟨rfl, bel2⟩)
          go_ret
          exact ⟨ret_int (hj.out.symm.trans HR.out), hb.trans (bel2.mono hb.size)⟩
      · obtain rfl : xs.length = k := by omega
        rw [List.take_of_length_le (Nat.le_refl _)] at hz ⊢
        have hj := Lib.hid (show (if (hM.sz xs : Int) ≤ l then l - hM.sz xs else -1) = l - xs.length - hSt.szL xs by rw [HZ.out, if_pos (by omega)]; omega)
        go_wp2
        go_ret
        exact ⟨ret_int (hj.out.symm.trans HR.out), hb⟩
  · have hj := Lib.hid (show (if (hM.sz xs : Int) ≤ l then l - hM.sz xs else -1) = -1 by rw [HZ.out, if_neg (by omega)])
    go_enter Tryd.func38, Tryd.ntmps38
    go_wp2
    go_ret
    exact ⟨ret_int (hj.out.symm.trans HR.out), Below.refl _ _⟩
end Go.Proofs.YtecdendjlgohjaaDoor
namespace Go.Proofs.YtecdendjlgohjaaDoor
open Go.RowKit
theorem Ty.oset {α : Type} (t : Ty α) {w : World} {lo hi g o : Nat} {cs : List Value} {x : α} {u : Value} (h : t.O w (Iv lo hi) cs x) (hg : g < lo ∨ hi ≤ g) : t.O (w.setCell ⟨g, o, none⟩ u) (Iv lo hi) cs x :=
  t.okeep (fun b ⟨h1, h2⟩ => heap_setCell_other w ⟨g, o, none⟩ b u (fun e => by simp only at e; omega)) h
end Go.Proofs.YtecdendjlgohjaaDoor
namespace Go.Proofs.YtecdendjlgohjaaDoor
open Go.RowKit
set_option maxHeartbeats 2000000
set_option maxRecDepth 100000
theorem ei_st : EI Tryd.prog 38 79 (.agg #[.string ⟨#[]⟩, .int .i64 0, .slice none 0 0]) 3 48 := ⟨Tryd.underlying38, by kernel_rfl, rfl, by decide⟩
theorem st_zero (w : World) (F : Nat → Prop) : tSt.O w F [.string ⟨#[]⟩, .int .i64 0, .slice none 0 0] (⟨#[]⟩, 0, []) := st_O.2 ⟨none, 0, 0, rfl, Nat.zero_le _, _, rfl, OS.nil _ _ _ _⟩
theorem nf_to_St (s : ByteArray) (l0 : Int) (A : Option Addr) (n c : Nat) (xs : List (Int × Int)) (w : World) (hx : tSdS.R w w.heap.size [.slice A n c] xs) (hn : hSdS.sz xs ≤ 100000000) :
    Calls Tryd.prog 71 #[.agg #[.string s, .int .i64 l0, .slice A n c]] w fun e w' => ∃ A' n' c', e = .returned (.agg #[.string s, .int .i64 l0, .slice A' n' c']) ∧ tSdS.O w' (Iv w.heap.size w'.heap.size) [.slice A' n' c'] xs ∧ Below w.heap.size w w' := by
  have hb : Below w.heap.size w (((w.alloc (.cells #[.string s, .int .i64 l0, .slice A n c] 118)).alloc (.cells #[.string ⟨#[]⟩, .int .i64 0, .slice none 0 0] 79)).alloc (.cells #[.string s, .int .i64 l0, .slice none 0 0] 79)) := (((Below.refl _ _).alloc (Nat.le_refl _) _).alloc (by simp) _).alloc (by simp; omega) _
  have hx2 := tSdS.later hx hb
  go_enter Tryd.func71, Tryd.ntmps71
  go_wp2_with (go_at_call 92; refine (nf_to_SdS_ _ _ _ _ _ hx2 hn).mono ?_; rintro e w2 ⟨A2, n2, c2, rfl, own2, bel2⟩; have q10 : w2.cell? ⟨w.heap.size + 1, 0, none⟩ = some (.string ⟨#[]⟩) := (by rw [bel2.cell (by first | omega | (simp; done) | (simp; omega))]; simp [go_sem]); have r10 : w2.frozen? ⟨w.heap.size + 1, 0, none⟩ = false := (by rw [bel2.frozen (by first | omega | (simp; done) | (simp; omega))]; simp [go_sem]); have q20 : w2.cell? ⟨w.heap.size + 1 + 1, 0, none⟩ = some (.string s) := (by rw [bel2.cell (by first | omega | (simp; done) | (simp; omega))]; simp [go_sem]); have r20 : w2.frozen? ⟨w.heap.size + 1 + 1, 0, none⟩ = false := (by rw [bel2.frozen (by first | omega | (simp; done) | (simp; omega))]; simp [go_sem]); have q11 : w2.cell? ⟨w.heap.size + 1, 1, none⟩ = some (.int .i64 0) := (by rw [bel2.cell (by first | omega | (simp; done) | (simp; omega))]; simp [go_sem]); have r11 : w2.frozen? ⟨w.heap.size + 1, 1, none⟩ = false := (by rw [bel2.frozen (by first | omega | (simp; done) | (simp; omega))]; simp [go_sem]); have q21 : w2.cell? ⟨w.heap.size + 1 + 1, 1, none⟩ = some (.int .i64 l0) := (by rw [bel2.cell (by first | omega | (simp; done) | (simp; omega))]; simp [go_sem]); have r21 : w2.frozen? ⟨w.heap.size + 1 + 1, 1, none⟩ = false := (by rw [bel2.frozen (by first | omega | (simp; done) | (simp; omega))]; simp [go_sem]); have q12 : w2.cell? ⟨w.heap.size + 1, 2, none⟩ = some (.slice none 0 0) := (by rw [bel2.cell (by first | omega | (simp; done) | (simp; omega))]; simp [go_sem]); have r12 : w2.frozen? ⟨w.heap.size + 1, 2, none⟩ = false := (by rw [bel2.frozen (by first | omega | (simp; done) | (simp; omega))]; simp [go_sem]); have q22 : w2.cell? ⟨w.heap.size + 1 + 1, 2, none⟩ = some (.slice none 0 0) := (by rw [bel2.cell (by first | omega | (simp; done) | (simp; omega))]; simp [go_sem]); have r22 : w2.frozen? ⟨w.heap.size + 1 + 1, 2, none⟩ = false := (by rw [bel2.frozen (by first | omega | (simp; done) | (simp; omega))]; simp [go_sem]); have hs2 : w.heap.size + 1 + 1 + 1 ≤ w2.heap.size := (by have := bel2.size; simpa using this))
  have m1 : Mid (w.heap.size + 1) (w.heap.size + 1 + 1 + 1) w2 ((((w2.setCell ⟨w.heap.size + 1 + 1, 2, none⟩ (Value.slice A2 n2 c2)).setCell ⟨w.heap.size + 1, 0, none⟩ (.string s)).setCell ⟨w.heap.size + 1, 1, none⟩ (.int .i64 l0)).setCell ⟨w.heap.size + 1, 2, none⟩ (Value.slice A2 n2 c2)) :=
    (((Mid.of_grown (grown_setCell w2 (w.heap.size + 1 + 1) 2 _) fun k hk => by injection hk with hk; omega).trans (Mid.of_grown (grown_setCell _ (w.heap.size + 1) 0 _) fun k hk => by injection hk with hk; omega)).trans (Mid.of_grown (grown_setCell _ (w.heap.size + 1) 1 _) fun k hk => by injection hk with hk; omega)).trans (Mid.of_grown (grown_setCell _ (w.heap.size + 1) 2 _) fun k hk => by injection hk with hk; omega)
  refine bodyPost_ret (v := .agg #[.string s, .int .i64 l0, .slice A2 n2 c2]) (by simp [results, Tryd.results71, go_sem, q10, r10, q20, r20, q11, r11, q21, r21, q12, r12, q22, r22]) rfl ?_
  refine ⟨_, _, _, rfl, ?_, ?_⟩
  · exact tSdS.oiv (tSdS.omid own2 m1 (.inr (by simp)) (Nat.le_refl _)) (by simp; omega) m1.size
  · exact (hb.trans (bel2.mono hb.size)).trans ((m1.toBelow (by omega)).mono (by omega))
theorem nf_to_M_ (A : Option Addr) (n c : Nat) (xs : List Strip) (w : World) (hx : tM.R w w.heap.size [.slice A n c] xs) (hn : hM.sz xs ≤ 100000000) :
    Calls Tryd.prog 41 #[.slice A n c] w fun e w' => ∃ A' n' c', e = .returned (.slice A' n' c') ∧ tM.O w' (Iv w.heap.size w'.heap.size) [.slice A' n' c'] xs ∧ Below w.heap.size w w' := by
  have hr := sl_R.1 hx
  obtain rfl : xs.length = n := hr.cap.1
  have hn1 : xs.length + hSt.szL xs ≤ 100000000 := hn
  clear hx hn
  go_enter Tryd.func41, Tryd.ntmps41
  go_wp2_with (at_make; refine wpList_mk ei_st rfl _ _ rfl xs.length _ _ rfl rfl rfl rfl (by omega) (by unfold maxLen; omega) ?_; intro w1 own1 bel1)
  have hs1 : w.heap.size + 1 ≤ w1.heap.size := (World.ownsRow.lt own1 _ rfl).2
  have own2 : OS tSt 79 w1 (Iv w.heap.size w1.heap.size) (.slice (some ⟨w.heap.size, 0, none⟩) xs.length xs.length) (List.replicate xs.length (⟨#[]⟩, 0, [])) :=
    OS.made (t := tSt) (zc := [.string ⟨#[]⟩, .int .i64 0, .slice none 0 0]) st_zero rfl ⟨Nat.le_refl _, by omega⟩ own1
  clear own1
  go_loopw [4] (fun i wr => ∃ k : Nat, i = .int .i64 k ∧ k ≤ xs.length ∧ OS tSt 79 wr (Iv w.heap.size wr.heap.size) (.slice (some ⟨w.heap.size, 0, none⟩) xs.length xs.length) (xs.take k ++ (List.replicate xs.length (⟨#[]⟩, 0, [])).drop k) ∧ w.heap.size + 1 ≤ wr.heap.size ∧ Below w.heap.size w wr)
    (fun i _ => xs.length - (intOf i).toNat)
  case atStart => exact ⟨0, rfl, by omega, by simpa using own2, hs1, bel1⟩
  case round =>
    obtain ⟨k, rfl, hk, own, hsz, hb⟩ := hrel
    by_cases hlt : k < xs.length
    · have hX := Lib.hid (List.getElem?_eq_getElem hlt)
      obtain ⟨b, o, c1, cs, hv, hab, -, hE, hc⟩ := (hr.below hb).atX hX.out
      simp only [Value.slice.injEq] at hv
      obtain ⟨rfl, -, rfl⟩ := hv
      have hU := hSt.szL_at hX.out
      generalize xs[k] = x at hX hE hU
      obtain ⟨s, l0, ys⟩ := x
      rw [hSt_sz] at hU
      obtain ⟨A1, n1, c1, rfl, hs, hE⟩ := st_R.1 hE
      have hc0 : wr.cell? ⟨b, o + k * 3, none⟩ = some (.string s) := hc 0 _ rfl
      have hc1 : wr.cell? ⟨b, o + k * 3 + 1, none⟩ = some (.int .i64 l0) := hc 1 _ rfl
      have hc2 : wr.cell? ⟨b, o + k * 3 + 2, none⟩ = some (.slice A1 n1 c1) := hc 2 _ rfl
      have hF := tSdS.more hb.size hE
      have hz := hSdS_sz ys
      have hz2 : hSdS.sz ys ≤ 100000000 := by omega
      clear hc hz
      have hD := Lib.hid (show (xs.take k ++ (List.replicate xs.length ((⟨#[]⟩, 0, []) : Strip)).drop k)[k]? = some (⟨#[]⟩, 0, []) by rw [M.mid_at (by rw [List.length_replicate])]; simp [hlt])
      go_wp2_with (go_at_call 71; refine (nf_to_St _ _ _ _ _ _ _ hF hz2).mono ?_; rintro e w2 ⟨A2, n2, c2, rfl, o2, bel2⟩; have own' := own.below bel2 (Nat.le_refl _); obtain ⟨css, Fs, hole, cs, hcs, hE⟩ := own'.openAt hD.out; obtain ⟨A0, n0, c0, rfl, -, -⟩ := st_O.1 hE; have q0 := (hole.cell hcs (j := 0) rfl).1; have r0 := (hole.cell hcs (j := 0) rfl).2; have q1 := (hole.cell hcs (j := 1) rfl).1; have r1 := (hole.cell hcs (j := 1) rfl).2; have q2 := (hole.cell hcs (j := 2) rfl).1; have r2 := (hole.cell hcs (j := 2) rfl).2; have z2 := bel2.size; change w2.cell? ⟨w.heap.size, k * 3 + 0, none⟩ = _ at q0; change w2.frozen? ⟨w.heap.size, k * 3 + 0, none⟩ = _ at r0; change w2.cell? ⟨w.heap.size, k * 3 + 1, none⟩ = _ at q1; change w2.frozen? ⟨w.heap.size, k * 3 + 1, none⟩ = _ at r1; change w2.cell? ⟨w.heap.size, k * 3 + 2, none⟩ = _ at q2; change w2.frozen? ⟨w.heap.size, k * 3 + 2, none⟩ = _ at r2; rw [Nat.add_zero] at q0 r0)
      go_roundw
      case rel =>
        have s0 := hole.set hcs 0 (by decide) (.string s)
        have s1 := s0.1.set s0.2 1 (by decide) (.int .i64 l0)
        have s2 := s1.1.set s1.2 2 (by decide) (.slice A2 n2 c2)
        have o3 := tSdS.oset (g := w.heap.size) (o := k * 3 + 2) (u := .slice A2 n2 c2) (tSdS.oset (g := w.heap.size) (o := k * 3 + 1) (u := .int .i64 l0) (tSdS.oset (g := w.heap.size) (o := k * 3 + 0) (u := .string s) o2 (.inl (by omega))) (.inl (by omega))) (.inl (by omega))
        have h3 := s2.1.fill' s2.2 (y := (s, l0, ys)) (Fe := Iv wr.heap.size w2.heap.size) (st_O.2 ⟨A2, n2, c2, rfl, hs, o3⟩) (fun b h1 h2 => by have := h1.1; have := h2.2; omega)
        rw [M.set_mid (by rw [List.length_replicate]) hX.out] at h3
        have hb2 := hb.trans (bel2.mono hb.size)
        exact ⟨k + 1, by go_num, by omega, h3.wide (fun b hb => ⟨by unfold Iv at hb; omega, by simp; unfold Iv at hb; omega⟩), by simp; omega, ((hb2.setCell (Nat.le_refl _) _).setCell (Nat.le_refl _) _).setCell (Nat.le_refl _) _⟩
      case measure => simp [intOf]; omega
    · go_wp2
      go_ret
      rw [List.take_of_length_le (by omega), List.drop_eq_nil_of_le (by simp; omega), List.append_nil] at own
      exact ⟨_, _, _, rfl, sl_O.2 own, hb⟩
theorem nf_eq_St (s : ByteArray) (l0 : Int) (A A' : Option Addr) (n c n' c' : Nat) (xs : List (Int × Int)) (w : World) (hx : tSdS.R w w.heap.size [.slice A n c] xs) (hy : tSdS.R w w.heap.size [.slice A' n' c'] xs) (hn : hSdS.sz xs ≤ 100000000) :
    Calls Tryd.prog 75 #[.agg #[.string s, .int .i64 l0, .slice A n c], .agg #[.string s, .int .i64 l0, .slice A' n' c']] w fun e w' => e = .returned (.bool true) ∧ Below w.heap.size w w' := by
  have hb : Below w.heap.size w ((w.alloc (.cells #[.string s, .int .i64 l0, .slice A n c] 79)).alloc (.cells #[.string s, .int .i64 l0, .slice A' n' c'] 79)) := ((Below.refl _ _).alloc (Nat.le_refl _) _).alloc (by simp) _
  have hx2 := tSdS.later hx hb
  have hy2 := tSdS.later hy hb
  go_enter Tryd.func75, Tryd.ntmps75
  go_wp2_with (go_at_call 95; refine (nf_eq_SdS_ _ _ _ _ _ _ _ _ hx2 hy2 hn).mono ?_; rintro e w2 ⟨rfl, bel2⟩)
  go_ret
  exact ⟨rfl, hb.trans (bel2.mono hb.size)⟩
theorem nf_eq_M_ (A A' : Option Addr) (n c n' c' : Nat) (xs : List Strip) (w : World) (hx : tM.R w w.heap.size [.slice A n c] xs) (hy : tM.R w w.heap.size [.slice A' n' c'] xs) (hn : hM.sz xs ≤ 100000000) :
    Calls Tryd.prog 43 #[.slice A n c, .slice A' n' c'] w fun e w' => e = .returned (.bool true) ∧ Below w.heap.size w w' := by
  have hr := sl_R.1 hx
  have hr' := sl_R.1 hy
  obtain rfl : xs.length = n := hr.cap.1
  obtain rfl : xs.length = n' := hr'.cap.1
  have hn1 : xs.length + hSt.szL xs ≤ 100000000 := hn
  clear hx hy hn
  go_enter Tryd.func43, Tryd.ntmps43
  go_wp2
  go_loopw [5] (fun i wr => ∃ k : Nat, i = .int .i64 k ∧ k ≤ xs.length ∧ Below w.heap.size w wr) (fun i _ => xs.length - (intOf i).toNat)
  case atStart => exact ⟨0, rfl, by omega, Below.refl _ _⟩
  case round =>
    obtain ⟨k, rfl, hk, hb⟩ := hrel
    by_cases hlt : k < xs.length
    · have hX := Lib.hid (List.getElem?_eq_getElem hlt)
      obtain ⟨b, o, c1, cs, hv, hab, -, hE, hc⟩ := (hr.below hb).atX hX.out
      obtain ⟨b', o', c1', cs', hv', hab', -, hE', hc'⟩ := (hr'.below hb).atX hX.out
      simp only [Value.slice.injEq] at hv hv'
      obtain ⟨rfl, -, rfl⟩ := hv
      obtain ⟨rfl, -, rfl⟩ := hv'
      have hU := hSt.szL_at hX.out
      generalize xs[k] = x at hX hE hE' hU
      obtain ⟨s, l0, ys⟩ := x
      rw [hSt_sz] at hU
      obtain ⟨A1, n1, c1, rfl, hs, hE⟩ := st_R.1 hE
      obtain ⟨A2, n2, c2, rfl, -, hE'⟩ := st_R.1 hE'
      have hc0 : wr.cell? ⟨b, o + k * 3, none⟩ = some (.string s) := hc 0 _ rfl
      have hc1 : wr.cell? ⟨b, o + k * 3 + 1, none⟩ = some (.int .i64 l0) := hc 1 _ rfl
      have hc2 : wr.cell? ⟨b, o + k * 3 + 2, none⟩ = some (.slice A1 n1 c1) := hc 2 _ rfl
      have hd0 : wr.cell? ⟨b', o' + k * 3, none⟩ = some (.string s) := hc' 0 _ rfl
      have hd1 : wr.cell? ⟨b', o' + k * 3 + 1, none⟩ = some (.int .i64 l0) := hc' 1 _ rfl
      have hd2 : wr.cell? ⟨b', o' + k * 3 + 2, none⟩ = some (.slice A2 n2 c2) := hc' 2 _ rfl
      have hbr : b < wr.heap.size := Nat.lt_of_lt_of_le hab hb.size
      have hbr' : b' < wr.heap.size := Nat.lt_of_lt_of_le hab' hb.size
      have hz := hSdS_sz ys
      have hz2 : hSdS.sz ys ≤ 100000000 := by omega
      have hF := tSdS.later (tSdS.more hb.size hE) (below_drewN (Below.refl _ _) 1)
      have hF' := tSdS.later (tSdS.more hb.size hE') (below_drewN (Below.refl _ _) 1)
      clear hc hc' hE hE' hz
      go_wp2
      go_region_held3 (fun w' => Below wr.heap.size wr w' ∧ w'.cell? ⟨b, o + k * 3, none⟩ = some (.string s) ∧ w'.cell? ⟨b, o + k * 3 + 1, none⟩ = some (.int .i64 l0) ∧ w'.cell? ⟨b, o + k * 3 + 2, none⟩ = some (.slice A1 n1 c1) ∧ w'.cell? ⟨b', o' + k * 3, none⟩ = some (.string s) ∧ w'.cell? ⟨b', o' + k * 3 + 1, none⟩ = some (.int .i64 l0) ∧ w'.cell? ⟨b', o' + k * 3 + 2, none⟩ = some (.slice A2 n2 c2))
        (first
          | exact ⟨below_drewN (Below.refl _ _) _, hc0, hc1, hc2, hd0, hd1, hd2⟩
          | exact ⟨keptB_all bel2 rfl (And.left (by assumption)), keptB bel2 rfl (And.left (by assumption)) hc0 hbr, keptB bel2 rfl (And.left (by assumption)) hc1 hbr, keptB bel2 rfl (And.left (by assumption)) hc2 hbr, keptB bel2 rfl (And.left (by assumption)) hd0 hbr', keptB bel2 rfl (And.left (by assumption)) hd1 hbr', keptB bel2 rfl (And.left (by assumption)) hd2 hbr'⟩)
        (first | (go_at_call 75; refine (nf_eq_St _ _ _ _ _ _ _ _ _ _ hF hF' hz2).mono ?_; rintro e w2 ⟨rfl, bel2⟩))
      go_wp2
      go_roundw
      case rel => exact ⟨k + 1, by go_num, by omega, hb.trans ((keptB_all bel2 rfl (below_drewN (Below.refl _ _) _)).mono hb.size)⟩
      case measure => simp [intOf]; omega
    · go_wp2
      go_ret
      exact ⟨rfl, hb⟩
end Go.Proofs.YtecdendjlgohjaaDoor
namespace Go.Proofs.YtecdendjlgohjaaDoor
open Go.RowKit
set_option maxHeartbeats 2000000
set_option maxRecDepth 100000
theorem nf_sz_M (A : Option Addr) (n c : Nat) (xs : List Strip) (l : Int) (w : World) (hx : tM.R w w.heap.size [.slice A n c] xs) (hl : 0 ≤ l ∧ l ≤ 1000000000) :
    Calls Tryd.prog 12 #[.agg #[.slice A n c], .int .i64 l] w fun e w' => e = .returned (.int .i64 (if (hM.sz xs : Int) ≤ l then l - hM.sz xs else -1)) ∧ Below w.heap.size w w' := by
  have hb : Below w.heap.size w (w.alloc (.cells #[.slice A n c] 35)) := (Below.refl _ _).alloc (Nat.le_refl _) _
  have hx2 := tM.later hx hb
  by_cases h : (hM.sz xs : Int) ≤ l
  · have hi := Lib.hid (show (if (hM.sz xs : Int) ≤ l then l - hM.sz xs else -1) = l - hM.sz xs by rw [if_pos h])
    go_enter Tryd.func12, Tryd.ntmps12
    go_wp2_with (go_at_call 38; refine (nf_sz_M_ _ _ _ _ _ _ hx2 hl).mono ?_; rw [hi.out]; rintro e w2 ⟨rfl, bel2⟩)
    go_ret
    exact ⟨hi.out ▸ rfl, hb.trans (bel2.mono hb.size)⟩
  · have hi := Lib.hid (show (if (hM.sz xs : Int) ≤ l then l - hM.sz xs else -1) = -1 by rw [if_neg h])
    go_enter Tryd.func12, Tryd.ntmps12
    go_wp2_with (go_at_call 38; refine (nf_sz_M_ _ _ _ _ _ _ hx2 hl).mono ?_; rw [hi.out]; rintro e w2 ⟨rfl, bel2⟩)
    go_ret
    exact ⟨hi.out ▸ rfl, hb.trans (bel2.mono hb.size)⟩
theorem nf_to_M (A : Option Addr) (n c : Nat) (xs : List Strip) (w : World) (hx : tM.R w w.heap.size [.slice A n c] xs) (hn : hM.sz xs ≤ 100000000) :
    Calls Tryd.prog 14 #[.agg #[.slice A n c]] w fun e w' => ∃ A' n' c', e = .returned (.agg #[.slice A' n' c']) ∧ tM.O w' (Iv w.heap.size w'.heap.size) [.slice A' n' c'] xs ∧ Below w.heap.size w w' := by
  have hb : Below w.heap.size w (((w.alloc (.cells #[.slice A n c] 35)).alloc (.cells #[.slice none 0 0] 40)).alloc (.cells #[.slice none 0 0] 40)) := (((Below.refl _ _).alloc (Nat.le_refl _) _).alloc (by simp) _).alloc (by simp; omega) _
  have hx2 := tM.later hx hb
  go_enter Tryd.func14, Tryd.ntmps14
  go_wp2_with (go_at_call 41; refine (nf_to_M_ _ _ _ _ _ hx2 hn).mono ?_; rintro e w2 ⟨A2, n2, c2, rfl, own2, bel2⟩; have q1 : w2.cell? ⟨w.heap.size + 1, 0, none⟩ = some (.slice none 0 0) := (by rw [bel2.cell (by first | omega | (simp; done) | (simp; omega))]; simp [go_sem]); have r1 : w2.frozen? ⟨w.heap.size + 1, 0, none⟩ = false := (by rw [bel2.frozen (by first | omega | (simp; done) | (simp; omega))]; simp [go_sem]); have q2 : w2.cell? ⟨w.heap.size + 1 + 1, 0, none⟩ = some (.slice none 0 0) := (by rw [bel2.cell (by simp)]; simp [go_sem]); have r2 : w2.frozen? ⟨w.heap.size + 1 + 1, 0, none⟩ = false := (by rw [bel2.frozen (by simp)]; simp [go_sem]); have hs : w.heap.size + 1 + 1 + 1 ≤ w2.heap.size := (by have := bel2.size; simpa using this))
  have m1 : Mid (w.heap.size + 1) (w.heap.size + 1 + 1 + 1) w2 ((w2.setCell ⟨w.heap.size + 1 + 1, 0, none⟩ (Value.slice A2 n2 c2)).setCell ⟨w.heap.size + 1, 0, none⟩ (Value.slice A2 n2 c2)) :=
    (Mid.of_grown (grown_setCell w2 (w.heap.size + 1 + 1) 0 _) fun k hk => by injection hk with hk; omega).trans (Mid.of_grown (grown_setCell _ (w.heap.size + 1) 0 _) fun k hk => by injection hk with hk; omega)
  refine bodyPost_ret (v := .agg #[.slice A2 n2 c2]) (by simp [results, Tryd.results14, go_sem, q1, r1, q2, r2]) rfl ?_
  refine ⟨_, _, _, rfl, ?_, ?_⟩
  · exact tM.oiv (tM.omid own2 m1 (.inr (by simp)) (Nat.le_refl _)) (by simp; omega) m1.size
  · exact (hb.trans (bel2.mono hb.size)).trans ((m1.toBelow (by omega)).mono (by omega))
theorem nf_eq_M (A A' : Option Addr) (n c n' c' : Nat) (xs : List Strip) (w : World) (hx : tM.R w w.heap.size [.slice A n c] xs) (hy : tM.R w w.heap.size [.slice A' n' c'] xs) (hn : hM.sz xs ≤ 100000000) :
    Calls Tryd.prog 16 #[.agg #[.slice A n c], .agg #[.slice A' n' c']] w fun e w' => e = .returned (.bool true) ∧ Below w.heap.size w w' := by
  have hb : Below w.heap.size w ((w.alloc (.cells #[.slice A n c] 40)).alloc (.cells #[.slice A' n' c'] 40)) := ((Below.refl _ _).alloc (Nat.le_refl _) _).alloc (by simp) _
  have hx2 := tM.later hx hb
  have hy2 := tM.later hy hb
  go_enter Tryd.func16, Tryd.ntmps16
  go_wp2_with (go_at_call 43; refine (nf_eq_M_ _ _ _ _ _ _ _ _ hx2 hy2 hn).mono ?_; rintro e w2 ⟨rfl, bel2⟩)
  go_ret
  exact ⟨rfl, hb.trans (bel2.mono hb.size)⟩
theorem cl_M (x : List Strip) : hM.cnt x ≤ 10 * hM.sz x + 10 := by
  have key : hSt.cntL x ≤ 2 * (x.length + hSt.szL x) := by
    induction x with
    | nil => simp [Hs.cntL]
    | cons y ys ih =>
      obtain ⟨s, l, zs⟩ := y
      rw [Hs.cntL, Hs.szL, hSt_cnt, hSt_sz, List.length_cons]
      omega
  show hSt.cntL x ≤ 10 * (x.length + hSt.szL x) + 10
  omega
end Go.Proofs.YtecdendjlgohjaaDoor
namespace Go.Proofs.YtecdendjlgohjaaDoor
open Go
/-- The digits of u, none for 0. -/
def M.dtail (u : Nat) : List UInt8 := if u = 0 then [] else Lib.decDigits u
theorem M.dtail_zero : M.dtail 0 = [] := rfl
theorem M.dtail_step {u : Nat} (h : u ≠ 0) : M.dtail u = M.dtail (u / 10) ++ [UInt8.ofNat (48 + u % 10)] := by
  unfold M.dtail
  rw [if_neg h]
  by_cases h1 : u < 10
  · rw [Lib.decDigits, dif_pos h1, if_pos (by omega), show u % 10 = u by omega]; rfl
  · rw [Lib.decDigits, dif_neg h1, if_neg (by omega)]
/-- What spec.l01Dec's rounds keep. -/
theorem M.dtail_round {u v : Nat} {out : List UInt8} (h : M.dtail u = M.dtail v ++ out) (hv : v ≠ 0) : M.dtail u = M.dtail (v / 10) ++ ([UInt8.ofNat (48 + v % 10)] ++ out) := by
  rw [h, M.dtail_step hv, List.append_assoc]
theorem M.dd_ne (u : Nat) : Lib.decDigits u ≠ [] := by
  rw [Lib.decDigits]; split <;> simp
theorem M.dtail_nil {u : Nat} : M.dtail u = [] ↔ u = 0 := by
  unfold M.dtail
  by_cases h : u = 0
  · simp [h]
  · simp [h, M.dd_ne]
theorem M.dtail_le (u : Nat) (h : u < 18446744073709551616) : (M.dtail u).length ≤ 20 := by
  unfold M.dtail
  split
  · simp
  · rw [Lib.decDigits_length]; exact Lib.nDigits_le20 u h
/-- The numeral, as spec.l01Dec lays it. -/
theorem M.itoa_zero : Lib.itoa 0 = [48] := by
  rw [Lib.itoa, if_neg (by omega)]
  show Lib.decDigits 0 = _
  rw [Lib.decDigits, dif_pos (by omega)]
  rfl
theorem M.itoa_neg {n : Int} (h : n < 0) : Lib.itoa n = 45 :: M.dtail n.natAbs := by
  rw [Lib.itoa, if_pos h, M.dtail, if_neg (by omega)]
theorem M.itoa_pos {n : Int} (h : 0 < n) : Lib.itoa n = M.dtail n.natAbs := by
  rw [Lib.itoa, if_neg (by omega), M.dtail, if_neg (by omega), show n.toNat = n.natAbs by omega]
theorem M.tdiv_abs (k : Int) : (k.tdiv 10).natAbs = k.natAbs / 10 := by
  rw [Int.natAbs_tdiv]; rfl
theorem M.join_snoc (xs : List (List UInt8)) (y sep : List UInt8) : Lib.join (xs ++ [y]) sep = if xs = [] then y else Lib.join xs sep ++ sep ++ y := by
  cases xs with
  | nil => simp [Lib.join_one]
  | cons a r => simp [Lib.join_cons, Lib.joinTail, List.append_assoc]
theorem M.itoa_le (n : Int) (h0 : -9223372036854775808 ≤ n) (h1 : n ≤ 9223372036854775807) : (Lib.itoa n).length ≤ 21 := Lib.itoa_length_le n h0 h1
end Go.Proofs.YtecdendjlgohjaaDoor
namespace Go.Proofs.YtecdendjlgohjaaDoor
open Go.RowKit
set_option maxHeartbeats 1000000
set_option maxRecDepth 100000
/-- The table that strconv's numerals are read from, whatever is laid behind w. -/
def TAB (w : World) : Prop := Lib.TabBelow Tryd.prog w.heap.size w "internal/strconv.uint64pow10" .u64 Lib.pow10Tab
theorem TAB.on {w u : World} (h : TAB w) (b : Below w.heap.size w u) : TAB u := fun w' hb => h w' (bel_trans b hb)
theorem TAB.here {w : World} (h : TAB w) : Lib.TabIs Tryd.prog w "internal/strconv.uint64pow10" .u64 Lib.pow10Tab := h w (Below.refl _ _)
theorem ei_u8 : EI Tryd.prog 48 5 (.int .u8 0) 1 1 := ⟨Tryd.underlying48, by kernel_rfl, rfl, by decide⟩
theorem byteCells_one' (l : List UInt8) : ∀ v ∈ Lib.byteCells l, v.oneCell' = true := by
  intro v hv
  simp only [Lib.byteCells, List.mem_map] at hv
  obtain ⟨b, _, rfl⟩ := hv
  rfl
/-- The call's own row of bytes. -/
def OB (B : Nat) (w : World) (v : Value) (l : List UInt8) : Prop := w.ownsRow B 5 1 v l.length (Lib.byteCells l)
theorem M.digU {x : Int} {m : Nat} (h : x = 48 + ((m % 10 : Nat) : Int)) : Value.int .u8 x = Value.int .u8 ((UInt8.ofNat (48 + m % 10)).toNat : Int) := by
  have e : (UInt8.ofNat (48 + m % 10)).toNat = 48 + m % 10 := by rw [UInt8.toNat_ofNat', Nat.mod_eq_of_lt (show 48 + m % 10 < 2 ^ 8 by omega)]
  rw [h, e]
  rfl
theorem spec_l01Dec (n : Int) (h0 : -9223372036854775808 ≤ n) (h1 : n ≤ 9223372036854775807) (w : World) :
    Calls Tryd.prog 60 #[.int .i64 n] w fun e w' => e = .returned (.string ⟨(Lib.itoa n).toArray⟩) ∧ Below w.heap.size w w' := by
  go_enter Tryd.func60, Tryd.ntmps60
  go_wp2
  go_loopw [3, 4] (fun v i wr => ∃ (k : Int) (out : List UInt8), i = .int .i64 k ∧ OB w.heap.size wr v out ∧ Hid (M.dtail n.natAbs = M.dtail k.natAbs ++ out) ∧ k.natAbs ≤ n.natAbs ∧ -9223372036854775808 ≤ k ∧ k ≤ 9223372036854775807 ∧ out.length ≤ 20 ∧ Below w.heap.size w wr)
    (fun _ i _ => (intOf i).natAbs)
  case atStart => exact ⟨n, [], rfl, World.ownsRow_made _ _ _ (Nat.le_refl _) (by simp [maxLen]) rfl, Lib.hid (by simp), Nat.le_refl _, h0, h1, by simp, (Below.refl _ _).alloc (Nat.le_refl _) _⟩
  case round =>
    obtain ⟨k, out, rfl, own, H, hk, k0, k1, ho, hb⟩ := hrel
    obtain ⟨A, c, rfl, hc1, hc2, hr⟩ := own_shape own
    by_cases hz : k = 0
    · subst hz
      have H2 := H.out
      rw [show Int.natAbs 0 = 0 from rfl, M.dtail_zero, List.nil_append] at H2
      rcases Nat.eq_zero_or_pos out.length with ho0 | ho0
      · have hn0 : n = 0 := by
          have := M.dtail_nil.1 (H2.trans (List.eq_nil_of_length_eq_zero ho0))
          omega
        have hz0 : ((out.length : Int) == 0) = true := by simp [ho0]
        clear hr own H2 H
        go_wp2
        go_ret
        subst hn0
        exact ⟨by rw [M.itoa_zero]; rfl, hb⟩
      · have hz0 : ((out.length : Int) == 0) = false := by rw [beq_eq_false_iff_ne]; omega
        obtain ⟨g, cap, hv, hB, hg⟩ := World.ownsRow.form own ho0
        simp only [Value.slice.injEq] at hv
        obtain ⟨rfl, -, rfl⟩ := hv
        have hcv := run_convert_bytes_back (P := Tryd.prog) wr 48 9 5 ⟨g, 0, none⟩ c out Tryd.underlying48 Tryd.underlying5 Tryd.underlying9 (fun j hj => World.ownsRow.cells own (g := g) rfl j _ (by simp [Lib.byteCells, hj]))
        have hn0 : n ≠ 0 := fun e => by
          subst e
          have : out = [] := H2.symm.trans M.dtail_zero
          rw [this] at ho0
          exact absurd ho0 (by simp)
        clear hr own H
        have HL := Lib.hid H2
        clear H2
        by_cases hn : n < 0
        · go_wp2
          go_ret
          refine ⟨?_, hb⟩
          rw [M.itoa_neg hn, HL.out]
          rfl
        · go_wp2
          go_ret
          refine ⟨?_, hb⟩
          rw [M.itoa_pos (by omega), HL.out]
          rfl
    · have hz0 : (k != 0) = true := by simpa using hz
      have hx : ∀ u : Value, (wr.alloc (.cells #[u] 5)).ownsRow wr.heap.size 5 1 (.slice (some ⟨wr.heap.size, 0, none⟩) 1 1) 1 [u] := fun u => ⟨by simp, .inr ⟨wr.heap.size, 1, #[u], rfl, Nat.le_refl _, heap_alloc_new wr _, Nat.le_refl _, by simp [maxLen], rfl, by simp⟩⟩
      have hq : ∀ u : Value, Reads (wr.alloc (.cells #[u] 5)) wr.heap.size 1 A out.length (Lib.byteCells out) := fun u => hr.below ((Below.refl _ _).alloc (Nat.le_refl _) _)
      have hln := M.dtail_le n.natAbs (by omega)
      by_cases hneg : k < 0
      · have HD : (k.tdiv 10).natAbs = k.natAbs / 10 := M.tdiv_abs k
        have hm : k.tmod 10 = -((k.natAbs % 10 : Nat) : Int) := by
          obtain ⟨m, rfl⟩ : ∃ m : Nat, k = -(m : Int) := ⟨k.natAbs, by omega⟩
          rw [Int.neg_tmod, Int.natAbs_neg, Int.natAbs_natCast]
          rfl
        have HM := Lib.hid hm
        clear hm
        by_cases hd : k.tmod 10 < 0
        · go_wp2_with (at_builtin; refine wpList_cat ei_u8 rfl _ _ rfl (hx _) rfl (hq _) rfl (byteCells_one' _) (by unfold maxLen; omega) (by omega) (by simp) ?_; intro v1 w1 own1 gr1 bel1)
          go_roundw
          case rel =>
            refine ⟨k.tdiv 10, UInt8.ofNat (48 + k.natAbs % 10) :: out, rfl, ?_, Lib.hid (by rw [HD]; exact M.dtail_round H.out (by omega)), by rw [HD]; omega, by omega, by omega, ?_, bel_trans hb (((Below.refl _ _).alloc (Nat.le_refl _) _).trans bel1)⟩
            · have ev := M.digU (by have := HM.out; unfold wrap64; omega : wrap64 (48 + wrap64 (-k.tmod 10)) % 256 = 48 + ((k.natAbs % 10 : Nat) : Int))
              rw [ev] at own1
              have := own_base own1 hb.size
              rw [Nat.add_comm] at this
              exact this
            · have h3 := M.dtail_round H.out (by omega : k.natAbs ≠ 0)
              have h4 := congrArg List.length h3
              simp only [List.length_append, List.length_cons, List.length_nil] at h4 ⊢
              omega
          case measure =>
            show (k.tdiv 10).natAbs < k.natAbs
            omega
        · have hd0 := Lib.hid hd
          go_wp2_with (at_builtin; refine wpList_cat ei_u8 rfl _ _ rfl (hx _) rfl (hq _) rfl (byteCells_one' _) (by unfold maxLen; omega) (by omega) (by simp) ?_; intro v1 w1 own1 gr1 bel1)
          go_roundw
          case rel =>
            refine ⟨k.tdiv 10, UInt8.ofNat (48 + k.natAbs % 10) :: out, rfl, ?_, Lib.hid (by rw [HD]; exact M.dtail_round H.out (by omega)), by rw [HD]; omega, by omega, by omega, ?_, bel_trans hb (((Below.refl _ _).alloc (Nat.le_refl _) _).trans bel1)⟩
            · have ev := M.digU (by have := HM.out; have := hd0.out; unfold wrap64; omega : wrap64 (48 + k.tmod 10) % 256 = 48 + ((k.natAbs % 10 : Nat) : Int))
              rw [ev] at own1
              have := own_base own1 hb.size
              rw [Nat.add_comm] at this
              exact this
            · have h3 := M.dtail_round H.out (by omega : k.natAbs ≠ 0)
              have h4 := congrArg List.length h3
              simp only [List.length_append, List.length_cons, List.length_nil] at h4 ⊢
              omega
          case measure =>
            show (k.tdiv 10).natAbs < k.natAbs
            omega
      · have HD : (k / 10).natAbs = k.natAbs / 10 := by omega
        go_wp2_with (at_builtin; refine wpList_cat ei_u8 rfl _ _ rfl (hx _) rfl (hq _) rfl (byteCells_one' _) (by unfold maxLen; omega) (by omega) (by simp) ?_; intro v1 w1 own1 gr1 bel1)
        go_roundw
        case rel =>
          refine ⟨k / 10, UInt8.ofNat (48 + k.natAbs % 10) :: out, rfl, ?_, Lib.hid (by rw [HD]; exact M.dtail_round H.out (by omega)), by rw [HD]; omega, by omega, by omega, ?_, bel_trans hb (((Below.refl _ _).alloc (Nat.le_refl _) _).trans bel1)⟩
          · have ev := M.digU (by omega : 48 + k % 10 = 48 + ((k.natAbs % 10 : Nat) : Int))
            rw [ev] at own1
            have := own_base own1 hb.size
            rw [Nat.add_comm] at this
            exact this
          · have h3 := M.dtail_round H.out (by omega : k.natAbs ≠ 0)
            have h4 := congrArg List.length h3
            simp only [List.length_append, List.length_cons, List.length_nil] at h4 ⊢
            omega
        case measure =>
          show (k / 10).natAbs < k.natAbs
          omega
end Go.Proofs.YtecdendjlgohjaaDoor
