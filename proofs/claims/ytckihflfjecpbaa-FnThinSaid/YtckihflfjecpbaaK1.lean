import Derived.WalkKit
import Derived.WalkSpells
import Derived.WalkLawsBesides
import Derived.Deep.AppendLies
import Derived.Deep.Draws
import Derived.Deep.QuietTactic
import Derived.BigQuiet
import Derived.StillTailTactics
import Derived.Deep.RegionHeld3
import Derived.RegionTactic
import Derived.Lib.Hide
namespace Go.Proofs.Ytckihflfjecpbaa
open Go.RowKit

theorem block_of_add (a : Addr) (n : Nat) : (a.add n).block = a.block := by unfold Addr.add; split <;> rfl

theorem add_of_add (a : Addr) (i j : Nat) : (a.add i).add j = a.add (i + j) := by
  unfold Addr.add
  by_cases hi : i = 0 <;> by_cases hj : j = 0 <;> simp [hi, hj, Nat.add_assoc]

/-- A slice value with address A and n elements of 'size' cells holds the cells cs; its block lies below B. -/
def Reads (w : World) (B size : Nat) (A : Option Addr) (n : Nat) (cs : List Value) : Prop :=
  cs.length = n * size ∧ (0 < n → ∃ ad, A = some ad ∧ ad.block < B ∧ ∀ j u, cs[j]? = some u → w.cell? (ad.add j) = some u)

section
variable {w w' : World} {B B' size n : Nat} {A : Option Addr} {cs : List Value}
theorem Reads.none_ : Reads w B size A 0 [] := ⟨by simp, fun h => absurd h (by omega)⟩
theorem Reads.keep (h : Reads w B size A n cs) (hk : ∀ p : Addr, p.block < B → w'.cell? p = w.cell? p) : Reads w' B size A n cs :=
  ⟨h.1, fun hn => by
    obtain ⟨ad, e, hb, hc⟩ := h.2 hn
    exact ⟨ad, e, hb, fun j u hu => (hk _ (by rw [block_of_add]; exact hb)).trans (hc j u hu)⟩⟩
theorem Reads.more (h : Reads w B size A n cs) (hB : B ≤ B') : Reads w B' size A n cs :=
  ⟨h.1, fun hn => by
    obtain ⟨ad, e, hb, hc⟩ := h.2 hn
    exact ⟨ad, e, Nat.lt_of_lt_of_le hb hB, hc⟩⟩
theorem Reads.below (h : Reads w B size A n cs) (hb : Below B w w') : Reads w' B size A n cs := h.keep fun _ hp => hb.cell hp
theorem Reads.later (h : Reads w w.heap.size size A n cs) (hb : Below w.heap.size w w') : Reads w' w'.heap.size size A n cs := (h.below hb).more hb.size
theorem Reads.cut (h : Reads w B size A n cs) {k cap : Nat} (hk : k ≤ n) (hc : n ≤ cap) :
    Reads w B size (if cap = k then A else A.map (·.add (k * size))) (n - k) (cs.drop (k * size)) := by
  refine ⟨by rw [List.length_drop, h.1, Nat.sub_mul], fun hn => ?_⟩
  obtain ⟨ad, rfl, hb, hcell⟩ := h.2 (by omega)
  rw [if_neg (by omega)]
  refine ⟨ad.add (k * size), rfl, by rw [block_of_add]; exact hb, fun j u hu => ?_⟩
  rw [add_of_add]
  exact hcell _ u (by rw [← hu, List.getElem?_drop])
theorem Reads.of_own {base : Nat} {e : TypeId} {c : Nat} (h : w.ownsRow base e size (.slice A n c) n cs) : Reads w w.heap.size size A n cs := by
  refine ⟨h.1, fun hn => ?_⟩
  obtain ⟨g, cap, hv, _, hlt⟩ := h.form hn
  have hA : A = some ⟨g, 0, none⟩ := by injection hv
  subst hA
  exact ⟨_, rfl, hlt, h.cells (g := g) rfl⟩
/-- The call's own row, as a slice that reads as its cells. -/
theorem own_shape {base : Nat} {e : TypeId} {v : Value} (h : w.ownsRow base e size v n cs) : ∃ A c, v = .slice A n c ∧ n ≤ c ∧ c ≤ maxLen ∧ Reads w w.heap.size size A n cs := by
  rcases h.2 with ⟨rfl, rfl⟩ | ⟨g, cap, cur, rfl, h1, h2, h3, h4, h5, h6⟩
  · exact ⟨none, 0, rfl, Nat.le_refl _, by simp [maxLen], Reads.of_own h⟩
  · exact ⟨_, cap, rfl, h3, h4, Reads.of_own h⟩
/-- What is owned stays so in every later world. -/
theorem own_below {base : Nat} {e : TypeId} {v : Value} (h : w.ownsRow base e size v n cs) (hb : Below w.heap.size w w') : w'.ownsRow base e size v n cs := by
  refine ⟨h.1, ?_⟩
  rcases h.2 with h2 | ⟨g, cap, cur, hv, hg, hh, r⟩
  · exact .inl h2
  · exact .inr ⟨g, cap, cur, hv, hg, by rw [hb.block g (Array.getElem?_eq_some_iff.1 hh).1]; exact hh, r⟩
theorem own_base {base base' : Nat} {e : TypeId} {v : Value} (h : w.ownsRow base e size v n cs) (hb : base' ≤ base) : w.ownsRow base' e size v n cs :=
  ⟨h.1, h.2.imp id fun ⟨g, cap, cur, hv, hg, r⟩ => ⟨g, cap, cur, hv, Nat.le_trans hb hg, r⟩⟩
/-- Two rows, the second made behind the first: they differ. -/
theorem own_ne {wa wb : World} {b1 b2 s1 s2 n1 n2 : Nat} {e1 e2 : TypeId} {v1 v2 : Value} {c1 c2 : List Value} (h1 : wa.ownsRow b1 e1 s1 v1 n1 c1) (h2 : wb.ownsRow b2 e2 s2 v2 n2 c2) (hlt : wa.heap.size ≤ b2) :
    v1.ownBlock = none ∨ v1.ownBlock ≠ v2.ownBlock := by
  cases h : v1.ownBlock with
  | none => exact .inl rfl
  | some k =>
    refine .inr fun e => ?_
    have := (h1.lt k h).2
    have := (h2.lt k e.symm).1
    omega
theorem own_ne' {wa wb : World} {b1 b2 s1 s2 n1 n2 : Nat} {e1 e2 : TypeId} {v1 v2 : Value} {c1 c2 : List Value} (h1 : wa.ownsRow b1 e1 s1 v1 n1 c1) (h2 : wb.ownsRow b2 e2 s2 v2 n2 c2) (hlt : wa.heap.size ≤ b2) :
    v2.ownBlock = none ∨ v2.ownBlock ≠ v1.ownBlock := by
  cases h : v2.ownBlock with
  | none => exact .inl rfl
  | some k =>
    refine .inr fun e => ?_
    have := (h1.lt k e.symm).2
    have := (h2.lt k h).1
    omega
theorem below_drewN {B : Nat} {a w : World} (h : Below B a w) (n : Nat) : Below B a (w.drewN n) := ⟨h.os, h.tape, h.output, h.size, h.block⟩
theorem bel_trans {a b c : World} (h1 : Below a.heap.size a b) (h2 : Below b.heap.size b c) : Below a.heap.size a c := h1.trans (h2.mono h1.size)
theorem bel_trans' {B : Nat} {a b c : World} (h1 : Below B a b) (hB : B ≤ b.heap.size) (h2 : Below b.heap.size b c) : Below B a c := h1.trans (h2.mono hB)
end

/-- 'A slice value with address A and n elements reads as the int64 list xs; its block lies below B.' -/
def RI (w : World) (B : Nat) (A : Option Addr) (n : Nat) (xs : List Int) : Prop := Reads w B 1 A n (xs.map (.int .i64))

section
variable {w w' : World} {B B' n : Nat} {A : Option Addr} {xs : List Int}
theorem RI.len (h : RI w B A n xs) : xs.length = n := by have := h.1; simpa using this
theorem RI.below (h : RI w B A n xs) (hb : Below B w w') : RI w' B A n xs := Reads.below h hb
theorem RI.later (h : RI w w.heap.size A n xs) (hb : Below w.heap.size w w') : RI w' w'.heap.size A n xs := Reads.later h hb
theorem RI.more (h : RI w B A n xs) (hB : B ≤ B') : RI w B' A n xs := Reads.more h hB
theorem RI.at (h : RI w B A n xs) {k : Nat} (hk : k < n) : ∃ ad x, A = some ad ∧ ad.block < B ∧ Hid (xs[k]? = some x) ∧ w.cell? (ad.add k) = some (.int .i64 x) := by
  obtain ⟨ad, e, hb, hc⟩ := h.2 (by omega)
  have hl : k < xs.length := by rw [h.len]; exact hk
  exact ⟨ad, xs[k], e, hb, List.getElem?_eq_getElem hl, hc k _ (by simp [hl])⟩
theorem RI.cell {ad : Addr} (h : RI w B (some ad) n xs) {k : Nat} (hk : k < n) : ∃ x, Hid (xs[k]? = some x) ∧ w.cell? (ad.add k) = some (.int .i64 x) := by
  obtain ⟨ad', x, e, _, h1, h2⟩ := h.at hk
  injection e with e
  subst e
  exact ⟨x, h1, h2⟩
theorem RI.nil (w : World) (B : Nat) (A : Option Addr) : RI w B A 0 [] := Reads.none_
end

/-- The element type's row of the table. -/
def EI (P : Program) (t e : TypeId) (z : Value) (size bytes : Nat) : Prop :=
  P.underlying t = some (.slice e) ∧ (P.info? e).map (fun i => (i.zero, i.size, i.bytes)) = some (some z, size, bytes) ∧ z.cells.size = size ∧ 0 < size

section
variable {P : Program} {t e : TypeId} {z : Value} {size bytes : Nat}

/-- 'out = append(out, x)': one element, whose cells lie in a new block. -/
theorem wpList_push (hE : EI P t e z size bytes) {w : World} {ops : Array Oper} {rest : List Oper} {o : Oper} {a : Act} {Q : Exit → Act → World → Prop} (us : Array Value)
    (hgd : o.guard = none) (s x : Operand)
    (ho : o.op = .call { callee := .builtin .append, args := #[s, x], argTypes := #[t, t] })
    {B : Nat} {v : Value} {n : Nat} {xs : List Value} (hown : w.ownsRow B e size v n xs) (hs : a.eval s = v)
    (hx : a.eval x = .slice (some ⟨w.heap.size, 0, none⟩) 1 1) (hus : us.size = size) (h1 : ∀ u ∈ us.toList, u.oneCell' = true)
    (hn : n + 1 ≤ maxLen) (hbytes : (n + 1) * bytes ≤ 140737488355328) (hbase : B ≤ w.heap.size)
    (K : ∀ v' w', w'.ownsRow B e size v' (n + 1) (xs ++ us.toList) → w.grownBy w' v.ownBlock → Below B w w' → wpList P ops Q rest (a.put o.dst v') w') :
    wpList P ops Q (o :: rest) a (w.alloc (.cells us e)) := by
  obtain ⟨ht, hinfo, hzs, hsz⟩ := hE
  obtain ⟨i0, hi, hz0, hz1, hz2⟩ := info_parts hinfo
  refine wpList_append_own _ hgd s x t ho B e i0 z size bytes ht hi hz0 hz1 hz2 hzs hsz v n xs hs (hown.alloc _) ⟨w.heap.size, 0, none⟩ 1 1 us.toList hx (by simp [hus]) ?_ h1 hn hbytes (by simp; omega) ?_
  · intro j u hj
    have hadd : (⟨w.heap.size, 0, none⟩ : Addr).add j = ⟨w.heap.size, j, none⟩ := by unfold Addr.add; split <;> simp_all
    rw [hadd, cell_of_row _ w.heap.size j us e (0, 0) (heap_alloc_new w _)]
    simpa using hj
  · intro v' w' h2 h3 _
    have h4 : w.grownBy w' v.ownBlock := by
      have := World.grownBy_alloc w (.cells us e) none
      exact ⟨h3.os.trans this.os, h3.tape.trans this.tape, h3.output.trans this.output, Nat.le_trans this.size h3.size, fun k hk hne => by
        rw [h3.block k (by simp; omega) hne]; exact this.block k hk (by simp)⟩
    exact K v' w' h2 h4 ((Below.refl _ _).grown h4 hbase fun k hk => (hown.lt k hk).1)
theorem wpList_push1 (hE : EI P t e z 1 bytes) {w : World} {ops : Array Oper} {rest : List Oper} {o : Oper} {a : Act} {Q : Exit → Act → World → Prop} {u : Value}
    (hgd : o.guard = none) (s x : Operand)
    (ho : o.op = .call { callee := .builtin .append, args := #[s, x], argTypes := #[t, t] })
    {B : Nat} {v : Value} {n : Nat} {xs : List Value} (hown : w.ownsRow B e 1 v n xs) (hs : a.eval s = v)
    (hx : a.eval x = .slice (some ⟨w.heap.size, 0, none⟩) 1 1) (h1 : u.oneCell' = true)
    (hn : n + 1 ≤ maxLen) (hbytes : (n + 1) * bytes ≤ 140737488355328) (hbase : B ≤ w.heap.size)
    (K : ∀ v' w', w'.ownsRow B e 1 v' (n + 1) (xs ++ [u]) → w.grownBy w' v.ownBlock → Below B w w' → wpList P ops Q rest (a.put o.dst v') w') :
    wpList P ops Q (o :: rest) a (w.alloc (.cells #[u] e)) :=
  wpList_push hE #[u] hgd s x ho hown hs hx rfl (by simpa using h1) hn hbytes hbase K
end

section
variable {P : Program} {t e : TypeId} {z : Value} {size bytes : Nat} (w : World)
theorem run_append_of_nil (base : Nat) (t ty e : TypeId) (i : TypeInfo) (size : Nat) (ht : P.underlying t = some (.slice e)) (hi : P.info? e = some i)
    (v : Value) (n : Nat) (xs : List Value) (hown : w.ownsRow base e size v n xs) (c : Nat) : (Builtin.append_ #[t, t] ty #[v, .slice none 0 c]).run P w = .ok v w := by
  rcases hown.2 with ⟨rfl, rfl⟩ | ⟨g, cap, cur, rfl, _, _, hnc, _⟩
  · simp [Builtin.append_, run_underlying ht, sizeOf, typeInfo, hi, Builtin.lenOf, Builtin.firstCells]
  · simp [Builtin.append_, run_underlying ht, sizeOf, typeInfo, hi, Builtin.lenOf, Builtin.firstCells, hnc, storeCells]
/-- 'append(out, xs...)': the source nil, empty or not. -/
theorem wpList_cat (hE : EI P t e z size bytes) {w : World} {ops : Array Oper} {rest : List Oper} {o : Oper} {a : Act} {Q : Exit → Act → World → Prop}
    (hgd : o.guard = none) (s x : Operand) (ho : o.op = .call { callee := .builtin .append, args := #[s, x], argTypes := #[t, t] })
    {B : Nat} {v : Value} {n : Nat} {xs : List Value} (hown : w.ownsRow B e size v n xs) (hs : a.eval s = v)
    {B' : Nat} {A : Option Addr} {m c : Nat} {news : List Value} (hr : Reads w B' size A m news) (hx : a.eval x = .slice A m c) (h1 : ∀ u ∈ news, u.oneCell' = true)
    (hn : n + m ≤ maxLen) (hbytes : (n + m) * bytes ≤ 140737488355328) (hbase : B ≤ w.heap.size)
    (K : ∀ v' w', w'.ownsRow B e size v' (n + m) (xs ++ news) → w.grownBy w' v.ownBlock → Below B w w' → wpList P ops Q rest (a.put o.dst v') w') :
    wpList P ops Q (o :: rest) a w := by
  obtain ⟨ht, hinfo, hzs, hsz⟩ := hE
  obtain ⟨i0, hi, hz0, hz1, hz2⟩ := info_parts hinfo
  rcases A with _ | ad
  · have hm : m = 0 := by
      rcases Nat.eq_zero_or_pos m with h0 | h0
      · exact h0
      · obtain ⟨ad, h, _⟩ := hr.2 h0
        cases h
    subst hm
    have hnil : news = [] := List.eq_nil_of_length_eq_zero (by simpa using hr.1)
    subst hnil
    refine wpList_plain hgd fun K' hK' => ?_
    have hrun := run_append_of_nil (P := P) w B t o.type e i0 size ht hi v n xs hown c
    unfold Oper.wp execOp
    simp only [ho, resolve, invoke, builtin, Sem.run_bind, Sem.run_pure, Result.andThen_ok, List.map_toArray, List.map_cons, List.map_nil, hs, hx, hrun]
    exact hK' _ _ (K v w (by simpa using hown) (World.grownBy.refl w _) (Below.refl _ _))
  · have hcells : ∀ j u, news[j]? = some u → w.cell? (ad.add j) = some u := by
      intro j u hu
      rcases Nat.eq_zero_or_pos m with h0 | h0
      · subst h0
        have hnil : news = [] := List.eq_nil_of_length_eq_zero (by simpa using hr.1)
        subst hnil
        simp at hu
      · obtain ⟨ad', h, _, hc⟩ := hr.2 h0
        injection h with h
        subst h
        exact hc j u hu
    refine wpList_append_own _ hgd s x t ho B e i0 z size bytes ht hi hz0 hz1 hz2 hzs hsz v n xs hs hown ad m c news hx hr.1 hcells h1 hn hbytes hbase ?_
    intro v' w' h2 h3 _
    exact K v' w' h2 h3 ((Below.refl _ _).grown h3 hbase fun k hk => (hown.lt k hk).1)
/-- 'make([]T, n)' -/
theorem wpList_mk (hE : EI P t e z size bytes) {w : World} {ops : Array Oper} {rest : List Oper} {o : Oper} {a : Act} {Q : Exit → Act → World → Prop}
    (hgd : o.guard = none) (l c : Operand) (ho : o.op = Op.makeSlice t l c) (n : Nat) (L C : Int) (hl : a.eval l = .int .i64 L) (hc : a.eval c = .int .i64 C) (hL : L = (n : Int)) (hC : C = (n : Int))
    (hbytes : bytes * n ≤ 281474976710656) (hn : n ≤ maxLen)
    (K : ∀ w', w'.ownsRow w.heap.size e size (.slice (some ⟨w.heap.size, 0, none⟩) n n) n (madeCells z.cells (n * size)).toList → Below w.heap.size w w' → wpList P ops Q rest (a.put o.dst (.slice (some ⟨w.heap.size, 0, none⟩) n n)) w') :
    wpList P ops Q (o :: rest) a w := by
  obtain ⟨ht, hinfo, hzs, hsz⟩ := hE
  obtain ⟨i0, hi, hz0, hz1, hz2⟩ := info_parts hinfo
  exact wpList_make_full w hgd l c t ho w.heap.size e i0 z size ht hi hz0 hz1 .i64 .i64 L C n hl hc hL hC (by rw [hz2]; exact hbytes) hn (Nat.le_refl _)
    fun w' h1 h2 => K w' h1 ((Below.refl _ _).grown h2 (Nat.le_refl _) (by simp))
end

section
variable {P : Program} {t e : TypeId} {z : Value} {size bytes : Nat}
/-- 'append(out, x)' in a region that draws its order: the element's cells lie in a block of their own, in whatever world. -/
theorem step_push (hE : EI P t e z size bytes) {W : World} {ops : Array Oper} {o : Oper} {a : Act} {K : Act → World → Prop} {Q : Exit → Act → World → Prop} {E : Prop} (us : List Value)
    (hgd : o.guard = none) (s x : Operand) (ho : o.op = .call { callee := .builtin .append, args := #[s, x], argTypes := #[t, t] })
    {B : Nat} {v : Value} {n g : Nat} {xs : List Value} (hown : W.ownsRow B e size v n xs) (hs : a.eval s = v)
    (hx : a.eval x = .slice (some ⟨g, 0, none⟩) 1 1) (hg : ∀ j u, us[j]? = some u → W.cell? ⟨g, j, none⟩ = some u) (hus : us.length = size) (h1 : ∀ u ∈ us, u.oneCell' = true)
    (hn : n + 1 ≤ maxLen) (hbytes : (n + 1) * bytes ≤ 140737488355328) (hbase : B ≤ W.heap.size)
    (H : ∀ v' w', w'.ownsRow B e size v' (n + 1) (xs ++ us) → W.grownBy w' v.ownBlock → Below B W w' → K (a.put o.dst v') w') :
    if Region.wanted o (yielded ops a.tmps) = true then Oper.wp P o a W K Q else E := by
  have hw : Region.wanted o (yielded ops a.tmps) = true := by simp [Region.wanted, hgd]
  rw [if_pos hw]
  obtain ⟨ht, hinfo, hzs, hsz⟩ := hE
  obtain ⟨i0, hi, hz0, hz1, hz2⟩ := info_parts hinfo
  refine wp_append_own (P := P) W s x t ho B e i0 z size bytes ht hi hz0 hz1 hz2 hzs hsz v n xs hs hown ⟨g, 0, none⟩ 1 1 us hx (by simp [hus]) ?_ h1 hn hbytes hbase ?_
  · intro j u hj
    have hadd : (⟨g, 0, none⟩ : Addr).add j = ⟨g, j, none⟩ := by unfold Addr.add; split <;> simp_all
    rw [hadd]
    exact hg j u hj
  · intro v' w' h2 h3 _
    exact H v' w' h2 h3 ((Below.refl _ _).grown h3 hbase fun k hk => (hown.lt k hk).1)
theorem step_push1 (hE : EI P t e z 1 bytes) {W : World} {ops : Array Oper} {o : Oper} {a : Act} {K : Act → World → Prop} {Q : Exit → Act → World → Prop} {E : Prop} {u : Value}
    (hgd : o.guard = none) (s x : Operand) (ho : o.op = .call { callee := .builtin .append, args := #[s, x], argTypes := #[t, t] })
    {B : Nat} {v : Value} {n g : Nat} {xs : List Value} (hown : W.ownsRow B e 1 v n xs) (hs : a.eval s = v)
    (hx : a.eval x = .slice (some ⟨g, 0, none⟩) 1 1) (hg : W.cell? ⟨g, 0, none⟩ = some u) (h1 : u.oneCell' = true)
    (hn : n + 1 ≤ maxLen) (hbytes : (n + 1) * bytes ≤ 140737488355328) (hbase : B ≤ W.heap.size)
    (H : ∀ v' w', w'.ownsRow B e 1 v' (n + 1) (xs ++ [u]) → W.grownBy w' v.ownBlock → Below B W w' → K (a.put o.dst v') w') :
    if Region.wanted o (yielded ops a.tmps) = true then Oper.wp P o a W K Q else E :=
  step_push hE [u] hgd s x ho hown hs hx (fun j w hj => by
    match j, hj with
    | 0, hj => simp at hj; subst hj; exact hg) rfl (by simpa using h1) hn hbytes hbase H
end

theorem base_alloc {B : Nat} {w : World} {o : Obj} (h : B ≤ w.heap.size) : B ≤ (w.alloc o).drew.heap.size := by
  show B ≤ (w.heap.push o).size
  rw [Array.size_push]
  omega
theorem cell_alloc1 (w : World) (u : Value) (e : TypeId) : (w.alloc (.cells #[u] e)).drew.cell? ⟨w.heap.size, 0, none⟩ = some u := by
  rw [show (w.alloc (.cells #[u] e)).drew.cell? ⟨w.heap.size, 0, none⟩ = (w.alloc (.cells #[u] e)).cell? ⟨w.heap.size, 0, none⟩ from rfl, cell_of_row _ w.heap.size 0 #[u] e (0, 0) (heap_alloc_new w _)]
  rfl
/-- The int64 list that the call itself owns. -/
def OI (e : TypeId) (B : Nat) (w : World) (v : Value) (xs : List Int) : Prop := w.ownsRow B e 1 v xs.length (xs.map (.int .i64))
theorem OI.push {e : TypeId} {B : Nat} {w : World} {v : Value} {xs : List Int} {x : Int} (h : w.ownsRow B e 1 v (xs.length + 1) (xs.map (.int .i64) ++ [.int .i64 x])) : OI e B w v (xs ++ [x]) := by
  unfold OI
  simpa using h
section
variable {e : TypeId} {B : Nat} {w w' : World} {v : Value} {xs : List Int}
theorem OI.below (h : OI e B w v xs) (hb : Below w.heap.size w w') : OI e B w' v xs := own_below h hb
theorem OI.base {B' : Nat} (h : OI e B w v xs) (hb : B' ≤ B) : OI e B' w v xs := own_base h hb
theorem OI.shape (h : OI e B w v xs) : ∃ A c, v = .slice A xs.length c ∧ RI w w.heap.size A xs.length xs := by
  obtain ⟨A, c, hv, _, _, hr⟩ := own_shape h
  exact ⟨A, c, hv, hr⟩
theorem OI.at (h : OI e B w v xs) {k : Nat} (hk : k < xs.length) : ∃ g cap x, v = .slice (some ⟨g, 0, none⟩) xs.length cap ∧ B ≤ g ∧ g < w.heap.size ∧ Hid (xs[k]? = some x) ∧
    w.cell? ⟨g, k, none⟩ = some (.int .i64 x) ∧ w.frozen? ⟨g, k, none⟩ = false := by
  obtain ⟨g, cap, hv, hg, hlt⟩ := World.ownsRow.form h (by omega)
  subst hv
  refine ⟨g, cap, xs[k], rfl, hg, hlt, List.getElem?_eq_getElem hk, ?_, World.ownsRow.frozenAt h k⟩
  rw [World.ownsRow.cellAt h k (by omega)]
  simp [hk]
theorem OI.stored {g cap : Nat} (h : OI e B w (.slice (some ⟨g, 0, none⟩) xs.length cap) xs) (k : Nat) (y : Int) : OI e B (w.setCell ⟨g, k, none⟩ (.int .i64 y)) (.slice (some ⟨g, 0, none⟩) xs.length cap) (xs.set k y) := by
  unfold OI at h ⊢
  have := (World.ownsRow.stored h k (.int .i64 y)).1
  simpa [List.map_set] using this
theorem OI.n_eq {g n cap : Nat} (h : OI e B w (.slice (some ⟨g, 0, none⟩) n cap) xs) : n = xs.length := by
  rcases h.2 with ⟨h0, _⟩ | ⟨g', cap', cur, h0, _⟩
  · simp at h0
  · simp only [Value.slice.injEq] at h0
    exact h0.2.1
theorem OI.at' {g n cap : Nat} (h : OI e B w (.slice (some ⟨g, 0, none⟩) n cap) xs) {k : Nat} (hk : k < n) : ∃ x, Hid (xs[k]? = some x) ∧ w.cell? ⟨g, k, none⟩ = some (.int .i64 x) ∧ w.frozen? ⟨g, k, none⟩ = false ∧ B ≤ g ∧ g < w.heap.size := by
  have hn := h.n_eq
  subst hn
  obtain ⟨g', cap', x, hv, hB, hlt, hx, hc, hf⟩ := h.at hk
  simp only [Value.slice.injEq, Option.some.injEq, Addr.mk.injEq] at hv
  obtain ⟨⟨rfl, _⟩, _⟩ := hv
  exact ⟨x, hx, hc, hf, hB, hlt⟩
theorem OI.stored' {g n cap : Nat} (h : OI e B w (.slice (some ⟨g, 0, none⟩) n cap) xs) (k : Nat) (y : Int) : OI e B (w.setCell ⟨g, k, none⟩ (.int .i64 y)) (.slice (some ⟨g, 0, none⟩) n cap) (xs.set k y) := by
  have hn := h.n_eq
  subst hn
  exact h.stored k y
/-- The shape of a row with elements. -/
theorem OI.form (h : OI e B w v xs) (hn : 0 < xs.length) : ∃ g cap, v = .slice (some ⟨g, 0, none⟩) xs.length cap ∧ B ≤ g ∧ g < w.heap.size := World.ownsRow.form h hn
theorem OI.form' {A : Option Addr} {n c : Nat} (h : OI e B w (.slice A n c) xs) (hn : 0 < n) : ∃ g, A = some ⟨g, 0, none⟩ ∧ B ≤ g ∧ g < w.heap.size := by
  have hn' : 0 < xs.length := by
    rcases h.2 with ⟨h0, _⟩ | ⟨g', cap', cur, h0, _⟩
    · simp only [Value.slice.injEq] at h0
      omega
    · simp only [Value.slice.injEq] at h0
      omega
  obtain ⟨g, cap, hv, hB, hg⟩ := h.form hn'
  simp only [Value.slice.injEq] at hv
  exact ⟨g, hv.1, hB, hg⟩
/-- A store into the row turns no other block. -/
theorem grown_setCell (w : World) (g k : Nat) (u : Value) : w.grownBy (w.setCell ⟨g, k, none⟩ u) (some g) :=
  ⟨rfl, rfl, rfl, by simp, fun j _ hj => heap_setCell_other w ⟨g, k, none⟩ j u (fun e => hj (by simp [e]))⟩
theorem grown_trans {row : Option Nat} {a b c : World} (h : a.grownBy b row) (h' : b.grownBy c row) : a.grownBy c row :=
  ⟨h'.os.trans h.os, h'.tape.trans h.tape, h'.output.trans h.output, Nat.le_trans h.size h'.size, fun k hk hne => (h'.block k (Nat.lt_of_lt_of_le hk h.size) hne).trans (h.block k hk hne)⟩
theorem OI.kept {row : Option Nat} (h : OI e B w v xs) (hg : w.grownBy w' row) (hne : v.ownBlock = none ∨ v.ownBlock ≠ row) : OI e B w' v xs := World.ownsRow.kept h hg hne
theorem bel_grown {B : Nat} {row : Option Nat} {a b c : World} (h : Below B a b) (hg : b.grownBy c row) (hB : B ≤ b.heap.size) (hr : ∀ k, row = some k → B ≤ k) : Below B a c := h.grown hg hB hr
theorem quiet_left {P : Program} {f : FuncId} {args : Array Value} {w : World} {n : Nat} {v : Value}
    (h : Calls P f args (w.drewN n) fun e w' => e = .returned v ∧ w.drewN n = w') : Calls P f args (w.drewN n) fun e w'' => e = .returned v ∧ ∃ m, w'' = w.drewN m :=
  h.mono fun _ _ ⟨he, hm⟩ => ⟨he, n, hm.symm⟩
theorem still_of {P : Program} {f : FuncId} {args : Array Value} {w : World} {v : Value} (h : Calls P f args w fun e w' => e = .returned v ∧ w = w') :
    Calls P f args w fun e w' => e = .returned v ∧ w' = w := h.mono fun _ _ h => ⟨h.1, h.2.symm⟩
/-- What a function of a signal and a code gives back. -/
def Ret2 (e : TypeId) (w : World) (r : List Int × Int) (en : Ending) (w' : World) : Prop := ∃ v, en = .returned (.tuple #[v, .int .i64 r.2]) ∧ OI e w.heap.size w' v r.1 ∧ Below w.heap.size w w'
def Ret1 (e : TypeId) (w : World) (r : List Int) (en : Ending) (w' : World) : Prop := ∃ v, en = .returned v ∧ OI e w.heap.size w' v r ∧ Below w.heap.size w w'
theorem OI.nil (e : TypeId) (B : Nat) (w : World) : OI e B w (.slice none 0 0) [] := World.ownsRow_nil _ _ _ _
theorem OI.made (e : TypeId) (w : World) : OI e w.heap.size (w.alloc (.cells #[] e)) (.slice (some ⟨w.heap.size, 0, none⟩) 0 0) [] := World.ownsRow_made _ _ _ (Nat.le_refl _) (by simp [maxLen]) rfl
theorem OI.ri {A : Option Addr} {c : Nat} (h : OI e B w (.slice A xs.length c) xs) : RI w w.heap.size A xs.length xs := Reads.of_own h
/-- What was made first is not touched by what is written into a row that was made later; and the other way round. -/
theorem OI.keptL {wa wb : World} {B2 : Nat} {e2 : TypeId} {v2 : Value} {ys : List Int} (h : OI e B wa v xs) (h2 : OI e2 B2 wb v2 ys) (hlt : wa.heap.size ≤ B2) (hw : OI e B w v xs) (hg : w.grownBy w' v2.ownBlock) : OI e B w' v xs :=
  hw.kept hg (own_ne h h2 hlt)
theorem OI.keptR {wa wb : World} {B2 : Nat} {e2 : TypeId} {v2 : Value} {ys : List Int} (h : OI e B wa v xs) (h2 : OI e2 B2 wb v2 ys) (hlt : wb.heap.size ≤ B) (hw : OI e B w v xs) (hg : w.grownBy w' v2.ownBlock) : OI e B w' v xs :=
  hw.kept hg (own_ne' h2 h hlt)
theorem bel_row {B B2 : Nat} {a b c : World} {e2 : TypeId} {v2 : Value} {ys : List Int} (h : Below B a b) (h2 : OI e2 B2 b v2 ys) (hB : B ≤ B2) (hs : B ≤ b.heap.size) (hg : b.grownBy c v2.ownBlock) : Below B a c :=
  h.grown hg hs fun k hk => Nat.le_trans hB (World.ownsRow.lt h2 k hk).1
theorem ri_of_row {a : Option Addr} {len cap : Nat} {zs : List Int} (h : (a = none ∧ len = 0 ∧ cap = 0 ∧ zs = []) ∨
    ∃ x, a = some x ∧ len ≤ cap ∧ cap ≤ maxLen ∧ zs.length = cap ∧ (∀ i, i < zs.length → w.cell? (x.add i) = some (.int .i64 (zs.getD i 0))) ∧ ∀ n ∈ zs, (Lit.int .i64 n).wf = true) : RI w w.heap.size a len (zs.take len) := by
  rcases h with ⟨rfl, rfl, rfl, rfl⟩ | ⟨x, rfl, h1, h2, h3, h4, _⟩
  · exact RI.nil _ _ _
  · refine ⟨by simp; omega, fun hn => ⟨x, rfl, ?_, fun j u hu => ?_⟩⟩
    · have := World.block_lt_of_cell? _ _ (h4 0 (by omega))
      rwa [block_of_add] at this
    · simp only [List.getElem?_map, List.getElem?_take] at hu
      split at hu
      · have hj : j < zs.length := by omega
        rw [h4 j hj]
        simpa [hj] using hu
      · simp at hu
end
end Go.Proofs.Ytckihflfjecpbaa
