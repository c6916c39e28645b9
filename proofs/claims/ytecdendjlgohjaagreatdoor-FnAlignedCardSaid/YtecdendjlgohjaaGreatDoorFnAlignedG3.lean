import Derived.Test.YtecdendjlgohjaaGreatDoorFnAlignedG2
set_option linter.unusedVariables false
set_option linter.unusedSimpArgs false
namespace Go.Proofs.YtecdendjlgohjaaGreatDoor
open Go.RowKit Go.Sort
set_option maxHeartbeats 4000000
set_option maxRecDepth 100000
set_option linter.unusedVariables false
/-- The names that are drawn, and what is known of the strips so far. -/
def M.nms : List ByteArray := [⟨#[100, 114, 117, 109, 115]⟩, ⟨#[98, 97, 115, 115]⟩, ⟨#[98, 117, 115]⟩, ⟨#[101, 99, 104, 111]⟩, ⟨#[107, 101, 121, 115]⟩, ⟨#[99, 104, 111, 105, 114]⟩]
def M.nm6 (j : Nat) : ByteArray := (M.nms[j]?).getD ⟨#[]⟩
def M.mstr : ByteArray := ⟨#[109, 97, 115, 116, 101, 114]⟩
theorem M.nm6_cases {P : Nat → Prop} (h0 : P 0) (h1 : P 1) (h2 : P 2) (h3 : P 3) (h4 : P 4) (h5 : P 5) : ∀ j, j < 6 → P j := by
  intro j hj
  match j, hj with
  | 0, _ => exact h0
  | 1, _ => exact h1
  | 2, _ => exact h2
  | 3, _ => exact h3
  | 4, _ => exact h4
  | 5, _ => exact h5
  | j + 6, hj => omega
theorem M.nm6_size (j : Nat) (hj : j < 6) : (M.nm6 j).size ≤ 6 := by
  refine M.nm6_cases (P := fun j => (M.nm6 j).size ≤ 6) ?_ ?_ ?_ ?_ ?_ ?_ j hj <;> decide
theorem M.nm6_name (j : Nat) (hj : j < 6) : M.name (M.nm6 j) = true := by
  refine M.nm6_cases (P := fun j => M.name (M.nm6 j) = true) ?_ ?_ ?_ ?_ ?_ ?_ j hj <;> rfl
theorem M.nm6_inj (i j : Nat) (hi : i < 6) (hj : j < 6) (h : M.nm6 i = M.nm6 j) : i = j := by
  have key : ∀ i, i < 6 → ∀ j, j < 6 → (M.nm6 i).data.toList = (M.nm6 j).data.toList → i = j := by
    refine M.nm6_cases ?_ ?_ ?_ ?_ ?_ ?_ <;> (refine M.nm6_cases ?_ ?_ ?_ ?_ ?_ ?_ <;> decide)
  exact key i hi j hj (by rw [h])
theorem M.nm6_mstr (i : Nat) (hi : i < 6) : M.nm6 i ≠ M.mstr := by
  have key : ∀ i, i < 6 → (M.nm6 i).data.toList ≠ M.mstr.data.toList := by
    refine M.nm6_cases ?_ ?_ ?_ ?_ ?_ ?_ <;> decide
  exact fun e => key i hi (by rw [e])
/-- The sends of strip j drawn so far, among N strips, as far as strip j + t. -/
def M.usOk (N j t : Nat) (us : List (Int × Int)) : Prop := M.sendsB N j us = true ∧ (∀ u ∈ us, u.1 < ((j + 1 + t : Nat) : Int)) ∧ (j + 1 + t = N → us.length ≠ 0)
theorem M.sendsB_snoc {m : Int} : ∀ {us : List (Int × Int)} {last : Int} {p g : Int}, M.sendsB m last us = true → (∀ u ∈ us, u.1 < p) → last < p → p ≤ m - 1 → M.smp g = true → M.sendsB m last (us ++ [(p, g)]) = true := by
  intro us
  induction us with
  | nil =>
    intro last p g _ _ h1 h2 h3
    rw [List.nil_append, M.sendsB, M.sendsB, Bool.and_true, Bool.and_eq_true]
    exact ⟨M.inn_iffM.2 ⟨by show last + 1 ≤ p; omega, h2⟩, h3⟩
  | cons u us ih =>
    intro last p g h0 hu h1 h2 h3
    rw [M.sendsB, Bool.and_eq_true] at h0
    rw [List.cons_append, M.sendsB, Bool.and_eq_true]
    exact ⟨h0.1, ih h0.2 (fun v hv => hu v (by simp [hv])) (hu u (by simp)) h2 h3⟩
theorem M.usOk.zero {N j : Nat} (h : j + 1 < N) : M.usOk N j 0 [] := ⟨rfl, fun u hu => by simp at hu, fun e => absurd e (by omega)⟩
theorem M.usOk.skip {N j t : Nat} {us : List (Int × Int)} (h : M.usOk N j t us) (h2 : j + 1 + t + 1 < N ∨ us.length ≠ 0) : M.usOk N j (t + 1) us :=
  ⟨h.1, fun u hu => by have := h.2.1 u hu; omega, fun e => by omega⟩
theorem M.usOk.push {N j t : Nat} {us : List (Int × Int)} (h : M.usOk N j t us) {TT : Nat} (h1 : TT = j + 1 + t) (h2 : TT < N) {g : Int} (h3 : -2147483648 ≤ g ∧ g ≤ 2147483647) : M.usOk N j (t + 1) (us ++ [((TT : Int), g)]) := by
  refine ⟨M.sendsB_snoc h.1 (fun u hu => by have := h.2.1 u hu; omega) (by omega) (by omega) (M.inn_iffM.2 h3), fun u hu => ?_, fun _ => by simp⟩
  rcases List.mem_append.1 hu with hu | hu
  · have := h.2.1 u hu; omega
  · rw [List.mem_singleton.1 hu]; show (TT : Int) < _; omega
def M.drawOk (N : Nat) (ms : List Strip) : Prop := ∀ k x, ms[k]? = some x → k + 1 < N ∧ x.1 = M.nm6 k ∧ M.inn x.2.1 0 32 = true ∧ M.areSends x.2.2 k N = true
theorem M.drawOk.nil (N : Nat) : M.drawOk N [] := fun k x hx => by simp at hx
theorem M.drawOk.push {N j t : Nat} {ms : List Strip} (h : M.drawOk N ms) (hl : ms.length = j) (hj : j + 1 < N) {s : ByteArray} (hs : s = M.nm6 j) {l : Int} (hlt : 0 ≤ l ∧ l ≤ 32) {us : List (Int × Int)} (hus : M.usOk N j t us) (hu4 : us.length ≤ 4) (he : N = j + 1 + t ∨ 4 ≤ us.length) : M.drawOk N (ms ++ [(s, l, us)]) := by
  intro k x hx
  rcases Nat.lt_or_ge k ms.length with h1 | h1
  · rw [List.getElem?_append_left h1] at hx
    exact h k x hx
  · rw [List.getElem?_append_right h1] at hx
    have h2 := (List.getElem?_eq_some_iff.1 hx).1
    simp only [List.length_singleton] at h2
    obtain rfl : k = j := by omega
    rw [show k - ms.length = 0 by omega] at hx
    simp only [List.getElem?_cons_zero, Option.some.injEq] at hx
    subst hx
    refine ⟨hj, hs, M.inn_iffM.2 hlt, ?_⟩
    have h0 : 1 ≤ us.length := by
      rcases he with he | he
      · have := hus.2.2 he.symm; omega
      · omega
    show M.areSends us k N = true
    rw [M.areSends, hus.1, if_neg (by omega), Bool.true_and]
    exact M.inn_iffM.2 (by omega)
theorem M.drawOk.mix {N : Nat} {ms : List Strip} (h : M.drawOk N ms) (hl : ms.length + 1 = N) (hN : N ≤ 7) {l : Int} (hlt : 0 ≤ l ∧ l ≤ 32) : M.mixOk (ms ++ [(M.mstr, l, [])]) = true := by
  have hlen : (ms ++ [(M.mstr, l, ([] : List (Int × Int)))]).length = N := by simp; omega
  rw [M.mixOk, hlen, Bool.and_eq_true, List.all_eq_true]
  refine ⟨M.inn_iffM.2 (by omega), fun k hk => ?_⟩
  have hk := List.mem_range.1 hk
  have htk : (ms ++ [(M.mstr, l, ([] : List (Int × Int)))]).take k = ms.take k := by rw [List.take_append_of_le_length (by omega)]
  have hno : ∀ s : ByteArray, (∀ i, i < k → s ≠ M.nm6 i) → M.has s ((ms.take k).map (·.1)) = false := by
    intro s hs
    rw [M.has, List.any_eq_false]
    intro t ht
    obtain ⟨y, hy, rfl⟩ := List.mem_map.1 ht
    obtain ⟨i, hi⟩ := List.getElem?_of_mem hy
    have hi2 : i < k := by
      have := (List.getElem?_eq_some_iff.1 hi).1
      rw [List.length_take] at this
      omega
    rw [List.getElem?_take, if_pos hi2] at hi
    have := (h i y hi).2.1
    simp only [decide_eq_true_eq]
    intro e
    exact hs i hi2 (e.symm.trans this)
  rcases Nat.lt_or_ge k ms.length with h1 | h1
  · have hx : ms[k]? = some ms[k] := List.getElem?_eq_getElem h1
    generalize ms[k] = x at hx
    obtain ⟨s, l', us⟩ := x
    have h2 := h k _ hx
    simp only at h2
    rw [M.stepM_eq (x := (s, l', us)) (by rw [List.getElem?_append_left h1]; exact hx), hlen, htk, Bool.and_eq_true, M.stripOk]
    simp only
    rw [h2.2.1, M.nm6_name k (by omega), h2.2.2.1, h2.2.2.2, hno (M.nm6 k) (fun i hi e => by have := M.nm6_inj k i (by omega) (by omega) e; omega)]
    exact ⟨rfl, rfl⟩
  · have e : k = ms.length := by omega
    rw [M.stepM_eq (x := (M.mstr, l, [])) (by rw [List.getElem?_append_right h1, e, Nat.sub_self]; rfl), hlen, htk, Bool.and_eq_true, M.stripOk]
    simp only
    rw [show M.name M.mstr = true from rfl, M.inn_iffM.2 hlt, hno M.mstr (fun i hi e => M.nm6_mstr i (by omega) e.symm), M.areSends, M.sendsB, if_pos (by omega)]
    exact ⟨rfl, rfl⟩
theorem names_of (w : World) (us : Array Value) (e : TypeId) (m : Nat) (hm : ∀ j, j < m → ∃ s : ByteArray, s.size ≤ 6 ∧ us[j]? = some (.string s)) : ∀ j, j < m → ∃ s : ByteArray, s.size ≤ 6 ∧ (w.alloc (.cells us e)).cell? ⟨w.heap.size, j, none⟩ = some (.string s) := fun j hj => by
  obtain ⟨s, h1, h2⟩ := hm j hj
  refine ⟨s, h1, ?_⟩
  rw [cell_of_row _ w.heap.size j _ e (0, 0) (heap_alloc_new w _)]
  simpa using h2
theorem names6_of (w : World) (us : Array Value) (e : TypeId) (hm : ∀ j, j < 6 → us[j]? = some (.string (M.nm6 j))) : ∀ j, j < 6 → (w.alloc (.cells us e)).cell? ⟨w.heap.size, j, none⟩ = some (.string (M.nm6 j)) := fun j hj => by
  rw [cell_of_row _ w.heap.size j _ e (0, 0) (heap_alloc_new w _)]
  exact hm j hj
theorem cell_off (w : World) (g : Nat) (v : Value) {i j : Nat} (h : i ≠ j) : (w.setCell ⟨g, i, none⟩ v).cell? ⟨g, j, none⟩ = w.cell? ⟨g, j, none⟩ := World.cell?_setCell_other w ⟨g, i, none⟩ ⟨g, j, none⟩ v (fun e => h (Addr.mk.inj e).2.1)
/-- How the drawing of a mixer stands. -/
structure DM (w : World) (b lo : Nat) (A : Option Addr) (n c : Nat) (code : List UInt8) (NB K : Nat) (ms : List Strip) (v : Value) (wr : World) : Prop where
  c0 : wr.cell? ⟨w.heap.size, 0, none⟩ = some (.slice none 0 0)
  f0 : wr.frozen? ⟨w.heap.size, 0, none⟩ = false
  c1 : wr.cell? ⟨w.heap.size + 1, 0, none⟩ = some v
  f1 : wr.frozen? ⟨w.heap.size + 1, 0, none⟩ = false
  nm : Hid (∀ j, j < 6 → wr.cell? ⟨NB, j, none⟩ = some (.string (M.nm6 j)))
  own : OS tSt 44 wr (Iv (NB + 1) wr.heap.size) v ms
  tiny : Hid (M.tiny 4 ms)
  src : Src wr b lo A n c code K
  mid : Mid b (b + 1) w wr
  sz : NB + 1 ≤ wr.heap.size
  lo : w.heap.size + 2 ≤ NB
theorem DM.step {w wr w' : World} {b lo : Nat} {A : Option Addr} {n c : Nat} {code : List UInt8} {NB K K' : Nat} {ms : List Strip} {v : Value} (h : DM w b lo A n c code NB K ms v wr) (hb : b < w.heap.size) (hs : Src w' b lo A n c code K') (hm : Mid b (b + 1) wr w') : DM w b lo A n c code NB K' ms v w' := by
  have hz := h.sz
  have hl := h.lo
  exact ⟨hm.cellK (by omega) (.inr (by omega)) h.c0, hm.frozK (by omega) (.inr (by omega)) h.f0, hm.cellK (by omega) (.inr (by omega)) h.c1, hm.frozK (by omega) (.inr (by omega)) h.f1,
    Lib.hid (fun j hj => hm.cellK (by omega) (.inr (by omega)) (h.nm.out j hj)),
    (h.own.mid hm (.inr (by omega)) (Nat.le_refl _)).iv (Nat.le_refl _) hm.size, h.tiny, hs, h.mid.trans hm, Nat.le_trans hz hm.size, hl⟩
theorem DM.more {w wr : World} {b lo : Nat} {A : Option Addr} {n c : Nat} {code : List UInt8} {NB K K' : Nat} {ms : List Strip} {v : Value} (h : DM w b lo A n c code NB K ms v wr) (hK : K ≤ K') : DM w b lo A n c code NB K' ms v wr :=
  ⟨h.c0, h.f0, h.c1, h.f1, h.nm, h.own, h.tiny, h.src.more hK, h.mid, h.sz, h.lo⟩
/-- A strip is pushed. -/
theorem DM.push {w wr w4 : World} {b lo : Nat} {A : Option Addr} {n c : Nat} {code : List UInt8} {NB K : Nat} {ms : List Strip} {v v4 : Value} {y : Strip} {X : Nat} (h : DM w b lo A n c code NB K ms v wr) (hb : b < w.heap.size)
    (own : OS tSt 44 w4 (fun z => Iv (NB + 1) wr.heap.size z ∨ Iv X wr.heap.size z ∨ wr.heap.size < z ∧ z < w4.heap.size) v4 (ms ++ [y])) (hX : NB + 1 ≤ X) (hc : Chg (Iv (NB + 1) wr.heap.size) wr w4) (hy : y.1.size ≤ 6 ∧ y.2.2.length ≤ 4) :
    DM w b lo A n c code NB K (ms ++ [y]) v4 (w4.setCell ⟨w.heap.size + 1, 0, none⟩ v4) := by
  have hz := h.sz
  have hl := h.lo
  have hbw := h.src.lt
  have hs4 : wr.heap.size ≤ w4.heap.size := hc.size
  have hn : ∀ k, k < NB + 1 → ¬ Iv (NB + 1) wr.heap.size k := fun k hk hi => by have h1 : NB + 1 ≤ k := hi.1; omega
  have C1 : ∀ (k o : Nat) (u : Option Value), k < NB + 1 → k ≠ w.heap.size + 1 → wr.cell? ⟨k, o, none⟩ = u → (w4.setCell ⟨w.heap.size + 1, 0, none⟩ v4).cell? ⟨k, o, none⟩ = u := fun k o u hk hk2 hu => by
    rw [World.cell?_of_block (heap_setCell_other w4 ⟨w.heap.size + 1, 0, none⟩ k v4 hk2), hc.cell1 (show k < _ by omega) (hn k hk)]; exact hu
  have v0 : w4.cell? ⟨w.heap.size + 1, 0, none⟩ = some v := by rw [hc.cell1 (show w.heap.size + 1 < _ by omega) (hn _ (by show w.heap.size + 1 < _; omega))]; exact h.c1
  have CB : Chg (fun b => b = w.heap.size + 1) w4 (w4.setCell ⟨w.heap.size + 1, 0, none⟩ v4) := Chg.set w4 (w.heap.size + 1) 0 _ rfl
  have e95 : (w4.setCell ⟨w.heap.size + 1, 0, none⟩ v4).heap.size = w4.heap.size := by simp
  have CG : Chg (fun z => Iv (NB + 1) wr.heap.size z ∨ z = w.heap.size + 1) wr (w4.setCell ⟨w.heap.size + 1, 0, none⟩ v4) := (hc.wide (fun _ h => .inl h)).trans (CB.wide (fun _ h => .inr h))
  have MB : Below w.heap.size wr (w4.setCell ⟨w.heap.size + 1, 0, none⟩ v4) := CG.toBelow (fun z h => by
    rcases h with h | h
    · have h1 : NB + 1 ≤ z := h.1; omega
    · omega) (by omega)
  refine ⟨C1 _ _ _ (by omega) (by omega) h.c0, ?_, World.cell?_setCell_same _ _ _ v0, ?_, Lib.hid (fun j hj => ?_), ?_, Lib.hid (M.tiny_app h.tiny.out hy), h.src.below MB hb, ?_, by rw [e95]; omega, hl⟩
  · rw [World.frozen?_setCell, hc.frozen1 (by show w.heap.size < _; omega) (hn _ (by show w.heap.size < _; omega))]; exact h.f0
  · rw [World.frozen?_setCell, hc.frozen1 (by show w.heap.size + 1 < _; omega) (hn _ (by show w.heap.size + 1 < _; omega))]; exact h.f1
  · exact C1 _ _ _ (by omega) (by omega) (h.nm.out j hj)
  · rw [e95]
    refine (own.chg CB (fun z hz' (h' : z = w.heap.size + 1) => ?_)).wide (fun z hz' => ?_)
    · rcases hz' with h1 | h1 | h1
      · have h2 : NB + 1 ≤ z := h1.1; omega
      · have h2 : X ≤ z := h1.1; omega
      · omega
    · rcases hz' with h1 | h1 | h1
      · exact ⟨h1.1, by have h2 : z < wr.heap.size := h1.2; omega⟩
      · exact ⟨by have h2 : X ≤ z := h1.1; omega, by have h2 : z < wr.heap.size := h1.2; omega⟩
      · exact ⟨by omega, by omega⟩
  · exact ⟨MB.os.trans h.mid.os, MB.tape.trans h.mid.tape, MB.output.trans h.mid.output, Nat.le_trans h.mid.size MB.size, fun i hi' hm => (MB.block i (by omega)).trans (h.mid.block i hi' hm)⟩
/-- How the drawing of a strip stands. -/
structure DX (w1 : World) (b lo : Nat) (A : Option Addr) (n c : Nat) (code : List UInt8) (K : Nat) (s : ByteArray) (l : Int) (us : List (Int × Int)) (v : Value) (wr : World) : Prop where
  p0 : wr.cell? ⟨w1.heap.size, 0, none⟩ = some (.string s)
  p1 : wr.cell? ⟨w1.heap.size, 1, none⟩ = some (.int .i64 l)
  p2 : wr.cell? ⟨w1.heap.size, 2, none⟩ = some v
  f1 : wr.frozen? ⟨w1.heap.size, 1, none⟩ = false
  f2 : wr.frozen? ⟨w1.heap.size, 2, none⟩ = false
  own : OS tSd 47 wr (Iv (w1.heap.size + 1) wr.heap.size) v us
  src : Src wr b lo A n c code K
  mid : Mid b (b + 1) w1 wr
  sz : w1.heap.size + 1 ≤ wr.heap.size
theorem DX.step {w1 wr w' : World} {b lo : Nat} {A : Option Addr} {n c : Nat} {code : List UInt8} {K K' : Nat} {s : ByteArray} {l : Int} {us : List (Int × Int)} {v : Value} (h : DX w1 b lo A n c code K s l us v wr) (hb : b < w1.heap.size) (hs : Src w' b lo A n c code K') (hm : Mid b (b + 1) wr w') : DX w1 b lo A n c code K' s l us v w' := by
  have hz := h.sz
  exact ⟨hm.cellK (by omega) (.inr (by omega)) h.p0, hm.cellK (by omega) (.inr (by omega)) h.p1, hm.cellK (by omega) (.inr (by omega)) h.p2, hm.frozK (by omega) (.inr (by omega)) h.f1, hm.frozK (by omega) (.inr (by omega)) h.f2,
    (h.own.mid hm (.inr (by omega)) (Nat.le_refl _)).iv (Nat.le_refl _) hm.size, hs, h.mid.trans hm, Nat.le_trans hz hm.size⟩
theorem DX.more {w1 wr : World} {b lo : Nat} {A : Option Addr} {n c : Nat} {code : List UInt8} {K K' : Nat} {s : ByteArray} {l : Int} {us : List (Int × Int)} {v : Value} (h : DX w1 b lo A n c code K s l us v wr) (hK : K ≤ K') : DX w1 b lo A n c code K' s l us v wr :=
  ⟨h.p0, h.p1, h.p2, h.f1, h.f2, h.own, h.src.more hK, h.mid, h.sz⟩
theorem DX.start {w1 : World} {b lo : Nat} {A : Option Addr} {n c : Nat} {code : List UInt8} {K : Nat} (s : ByteArray) (h : Src w1 b lo A n c code K) :
    DX w1 b lo A n c code K s 0 [] (.slice none 0 0) (w1.alloc (.cells #[.string s, .int .i64 0, .slice none 0 0] 44)) := by
  have hB : Below w1.heap.size w1 (w1.alloc (.cells #[.string s, .int .i64 0, .slice none 0 0] 44)) := (Below.refl _ _).alloc (Nat.le_refl _) _
  exact ⟨by simp [go_sem], by simp [go_sem], by simp [go_sem], by simp [go_sem], by simp [go_sem], OS.nil _ _ _ _, h.below hB h.lt, Mid.of_below hB _ _, by simp⟩
theorem DX.lat {w1 wr : World} {b lo : Nat} {A : Option Addr} {n c : Nat} {code : List UInt8} {K : Nat} {s : ByteArray} {l : Int} {us : List (Int × Int)} {v : Value} (h : DX w1 b lo A n c code K s l us v wr) (hb : b < w1.heap.size) (l' : Int) : DX w1 b lo A n c code K s l' us v (wr.setCell ⟨w1.heap.size, 1, none⟩ (.int .i64 l')) := by
  have hz := h.sz
  have MB : Below w1.heap.size wr (wr.setCell ⟨w1.heap.size, 1, none⟩ (.int .i64 l')) := (Below.refl w1.heap.size wr).setCell (p := ⟨w1.heap.size, 1, none⟩) (Nat.le_refl _) _
  refine ⟨?_, World.cell?_setCell_same _ _ _ h.p1, ?_, (World.frozen?_setCell _ _ _ _).trans h.f1, ?_, ?_, h.src.below MB hb, h.mid.thenB' MB (Nat.le_refl _), by simpa using hz⟩
  · exact (cell_off wr _ _ (by decide)).trans h.p0
  · exact (cell_off wr _ _ (by decide)).trans h.p2
  · rw [World.frozen?_setCell]; exact h.f2
  · have hm : Mid w1.heap.size (w1.heap.size + 1) wr (wr.setCell ⟨w1.heap.size, 1, none⟩ (.int .i64 l')) := Mid.cell wr w1.heap.size 1 _
    exact (h.own.mid hm (.inr (Nat.le_refl _)) (Nat.le_refl _)).iv (Nat.le_refl _) hm.size
/-- A send is pushed. -/
theorem DX.push {w1 wr w4 : World} {b lo : Nat} {A : Option Addr} {n c : Nat} {code : List UInt8} {K : Nat} {s : ByteArray} {l : Int} {us : List (Int × Int)} {v v4 : Value} {y : Int × Int} (h : DX w1 b lo A n c code K s l us v wr) (hb : b < w1.heap.size)
    (own : OS tSd 47 w4 (fun z => Iv (w1.heap.size + 1) wr.heap.size z ∨ False ∨ wr.heap.size < z ∧ z < w4.heap.size) v4 (us ++ [y])) (hc : Chg (Iv (w1.heap.size + 1) wr.heap.size) wr w4) :
    DX w1 b lo A n c code K s l (us ++ [y]) v4 (w4.setCell ⟨w1.heap.size, 2, none⟩ v4) := by
  have hz := h.sz
  have hs4 : wr.heap.size ≤ w4.heap.size := hc.size
  have hn : ¬ Iv (w1.heap.size + 1) wr.heap.size w1.heap.size := fun hi => by have h1 : w1.heap.size + 1 ≤ w1.heap.size := hi.1; omega
  have q0 : ∀ o u, wr.cell? ⟨w1.heap.size, o, none⟩ = u → w4.cell? ⟨w1.heap.size, o, none⟩ = u := fun o u hu => by rw [hc.cell1 (show w1.heap.size < _ by omega) hn]; exact hu
  have CB : Chg (fun b => b = w1.heap.size) w4 (w4.setCell ⟨w1.heap.size, 2, none⟩ v4) := Chg.set w4 w1.heap.size 2 _ rfl
  have e95 : (w4.setCell ⟨w1.heap.size, 2, none⟩ v4).heap.size = w4.heap.size := by simp
  have CG : Chg (fun z => Iv (w1.heap.size + 1) wr.heap.size z ∨ z = w1.heap.size) wr (w4.setCell ⟨w1.heap.size, 2, none⟩ v4) := (hc.wide (fun _ h => .inl h)).trans (CB.wide (fun _ h => .inr h))
  have MB : Below w1.heap.size wr (w4.setCell ⟨w1.heap.size, 2, none⟩ v4) := CG.toBelow (fun z h => by
    rcases h with h | h
    · have h1 : w1.heap.size + 1 ≤ z := h.1; omega
    · omega) (by omega)
  refine ⟨?_, ?_, World.cell?_setCell_same _ _ _ (q0 _ _ h.p2), (World.frozen?_setCell _ _ _ _).trans ((hc.frozen1 (by show w1.heap.size < _; omega) hn).trans h.f1), ?_, ?_, h.src.below MB hb, h.mid.thenB' MB (Nat.le_refl _), by rw [e95]; omega⟩
  · exact (cell_off w4 _ _ (by decide)).trans (q0 _ _ h.p0)
  · exact (cell_off w4 _ _ (by decide)).trans (q0 _ _ h.p1)
  · rw [World.frozen?_setCell, hc.frozen1 (by show w1.heap.size < _; omega) hn]; exact h.f2
  · rw [e95]
    refine (own.chg CB (fun z hz' (h' : z = w1.heap.size) => ?_)).wide (fun z hz' => ?_)
    · rcases hz' with h1 | h1 | h1
      · have h2 : w1.heap.size + 1 ≤ z := h1.1; omega
      · exact h1
      · omega
    · rcases hz' with h1 | h1 | h1
      · exact ⟨h1.1, by have h2 : z < wr.heap.size := h1.2; omega⟩
      · exact h1.elim
      · exact ⟨by omega, by omega⟩
/-- What the drawing of a mixer gives back. -/
def DrewM (b lo : Nat) (A : Option Addr) (n c : Nat) (code : List UInt8) (K : Nat) (w : World) (e : Ending) (w' : World) : Prop :=
  ∃ A1 c1 ms, e = .returned (.agg #[.slice A1 (List.length ms) c1]) ∧ OS tSt 44 w' (Iv w.heap.size w'.heap.size) (.slice A1 ms.length c1) ms ∧ ms.length ≤ 6 ∧ 1 ≤ ms.length ∧ Hid (M.tiny 4 ms) ∧ Hid (M.mixOk ms = true) ∧ Src w' b lo A n c code K ∧ Mid b (b + 1) w w'
end Go.Proofs.YtecdendjlgohjaaGreatDoor
namespace Go.Proofs.YtecdendjlgohjaaGreatDoor
open Go.RowKit Go.Sort
set_option maxHeartbeats 4000000
set_option maxRecDepth 100000
set_option linter.unusedVariables false
theorem src_among5 (b lo : Nat) (A : Option Addr) (n c : Nat) (code : List UInt8) (K : Nat) (w : World) (h : Src w b lo A n c code K) (hK : K ≤ 1000000000) :
    Calls Tryz.prog 57 #[.pointer (some ⟨b, 0, none⟩), .slice (some ⟨w.heap.size, 0, none⟩) 5 5] (w.alloc (.cells #[.int .i64 1, .int .i64 2, .int .i64 5, .int .i64 9, .int .i64 3] 2)) (Drew b lo A n c code (K + 2) (fun v => 0 ≤ v ∧ v ≤ 32) w) := by
  have hB : Below w.heap.size w (w.alloc (.cells #[.int .i64 1, .int .i64 2, .int .i64 5, .int .i64 9, .int .i64 3] 2)) := (Below.refl _ _).alloc (Nat.le_refl _) _
  have hb := h.lt
  refine (src_among b lo A n c code K w.heap.size 5 5 [1, 2, 5, 9, 3] _ (h.below hB hb) (by omega) rfl (by omega) (by omega) (by simp) ?_).mono ?_
  · intro j x hx
    rw [cell_of_row _ w.heap.size j _ 2 (0, 0) (heap_alloc_new w _)]
    match j, hx with
    | 0, hx => simp at hx; subst hx; rfl
    | 1, hx => simp at hx; subst hx; rfl
    | 2, hx => simp at hx; subst hx; rfl
    | 3, hx => simp at hx; subst hx; rfl
    | 4, hx => simp at hx; subst hx; rfl
    | j + 5, hx => simp at hx
  · rintro e w2 ⟨x, rfl, hx, s3, m3⟩
    exact ⟨x, rfl, by simp only [List.mem_cons, List.not_mem_nil, or_false] at hx; omega, s3, (Mid.of_below hB _ _).trans m3⟩
theorem spec_l26Draw (b lo : Nat) (A : Option Addr) (n c : Nat) (code : List UInt8) (K : Nat) (w : World) (h : Src w b lo A n c code K) (hK : K ≤ 1000000) :
    Calls Tryz.prog 54 #[.pointer (some ⟨b, 0, none⟩)] w (DrewM b lo A n c code (K + 200) w) := by
  have hbw := h.lt
  obtain ⟨W0, hW0⟩ : ∃ W, W = (w.alloc (.cells #[.slice none 0 0] 24)).alloc (.cells #[.slice none 0 0] 24) := ⟨_, rfl⟩
  have B0 : Below w.heap.size w W0 := by rw [hW0]; exact ((Below.refl _ _).alloc (Nat.le_refl _) _).alloc (by simp) _
  have z0 : W0.heap.size = w.heap.size + 2 := by rw [hW0]; simp
  have c0 : W0.cell? ⟨w.heap.size, 0, none⟩ = some (.slice none 0 0) := by rw [hW0]; simp [go_sem]
  have f0 : W0.frozen? ⟨w.heap.size, 0, none⟩ = false := by rw [hW0]; simp [go_sem]
  have c1 : W0.cell? ⟨w.heap.size + 1, 0, none⟩ = some (.slice none 0 0) := by rw [hW0]; simp [go_sem]
  have f1 : W0.frozen? ⟨w.heap.size + 1, 0, none⟩ = false := by rw [hW0]; simp [go_sem]
  have s0 := h.below B0 hbw
  have HW0 := Lib.hid hW0
  have HZ0 := Lib.hid z0
  clear hW0
  go_enter Tryz.func54, Tryz.ntmps54
  go_wp2_with fail
  rw [← HW0.out]
  refine (src_pick b lo A n c code K 5 W0 s0 (by omega) (by omega)).mono ?_
  rintro e x1 ⟨N1, rfl, ⟨N0, N2⟩, s1, m1⟩
  obtain ⟨N', rfl⟩ : ∃ q : Nat, N1 = q := ⟨N1.toNat, by omega⟩
  have hN' : N' ≤ 4 := by omega
  clear N2 N0
  have t1 := m1.size
  have D1 : DM w b lo A n c code x1.heap.size (K + 2) [] (.slice none 0 0) (x1.alloc (.cells #[.string ⟨#[100, 114, 117, 109, 115]⟩, .string ⟨#[98, 97, 115, 115]⟩, .string ⟨#[98, 117, 115]⟩, .string ⟨#[101, 99, 104, 111]⟩, .string ⟨#[107, 101, 121, 115]⟩, .string ⟨#[99, 104, 111, 105, 114]⟩] 9)) := by
    have hB : Below x1.heap.size x1 (x1.alloc (.cells #[.string ⟨#[100, 114, 117, 109, 115]⟩, .string ⟨#[98, 97, 115, 115]⟩, .string ⟨#[98, 117, 115]⟩, .string ⟨#[101, 99, 104, 111]⟩, .string ⟨#[107, 101, 121, 115]⟩, .string ⟨#[99, 104, 111, 105, 114]⟩] 9)) := (Below.refl _ _).alloc (Nat.le_refl _) _
    have M1 : Mid b (b + 1) W0 _ := m1.thenB' hB m1.size
    refine ⟨M1.cellK (by omega) (.inr (by omega)) c0, M1.frozK (by omega) (.inr (by omega)) f0, M1.cellK (by omega) (.inr (by omega)) c1, M1.frozK (by omega) (.inr (by omega)) f1, Lib.hid (names6_of x1 _ _ ?_), OS.nil _ _ _ _, Lib.hid (fun x hx => by simp at hx), s1.below hB (by omega), (Mid.of_below B0 _ _).trans M1, by simp, by omega⟩
    exact M.nm6_cases rfl rfl rfl rfl rfl rfl
  clear s1 m1 c0 f0 c1 f1 s0
  obtain ⟨NB, hNB⟩ : ∃ q, q = x1.heap.size := ⟨_, rfl⟩
  obtain ⟨x2, hx2⟩ : ∃ u, u = x1.alloc (.cells #[.string ⟨#[100, 114, 117, 109, 115]⟩, .string ⟨#[98, 97, 115, 115]⟩, .string ⟨#[98, 117, 115]⟩, .string ⟨#[101, 99, 104, 111]⟩, .string ⟨#[107, 101, 121, 115]⟩, .string ⟨#[99, 104, 111, 105, 114]⟩] 9) := ⟨_, rfl⟩
  rw [← hx2, ← hNB] at D1
  have HX2 := Lib.hid hx2
  have HNB := Lib.hid hNB
  clear hx2 hNB z0
  obtain ⟨N, hN⟩ : ∃ q : Nat, q = 1 + N' := ⟨_, rfl⟩
  have hN1 : 1 ≤ N ∧ N ≤ 5 := by omega
  have HN := Lib.hid (show 1 + (N' : Int) = (N : Int) by omega)
  clear hN
  go_wp2_with fail
  rw [HN.out, ← HX2.out, ← HNB.out]
  clear hN'
  go_loopw [6] (fun i wr => ∃ (j : Nat) (ms : List Strip) (v : Value), i = .int .i64 j ∧ j + 1 ≤ N ∧ Hid (ms.length = j) ∧ Hid (M.drawOk N ms) ∧ DM w b lo A n c code NB (K + 2 + 40 * j) ms v wr) (fun i _ => N - (intOf i).toNat)
  case atStart => exact ⟨0, [], _, rfl, by omega, Lib.hid rfl, Lib.hid (M.drawOk.nil N), D1⟩
  case round =>
    clear D1
    obtain ⟨j, ms, v, rfl, hj, hml, hdr, D⟩ := hrel
    have HD := Lib.hid D
    have V1 := D.c1
    have V0 := D.c0
    have VF := D.f1
    have VF0 := D.f0
    have VZ := D.sz
    have VL := D.lo
    obtain ⟨Av, cv, ev⟩ := D.own.shape
    subst ev
    by_cases hlt : j + 1 < N
    · have hnm := D.nm.out j (by omega)
      obtain ⟨s, hs⟩ : ∃ s, s = M.nm6 j := ⟨_, rfl⟩
      rw [← hs] at hnm
      have hs6 : s.size ≤ 6 := by rw [hs]; exact M.nm6_size j (by omega)
      have HS6 := Lib.hid hs
      clear hs
      have E0 := DX.start s D.src
      obtain ⟨W1, hW1⟩ : ∃ u, u = wr := ⟨_, rfl⟩
      have hb1 : b < W1.heap.size := by rw [hW1]; omega
      rw [← hW1] at HD hnm E0 V0 V1 VF VF0 VZ ⊢
      clear hW1 D
      obtain ⟨Y1, hY1⟩ : ∃ u, u = W1.alloc (.cells #[.string s, .int .i64 0, .slice none 0 0] 44) := ⟨_, rfl⟩
      rw [← hY1] at E0
      have HY1 := Lib.hid hY1
      have SO := Lib.hid (src_one b lo A n c code _ 2 Y1 E0.src (by omega) (by omega))
      have HE0 := Lib.hid E0
      clear hY1 E0
      go_wp2_with fail
      rw [← HY1.out]
      refine SO.out.mono ?_
      rintro e y2 ⟨r, rfl, s2, m2⟩
      have E0 := HE0.out.step hb1 s2 m2
      cases r
      · obtain ⟨lt, hlt0⟩ : ∃ z : Int, z = 0 := ⟨_, rfl⟩
        rw [← hlt0] at E0
        have HLT := Lib.hid (show 0 ≤ lt ∧ lt ≤ 32 by omega)
        clear hlt0
        go_wp2_with fail
        obtain ⟨wS, hS⟩ : ∃ u, u = y2 := ⟨_, rfl⟩
        rw [← hS] at E0 ⊢
        clear hS
        go_loopw [8] (fun i wx => ∃ (t : Nat) (us : List (Int × Int)) (vu : Value), i = .int .i64 ((j : Int) + 1 + t) ∧ j + 1 + t ≤ N ∧ us.length ≤ 4 ∧ Hid (M.usOk N j t us) ∧ DX W1 b lo A n c code (K + 2 + 40 * j + 4 + 8 * t) s lt us vu wx) (fun i _ => N - (intOf i).toNat)
        case atStart => exact ⟨0, [], _, by simp, by omega, by simp, Lib.hid (M.usOk.zero (by omega)), E0.more (by omega)⟩
        case round =>
          clear E0
          obtain ⟨t, us, vu, rfl, ht, hu4, hus, E⟩ := hrel
          have hTO := Lib.hid (show (j : Int) + 1 + (t : Int) = ((j + 1 + t : Nat) : Int) by omega)
          rw [hTO.out]
          generalize hTT : j + 1 + t = TT at ht hTO ⊢
          have htt : TT ≤ j + 1 + t ∧ j + 1 + t ≤ TT := by omega
          clear hTT
          have HEE := Lib.hid E
          have P0 := E.p0
          have P1 := E.p1
          have P2 := E.p2
          have EX := E.sz
          obtain ⟨Au0, cu0, eu0⟩ := E.own.shape
          subst eu0
          by_cases hlt : TT < N
          · by_cases h4 : us.length < 4
            · have SO := Lib.hid (src_one b lo A n c code _ 2 wr E.src (by omega) (by omega))
              clear E
              go_wp2_with fail
              refine SO.out.mono ?_
              rintro e wx2 ⟨r, rfl, s2, m2⟩
              have E2 := HEE.out.step hb1 s2 m2
              cases r
              · have P22 := E2.p2
                by_cases hl1 : TT + 1 < N
                · have l1 : ¬ (TT : Int) = (N : Int) - 1 := by omega
                  go_wp2_with fail
                  go_roundw
                  case rel => exact ⟨t + 1, us, _, by go_num, by omega, hu4, Lib.hid (hus.out.skip (by omega)), E2.more (by omega)⟩
                  case measure => simp [intOf]; omega
                · have l1 : (TT : Int) = (N : Int) - 1 := by omega
                  by_cases hl2 : us.length = 0
                  · obtain rfl : us = [] := List.eq_nil_of_length_eq_zero hl2
                    clear l1 hl2
                    have l1 : (N : Int) - 1 = (TT : Int) := by omega
                    clear hl1
                    simp only [List.length_nil] at E2 P22 P2
                    obtain ⟨U, hU⟩ : ∃ U, U = wx2 := ⟨_, rfl⟩
                    rw [← hU] at E2 ⊢
                    have HE2 := Lib.hid E2
                    have UP2 := E2.p2
                    have UF2 := E2.f2
                    have UX := E2.sz
                    obtain ⟨G, hG⟩ : ∃ G : Nat → Prop, G = fun k => k = b ∨ Iv (W1.heap.size + 1) U.heap.size k := ⟨_, rfl⟩
                    have HG := Lib.hid hG
                    have GX := Lib.hid (show ¬ G W1.heap.size from fun h => by
                      rw [hG] at h
                      rcases h with h | h
                      · omega
                      · have h1 : W1.heap.size + 1 ≤ W1.heap.size := h.1; omega)
                    have g2 := ChgTo.cell (F := G) UP2 (fun h => GX.out h)
                    have bsU := E2.src.lt
                    clear hU hG
                    have SD := Lib.hid (spec_l01Draw b lo A n c code _ U.drew (E2.src.below (below_drewN (Below.refl U.heap.size _) 1) bsU) (by omega))
                    clear E2
                    go_wp2_with fail
                    (refine wp_region_chg G [0, 2, 3] [1] 5 (.one 4 (.one 5 (.one 6 (.one 7 (.first 8 .rest))))) [9] [9] (by kernel_rfl) (by kernel_rfl) ?_; simp only [pickOps]; simp only [List.filterMap, List.getElem?_cons_succ, List.getElem?_cons_zero]; (repeat (go_big_quiet_step (fail))); refine wpQuiet_nil ?_; (repeat (go_big_quiet_step (fail))); refine wpQuiet_nil ?_)
                    refine seqT_one2 rfl ?_
                    go_wp2_with fail
                    refine SD.out.mono ?_
                    rintro e x5 ⟨gz, rfl, hgz, s5, m5⟩
                    have HGZ := Lib.hid hgz
                    clear hgz
                    have m5' : Mid b (b + 1) U x5 := (Mid.of_below (below_drewN (Below.refl U.heap.size _) 1) b (b + 1)).trans m5
                    have E5 := HE2.out.step hb1 s5 m5'
                    have lt5 := m5'.size
                    have C5 : Chg G U x5 := ⟨m5'.os, m5'.tape, m5'.output, m5'.size, fun i hi hn => m5'.block i hi (by
                      rw [HG.out] at hn
                      rcases Nat.lt_or_ge i b with h | h
                      · exact .inl h
                      · exact .inr (by rcases Nat.lt_or_ge b i with h2 | h2; exact h2; exact absurd (.inl (by omega)) hn))⟩
                    have HE5 := Lib.hid E5
                    have q2 := E5.p2
                    have r2 := E5.f2
                    have o5 := E5.own
                    clear E5
                    go_wp2_with fail
                    refine ⟨⟨⟨x5, C5⟩, rfl⟩, seqT_one2 rfl ?_⟩
                    go_wp2_with fail
                    refine ⟨⟨⟨x5, C5⟩, rfl⟩, seqT_one2 rfl ?_⟩
                    go_wp2_with fail
                    refine ⟨⟨⟨_, C5.trans (Chg.of_below ((Below.refl _ _).alloc (Nat.le_refl _) _) _)⟩, rfl⟩, seqT_one2 rfl ?_⟩
                    go_wp2_with (at_builtin; refine wpList_pushS ei_sd #[.int .i64 (TT : Int), .int .i64 gz] rfl _ _ rfl o5 (Fe := fun _ => False) (y := ((TT : Int), gz)) rfl (fun _ _ h => h) rfl rfl (by unfold maxLen; omega) (by omega) ?_; intro v6 w6 own6 ch6; obtain ⟨A6, c6, e6⟩ := own6.shape; rw [List.length_append, List.length_singleton] at e6; subst e6; have q6 : w6.cell? ⟨W1.heap.size, 2, none⟩ = some (.slice Au0 0 cu0) := (by rw [ch6.cell1 (show W1.heap.size < x5.heap.size by omega) (fun h => by have h1 : W1.heap.size + 1 ≤ W1.heap.size := h.1; omega)]; exact q2); have r6 : w6.frozen? ⟨W1.heap.size, 2, none⟩ = false := (by rw [ch6.frozen1 (show W1.heap.size < x5.heap.size by omega) (fun h => by have h1 : W1.heap.size + 1 ≤ W1.heap.size := h.1; omega)]; exact r2))
                    have CH6 : Chg (fun k => G k ∨ Iv (W1.heap.size + 1) x5.heap.size k) U w6 := (C5.wide (fun _ h => .inl h)).trans (ch6.wide (fun _ h => .inr h))
                    have CG6 : Chg G U w6 := ⟨CH6.os, CH6.tape, CH6.output, CH6.size, fun i hi hn => CH6.block i hi (fun h => by
                      rcases h with h | h
                      · exact hn h
                      · exact hn (by rw [HG.out]; exact .inr ⟨h.1, hi⟩))⟩
                    refine ⟨⟨⟨w6, CG6⟩, rfl⟩, ?_⟩
                    (refine seqT_first2 rfl ?_; (repeat (go_big_quiet_step (fail))); refine wpQuiet_nil ?_)
                    refine seqT_rest2 ?_
                    have E6 := HE5.out.push hb1 own6 ch6
                    go_wp2_with fail
                    go_roundw
                    case rel => exact ⟨t + 1, [] ++ [((TT : Int), gz)], _, by go_num, by omega, by first | (simp; done) | (simp; omega), Lib.hid (hus.out.push (by omega) (by omega) HGZ.out), E6.more (by omega)⟩
                    case measure => simp [intOf]; omega
                  · have l2 : ¬ (us.length : Int) = 0 := by omega
                    go_wp2_with fail
                    go_roundw
                    case rel => exact ⟨t + 1, us, _, by go_num, by omega, hu4, Lib.hid (hus.out.skip (by omega)), E2.more (by omega)⟩
                    case measure => simp [intOf]; omega
              ·
                obtain ⟨U, hU⟩ : ∃ U, U = wx2 := ⟨_, rfl⟩
                rw [← hU] at E2 ⊢
                have HE2 := Lib.hid E2
                have UP2 := E2.p2
                have UF2 := E2.f2
                have UX := E2.sz
                obtain ⟨G, hG⟩ : ∃ G : Nat → Prop, G = fun k => k = b ∨ Iv (W1.heap.size + 1) U.heap.size k := ⟨_, rfl⟩
                have HG := Lib.hid hG
                have GX := Lib.hid (show ¬ G W1.heap.size from fun h => by
                  rw [hG] at h
                  rcases h with h | h
                  · omega
                  · have h1 : W1.heap.size + 1 ≤ W1.heap.size := h.1; omega)
                have g2 := ChgTo.cell (F := G) UP2 (fun h => GX.out h)
                have bsU := E2.src.lt
                clear hU hG
                have SD := Lib.hid (spec_l01Draw b lo A n c code _ U.drew (E2.src.below (below_drewN (Below.refl U.heap.size _) 1) bsU) (by omega))
                clear E2
                go_wp2_with fail
                (refine wp_region_chg G [0, 2, 3] [1] 5 (.one 4 (.one 5 (.one 6 (.one 7 (.first 8 .rest))))) [9] [9] (by kernel_rfl) (by kernel_rfl) ?_; simp only [pickOps]; simp only [List.filterMap, List.getElem?_cons_succ, List.getElem?_cons_zero]; (repeat (go_big_quiet_step (fail))); refine wpQuiet_nil ?_; (repeat (go_big_quiet_step (fail))); refine wpQuiet_nil ?_)
                refine seqT_one2 rfl ?_
                go_wp2_with fail
                refine SD.out.mono ?_
                rintro e x5 ⟨gz, rfl, hgz, s5, m5⟩
                have HGZ := Lib.hid hgz
                clear hgz
                have m5' : Mid b (b + 1) U x5 := (Mid.of_below (below_drewN (Below.refl U.heap.size _) 1) b (b + 1)).trans m5
                have E5 := HE2.out.step hb1 s5 m5'
                have lt5 := m5'.size
                have C5 : Chg G U x5 := ⟨m5'.os, m5'.tape, m5'.output, m5'.size, fun i hi hn => m5'.block i hi (by
                  rw [HG.out] at hn
                  rcases Nat.lt_or_ge i b with h | h
                  · exact .inl h
                  · exact .inr (by rcases Nat.lt_or_ge b i with h2 | h2; exact h2; exact absurd (.inl (by omega)) hn))⟩
                have HE5 := Lib.hid E5
                have q2 := E5.p2
                have r2 := E5.f2
                have o5 := E5.own
                clear E5
                go_wp2_with fail
                refine ⟨⟨⟨x5, C5⟩, rfl⟩, seqT_one2 rfl ?_⟩
                go_wp2_with fail
                refine ⟨⟨⟨x5, C5⟩, rfl⟩, seqT_one2 rfl ?_⟩
                go_wp2_with fail
                refine ⟨⟨⟨_, C5.trans (Chg.of_below ((Below.refl _ _).alloc (Nat.le_refl _) _) _)⟩, rfl⟩, seqT_one2 rfl ?_⟩
                go_wp2_with (at_builtin; refine wpList_pushS ei_sd #[.int .i64 (TT : Int), .int .i64 gz] rfl _ _ rfl o5 (Fe := fun _ => False) (y := ((TT : Int), gz)) rfl (fun _ _ h => h) rfl rfl (by unfold maxLen; omega) (by omega) ?_; intro v6 w6 own6 ch6; obtain ⟨A6, c6, e6⟩ := own6.shape; rw [List.length_append, List.length_singleton] at e6; subst e6; have q6 : w6.cell? ⟨W1.heap.size, 2, none⟩ = some (.slice Au0 us.length cu0) := (by rw [ch6.cell1 (show W1.heap.size < x5.heap.size by omega) (fun h => by have h1 : W1.heap.size + 1 ≤ W1.heap.size := h.1; omega)]; exact q2); have r6 : w6.frozen? ⟨W1.heap.size, 2, none⟩ = false := (by rw [ch6.frozen1 (show W1.heap.size < x5.heap.size by omega) (fun h => by have h1 : W1.heap.size + 1 ≤ W1.heap.size := h.1; omega)]; exact r2))
                have CH6 : Chg (fun k => G k ∨ Iv (W1.heap.size + 1) x5.heap.size k) U w6 := (C5.wide (fun _ h => .inl h)).trans (ch6.wide (fun _ h => .inr h))
                have CG6 : Chg G U w6 := ⟨CH6.os, CH6.tape, CH6.output, CH6.size, fun i hi hn => CH6.block i hi (fun h => by
                  rcases h with h | h
                  · exact hn h
                  · exact hn (by rw [HG.out]; exact .inr ⟨h.1, hi⟩))⟩
                refine ⟨⟨⟨w6, CG6⟩, rfl⟩, ?_⟩
                (refine seqT_first2 rfl ?_; (repeat (go_big_quiet_step (fail))); refine wpQuiet_nil ?_)
                refine seqT_rest2 ?_
                have E6 := HE5.out.push hb1 own6 ch6
                go_wp2_with fail
                go_roundw
                case rel => exact ⟨t + 1, us ++ [((TT : Int), gz)], _, by go_num, by omega, by first | (simp; done) | (simp; omega), Lib.hid (hus.out.push (by omega) (by omega) HGZ.out), E6.more (by omega)⟩
                case measure => simp [intOf]; omega
            · clear E
              have D2 := HD.out.step hbw HEE.out.src HEE.out.mid
              have V12 := D2.c1
              have VF2 := D2.f1
              have oM := HD.out.own.mid HEE.out.mid (.inr (by omega)) (Nat.le_refl _)
              have sO : tSt.O wr (Iv (W1.heap.size + 1) wr.heap.size) [.string s, .int .i64 lt, .slice Au0 us.length cu0] (s, lt, us) := st_O.2 ⟨Au0, us.length, cu0, rfl, by unfold maxLen; omega, sl_O.2 HEE.out.own⟩
              have lW := HEE.out.mid.size
              clear hTO
              have HD2 := Lib.hid D2
              clear D2
              go_wp2_with (at_builtin; refine wpList_pushS ei_st #[.string s, .int .i64 lt, .slice Au0 us.length cu0] rfl _ _ rfl oM sO (fun z h1 h2 => by have a1 : z < W1.heap.size := h1.2; have a2 : W1.heap.size + 1 ≤ z := h2.1; omega) rfl rfl (by have := hml.out; unfold maxLen; omega) (by have := hml.out; omega) ?_; intro v6 w6 own6 ch6; obtain ⟨A6, c6, e6⟩ := own6.shape; rw [List.length_append, List.length_singleton] at e6; subst e6; have q6 : w6.cell? ⟨w.heap.size + 1, 0, none⟩ = some (.slice Av ms.length cv) := (by rw [ch6.cell1 (show w.heap.size + 1 < wr.heap.size by omega) (fun h => by have h1 : NB + 1 ≤ w.heap.size + 1 := h.1; omega)]; exact V12); have r6 : w6.frozen? ⟨w.heap.size + 1, 0, none⟩ = false := (by rw [ch6.frozen1 (show w.heap.size + 1 < wr.heap.size by omega) (fun h => by have h1 : NB + 1 ≤ w.heap.size + 1 := h.1; omega)]; exact VF2))
              have D6 := HD2.out.push hbw (X := W1.heap.size + 1) (own6.wide (fun z h => by
                rcases h with h | h | h
                · exact .inl ⟨h.1, Nat.lt_of_lt_of_le h.2 lW⟩
                · exact .inr (.inl h)
                · exact .inr (.inr h))) (by omega) (ch6.wide (fun z h => ⟨h.1, Nat.lt_of_lt_of_le h.2 lW⟩)) ⟨hs6, hu4⟩
              go_roundw
              case rel => exact ⟨j + 1, ms ++ [(s, lt, us)], _, by go_num, by omega, Lib.hid (by have := hml.out; simp; omega), Lib.hid (hdr.out.push hml.out (by omega) HS6.out HLT.out hus.out hu4 (by omega)), D6.more (by omega)⟩
              case measure => simp [intOf]; omega
          · clear E
            have D2 := HD.out.step hbw HEE.out.src HEE.out.mid
            have V12 := D2.c1
            have VF2 := D2.f1
            have oM := HD.out.own.mid HEE.out.mid (.inr (by omega)) (Nat.le_refl _)
            have sO : tSt.O wr (Iv (W1.heap.size + 1) wr.heap.size) [.string s, .int .i64 lt, .slice Au0 us.length cu0] (s, lt, us) := st_O.2 ⟨Au0, us.length, cu0, rfl, by unfold maxLen; omega, sl_O.2 HEE.out.own⟩
            have lW := HEE.out.mid.size
            clear hTO
            have HD2 := Lib.hid D2
            clear D2
            go_wp2_with (at_builtin; refine wpList_pushS ei_st #[.string s, .int .i64 lt, .slice Au0 us.length cu0] rfl _ _ rfl oM sO (fun z h1 h2 => by have a1 : z < W1.heap.size := h1.2; have a2 : W1.heap.size + 1 ≤ z := h2.1; omega) rfl rfl (by have := hml.out; unfold maxLen; omega) (by have := hml.out; omega) ?_; intro v6 w6 own6 ch6; obtain ⟨A6, c6, e6⟩ := own6.shape; rw [List.length_append, List.length_singleton] at e6; subst e6; have q6 : w6.cell? ⟨w.heap.size + 1, 0, none⟩ = some (.slice Av ms.length cv) := (by rw [ch6.cell1 (show w.heap.size + 1 < wr.heap.size by omega) (fun h => by have h1 : NB + 1 ≤ w.heap.size + 1 := h.1; omega)]; exact V12); have r6 : w6.frozen? ⟨w.heap.size + 1, 0, none⟩ = false := (by rw [ch6.frozen1 (show w.heap.size + 1 < wr.heap.size by omega) (fun h => by have h1 : NB + 1 ≤ w.heap.size + 1 := h.1; omega)]; exact VF2))
            have D6 := HD2.out.push hbw (X := W1.heap.size + 1) (own6.wide (fun z h => by
              rcases h with h | h | h
              · exact .inl ⟨h.1, Nat.lt_of_lt_of_le h.2 lW⟩
              · exact .inr (.inl h)
              · exact .inr (.inr h))) (by omega) (ch6.wide (fun z h => ⟨h.1, Nat.lt_of_lt_of_le h.2 lW⟩)) ⟨hs6, hu4⟩
            go_roundw
            case rel => exact ⟨j + 1, ms ++ [(s, lt, us)], _, by go_num, by omega, Lib.hid (by have := hml.out; simp; omega), Lib.hid (hdr.out.push hml.out (by omega) HS6.out HLT.out hus.out hu4 (by omega)), D6.more (by omega)⟩
            case measure => simp [intOf]; omega
      · go_wp2_with fail
        refine (src_among5 b lo A n c code _ y2 E0.src (by omega)).mono ?_
        rintro e y3 ⟨lt, rfl, hlt32, s3, m3⟩
        have HLT := Lib.hid hlt32
        clear hlt32
        have E1 := E0.step hb1 s3 m3
        have P13 := E1.p1
        have PF3 := E1.f1
        have E2 := E1.lat hb1 lt
        clear E0 E1 s2 m2 s3 m3
        have E0 := E2
        clear E2
        go_wp2_with fail
        obtain ⟨wS, hS⟩ : ∃ u, u = y3.setCell ⟨W1.heap.size, 1, none⟩ (.int .i64 lt) := ⟨_, rfl⟩
        rw [← hS] at E0 ⊢
        clear hS
        go_loopw [8] (fun i wx => ∃ (t : Nat) (us : List (Int × Int)) (vu : Value), i = .int .i64 ((j : Int) + 1 + t) ∧ j + 1 + t ≤ N ∧ us.length ≤ 4 ∧ Hid (M.usOk N j t us) ∧ DX W1 b lo A n c code (K + 2 + 40 * j + 4 + 8 * t) s lt us vu wx) (fun i _ => N - (intOf i).toNat)
        case atStart => exact ⟨0, [], _, by simp, by omega, by simp, Lib.hid (M.usOk.zero (by omega)), E0.more (by omega)⟩
        case round =>
          clear E0
          obtain ⟨t, us, vu, rfl, ht, hu4, hus, E⟩ := hrel
          have hTO := Lib.hid (show (j : Int) + 1 + (t : Int) = ((j + 1 + t : Nat) : Int) by omega)
          rw [hTO.out]
          generalize hTT : j + 1 + t = TT at ht hTO ⊢
          have htt : TT ≤ j + 1 + t ∧ j + 1 + t ≤ TT := by omega
          clear hTT
          have HEE := Lib.hid E
          have P0 := E.p0
          have P1 := E.p1
          have P2 := E.p2
          have EX := E.sz
          obtain ⟨Au0, cu0, eu0⟩ := E.own.shape
          subst eu0
          by_cases hlt : TT < N
          · by_cases h4 : us.length < 4
            · have SO := Lib.hid (src_one b lo A n c code _ 2 wr E.src (by omega) (by omega))
              clear E
              go_wp2_with fail
              refine SO.out.mono ?_
              rintro e wx2 ⟨r, rfl, s2, m2⟩
              have E2 := HEE.out.step hb1 s2 m2
              cases r
              · have P22 := E2.p2
                by_cases hl1 : TT + 1 < N
                · have l1 : ¬ (TT : Int) = (N : Int) - 1 := by omega
                  go_wp2_with fail
                  go_roundw
                  case rel => exact ⟨t + 1, us, _, by go_num, by omega, hu4, Lib.hid (hus.out.skip (by omega)), E2.more (by omega)⟩
                  case measure => simp [intOf]; omega
                · have l1 : (TT : Int) = (N : Int) - 1 := by omega
                  by_cases hl2 : us.length = 0
                  · obtain rfl : us = [] := List.eq_nil_of_length_eq_zero hl2
                    clear l1 hl2
                    have l1 : (N : Int) - 1 = (TT : Int) := by omega
                    clear hl1
                    simp only [List.length_nil] at E2 P22 P2
                    obtain ⟨U, hU⟩ : ∃ U, U = wx2 := ⟨_, rfl⟩
                    rw [← hU] at E2 ⊢
                    have HE2 := Lib.hid E2
                    have UP2 := E2.p2
                    have UF2 := E2.f2
                    have UX := E2.sz
                    obtain ⟨G, hG⟩ : ∃ G : Nat → Prop, G = fun k => k = b ∨ Iv (W1.heap.size + 1) U.heap.size k := ⟨_, rfl⟩
                    have HG := Lib.hid hG
                    have GX := Lib.hid (show ¬ G W1.heap.size from fun h => by
                      rw [hG] at h
                      rcases h with h | h
                      · omega
                      · have h1 : W1.heap.size + 1 ≤ W1.heap.size := h.1; omega)
                    have g2 := ChgTo.cell (F := G) UP2 (fun h => GX.out h)
                    have bsU := E2.src.lt
                    clear hU hG
                    have SD := Lib.hid (spec_l01Draw b lo A n c code _ U.drew (E2.src.below (below_drewN (Below.refl U.heap.size _) 1) bsU) (by omega))
                    clear E2
                    go_wp2_with fail
                    (refine wp_region_chg G [0, 2, 3] [1] 5 (.one 4 (.one 5 (.one 6 (.one 7 (.first 8 .rest))))) [9] [9] (by kernel_rfl) (by kernel_rfl) ?_; simp only [pickOps]; simp only [List.filterMap, List.getElem?_cons_succ, List.getElem?_cons_zero]; (repeat (go_big_quiet_step (fail))); refine wpQuiet_nil ?_; (repeat (go_big_quiet_step (fail))); refine wpQuiet_nil ?_)
                    refine seqT_one2 rfl ?_
                    go_wp2_with fail
                    refine SD.out.mono ?_
                    rintro e x5 ⟨gz, rfl, hgz, s5, m5⟩
                    have HGZ := Lib.hid hgz
                    clear hgz
                    have m5' : Mid b (b + 1) U x5 := (Mid.of_below (below_drewN (Below.refl U.heap.size _) 1) b (b + 1)).trans m5
                    have E5 := HE2.out.step hb1 s5 m5'
                    have lt5 := m5'.size
                    have C5 : Chg G U x5 := ⟨m5'.os, m5'.tape, m5'.output, m5'.size, fun i hi hn => m5'.block i hi (by
                      rw [HG.out] at hn
                      rcases Nat.lt_or_ge i b with h | h
                      · exact .inl h
                      · exact .inr (by rcases Nat.lt_or_ge b i with h2 | h2; exact h2; exact absurd (.inl (by omega)) hn))⟩
                    have HE5 := Lib.hid E5
                    have q2 := E5.p2
                    have r2 := E5.f2
                    have o5 := E5.own
                    clear E5
                    go_wp2_with fail
                    refine ⟨⟨⟨x5, C5⟩, rfl⟩, seqT_one2 rfl ?_⟩
                    go_wp2_with fail
                    refine ⟨⟨⟨x5, C5⟩, rfl⟩, seqT_one2 rfl ?_⟩
                    go_wp2_with fail
                    refine ⟨⟨⟨_, C5.trans (Chg.of_below ((Below.refl _ _).alloc (Nat.le_refl _) _) _)⟩, rfl⟩, seqT_one2 rfl ?_⟩
                    go_wp2_with (at_builtin; refine wpList_pushS ei_sd #[.int .i64 (TT : Int), .int .i64 gz] rfl _ _ rfl o5 (Fe := fun _ => False) (y := ((TT : Int), gz)) rfl (fun _ _ h => h) rfl rfl (by unfold maxLen; omega) (by omega) ?_; intro v6 w6 own6 ch6; obtain ⟨A6, c6, e6⟩ := own6.shape; rw [List.length_append, List.length_singleton] at e6; subst e6; have q6 : w6.cell? ⟨W1.heap.size, 2, none⟩ = some (.slice Au0 0 cu0) := (by rw [ch6.cell1 (show W1.heap.size < x5.heap.size by omega) (fun h => by have h1 : W1.heap.size + 1 ≤ W1.heap.size := h.1; omega)]; exact q2); have r6 : w6.frozen? ⟨W1.heap.size, 2, none⟩ = false := (by rw [ch6.frozen1 (show W1.heap.size < x5.heap.size by omega) (fun h => by have h1 : W1.heap.size + 1 ≤ W1.heap.size := h.1; omega)]; exact r2))
                    have CH6 : Chg (fun k => G k ∨ Iv (W1.heap.size + 1) x5.heap.size k) U w6 := (C5.wide (fun _ h => .inl h)).trans (ch6.wide (fun _ h => .inr h))
                    have CG6 : Chg G U w6 := ⟨CH6.os, CH6.tape, CH6.output, CH6.size, fun i hi hn => CH6.block i hi (fun h => by
                      rcases h with h | h
                      · exact hn h
                      · exact hn (by rw [HG.out]; exact .inr ⟨h.1, hi⟩))⟩
                    refine ⟨⟨⟨w6, CG6⟩, rfl⟩, ?_⟩
                    (refine seqT_first2 rfl ?_; (repeat (go_big_quiet_step (fail))); refine wpQuiet_nil ?_)
                    refine seqT_rest2 ?_
                    have E6 := HE5.out.push hb1 own6 ch6
                    go_wp2_with fail
                    go_roundw
                    case rel => exact ⟨t + 1, [] ++ [((TT : Int), gz)], _, by go_num, by omega, by first | (simp; done) | (simp; omega), Lib.hid (hus.out.push (by omega) (by omega) HGZ.out), E6.more (by omega)⟩
                    case measure => simp [intOf]; omega
                  · have l2 : ¬ (us.length : Int) = 0 := by omega
                    go_wp2_with fail
                    go_roundw
                    case rel => exact ⟨t + 1, us, _, by go_num, by omega, hu4, Lib.hid (hus.out.skip (by omega)), E2.more (by omega)⟩
                    case measure => simp [intOf]; omega
              ·
                obtain ⟨U, hU⟩ : ∃ U, U = wx2 := ⟨_, rfl⟩
                rw [← hU] at E2 ⊢
                have HE2 := Lib.hid E2
                have UP2 := E2.p2
                have UF2 := E2.f2
                have UX := E2.sz
                obtain ⟨G, hG⟩ : ∃ G : Nat → Prop, G = fun k => k = b ∨ Iv (W1.heap.size + 1) U.heap.size k := ⟨_, rfl⟩
                have HG := Lib.hid hG
                have GX := Lib.hid (show ¬ G W1.heap.size from fun h => by
                  rw [hG] at h
                  rcases h with h | h
                  · omega
                  · have h1 : W1.heap.size + 1 ≤ W1.heap.size := h.1; omega)
                have g2 := ChgTo.cell (F := G) UP2 (fun h => GX.out h)
                have bsU := E2.src.lt
                clear hU hG
                have SD := Lib.hid (spec_l01Draw b lo A n c code _ U.drew (E2.src.below (below_drewN (Below.refl U.heap.size _) 1) bsU) (by omega))
                clear E2
                go_wp2_with fail
                (refine wp_region_chg G [0, 2, 3] [1] 5 (.one 4 (.one 5 (.one 6 (.one 7 (.first 8 .rest))))) [9] [9] (by kernel_rfl) (by kernel_rfl) ?_; simp only [pickOps]; simp only [List.filterMap, List.getElem?_cons_succ, List.getElem?_cons_zero]; (repeat (go_big_quiet_step (fail))); refine wpQuiet_nil ?_; (repeat (go_big_quiet_step (fail))); refine wpQuiet_nil ?_)
                refine seqT_one2 rfl ?_
                go_wp2_with fail
                refine SD.out.mono ?_
                rintro e x5 ⟨gz, rfl, hgz, s5, m5⟩
                have HGZ := Lib.hid hgz
                clear hgz
                have m5' : Mid b (b + 1) U x5 := (Mid.of_below (below_drewN (Below.refl U.heap.size _) 1) b (b + 1)).trans m5
                have E5 := HE2.out.step hb1 s5 m5'
                have lt5 := m5'.size
                have C5 : Chg G U x5 := ⟨m5'.os, m5'.tape, m5'.output, m5'.size, fun i hi hn => m5'.block i hi (by
                  rw [HG.out] at hn
                  rcases Nat.lt_or_ge i b with h | h
                  · exact .inl h
                  · exact .inr (by rcases Nat.lt_or_ge b i with h2 | h2; exact h2; exact absurd (.inl (by omega)) hn))⟩
                have HE5 := Lib.hid E5
                have q2 := E5.p2
                have r2 := E5.f2
                have o5 := E5.own
                clear E5
                go_wp2_with fail
                refine ⟨⟨⟨x5, C5⟩, rfl⟩, seqT_one2 rfl ?_⟩
                go_wp2_with fail
                refine ⟨⟨⟨x5, C5⟩, rfl⟩, seqT_one2 rfl ?_⟩
                go_wp2_with fail
                refine ⟨⟨⟨_, C5.trans (Chg.of_below ((Below.refl _ _).alloc (Nat.le_refl _) _) _)⟩, rfl⟩, seqT_one2 rfl ?_⟩
                go_wp2_with (at_builtin; refine wpList_pushS ei_sd #[.int .i64 (TT : Int), .int .i64 gz] rfl _ _ rfl o5 (Fe := fun _ => False) (y := ((TT : Int), gz)) rfl (fun _ _ h => h) rfl rfl (by unfold maxLen; omega) (by omega) ?_; intro v6 w6 own6 ch6; obtain ⟨A6, c6, e6⟩ := own6.shape; rw [List.length_append, List.length_singleton] at e6; subst e6; have q6 : w6.cell? ⟨W1.heap.size, 2, none⟩ = some (.slice Au0 us.length cu0) := (by rw [ch6.cell1 (show W1.heap.size < x5.heap.size by omega) (fun h => by have h1 : W1.heap.size + 1 ≤ W1.heap.size := h.1; omega)]; exact q2); have r6 : w6.frozen? ⟨W1.heap.size, 2, none⟩ = false := (by rw [ch6.frozen1 (show W1.heap.size < x5.heap.size by omega) (fun h => by have h1 : W1.heap.size + 1 ≤ W1.heap.size := h.1; omega)]; exact r2))
                have CH6 : Chg (fun k => G k ∨ Iv (W1.heap.size + 1) x5.heap.size k) U w6 := (C5.wide (fun _ h => .inl h)).trans (ch6.wide (fun _ h => .inr h))
                have CG6 : Chg G U w6 := ⟨CH6.os, CH6.tape, CH6.output, CH6.size, fun i hi hn => CH6.block i hi (fun h => by
                  rcases h with h | h
                  · exact hn h
                  · exact hn (by rw [HG.out]; exact .inr ⟨h.1, hi⟩))⟩
                refine ⟨⟨⟨w6, CG6⟩, rfl⟩, ?_⟩
                (refine seqT_first2 rfl ?_; (repeat (go_big_quiet_step (fail))); refine wpQuiet_nil ?_)
                refine seqT_rest2 ?_
                have E6 := HE5.out.push hb1 own6 ch6
                go_wp2_with fail
                go_roundw
                case rel => exact ⟨t + 1, us ++ [((TT : Int), gz)], _, by go_num, by omega, by first | (simp; done) | (simp; omega), Lib.hid (hus.out.push (by omega) (by omega) HGZ.out), E6.more (by omega)⟩
                case measure => simp [intOf]; omega
            · clear E
              have D2 := HD.out.step hbw HEE.out.src HEE.out.mid
              have V12 := D2.c1
              have VF2 := D2.f1
              have oM := HD.out.own.mid HEE.out.mid (.inr (by omega)) (Nat.le_refl _)
              have sO : tSt.O wr (Iv (W1.heap.size + 1) wr.heap.size) [.string s, .int .i64 lt, .slice Au0 us.length cu0] (s, lt, us) := st_O.2 ⟨Au0, us.length, cu0, rfl, by unfold maxLen; omega, sl_O.2 HEE.out.own⟩
              have lW := HEE.out.mid.size
              clear hTO
              have HD2 := Lib.hid D2
              clear D2
              go_wp2_with (at_builtin; refine wpList_pushS ei_st #[.string s, .int .i64 lt, .slice Au0 us.length cu0] rfl _ _ rfl oM sO (fun z h1 h2 => by have a1 : z < W1.heap.size := h1.2; have a2 : W1.heap.size + 1 ≤ z := h2.1; omega) rfl rfl (by have := hml.out; unfold maxLen; omega) (by have := hml.out; omega) ?_; intro v6 w6 own6 ch6; obtain ⟨A6, c6, e6⟩ := own6.shape; rw [List.length_append, List.length_singleton] at e6; subst e6; have q6 : w6.cell? ⟨w.heap.size + 1, 0, none⟩ = some (.slice Av ms.length cv) := (by rw [ch6.cell1 (show w.heap.size + 1 < wr.heap.size by omega) (fun h => by have h1 : NB + 1 ≤ w.heap.size + 1 := h.1; omega)]; exact V12); have r6 : w6.frozen? ⟨w.heap.size + 1, 0, none⟩ = false := (by rw [ch6.frozen1 (show w.heap.size + 1 < wr.heap.size by omega) (fun h => by have h1 : NB + 1 ≤ w.heap.size + 1 := h.1; omega)]; exact VF2))
              have D6 := HD2.out.push hbw (X := W1.heap.size + 1) (own6.wide (fun z h => by
                rcases h with h | h | h
                · exact .inl ⟨h.1, Nat.lt_of_lt_of_le h.2 lW⟩
                · exact .inr (.inl h)
                · exact .inr (.inr h))) (by omega) (ch6.wide (fun z h => ⟨h.1, Nat.lt_of_lt_of_le h.2 lW⟩)) ⟨hs6, hu4⟩
              go_roundw
              case rel => exact ⟨j + 1, ms ++ [(s, lt, us)], _, by go_num, by omega, Lib.hid (by have := hml.out; simp; omega), Lib.hid (hdr.out.push hml.out (by omega) HS6.out HLT.out hus.out hu4 (by omega)), D6.more (by omega)⟩
              case measure => simp [intOf]; omega
          · clear E
            have D2 := HD.out.step hbw HEE.out.src HEE.out.mid
            have V12 := D2.c1
            have VF2 := D2.f1
            have oM := HD.out.own.mid HEE.out.mid (.inr (by omega)) (Nat.le_refl _)
            have sO : tSt.O wr (Iv (W1.heap.size + 1) wr.heap.size) [.string s, .int .i64 lt, .slice Au0 us.length cu0] (s, lt, us) := st_O.2 ⟨Au0, us.length, cu0, rfl, by unfold maxLen; omega, sl_O.2 HEE.out.own⟩
            have lW := HEE.out.mid.size
            clear hTO
            have HD2 := Lib.hid D2
            clear D2
            go_wp2_with (at_builtin; refine wpList_pushS ei_st #[.string s, .int .i64 lt, .slice Au0 us.length cu0] rfl _ _ rfl oM sO (fun z h1 h2 => by have a1 : z < W1.heap.size := h1.2; have a2 : W1.heap.size + 1 ≤ z := h2.1; omega) rfl rfl (by have := hml.out; unfold maxLen; omega) (by have := hml.out; omega) ?_; intro v6 w6 own6 ch6; obtain ⟨A6, c6, e6⟩ := own6.shape; rw [List.length_append, List.length_singleton] at e6; subst e6; have q6 : w6.cell? ⟨w.heap.size + 1, 0, none⟩ = some (.slice Av ms.length cv) := (by rw [ch6.cell1 (show w.heap.size + 1 < wr.heap.size by omega) (fun h => by have h1 : NB + 1 ≤ w.heap.size + 1 := h.1; omega)]; exact V12); have r6 : w6.frozen? ⟨w.heap.size + 1, 0, none⟩ = false := (by rw [ch6.frozen1 (show w.heap.size + 1 < wr.heap.size by omega) (fun h => by have h1 : NB + 1 ≤ w.heap.size + 1 := h.1; omega)]; exact VF2))
            have D6 := HD2.out.push hbw (X := W1.heap.size + 1) (own6.wide (fun z h => by
              rcases h with h | h | h
              · exact .inl ⟨h.1, Nat.lt_of_lt_of_le h.2 lW⟩
              · exact .inr (.inl h)
              · exact .inr (.inr h))) (by omega) (ch6.wide (fun z h => ⟨h.1, Nat.lt_of_lt_of_le h.2 lW⟩)) ⟨hs6, hu4⟩
            go_roundw
            case rel => exact ⟨j + 1, ms ++ [(s, lt, us)], _, by go_num, by omega, Lib.hid (by have := hml.out; simp; omega), Lib.hid (hdr.out.push hml.out (by omega) HS6.out HLT.out hus.out hu4 (by omega)), D6.more (by omega)⟩
            case measure => simp [intOf]; omega
    ·
      obtain ⟨W1, hW1⟩ : ∃ u, u = wr := ⟨_, rfl⟩
      have hb1 : b < W1.heap.size := by rw [hW1]; omega
      have E0 := DX.start ⟨#[109, 97, 115, 116, 101, 114]⟩ D.src
      rw [← hW1] at HD E0 V0 V1 VF VF0 VZ ⊢
      clear hW1 D
      obtain ⟨Y1, hY1⟩ : ∃ u, u = W1.alloc (.cells #[.string ⟨#[109, 97, 115, 116, 101, 114]⟩, .int .i64 0, .slice none 0 0] 44) := ⟨_, rfl⟩
      rw [← hY1] at E0
      have HY1 := Lib.hid hY1
      have SO := Lib.hid (src_one b lo A n c code _ 3 Y1 E0.src (by omega) (by omega))
      have HE0 := Lib.hid E0
      clear hY1 E0
      go_wp2_with fail
      rw [← HY1.out]
      refine SO.out.mono ?_
      rintro e y2 ⟨r, rfl, s2, m2⟩
      have E0 := HE0.out.step hb1 s2 m2
      cases r
      · obtain ⟨lt, hlt0⟩ : ∃ z : Int, z = 0 := ⟨_, rfl⟩
        obtain ⟨wS, hS⟩ : ∃ u, u = y2 := ⟨_, rfl⟩
        rw [← hS] at E0 ⊢
        rw [← hlt0] at E0
        have HLT := Lib.hid (show 0 ≤ lt ∧ lt ≤ 32 by omega)
        clear hlt0 hS s2 m2
        have D2 := HD.out.step hbw E0.src E0.mid
        have V12 := D2.c1
        have VF2 := D2.f1
        have V02 := D2.c0
        have VF02 := D2.f0
        have oM := HD.out.own.mid E0.mid (.inr (by omega)) (Nat.le_refl _)
        have sO : tSt.O wS (Iv (W1.heap.size + 1) wS.heap.size) [.string ⟨#[109, 97, 115, 116, 101, 114]⟩, .int .i64 lt, .slice none 0 0] (⟨#[109, 97, 115, 116, 101, 114]⟩, lt, []) := st_O.2 ⟨none, 0, 0, rfl, by decide, sl_O.2 E0.own⟩
        have lW := E0.mid.size
        have P0 := E0.p0
        have P1 := E0.p1
        have P2 := E0.p2
        have lX := E0.sz
        have HD2 := Lib.hid D2
        clear D2 E0
        go_wp2_with (at_builtin; refine wpList_pushS ei_st #[.string ⟨#[109, 97, 115, 116, 101, 114]⟩, .int .i64 lt, .slice none 0 0] rfl _ _ rfl oM sO (fun z h1 h2 => by have a1 : z < W1.heap.size := h1.2; have a2 : W1.heap.size + 1 ≤ z := h2.1; omega) rfl rfl (by have := hml.out; unfold maxLen; omega) (by have := hml.out; omega) ?_; intro v6 w6 own6 ch6; obtain ⟨A6, c6, e6⟩ := own6.shape; rw [List.length_append, List.length_singleton] at e6; subst e6; have q6 : w6.cell? ⟨w.heap.size + 1, 0, none⟩ = some (.slice Av ms.length cv) := (by rw [ch6.cell1 (show w.heap.size + 1 < wS.heap.size by omega) (fun h => by have h1 : NB + 1 ≤ w.heap.size + 1 := h.1; omega)]; exact V12); have r6 : w6.frozen? ⟨w.heap.size + 1, 0, none⟩ = false := (by rw [ch6.frozen1 (show w.heap.size + 1 < wS.heap.size by omega) (fun h => by have h1 : NB + 1 ≤ w.heap.size + 1 := h.1; omega)]; exact VF2); have q60 : w6.cell? ⟨w.heap.size, 0, none⟩ = some (.slice none 0 0) := (by rw [ch6.cell1 (show w.heap.size < wS.heap.size by omega) (fun h => by have h1 : NB + 1 ≤ w.heap.size := h.1; omega)]; exact V02); have r60 : w6.frozen? ⟨w.heap.size, 0, none⟩ = false := (by rw [ch6.frozen1 (show w.heap.size < wS.heap.size by omega) (fun h => by have h1 : NB + 1 ≤ w.heap.size := h.1; omega)]; exact VF02))
        have D6 := HD2.out.push hbw (X := W1.heap.size + 1) (own6.wide (fun z h => by
          rcases h with h | h | h
          · exact .inl ⟨h.1, Nat.lt_of_lt_of_le h.2 lW⟩
          · exact .inr (.inl h)
          · exact .inr (.inr h))) (by omega) (ch6.wide (fun z h => ⟨h.1, Nat.lt_of_lt_of_le h.2 lW⟩)) ⟨by show (⟨#[109, 97, 115, 116, 101, 114]⟩ : ByteArray).size ≤ 6; decide, by simp⟩
        refine bodyPost_ret (v := .agg #[.slice A6 (ms.length + 1) c6]) (by simp [results, Tryz.results54, go_sem, q60, r60]) rfl ?_
        have hm : Mid w.heap.size (w.heap.size + 1) (w6.setCell ⟨w.heap.size + 1, 0, none⟩ (.slice A6 (ms.length + 1) c6)) ((w6.setCell ⟨w.heap.size + 1, 0, none⟩ (.slice A6 (ms.length + 1) c6)).setCell ⟨w.heap.size, 0, none⟩ (.slice A6 (ms.length + 1) c6)) := Mid.cell _ w.heap.size 0 _
        have eL : (ms ++ [((⟨#[109, 97, 115, 116, 101, 114]⟩ : ByteArray), lt, ([] : List (Int × Int)))]).length = ms.length + 1 := by simp
        have HL := hml.out
        refine ⟨A6, c6, ms ++ [(⟨#[109, 97, 115, 116, 101, 114]⟩, lt, [])], by rw [eL], ?_, by omega, by omega, D6.tiny, Lib.hid (hdr.out.mix (by omega) (by omega) HLT.out), (D6.src.mid hm hbw).more (by omega), D6.mid.thenB' ((Below.refl w.heap.size _).setCell (Nat.le_refl _) _) (Nat.le_refl _)⟩
        rw [eL]
        exact (D6.own.mid hm (.inr (by omega)) (Nat.le_refl _)).iv (by omega) hm.size
      · go_wp2_with fail
        refine (src_pick b lo A n c code _ 4 y2 E0.src (by omega) (by omega)).mono ?_
        rintro e y3 ⟨lt, rfl, hlt4, s3, m3⟩
        have HLT := Lib.hid (show 0 ≤ lt ∧ lt ≤ 32 by omega)
        clear hlt4
        have E1 := E0.step hb1 s3 m3
        have P13 := E1.p1
        have PF3 := E1.f1
        have E2 := E1.lat hb1 lt
        obtain ⟨wS, hS⟩ : ∃ u, u = y3.setCell ⟨W1.heap.size, 1, none⟩ (.int .i64 lt) := ⟨_, rfl⟩
        rw [← hS] at E2
        have HS := Lib.hid hS
        clear hS E0 E1 s2 m2 s3 m3
        have E0 := E2
        clear E2
        go_upto_region 19 with fail
        rw [← HS.out]
        have D2 := HD.out.step hbw E0.src E0.mid
        have V12 := D2.c1
        have VF2 := D2.f1
        have V02 := D2.c0
        have VF02 := D2.f0
        have oM := HD.out.own.mid E0.mid (.inr (by omega)) (Nat.le_refl _)
        have sO : tSt.O wS (Iv (W1.heap.size + 1) wS.heap.size) [.string ⟨#[109, 97, 115, 116, 101, 114]⟩, .int .i64 lt, .slice none 0 0] (⟨#[109, 97, 115, 116, 101, 114]⟩, lt, []) := st_O.2 ⟨none, 0, 0, rfl, by decide, sl_O.2 E0.own⟩
        have lW := E0.mid.size
        have P0 := E0.p0
        have P1 := E0.p1
        have P2 := E0.p2
        have lX := E0.sz
        have HD2 := Lib.hid D2
        clear D2 E0
        go_wp2_with (at_builtin; refine wpList_pushS ei_st #[.string ⟨#[109, 97, 115, 116, 101, 114]⟩, .int .i64 lt, .slice none 0 0] rfl _ _ rfl oM sO (fun z h1 h2 => by have a1 : z < W1.heap.size := h1.2; have a2 : W1.heap.size + 1 ≤ z := h2.1; omega) rfl rfl (by have := hml.out; unfold maxLen; omega) (by have := hml.out; omega) ?_; intro v6 w6 own6 ch6; obtain ⟨A6, c6, e6⟩ := own6.shape; rw [List.length_append, List.length_singleton] at e6; subst e6; have q6 : w6.cell? ⟨w.heap.size + 1, 0, none⟩ = some (.slice Av ms.length cv) := (by rw [ch6.cell1 (show w.heap.size + 1 < wS.heap.size by omega) (fun h => by have h1 : NB + 1 ≤ w.heap.size + 1 := h.1; omega)]; exact V12); have r6 : w6.frozen? ⟨w.heap.size + 1, 0, none⟩ = false := (by rw [ch6.frozen1 (show w.heap.size + 1 < wS.heap.size by omega) (fun h => by have h1 : NB + 1 ≤ w.heap.size + 1 := h.1; omega)]; exact VF2); have q60 : w6.cell? ⟨w.heap.size, 0, none⟩ = some (.slice none 0 0) := (by rw [ch6.cell1 (show w.heap.size < wS.heap.size by omega) (fun h => by have h1 : NB + 1 ≤ w.heap.size := h.1; omega)]; exact V02); have r60 : w6.frozen? ⟨w.heap.size, 0, none⟩ = false := (by rw [ch6.frozen1 (show w.heap.size < wS.heap.size by omega) (fun h => by have h1 : NB + 1 ≤ w.heap.size := h.1; omega)]; exact VF02))
        have D6 := HD2.out.push hbw (X := W1.heap.size + 1) (own6.wide (fun z h => by
          rcases h with h | h | h
          · exact .inl ⟨h.1, Nat.lt_of_lt_of_le h.2 lW⟩
          · exact .inr (.inl h)
          · exact .inr (.inr h))) (by omega) (ch6.wide (fun z h => ⟨h.1, Nat.lt_of_lt_of_le h.2 lW⟩)) ⟨by show (⟨#[109, 97, 115, 116, 101, 114]⟩ : ByteArray).size ≤ 6; decide, by simp⟩
        refine bodyPost_ret (v := .agg #[.slice A6 (ms.length + 1) c6]) (by simp [results, Tryz.results54, go_sem, q60, r60]) rfl ?_
        have hm : Mid w.heap.size (w.heap.size + 1) (w6.setCell ⟨w.heap.size + 1, 0, none⟩ (.slice A6 (ms.length + 1) c6)) ((w6.setCell ⟨w.heap.size + 1, 0, none⟩ (.slice A6 (ms.length + 1) c6)).setCell ⟨w.heap.size, 0, none⟩ (.slice A6 (ms.length + 1) c6)) := Mid.cell _ w.heap.size 0 _
        have eL : (ms ++ [((⟨#[109, 97, 115, 116, 101, 114]⟩ : ByteArray), lt, ([] : List (Int × Int)))]).length = ms.length + 1 := by simp
        have HL := hml.out
        refine ⟨A6, c6, ms ++ [(⟨#[109, 97, 115, 116, 101, 114]⟩, lt, [])], by rw [eL], ?_, by omega, by omega, D6.tiny, Lib.hid (hdr.out.mix (by omega) (by omega) HLT.out), (D6.src.mid hm hbw).more (by omega), D6.mid.thenB' ((Below.refl w.heap.size _).setCell (Nat.le_refl _) _) (Nat.le_refl _)⟩
        rw [eL]
        exact (D6.own.mid hm (.inr (by omega)) (Nat.le_refl _)).iv (by omega) hm.size
end Go.Proofs.YtecdendjlgohjaaGreatDoor
namespace Go.Proofs.YtecdendjlgohjaaGreatDoor
open Go.RowKit Go.Sort
set_option maxHeartbeats 4000000
set_option maxRecDepth 100000
set_option linter.unusedVariables false
/-- How the bending of a mixer stands. -/
structure BE (w : World) (b lo : Nat) (A : Option Addr) (n c : Nat) (code : List UInt8) (X K : Nat) (v : Value) (Y : World) : Prop where
  q0 : Y.cell? ⟨w.heap.size, 0, none⟩ = some (.slice none 0 0)
  f0 : Y.frozen? ⟨w.heap.size, 0, none⟩ = false
  qX : Y.cell? ⟨X, 0, none⟩ = some v
  fX : Y.frozen? ⟨X, 0, none⟩ = false
  src : Src Y b lo A n c code K
  mid : Mid b (b + 1) w Y
  sz : X < Y.heap.size
  lo : w.heap.size < X
theorem BE.step {w Y Y' : World} {b lo : Nat} {A : Option Addr} {n c : Nat} {code : List UInt8} {X K K' : Nat} {v : Value} (h : BE w b lo A n c code X K v Y) (hb : b < w.heap.size) (hs : Src Y' b lo A n c code K') (hm : Mid b (b + 1) Y Y') : BE w b lo A n c code X K' v Y' := by
  have hz := h.sz
  have hl := h.lo
  exact ⟨hm.cellK (by omega) (.inr (by omega)) h.q0, hm.frozK (by omega) (.inr (by omega)) h.f0, hm.cellK (by omega) (.inr (by omega)) h.qX, hm.frozK (by omega) (.inr (by omega)) h.fX, hs, h.mid.trans hm, Nat.lt_of_lt_of_le hz hm.size, hl⟩
theorem BE.chg {w Y Y' : World} {b lo : Nat} {A : Option Addr} {n c : Nat} {code : List UInt8} {X K : Nat} {v : Value} (h : BE w b lo A n c code X K v Y) (hb : b < w.heap.size) {G : Nat → Prop} (hG : ∀ z, G z → w.heap.size < z ∧ z ≠ X) (hc : Chg G Y Y') : BE w b lo A n c code X K v Y' := by
  have hz := h.sz
  have hl := h.lo
  have n0 : ¬ G w.heap.size := fun hg => by have := hG _ hg; omega
  have nX : ¬ G X := fun hg => (hG _ hg).2 rfl
  have MB : Below (w.heap.size + 1) Y Y' := hc.toBelow (fun z h => by have := hG z h; omega) (by omega)
  exact ⟨(hc.cell1 (show w.heap.size < _ by omega) n0).trans h.q0, (hc.frozen1 (show w.heap.size < _ by omega) n0).trans h.f0, (hc.cell1 hz nX).trans h.qX, (hc.frozen1 hz nX).trans h.fX, h.src.below MB (by omega), ⟨MB.os.trans h.mid.os, MB.tape.trans h.mid.tape, MB.output.trans h.mid.output, Nat.le_trans h.mid.size MB.size, fun i hi' hm => (MB.block i (by omega)).trans (h.mid.block i hi' hm)⟩, Nat.lt_of_lt_of_le hz MB.size, hl⟩
def BentM (b : Nat) (w : World) (e : Ending) (w' : World) : Prop :=
  ∃ A1 c1 ms, e = .returned (.agg #[.slice A1 (List.length ms) c1]) ∧ OS tSt 44 w' (fun z => w.heap.size < z) (.slice A1 ms.length c1) ms ∧ ms.length ≤ 6 ∧ Hid (M.tiny 5 ms) ∧ Mid b (b + 1) w w'
theorem BE.fin {w Y : World} {b lo : Nat} {A : Option Addr} {n c : Nat} {code : List UInt8} {X K : Nat} {v : Value} {A1 : Option Addr} {m c1 : Nat} {ms : List Strip} {F : Nat → Prop} (h : BE w b lo A n c code X K v Y)
    (own : OS tSt 44 Y F (.slice A1 m c1) ms) (hF : ∀ z, F z → w.heap.size < z) (hl : m ≤ 6) (ht : M.tiny 5 ms) (hm : ms.length = m) :
    BentM b w (.returned (.agg #[.slice A1 m c1])) (Y.setCell ⟨w.heap.size, 0, none⟩ (.slice A1 m c1)) := by
  subst hm
  have CB : Chg (fun b => b = w.heap.size) Y (Y.setCell ⟨w.heap.size, 0, none⟩ (.slice A1 ms.length c1)) := Chg.set Y w.heap.size 0 _ rfl
  exact ⟨A1, c1, ms, rfl, (own.chg CB (fun z h1 (h2 : z = w.heap.size) => by have := hF z h1; omega)).wide hF, hl, Lib.hid ht, h.mid.thenB' ((Below.refl w.heap.size _).setCell (Nat.le_refl _) _) (Nat.le_refl _)⟩
section
variable {Y : World} {F : Nat → Prop} {g m c k : Nat} {ms : List Strip} {s0 : ByteArray} {l0 : Int} {us : List (Int × Int)}
theorem bent_set0 (own : OS tSt 44 Y F (.slice (some ⟨g, 0, none⟩) m c) ms) (hx : ms[k]? = some (s0, l0, us)) (s : ByteArray) (hs : s.size ≤ maxLen) :
    OS tSt 44 (Y.setCell ⟨g, k * 3, none⟩ (.string s)) F (.slice (some ⟨g, 0, none⟩) m c) (ms.set k (s, l0, us)) := by
  obtain ⟨css, Fs, hole, cs, hcs, hE⟩ := own.openAt hx
  obtain ⟨A0, n0, c0, rfl, -, hE⟩ := st_O.1 hE
  obtain ⟨g', e, hFg, hFn, -, -⟩ := hole.form (List.getElem?_eq_some_iff.1 hx).1
  injection e with e; injection e with e _ _
  have h1 := hole.set hcs 0 (by decide) (.string s)
  exact h1.1.fill h1.2 (y := (s, l0, us)) (st_O.2 ⟨A0, n0, c0, rfl, hs, tSdS.okeep (fun b hb => heap_setCell_other Y ⟨g, k * 3, none⟩ b _ (fun e2 => hFn (by simp only at e2; rw [← e, ← e2]; exact hb))) hE⟩)
theorem bent_set1 (own : OS tSt 44 Y F (.slice (some ⟨g, 0, none⟩) m c) ms) (hx : ms[k]? = some (s0, l0, us)) (l : Int) :
    OS tSt 44 (Y.setCell ⟨g, k * 3 + 1, none⟩ (.int .i64 l)) F (.slice (some ⟨g, 0, none⟩) m c) (ms.set k (s0, l, us)) := by
  obtain ⟨css, Fs, hole, cs, hcs, hE⟩ := own.openAt hx
  obtain ⟨A0, n0, c0, rfl, hs, hE⟩ := st_O.1 hE
  obtain ⟨g', e, hFg, hFn, -, -⟩ := hole.form (List.getElem?_eq_some_iff.1 hx).1
  injection e with e; injection e with e _ _
  have h1 := hole.set hcs 1 (by decide) (.int .i64 l)
  exact h1.1.fill h1.2 (y := (s0, l, us)) (st_O.2 ⟨A0, n0, c0, rfl, hs, tSdS.okeep (fun b hb => heap_setCell_other Y ⟨g, k * 3 + 1, none⟩ b _ (fun e2 => hFn (by simp only at e2; rw [← e, ← e2]; exact hb))) hE⟩)
theorem bent_set2 (own : OS tSt 44 Y F (.slice (some ⟨g, 0, none⟩) m c) ms) (hx : ms[k]? = some (s0, l0, us)) :
    OS tSt 44 (Y.setCell ⟨g, k * 3 + 2, none⟩ (.slice none 0 0)) F (.slice (some ⟨g, 0, none⟩) m c) (ms.set k (s0, l0, [])) := by
  obtain ⟨css, Fs, hole, cs, hcs, hE⟩ := own.openAt hx
  obtain ⟨A0, n0, c0, rfl, hs, hE⟩ := st_O.1 hE
  have h1 := hole.set hcs 2 (by decide) (.slice none 0 0)
  exact h1.1.fill h1.2 (y := (s0, l0, [])) (st_O.2 ⟨none, 0, 0, rfl, hs, sl_O.2 (OS.nil _ _ _ _)⟩)
/-- What a strip's cells hold. -/
theorem bent_cells {A : Option Addr} (own : OS tSt 44 Y F (.slice A m c) ms) (hx : ms[k]? = some (s0, l0, us)) :
    ∃ g A0 c0, A = some ⟨g, 0, none⟩ ∧ F g ∧ g < Y.heap.size ∧ (Y.cell? ⟨g, k * 3, none⟩ = some (.string s0) ∧ Y.frozen? ⟨g, k * 3, none⟩ = false) ∧ (Y.cell? ⟨g, k * 3 + 1, none⟩ = some (.int .i64 l0) ∧ Y.frozen? ⟨g, k * 3 + 1, none⟩ = false) ∧ (Y.cell? ⟨g, k * 3 + 2, none⟩ = some (.slice A0 us.length c0) ∧ Y.frozen? ⟨g, k * 3 + 2, none⟩ = false) ∧
      ∃ css Fs, OH tSt 44 Y F (.slice A m c) ms css Fs k ∧ css[k]? = some [.string s0, .int .i64 l0, .slice A0 us.length c0] ∧ OS tSd 47 Y (Fs k) (.slice A0 us.length c0) us ∧ ¬ Fs k g ∧ s0.size ≤ maxLen := by
  obtain ⟨css, Fs, hole, cs, hcs, hE⟩ := own.openAt hx
  obtain ⟨A0, n0, c0, rfl, hs, hE⟩ := st_O.1 hE
  have ow := sl_O.1 hE
  obtain rfl : us.length = n0 := ow.read.cap.1
  obtain ⟨g, rfl, hFg, hFn, hgw, -⟩ := hole.form (List.getElem?_eq_some_iff.1 hx).1
  exact ⟨g, A0, c0, rfl, hFg, hgw, hole.cell hcs (j := 0) rfl, hole.cell hcs (j := 1) rfl, hole.cell hcs (j := 2) rfl, css, Fs, hole, hcs, ow, hFn, hs⟩
end
theorem src_among3 (b lo : Nat) (A : Option Addr) (n c : Nat) (code : List UInt8) (K : Nat) (w : World) (h : Src w b lo A n c code K) (hK : K ≤ 1000000000) :
    Calls Tryz.prog 57 #[.pointer (some ⟨b, 0, none⟩), .slice (some ⟨w.heap.size, 0, none⟩) 3 3] (w.alloc (.cells #[.int .i64 (-1), .int .i64 32, .int .i64 33] 2)) (Drew b lo A n c code (K + 2) (fun v => True) w) := by
  have hB : Below w.heap.size w (w.alloc (.cells #[.int .i64 (-1), .int .i64 32, .int .i64 33] 2)) := (Below.refl _ _).alloc (Nat.le_refl _) _
  have hb := h.lt
  refine (src_among b lo A n c code K w.heap.size 3 3 [-1, 32, 33] _ (h.below hB hb) (by omega) rfl (by omega) (by omega) (by simp) ?_).mono ?_
  · intro j x hx
    rw [cell_of_row _ w.heap.size j _ 2 (0, 0) (heap_alloc_new w _)]
    match j, hx with
    | 0, hx => simp at hx; subst hx; rfl
    | 1, hx => simp at hx; subst hx; rfl
    | 2, hx => simp at hx; subst hx; rfl
    | j + 3, hx => simp at hx
  · rintro e w2 ⟨x, rfl, -, s3, m3⟩
    exact ⟨x, rfl, trivial, s3, (Mid.of_below hB _ _).trans m3⟩
theorem src_text4 (b lo : Nat) (A : Option Addr) (n c : Nat) (code : List UInt8) (K : Nat) (w : World) (h : Src w b lo A n c code K) (hK : K ≤ 1000000000) :
    Calls Tryz.prog 56 #[.pointer (some ⟨b, 0, none⟩), .slice (some ⟨w.heap.size, 0, none⟩) 4 4] (w.alloc (.cells #[.string ⟨#[]⟩, .string ⟨#[100, 114, 117, 109, 115]⟩, .string ⟨#[77, 97, 115, 116, 101, 114]⟩, .string ⟨#[97]⟩] 9)) fun e w' => ∃ s : ByteArray, e = .returned (.string s) ∧ s.size ≤ 6 ∧ Src w' b lo A n c code (K + 2) ∧ Mid b (b + 1) w w' := by
  have hB : Below w.heap.size w (w.alloc (.cells #[.string ⟨#[]⟩, .string ⟨#[100, 114, 117, 109, 115]⟩, .string ⟨#[77, 97, 115, 116, 101, 114]⟩, .string ⟨#[97]⟩] 9)) := (Below.refl _ _).alloc (Nat.le_refl _) _
  have hb := h.lt
  refine (src_text b lo A n c code K w.heap.size 4 4 _ (h.below hB hb) (by omega) (by omega) (by omega) (by simp) (names_of w _ _ 4 ?_)).mono ?_
  · intro j hj
    match j, hj with
    | 0, _ => exact ⟨_, by decide, rfl⟩
    | 1, _ => exact ⟨_, by decide, rfl⟩
    | 2, _ => exact ⟨_, by decide, rfl⟩
    | 3, _ => exact ⟨_, by decide, rfl⟩
    | j + 4, hj => omega
  · rintro e w2 ⟨x, rfl, h1, s3, m3⟩
    exact ⟨x, rfl, h1, s3, (Mid.of_below hB _ _).trans m3⟩
end Go.Proofs.YtecdendjlgohjaaGreatDoor
namespace Go.Proofs.YtecdendjlgohjaaGreatDoor
open Go.RowKit Go.Sort
set_option maxHeartbeats 4000000
set_option maxRecDepth 100000
set_option linter.unusedVariables false
theorem OS.made00 {α : Type} (t : Ty α) (e : TypeId) (w : World) : OS t e (w.alloc (.cells #[] e)) (Iv w.heap.size (w.alloc (.cells #[] e)).heap.size) (.slice (some ⟨w.heap.size, 0, none⟩) 0 0) [] :=
  ⟨[], fun _ _ => False, World.ownsRow_made _ _ _ (Nat.zero_le _) (by simp [maxLen]) (by simp), rfl, fun g hg => by simp only [Value.ownBlock, Option.some.injEq] at hg; subst hg; exact ⟨Nat.le_refl _, by simp⟩, fun _ _ h => h.elim, fun _ _ _ _ h => h.elim, fun k h => by simp at h⟩
theorem spec_l26Bent (b lo : Nat) (A : Option Addr) (n c : Nat) (code : List UInt8) (K : Nat) (w : World) (h : Src w b lo A n c code K) (hK : K ≤ 100000) :
    Calls Tryz.prog 29 #[.pointer (some ⟨b, 0, none⟩)] w (BentM b w) := by
  have hbw := h.lt
  obtain ⟨U0, hU0⟩ : ∃ W, W = w.alloc (.cells #[.slice none 0 0] 24) := ⟨_, rfl⟩
  have B0 : Below w.heap.size w U0 := by rw [hU0]; exact (Below.refl _ _).alloc (Nat.le_refl _) _
  have z0 : U0.heap.size = w.heap.size + 1 := by rw [hU0]; simp
  have c0 : U0.cell? ⟨w.heap.size, 0, none⟩ = some (.slice none 0 0) := by rw [hU0]; simp [go_sem]
  have f0 : U0.frozen? ⟨w.heap.size, 0, none⟩ = false := by rw [hU0]; simp [go_sem]
  have s0 := h.below B0 hbw
  have HU0 := Lib.hid hU0
  have lU : U0.heap.size ≤ w.heap.size + 1 ∧ w.heap.size + 1 ≤ U0.heap.size := by omega
  clear hU0 z0
  go_enter Tryz.func29, Tryz.ntmps29
  go_wp2_with fail
  rw [← HU0.out]
  refine (spec_l26Draw b lo A n c code K U0 s0 (by omega)).mono ?_
  rintro e w1 ⟨A1, c1, ms, rfl, own1, hl6, hl1, tiny, -, s1, m1⟩
  have t1 := m1.size
  obtain ⟨W2, hW2⟩ : ∃ W, W = w1.alloc (.cells #[.slice A1 ms.length c1] 24) := ⟨_, rfl⟩
  have B2 : Below w1.heap.size w1 W2 := by rw [hW2]; exact (Below.refl _ _).alloc (Nat.le_refl _) _
  have E0 : BE w b lo A n c code w1.heap.size (K + 200) (.slice A1 ms.length c1) W2 := by
    have M2 : Mid b (b + 1) U0 W2 := m1.thenB' B2 m1.size
    exact ⟨M2.cellK (by omega) (.inr (by omega)) c0, M2.frozK (by omega) (.inr (by omega)) f0, by rw [hW2]; simp [go_sem], by rw [hW2]; simp [go_sem], s1.below B2 (by omega), (Mid.of_below B0 _ _).trans M2, by rw [hW2]; simp, by omega⟩
  have O0 : OS tSt 44 W2 (Iv U0.heap.size w1.heap.size) (.slice A1 ms.length c1) ms := own1.below B2 (Nat.le_refl _)
  have HW2 := Lib.hid hW2
  obtain ⟨X, hX⟩ : ∃ q, q = w1.heap.size := ⟨_, rfl⟩
  have HX := Lib.hid hX
  rw [← hX] at E0 O0 t1
  clear hW2 own1 s1 m1 c0 f0 s0 B2 hX
  have q1 := E0.qX
  have lX0 := E0.sz
  go_wp2_with fail
  rw [← HW2.out, ← HX.out]
  refine (src_pick b lo A n c code (K + 200) (ms.length : Int) W2 E0.src (by omega) (by omega)).mono ?_
  rintro e y1 ⟨k0, rfl, ⟨hk0, hk1⟩, s2, m2⟩
  obtain ⟨k, rfl⟩ : ∃ q : Nat, k0 = q := ⟨k0.toNat, by omega⟩
  have hk : k < ms.length := by omega
  have E1 := E0.step hbw s2 m2
  have O1 := O0.mid m2 (.inr (by omega)) (by omega)
  have lX := E1.sz
  have hx := Lib.hid (List.getElem?_eq_getElem hk)
  generalize ms[k] = x at hx
  obtain ⟨n0, l0, us⟩ := x
  have ht0 := tiny.out _ (List.mem_of_getElem? hx.out)
  obtain ⟨g, -, -, rfl, hFg, -⟩ := bent_cells O1 hx.out
  have gU : U0.heap.size ≤ g := hFg.1
  have gX : g < X := hFg.2
  have q2 := E1.qX
  clear E0 O0 hk0 hk1 s2 m2 q1
  go_wp2_with fail
  refine (src_pick b lo A n c code _ 20 y1 E1.src (by omega) (by omega)).mono ?_
  rintro e y2 ⟨vv, rfl, -, s3, m3⟩
  have E2 := E1.step hbw s3 m3
  have O2 := O1.mid m3 (.inr (by omega)) (by omega)
  clear E1 O1 q2 s3 m3
  have ltY := E2.sz
  obtain ⟨g', Au, cu, eg, -, -, C0, C1, C2, css, Fs, hole, hcs, oU, hFn, hsz0⟩ := bent_cells O2 hx.out
  obtain rfl : g = g' := by injection eg with eg; injection eg
  clear eg
  have k1 := E2.qX
  have k2 := E2.fX
  have k3 := E2.q0
  have k4 := E2.f0
  by_cases v0 : vv = 0
  · subst v0
    have HT := Lib.hid (src_text4 b lo A n c code _ y2 E2.src (by omega))
    go_wp2_with fail
    refine HT.out.mono ?_
    rintro e y3 ⟨s, rfl, hs6, s4, m4⟩
    have E3 := E2.step hbw s4 m4
    have O3 := O2.mid m4 (.inr (by omega)) (by omega)
    obtain ⟨g', Au3, cu3, eg, -, -, ⟨D0, D0f⟩, -, -, -⟩ := bent_cells O3 hx.out
    obtain rfl : g = g' := by injection eg with eg; injection eg
    clear eg
    have EY := E3.chg hbw (G := fun z => z = g) (fun z h => by omega) (Chg.set y3 g (k * 3) (.string s) rfl)
    have OY := bent_set0 O3 hx.out s (by unfold maxLen; omega)
    obtain ⟨Y, hY⟩ : ∃ u, u = y3.setCell ⟨g, k * 3, none⟩ (.string s) := ⟨_, rfl⟩
    rw [← hY] at EY OY
    have HY := Lib.hid hY
    clear hY
    have z0 := EY.q0
    have z1 := EY.f0
    have z2 := EY.qX
    have hfin := Lib.hid (EY.fin OY (fun z h => by have h1 : U0.heap.size ≤ z := h.1; omega) hl6 (M.tiny_set (fun x hx => ⟨(tiny.out x hx).1, Nat.le_succ_of_le (tiny.out x hx).2⟩) ⟨hs6, by have := ht0.2; simp only at this ⊢; omega⟩) (by simp))
    clear EY OY
    go_upto_region 18 with fail
    rw [← HY.out]
    go_wp2
    refine bodyPost_ret (v := .agg #[.slice (some ⟨g, 0, none⟩) ms.length c1]) (by simp [results, Tryz.results29, go_sem, z0, z1]) rfl ?_
    exact hfin.out
  by_cases v1 : vv = 1
  · subst v1
    have HT := Lib.hid (src_among3 b lo A n c code _ y2 E2.src (by omega))
    go_wp2_with fail
    refine HT.out.mono ?_
    rintro e y3 ⟨lz, rfl, -, s4, m4⟩
    have E3 := E2.step hbw s4 m4
    have O3 := O2.mid m4 (.inr (by omega)) (by omega)
    obtain ⟨g', Au3, cu3, eg, -, -, -, ⟨D0, D0f⟩, -, -⟩ := bent_cells O3 hx.out
    obtain rfl : g = g' := by injection eg with eg; injection eg
    clear eg
    have EY := E3.chg hbw (G := fun z => z = g) (fun z h => by omega) (Chg.set y3 g (k * 3 + 1) (.int .i64 lz) rfl)
    have OY := bent_set1 O3 hx.out lz
    obtain ⟨Y, hY⟩ : ∃ u, u = y3.setCell ⟨g, k * 3 + 1, none⟩ (.int .i64 lz) := ⟨_, rfl⟩
    rw [← hY] at EY OY
    have HY := Lib.hid hY
    clear hY
    have z0 := EY.q0
    have z1 := EY.f0
    have z2 := EY.qX
    have hfin := Lib.hid (EY.fin OY (fun z h => by have h1 : U0.heap.size ≤ z := h.1; omega) hl6 (M.tiny_set (fun x hx => ⟨(tiny.out x hx).1, Nat.le_succ_of_le (tiny.out x hx).2⟩) ⟨ht0.1, by have := ht0.2; simp only at this ⊢; omega⟩) (by simp))
    clear EY OY
    go_upto_region 18 with fail
    rw [← HY.out]
    go_wp2
    refine bodyPost_ret (v := .agg #[.slice (some ⟨g, 0, none⟩) ms.length c1]) (by simp [results, Tryz.results29, go_sem, z0, z1]) rfl ?_
    exact hfin.out
  by_cases v2 : vv = 2
  · subst v2
    obtain ⟨D2, D2f⟩ := C2
    have HE2 := Lib.hid E2
    have ghx : Hid (∀ z, Fs k z → z < X ∧ U0.heap.size ≤ z ∧ z ≠ g) := Lib.hid (fun z h => by
      have := hole.fits z h
      exact ⟨this.2, this.1, fun e => hFn (e ▸ h)⟩)
    obtain ⟨G, hG⟩ : ∃ G : Nat → Prop, G = fun z => z = b ∨ Fs k z := ⟨_, rfl⟩
    have HG := Lib.hid hG
    have GN := Lib.hid (show ¬ G g from fun h => by
      rw [hG] at h
      rcases h with h | h
      · omega
      · exact hFn h)
    have w2c := ChgTo.cell (F := G) D2 (fun h => GN.out h)
    have SP := Lib.hid (src_pick b lo A n c code _ 8 y2.drew (E2.src.below (below_drewN (Below.refl y2.heap.size _) 1) (by omega)) (by omega) (by omega))
    clear hG E2 v0 v1
    go_wp2_with fail
    (refine wp_region_chg G [0, 1, 2, 3, 5] [4] 6 (.one 6 (.one 7 (.one 8 (.one 9 (.first 10 (.first 11 .rest)))))) [12] [12] (by kernel_rfl) (by kernel_rfl) ?_; simp only [pickOps]; simp only [List.filterMap, List.getElem?_cons_succ, List.getElem?_cons_zero]; (repeat (go_big_quiet_step (fail))); refine wpQuiet_nil ?_; (repeat (go_big_quiet_step (fail))); refine wpQuiet_nil ?_)
    refine seqT_one2 rfl ?_
    go_wp2_with fail
    refine SP.out.mono ?_
    rintro e y3 ⟨tz, rfl, -, s5, m5⟩
    have m5' : Mid b (b + 1) y2 y3 := (Mid.of_below (below_drewN (Below.refl y2.heap.size _) 1) b (b + 1)).trans m5
    have E3 := HE2.out.step hbw s5 m5'
    have lt5 := m5'.size
    have KP : ∀ z, Iv U0.heap.size X z → y3.heap[z]? = y2.heap[z]? := fun z h => m5'.block z (by have h1 : z < X := h.2; omega) (.inr (by have h1 : U0.heap.size ≤ z := h.1; omega))
    have C5 : Chg G y2 y3 := ⟨m5'.os, m5'.tape, m5'.output, m5'.size, fun i hi hn => m5'.block i hi (by
      rw [HG.out] at hn
      rcases Nat.lt_or_ge i b with h | h
      · exact .inl h
      · exact .inr (by rcases Nat.lt_or_ge b i with h2 | h2; exact h2; exact absurd (.inl (by omega)) hn))⟩
    have hole3 := hole.keep KP
    have oU3 := oU.keep (fun z h => KP z (hole.fits z h))
    have D3 := (hole3.cell hcs (j := 2) rfl).1
    have D3f := (hole3.cell hcs (j := 2) rfl).2
    change y3.cell? ⟨g, k * 3 + 2, none⟩ = _ at D3
    change y3.frozen? ⟨g, k * 3 + 2, none⟩ = _ at D3f
    have HKP := Lib.hid KP
    clear KP
    go_wp2_with fail
    refine ⟨⟨⟨y3, C5⟩, rfl⟩, seqT_one2 rfl ?_⟩
    go_wp2_with fail
    refine ⟨⟨⟨y3, C5⟩, rfl⟩, seqT_one2 rfl ?_⟩
    go_wp2_with fail
    refine ⟨⟨⟨_, C5.trans (Chg.of_below ((Below.refl _ _).alloc (Nat.le_refl _) _) _)⟩, rfl⟩, seqT_one2 rfl ?_⟩
    have oU4 := oU3.real
    go_wp2_with (at_builtin; refine wpList_pushS ei_sd #[.int .i64 tz, .int .i64 1] rfl _ _ rfl oU3.real (Fe := fun _ => False) (y := (tz, 1)) rfl (fun _ _ h => h) rfl rfl (by unfold maxLen; omega) (by omega) ?_; intro v6 w6 own6 ch6; obtain ⟨A6, c6, e6⟩ := own6.shape; rw [List.length_append, List.length_singleton] at e6; subst e6; have q6 : w6.cell? ⟨g, k * 3 + 2, none⟩ = some (.slice Au us.length cu) := (by rw [ch6.cell1 (show g < y3.heap.size by omega) (fun h => hFn h.1)]; exact D3); have r6 : w6.frozen? ⟨g, k * 3 + 2, none⟩ = false := (by rw [ch6.frozen1 (show g < y3.heap.size by omega) (fun h => hFn h.1)]; exact D3f))
    have CG6 : Chg G y2 w6 := C5.trans (ch6.wide (fun z h => by rw [HG.out]; exact .inr h.1))
    refine ⟨⟨⟨w6, CG6⟩, rfl⟩, ?_⟩
    (refine seqT_first2 rfl ?_; (repeat (go_big_quiet_step (fail))); refine wpQuiet_nil ?_)
    (refine seqT_first2 rfl ?_; (repeat (go_big_quiet_step (fail))); refine wpQuiet_nil ?_)
    refine seqT_rest2 ?_
    have hs6 := (hole3.chg (ch6.wide (fun z h => h.1))).set hcs 2 (by decide) (.slice A6 (us.length + 1) c6)
    rw [show k * tSt.s + 2 = k * 3 + 2 from rfl] at hs6
    have CS : Chg (fun z => z = g) w6 (w6.setCell ⟨g, k * 3 + 2, none⟩ (.slice A6 (us.length + 1) c6)) := Chg.set w6 g (k * 3 + 2) _ rfl
    have e95 : (w6.setCell ⟨g, k * 3 + 2, none⟩ (.slice A6 (us.length + 1) c6)).heap.size = w6.heap.size := by simp
    have own7 := own6.chg CS (fun z h1 (h2 : z = g) => by
      rcases h1 with h1 | h1 | h1
      · exact hFn (h2 ▸ h1.1)
      · exact h1
      · omega)
    have st7 := hs6.1.fill2 hs6.2 (y := (n0, l0, us ++ [(tz, 1)])) (Fe := fun z => Fs k z ∨ y3.heap.size < z) (st_O.2 ⟨A6, us.length + 1, c6, rfl, hsz0, sl_O.2 (own7.wide (fun z h1 => by
      rcases h1 with h1 | h1 | h1
      · exact .inl h1.1
      · exact h1.elim
      · exact .inr h1.1))⟩) (fun z h1 => by
        rcases h1 with h1 | h1
        · exact .inl h1
        · exact .inr (fun h2 => by have h3 : z < X := h2.2; omega))
    have EY := (E3.chg hbw (G := fun z => Fs k z) (fun z h => by have := ghx.out z h; omega) (ch6.wide (fun z h => h.1))).chg hbw (G := fun z => z = g) (fun z h => by omega) CS
    have OY := st7
    clear st7 hs6
    obtain ⟨Y, hY⟩ : ∃ u, u = w6.setCell ⟨g, k * 3 + 2, none⟩ (.slice A6 (us.length + 1) c6) := ⟨_, rfl⟩
    rw [← hY] at EY OY
    have HY := Lib.hid hY
    clear hY
    have z0 := EY.q0
    have z1 := EY.f0
    have z2 := EY.qX
    have hfin := Lib.hid (EY.fin OY (fun z h => by have h1 : U0.heap.size ≤ z := (by rcases h with h | h | h; exact h.1; exact (ghx.out z h).2.1; omega); omega) hl6 (M.tiny_set (fun x hx => ⟨(tiny.out x hx).1, Nat.le_succ_of_le (tiny.out x hx).2⟩) ⟨ht0.1, by have := ht0.2; simp only at this ⊢; rw [List.length_append, List.length_singleton]; omega⟩) (by simp))
    clear EY OY
    go_upto_region 18 with fail
    rw [← HY.out]
    go_wp2
    refine bodyPost_ret (v := .agg #[.slice (some ⟨g, 0, none⟩) ms.length c1]) (by simp [results, Tryz.results29, go_sem, z0, z1]) rfl ?_
    exact hfin.out
  by_cases v3 : vv = 3
  · subst v3
    obtain ⟨D2, D2f⟩ := C2
    have EY := E2.chg hbw (G := fun z => z = g) (fun z h => by omega) (Chg.set y2 g (k * 3 + 2) (.slice none 0 0) rfl)
    have OY := bent_set2 O2 hx.out
    obtain ⟨Y, hY⟩ : ∃ u, u = y2.setCell ⟨g, k * 3 + 2, none⟩ (.slice none 0 0) := ⟨_, rfl⟩
    rw [← hY] at EY OY
    have HY := Lib.hid hY
    clear hY
    have z0 := EY.q0
    have z1 := EY.f0
    have z2 := EY.qX
    have hfin := Lib.hid (EY.fin OY (fun z h => by have h1 : U0.heap.size ≤ z := h.1; omega) hl6 (M.tiny_set (fun x hx => ⟨(tiny.out x hx).1, Nat.le_succ_of_le (tiny.out x hx).2⟩) ⟨ht0.1, by simp⟩) (by simp))
    clear EY OY
    go_upto_region 18 with fail
    rw [← HY.out]
    go_wp2
    refine bodyPost_ret (v := .agg #[.slice (some ⟨g, 0, none⟩) ms.length c1]) (by simp [results, Tryz.results29, go_sem, z0, z1]) rfl ?_
    exact hfin.out
  by_cases v4 : vv = 4
  · subst v4
    obtain ⟨D2, D2f⟩ := C2
    by_cases hu : us.length = 0
    · have hu2 : ¬ (0 : Int) < (us.length : Int) := by omega
      have EY := E2
      have OY := O2
      clear E2 O2
      obtain ⟨Y, hY⟩ : ∃ u, u = y2 := ⟨_, rfl⟩
      rw [← hY] at EY OY
      have HY := Lib.hid hY
      clear hY
      have z0 := EY.q0
      have z1 := EY.f0
      have z2 := EY.qX
      have hfin := Lib.hid (EY.fin OY (fun z h => by have h1 : U0.heap.size ≤ z := h.1; omega) hl6 (fun x hx => ⟨(tiny.out x hx).1, Nat.le_succ_of_le (tiny.out x hx).2⟩) (by simp))
      clear EY OY
      go_upto_region 18 with fail
      rw [← HY.out]
      go_wp2
      refine bodyPost_ret (v := .agg #[.slice (some ⟨g, 0, none⟩) ms.length c1]) (by simp [results, Tryz.results29, go_sem, z0, z1]) rfl ?_
      exact hfin.out
    · have hup : 0 < us.length := by omega
      have hu2 : (0 : Int) < (us.length : Int) := by omega
      have hY0 := Lib.hid (List.getElem?_eq_getElem hup)
      generalize us[0] = y0 at hY0
      obtain ⟨cs2, Fs2, hole2, cz, hcz, hz⟩ := oU.openAt hY0.out
      obtain ⟨p0, p1⟩ := y0
      obtain rfl : cz = [.int .i64 p0, .int .i64 p1] := hz
      obtain ⟨g2, rfl, hFg2, -, hgw2, -⟩ := hole2.form hup
      have D5 := (hole2.cell hcz (j := 1) rfl).1
      have D5f := (hole2.cell hcz (j := 1) rfl).2
      change y2.cell? ⟨g2, 1, none⟩ = _ at D5
      change y2.frozen? ⟨g2, 1, none⟩ = _ at D5f
      have g2n : g2 ≠ g := fun e => hFn (e ▸ hFg2)
      have g2b := hole.fits g2 hFg2
      have g2U : U0.heap.size ≤ g2 := g2b.1
      have g2X : g2 < X := g2b.2
      have CS : Chg (Fs k) y2 (y2.setCell ⟨g2, 1, none⟩ (.int .i64 2147483648)) := Chg.set y2 g2 1 _ hFg2
      have h2s := hole2.set hcz 1 (by decide) (.int .i64 2147483648)
      have own5 := h2s.1.fill h2s.2 (y := (p0, 2147483648)) rfl
      have EY := E2.chg hbw (G := fun z => z = g2) (fun z h => by omega) (Chg.set y2 g2 1 (.int .i64 2147483648) rfl)
      have OY := (hole.chg CS).fill hcs (y := (n0, l0, us.set 0 (p0, 2147483648))) (st_O.2 ⟨_, us.length, cu, rfl, hsz0, sl_O.2 own5⟩)
      clear E2 O2 h2s own5
      obtain ⟨Y, hY⟩ : ∃ u, u = y2.setCell ⟨g2, 1, none⟩ (.int .i64 2147483648) := ⟨_, rfl⟩
      rw [← hY] at EY OY
      have HY := Lib.hid hY
      clear hY
      have z0 := EY.q0
      have z1 := EY.f0
      have z2 := EY.qX
      have hfin := Lib.hid (EY.fin OY (fun z h => by have h1 : U0.heap.size ≤ z := h.1; omega) hl6 (M.tiny_set (fun x hx => ⟨(tiny.out x hx).1, Nat.le_succ_of_le (tiny.out x hx).2⟩) ⟨ht0.1, by have := ht0.2; simp only at this ⊢; rw [List.length_set]; omega⟩) (by simp))
      clear EY OY
      go_upto_region 18 with fail
      rw [← HY.out]
      go_wp2
      refine bodyPost_ret (v := .agg #[.slice (some ⟨g, 0, none⟩) ms.length c1]) (by simp [results, Tryz.results29, go_sem, z0, z1]) rfl ?_
      exact hfin.out
  by_cases v5 : vv = 5
  · subst v5
    obtain ⟨V, hV⟩ : ∃ u : Value, u = .slice (some ⟨y2.heap.size, 0, none⟩) 0 0 := ⟨_, rfl⟩
    obtain ⟨Y0, hY0⟩ : ∃ u, u = y2.setCell ⟨X, 0, none⟩ V := ⟨_, rfl⟩
    have MX : Mid X (X + 1) y2 Y0 := by rw [hY0]; exact Mid.cell _ X 0 _
    have eS : Y0.heap.size = y2.heap.size := by rw [hY0]; simp
    have E6 : BE w b lo A n c code X _ V Y0 :=
      ⟨MX.cellK (by omega) (.inl (by omega)) E2.q0, MX.frozK (by omega) (.inl (by omega)) E2.f0, by rw [hY0]; exact World.cell?_setCell_same _ _ _ k1, by rw [hY0]; exact (World.frozen?_setCell _ _ _ _).trans k2, E2.src.mid MX (by omega), E2.mid.thenB' (by rw [hY0]; exact (Below.refl w.heap.size _).setCell (p := ⟨X, 0, none⟩) (by show w.heap.size ≤ X; omega) _) (by have := E2.mid.size; omega), by omega, by omega⟩
    have B5 : Below Y0.heap.size Y0 (Y0.alloc (.cells #[] 44)) := (Below.refl _ _).alloc (Nat.le_refl _) _
    have OZ := OS.made00 tSt 44 Y0
    have lY := E6.sz
    have E7 := E6.step hbw (E6.src.below B5 (by omega)) (Mid.of_below B5 _ _)
    rw [eS] at OZ
    obtain ⟨Y, hY⟩ : ∃ u, u = Y0.alloc (.cells #[] 44) := ⟨_, rfl⟩
    rw [← hY] at E7 OZ
    have HY := Lib.hid (show Y = (y2.setCell ⟨X, 0, none⟩ (.slice (some ⟨y2.heap.size, 0, none⟩) 0 0)).alloc (.cells #[] 44) by rw [hY, hY0, hV])
    have z9 := E7.q0
    have z8 := E7.f0
    have z7 := E7.qX
    rw [hV] at z7
    have hfin := Lib.hid (E7.fin OZ (fun z h => by have h1 : y2.heap.size ≤ z := h.1; omega) (by omega) (fun x hx => by simp at hx) rfl)
    clear hY hY0 hV E7 E6 OZ B5 MX eS lY E2 O2
    go_upto_region 18 with fail
    rw [← HY.out]
    go_wp2
    refine bodyPost_ret (v := .agg #[.slice (some ⟨y2.heap.size, 0, none⟩) 0 0]) (by simp [results, Tryz.results29, go_sem, z9, z8]) rfl ?_
    exact hfin.out
  · have EY := E2
    have OY := O2
    clear E2 O2
    obtain ⟨Y, hY⟩ : ∃ u, u = y2 := ⟨_, rfl⟩
    rw [← hY] at EY OY
    have HY := Lib.hid hY
    clear hY
    have z0 := EY.q0
    have z1 := EY.f0
    have z2 := EY.qX
    have hfin := Lib.hid (EY.fin OY (fun z h => by have h1 : U0.heap.size ≤ z := h.1; omega) hl6 (fun x hx => ⟨(tiny.out x hx).1, Nat.le_succ_of_le (tiny.out x hx).2⟩) (by simp))
    clear EY OY
    go_upto_region 18 with fail
    rw [← HY.out]
    go_wp2
    refine bodyPost_ret (v := .agg #[.slice (some ⟨g, 0, none⟩) ms.length c1]) (by simp [results, Tryz.results29, go_sem, z0, z1]) rfl ?_
    exact hfin.out
end Go.Proofs.YtecdendjlgohjaaGreatDoor
namespace Go.Proofs.YtecdendjlgohjaaGreatDoor
open Go.RowKit Go.Sort
set_option maxHeartbeats 4000000
set_option maxRecDepth 100000
theorem laws_b10Long (A : Option Addr) (n c : Nat) (w : World) :
    Calls Tryz.prog 10 #[.slice A n c] w fun e w' => e = .returned (.bool (decide (1048576 < n))) ∧ w = w' := by
  by_cases h1 : 1048576 < n
  · have h2 : (1048576 : Int) < (n : Int) := by omega
    go_enter Tryz.func10, Tryz.ntmps10
    go_wp2
    go_ret
    exact ⟨by simp [h1, h2], rfl⟩
  · have h2 : ¬ (1048576 : Int) < (n : Int) := by omega
    go_enter Tryz.func10, Tryz.ntmps10
    go_wp2
    go_ret
    exact ⟨by simp [h1, h2], rfl⟩
/-- A small mixer. -/
def MixL (w : World) (e : Ending) (w' : World) : Prop :=
  ∃ A1 c1 ms, e = .returned (.agg #[.slice A1 (List.length ms) c1]) ∧ tM.R w' w'.heap.size [.slice A1 ms.length c1] ms ∧ ms.length ≤ 6 ∧ Hid (M.tiny 5 ms) ∧ Below w.heap.size w w'
theorem spec_DrawDelaysOf (A : Option Addr) (n c : Nat) (code : List UInt8) (w : World) (hr : RS tU8 w w.heap.size (.slice A n c) code) :
    Calls Tryz.prog 11 #[.slice A n c] w (MixL w) := by
  obtain ⟨W, hW⟩ : ∃ W, W = w.alloc (.cells #[.slice none 0 0] 24) := ⟨_, rfl⟩
  have B0 : Below w.heap.size w W := by rw [hW]; exact (Below.refl _ _).alloc (Nat.le_refl _) _
  have z0 : w.heap.size + 1 ≤ W.heap.size := by rw [hW]; simp
  have q0 : W.cell? ⟨w.heap.size, 0, none⟩ = some (.slice none 0 0) := by rw [hW]; simp [go_sem]
  have f0 : W.frozen? ⟨w.heap.size, 0, none⟩ = false := by rw [hW]; simp [go_sem]
  have HW := Lib.hid hW
  clear hW
  have hr0 := hr.later B0
  go_enter Tryz.func11, Tryz.ntmps11
  go_wp2_with fail
  rw [← HW.out]
  refine (spec_l00From A n c code W hr0).mono ?_
  rintro e w1 ⟨b, rfl, hb, s1, b1, z1⟩
  have hbl : w.heap.size + 1 ≤ b := by omega
  have lt1 : b + 1 ≤ w1.heap.size := by omega
  have hb' := Lib.hid hb
  clear z1 hb
  go_wp2_with fail
  refine (spec_l26Bent _ _ A n c code 0 w1 s1 (by omega)).mono ?_
  rintro e w2 ⟨A1, c1, ms, rfl, o2, hl, ht, m2⟩
  have lt2 := m2.size
  have q2 : w2.cell? ⟨w.heap.size, 0, none⟩ = some (.slice none 0 0) := m2.cellK (by omega) (.inl (by omega)) (by rw [b1.cell (by show w.heap.size < _; omega)]; exact q0)
  have f2 : w2.frozen? ⟨w.heap.size, 0, none⟩ = false := m2.frozK (by omega) (.inl (by omega)) (by rw [b1.frozen (by show w.heap.size < _; omega)]; exact f0)
  go_wp2
  refine bodyPost_ret (v := .agg #[.slice A1 ms.length c1]) (by simp [results, Tryz.results11, go_sem, q2, f2]) rfl ?_
  have hb1 := hb'.out
  have CB : Chg (fun z => z = w.heap.size) w2 (w2.setCell ⟨w.heap.size, 0, none⟩ (.slice A1 ms.length c1)) := Chg.set w2 w.heap.size 0 _ rfl
  exact ⟨A1, c1, ms, rfl, sl_R.2 (o2.chg CB (fun z h1 (h2 : z = w.heap.size) => by omega)).read, hl, ht, ((B0.trans (b1.mono B0.size)).trans ((m2.toBelow (by omega)).mono (by omega))).setCell (Nat.le_refl _) _⟩
end Go.Proofs.YtecdendjlgohjaaGreatDoor
namespace Go.Proofs.YtecdendjlgohjaaGreatDoor
open Go.RowKit
set_option maxHeartbeats 4000000
set_option maxRecDepth 100000
theorem M.has_no {xs : List Strip} {k : Nat} {s : ByteArray} (h : ∀ j, j < k → ∀ y, xs[j]? = some y → ¬ y.1 = s) : M.has s ((xs.take k).map (·.1)) = false := by
  rw [M.has, List.any_eq_false]
  intro t ht
  obtain ⟨y, hy, rfl⟩ := List.mem_map.1 ht
  obtain ⟨j, hj⟩ := List.getElem?_of_mem hy
  have hj2 : j < k := by
    have := (List.getElem?_eq_some_iff.1 hj).1
    rw [List.length_take] at this
    omega
  rw [List.getElem?_take, if_pos hj2] at hj
  simpa using h j hj2 y hj
theorem M.has_yes {xs : List Strip} {k j : Nat} {y : Strip} (hj : j < k) (h : xs[j]? = some y) : M.has y.1 ((xs.take k).map (·.1)) = true := by
  rw [M.has, List.any_eq_true]
  refine ⟨y.1, List.mem_map.2 ⟨y, List.mem_of_getElem? (i := j) (by rw [List.getElem?_take, if_pos hj]; exact h), rfl⟩, by simp⟩
theorem spec_l26Ok_at (vb vo : Nat) (A : Option Addr) (n c : Nat) (xs : List Strip) (w : World) (hv0 : w.cell? ⟨vb, vo, none⟩ = some (.slice A n c)) (hx : tM.R w w.heap.size [.slice A n c] xs) (hn : hM.sz xs ≤ 100000000) :
    Calls Tryz.prog 21 #[.pointer (some ⟨vb, vo, none⟩)] w fun e w' => e = .returned (.bool (M.mixOk xs)) ∧ Below w.heap.size w w' := by
  have hvb : vb < w.heap.size := World.block_lt_of_cell? w _ hv0
  have rx := sl_R.1 hx
  have hlx := rx.cap.1
  have hm1 : xs.length + hSt.szL xs ≤ 100000000 := hn
  have hnb : n ≤ 100000000 := by omega
  have HLX := Lib.hid hlx
  have HM1 := Lib.hid hm1
  clear hlx hx hn hm1
  cases hI : M.inn n 1 8
  · have R := Lib.hid (show M.mixOk xs = false by rw [M.mixOk, HLX.out, hI]; rfl)
    go_enter Tryz.func21, Tryz.ntmps21
    go_wp2_with (go_at_call 39; refine (spec_l00In _ _ _ _).mono ?_; rintro e w' ⟨rfl, rfl⟩)
    go_ret
    exact ⟨ret_bool (by rw [R.out]), Below.refl _ _⟩
  · have hb8 := M.inn_iffM.1 hI
    have HI := Lib.hid hI
    go_enter Tryz.func21, Tryz.ntmps21
    go_wp2_with (go_at_call 39; refine (spec_l00In _ _ _ _).mono ?_; rintro e w' ⟨rfl, rfl⟩)
    clear hI
    go_loopw [4, 5] (fun i _ wr => ∃ k : Nat, i = .int .i64 k ∧ k ≤ n ∧ Hid (∀ j, j < k → M.stepM xs j = true) ∧ Below w.heap.size w wr) (fun i _ _ => n - (intOf i).toNat)
    case atStart => exact ⟨0, rfl, by omega, Lib.hid (by omega), Below.refl _ _⟩
    case round =>
      obtain ⟨k, rfl, hk, H, Bw⟩ := hrel
      have c0 : wr.cell? ⟨vb, vo, none⟩ = some (.slice A n c) := by rw [Bw.cell hvb]; exact hv0
      by_cases hlt : k < n
      · have hX := Lib.hid (List.getElem?_eq_getElem (l := xs) (i := k) (by rw [HLX.out]; exact hlt))
        obtain ⟨b, o1, cc, cs, hv, hab, -, hE, hcc⟩ := (rx.below Bw).atX hX.out
        simp only [Value.slice.injEq] at hv
        obtain ⟨rfl, -, rfl⟩ := hv
        have hU := hSt.szL_at hX.out
        generalize xs[k]'(by rw [HLX.out]; exact hlt) = x at hX hE hU
        obtain ⟨s, l, us⟩ := x
        rw [hSt_sz] at hU
        obtain ⟨A1, n1, c1, rfl, hs, hE⟩ := st_R.1 hE
        have n1b : n1 ≤ 1000000000 := by have := (tSdS_ra hE).1.1; have := HM1.out; omega
        have e0 : wr.cell? ⟨b, o1 + k * 3, none⟩ = some (.string s) := hcc 0 _ rfl
        have e1 : wr.cell? ⟨b, o1 + k * 3 + 1, none⟩ = some (.int .i64 l) := hcc 1 _ rfl
        have e2 : wr.cell? ⟨b, o1 + k * 3 + 2, none⟩ = some (.slice A1 n1 c1) := hcc 2 _ rfl
        have hra := (tSdS_ra (tSdS.more Bw.size hE)).1
        have hS := Lib.hid (M.stepM_eq hX.out)
        have HNO := Lib.hid (fun h => M.mix_no (xs := xs) (k := k) (by rw [HLX.out]; exact hlt) h)
        have HC := Lib.hid (spec_l26Strip b (o1 + k * 3) s l A1 n1 c1 us k n wr e0 e1 e2 hs hra n1b ⟨by omega, by omega⟩ ⟨by omega, by omega⟩)
        clear hcc hU hE
        cases hST : M.stripOk (s, l, us) k n
        · have R := Lib.hid (show M.mixOk xs = false from HNO.out (by rw [hS.out, HLX.out, hST]; rfl))
          go_wp2_with (go_at_call 40; refine HC.out.mono ?_; rw [hST]; rintro e w' ⟨rfl, rfl⟩)
          go_ret
          exact ⟨ret_bool (by rw [R.out]), Bw⟩
        · have HST := Lib.hid hST
          clear hST
          go_wp2_with (go_at_call 40; refine HC.out.mono ?_; rw [HST.out]; rintro e w' ⟨rfl, rfl⟩)
          obtain ⟨wo, rfl⟩ : ∃ wo : World, wo = wr := ⟨_, rfl⟩
          clear HC e1 e2 hra
          go_loopw [5] (fun i wr => ∃ j : Nat, i = .int .i64 j ∧ j ≤ k ∧ Hid (∀ q, q < j → ∀ y, xs[q]? = some y → ¬ y.1 = s) ∧ Below w.heap.size w wr) (fun i _ => k - (intOf i).toNat)
          case atStart => exact ⟨0, rfl, by omega, Lib.hid (by omega), Bw⟩
          case round =>
            obtain ⟨j, rfl, hj, HJ, Bw2⟩ := hrel
            have d0 : wr.cell? ⟨vb, vo, none⟩ = some (.slice (some ⟨b, o1, none⟩) n c) := by rw [Bw2.cell hvb]; exact hv0
            by_cases hlt2 : j < k
            · have hY := Lib.hid (List.getElem?_eq_getElem (l := xs) (i := j) (by rw [HLX.out]; omega))
              obtain ⟨b', o2, cc', cs', hv', -, -, hE', hdd⟩ := (rx.below Bw2).atX hY.out
              simp only [Value.slice.injEq, Option.some.injEq, Addr.mk.injEq] at hv'
              obtain ⟨⟨rfl, rfl, -⟩, -, rfl⟩ := hv'
              generalize xs[j]'(by rw [HLX.out]; omega) = y at hY hE'
              obtain ⟨s', l', vs⟩ := y
              obtain ⟨A2, n2, c2, rfl, -, -⟩ := st_R.1 hE'
              have f0 : wr.cell? ⟨b, o1 + j * 3, none⟩ = some (.string s') := hdd 0 _ rfl
              have f1 : wr.cell? ⟨b, o1 + k * 3, none⟩ = some (.string s) := by
                obtain ⟨b2, o3, cc2, cs2, hv2, -, -, hE2, hgg⟩ := (rx.below Bw2).atX hX.out
                simp only [Value.slice.injEq, Option.some.injEq, Addr.mk.injEq] at hv2
                obtain ⟨⟨rfl, rfl, -⟩, -, rfl⟩ := hv2
                obtain ⟨A3, n3, c3, rfl, -, -⟩ := st_R.1 hE2
                exact hgg 0 _ rfl
              have hjn : (j : Int) < (n : Int) := by omega
              have hj0 : (0 : Int) ≤ (j : Int) := by omega
              have hkn : (k : Int) < (n : Int) := by omega
              clear hdd hE'
              by_cases hss : s' = s
              · have R := Lib.hid (show M.mixOk xs = false from HNO.out (by
                  have h1 := M.has_yes hlt2 hY.out
                  rw [hss] at h1
                  rw [hS.out, h1, Bool.not_true, Bool.and_false]))
                have h1 : s'.toList = s.toList := by rw [hss]
                subst hss
                go_wp2
                go_quiet (fail)
                go_wp2
                go_ret
                exact ⟨ret_bool (by rw [R.out]), below_drewN Bw2 _⟩
              · have h1 := str_ne hss
                have h2 : (s'.toList == s.toList) = false := by simpa using h1
                have HSS := Lib.hid hss
                clear hss
                go_wp2
                go_quiet (fail)
                go_wp2
                go_roundw
                case rel => exact ⟨j + 1, by go_num, by omega, Lib.hid (fun q hq y hy => by
                    rcases Nat.lt_or_ge q j with h3 | h3
                    · exact HJ.out q h3 y hy
                    · obtain rfl : q = j := by omega
                      rw [hY.out] at hy
                      injection hy with hy
                      subst hy
                      exact HSS.out), below_drewN Bw2 _⟩
                case measure => simp [intOf]; omega
            · obtain rfl : j = k := by omega
              have HGO := Lib.hid (show M.stepM xs j = true by rw [hS.out, HLX.out, HST.out, M.has_no HJ.out]; rfl)
              go_wp2
              go_roundw
              case rel => exact ⟨j + 1, by go_num, by omega, Lib.hid (fun q hq => by
                  rcases Nat.lt_or_ge q j with h3 | h3
                  · exact H.out q h3
                  · obtain rfl : q = j := by omega
                    exact HGO.out), Bw2⟩
              case measure => simp [intOf]; omega
      · have R := Lib.hid (show M.mixOk xs = true by rw [M.mix_end (fun j hj => H.out j (by rw [HLX.out] at hj; omega)), HLX.out, HI.out])
        go_wp2
        go_ret
        exact ⟨ret_bool (by rw [R.out]), Bw⟩
theorem spec_l26Ok (vb : Nat) (A : Option Addr) (n c : Nat) (xs : List Strip) (w : World) (hv0 : w.cell? ⟨vb, 0, none⟩ = some (.slice A n c)) (hx : tM.R w w.heap.size [.slice A n c] xs) (hn : hM.sz xs ≤ 100000000) :
    Calls Tryz.prog 21 #[.pointer (some ⟨vb, 0, none⟩)] w fun e w' => e = .returned (.bool (M.mixOk xs)) ∧ Below w.heap.size w w' :=
  spec_l26Ok_at vb 0 A n c xs w hv0 hx hn
theorem spec_ValidMixer (A : Option Addr) (n c : Nat) (xs : List Strip) (w : World) (hx : tM.R w w.heap.size [.slice A n c] xs) (hn : hM.sz xs ≤ 100000000) :
    Calls Tryz.prog 15 #[.agg #[.slice A n c]] w fun e w' => e = .returned (.bool (M.mixOk xs)) ∧ Below w.heap.size w w' := by
  have hb : Below w.heap.size w (w.alloc (.cells #[.slice A n c] 24)) := (Below.refl _ _).alloc (Nat.le_refl _) _
  have hx2 := tM.later hx hb
  have hself : (w.alloc (.cells #[.slice A n c] 24)).cell? ⟨w.heap.size, 0, none⟩ = some (.slice A n c) := by simp [go_sem]
  go_enter Tryz.func15, Tryz.ntmps15
  go_wp2_with (go_at_call 21; refine (spec_l26Ok _ _ _ _ _ _ hself hx2 hn).mono ?_; rintro e w2 ⟨rfl, bel2⟩)
  go_ret
  exact ⟨rfl, bel_trans hb bel2⟩
end Go.Proofs.YtecdendjlgohjaaGreatDoor
namespace Go.Proofs.YtecdendjlgohjaaGreatDoor
open Go.RowKit
set_option maxHeartbeats 4000000
set_option maxRecDepth 100000
/-- The strip with a name. -/
def M.named (xs : List Strip) (s : ByteArray) : Int := match xs.findIdx? (fun x => decide (x.1 = s)) with
  | some i => (i : Int)
  | none => -1
theorem M.named_at {xs : List Strip} {s : ByteArray} {k : Nat} {x : Strip} (h : xs[k]? = some x) (hx : x.1 = s) (hb : ∀ j, j < k → ∀ y, xs[j]? = some y → ¬ y.1 = s) : M.named xs s = k := by
  obtain ⟨hk, rfl⟩ := List.getElem?_eq_some_iff.1 h
  have : xs.findIdx? (fun x => decide (x.1 = s)) = some k := by
    rw [List.findIdx?_eq_some_iff_getElem]
    exact ⟨hk, by simpa using hx, fun j hj => by simpa using hb j hj _ (List.getElem?_eq_getElem (by omega))⟩
  rw [M.named, this]
theorem M.named_none {xs : List Strip} {s : ByteArray} (hb : ∀ j, j < xs.length → ∀ y, xs[j]? = some y → ¬ y.1 = s) : M.named xs s = -1 := by
  have : xs.findIdx? (fun x => decide (x.1 = s)) = none := by
    rw [List.findIdx?_eq_none_iff]
    intro x hx
    obtain ⟨j, hj⟩ := List.getElem?_of_mem hx
    simpa using hb j (List.getElem?_eq_some_iff.1 hj).1 x hj
  rw [M.named, this]
theorem impl_stripNamed (A : Option Addr) (n c : Nat) (xs : List Strip) (s : ByteArray) (w : World) (hx : tM.R w w.heap.size [.slice A n c] xs) (hn : hM.sz xs ≤ 100000000) :
    Calls Tryz.prog 45 #[.agg #[.slice A n c], .string s] w fun e w' => e = .returned (.int .i64 (M.named xs s)) ∧ Below w.heap.size w w' := by
  have rx := sl_R.1 hx
  have hlx := rx.cap.1
  have hm1 : xs.length + hSt.szL xs ≤ 100000000 := hn
  have hnb : n ≤ 100000000 := by omega
  have HLX := Lib.hid hlx
  clear hlx hx hn hm1
  go_enter Tryz.func45, Tryz.ntmps45
  go_wp2
  go_loopw [5, 6, 10] (fun _ _ i wr => ∃ k : Nat, i = .int .i64 k ∧ k ≤ n ∧ Hid (∀ j, j < k → ∀ y, xs[j]? = some y → ¬ y.1 = s) ∧ Below w.heap.size w wr) (fun _ _ i _ => n - (intOf i).toNat)
  case atStart => exact ⟨0, rfl, by omega, Lib.hid (by omega), (Below.refl _ _).alloc (Nat.le_refl _) _⟩
  case round =>
    obtain ⟨k, rfl, hk, H, Bw⟩ := hrel
    by_cases hlt : k < n
    · have hX := Lib.hid (List.getElem?_eq_getElem (l := xs) (i := k) (by rw [HLX.out]; exact hlt))
      obtain ⟨b, o1, cc, cs, hv, hab, -, hE, hcc⟩ := (rx.below Bw).atX hX.out
      simp only [Value.slice.injEq] at hv
      obtain ⟨rfl, -, rfl⟩ := hv
      generalize xs[k]'(by rw [HLX.out]; exact hlt) = x at hX hE
      obtain ⟨s', l, us⟩ := x
      obtain ⟨A1, n1, c1, rfl, -, -⟩ := st_R.1 hE
      have e0 : wr.cell? ⟨b, o1 + k * 3, none⟩ = some (.string s') := hcc 0 _ rfl
      have e1 : wr.cell? ⟨b, o1 + k * 3 + 1, none⟩ = some (.int .i64 l) := hcc 1 _ rfl
      have e2 : wr.cell? ⟨b, o1 + k * 3 + 2, none⟩ = some (.slice A1 n1 c1) := hcc 2 _ rfl
      clear hcc hE
      by_cases hss : s' = s
      · have R := Lib.hid (M.named_at hX.out hss H.out)
        subst hss
        go_wp2
        go_ret
        exact ⟨ret_int (by rw [R.out]), Bw.alloc Bw.size _⟩
      · have h1 := str_ne hss
        have h2 : (s'.toList == s.toList) = false := by simpa using h1
        have HSS := Lib.hid hss
        clear hss
        go_wp2
        go_roundw
        case rel => exact ⟨k + 1, by go_num, by omega, Lib.hid (fun q hq y hy => by
            rcases Nat.lt_or_ge q k with h3 | h3
            · exact H.out q h3 y hy
            · obtain rfl : q = k := by omega
              rw [hX.out] at hy
              injection hy with hy
              subst hy
              exact HSS.out), Bw.alloc Bw.size _⟩
        case measure => simp [intOf]; omega
    · have R := Lib.hid (M.named_none (xs := xs) (s := s) (fun j hj => H.out j (by rw [HLX.out] at hj; omega)))
      go_wp2
      go_ret
      exact ⟨ret_int (by rw [R.out]), Bw⟩
end Go.Proofs.YtecdendjlgohjaaGreatDoor
