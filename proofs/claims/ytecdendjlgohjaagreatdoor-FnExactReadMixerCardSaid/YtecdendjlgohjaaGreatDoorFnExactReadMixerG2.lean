import Derived.Test.YtecdendjlgohjaaGreatDoorFnExactReadMixerG1
import Derived.Test.YtecdendjlgohjaaGreatDoorProg
import Derived.Lib.QuietBelow
import Derived.BigQuiet
import Derived.Shelf.LaysM
import Derived.Shelf.LaysC
import Derived.Shelf.Strconv.ErrVarParseInt
import Derived.Shelf.Strings.Prefix
import Derived.Shelf.Strings.SplitShaped
import Derived.Test.YtecdendjlgohjaaGreatDoorRows
import Derived.WalkKit
import Derived.ProofKit
import Derived.LaidMore
import Derived.Lay
import Derived.Lib.LaidTab
import Derived.Stop.LaidErr
import Derived.Stop.Joined
import Derived.Stop.ErrReads
import Derived.Stop.Texts
import Derived.Shelf.Vars
import Derived.Maps.AppendAt
import Derived.Laws.IdiomStrings
set_option linter.unusedVariables false
set_option linter.unusedSimpArgs false
/-
  A region that draws its order, more freely than in X50: loads and calls as there (each but the operations of T keeps the class of worlds D, and those of T wait for all loads), and behind the calls plain operations that may come in whatever order with what is left.
-/
namespace Go.Proofs.YtecdendjlgohjaaGreatDoor
open Go
section
variable {P : Program} {ops : Array Oper} {md : Region.Mode} {D : World → Prop}
inductive Tw where
  | rest
  | one (b : Nat) (t : Tw)
  | two (b : Nat) (t : Tw) (b' : Nat) (t' : Tw)
  | first (i : Nat) (t : Tw)
  | load (i : Nat) (t : Tw)
/-- All that is listed before an operation of T keeps D. -/
def anyD (P : Program) (md : Region.Mode) (ops : Array Oper) (D : World → Prop) (T : List Nat) (Q : Exit → Act → World → Prop) : Nat → Array Bool → Act → World → Prop
  | 0, listed, a, w => D w ∧ Region.ready md ops listed = [] ∧ Q .normal a w
  | f + 1, listed, a, w => D w ∧ Region.ready md ops listed ≠ [] ∧ ∀ i ∈ Region.ready md ops listed,
      (T.contains i = true → wpOp P ops Q i (wpAny P md ops Q f (listed.setIfInBounds i true)) a w) ∧ (T.contains i = false → wpOp P ops noX i (anyD P md ops D T Q f (listed.setIfInBounds i true)) a w)
theorem anyD_D {T : List Nat} {Q : Exit → Act → World → Prop} : ∀ {f : Nat} {listed : Array Bool} {a : Act} {w : World}, anyD P md ops D T Q f listed a w → D w
  | 0, _, _, _, h => h.1
  | _ + 1, _, _, _, h => h.1
theorem any_of_anyD {T : List Nat} {Q : Exit → Act → World → Prop} : ∀ (f : Nat) (listed : Array Bool) (a : Act) (w : World), anyD P md ops D T Q f listed a w → wpAny P md ops Q f listed a w := by
  intro f
  induction f with
  | zero => intro listed a w h; exact ⟨h.2.1, h.2.2⟩
  | succ f ih =>
    intro listed a w h
    refine ⟨fun h0 => absurd h0 h.2.1, fun i hi => ?_⟩
    cases hT : T.contains i with
    | true => exact (h.2.2 i hi).1 hT
    | false => exact wpOp_exit (wpOp_mono (fun a' w' h' => ih _ a' w' h') ((h.2.2 i hi).2 hT))
/-- A load may be taken first. -/
theorem anyD_load {T : List Nat} {Q : Exit → Act → World → Prop} {i : Nat} {oi : Oper} {v : Value} (hi : ops[i]? = some oi) (hsel : Region.noSelect ops = true)
    (hwait : ∀ t, T.contains t = true → reachB md ops ops.size t i = true) (hTi : T.contains i = false) :
    ∀ (f : Nat) (listed : Array Bool) (a : Act) (w : World), Closed md ops listed →
      (∀ j oj, ops[j]? = some oj → j ≠ i → listed.getD j true = false → (∀ e ∈ oj.after, Region.binds md e = true → e.on ≠ i) → oi.apart ops oj = true) →
      i ∈ Region.ready md ops listed → YieldsD P ops D oi v a → D w →
      anyD P md ops D T Q f (listed.setIfInBounds i true) (a.put oi.dst v) w → anyD P md ops D T Q (f + 1) listed a w := by
  have late : ∀ (listed : Array Bool), Closed md ops listed → listed.getD i true = false → ∀ j ∈ Region.ready md ops listed, T.contains j = false := by
    intro listed hcl hun j hj
    cases hT : T.contains j with
    | false => rfl
    | true =>
      obtain ⟨_, oj, hoj, hall⟩ := mem_ready.1 hj
      have := reach_listed hcl ops.size j i oj hoj hall (hwait j hT)
      rw [getD_both hun] at this
      cases this
  intro f
  induction f with
  | zero =>
    intro listed a w hcl _ hr hy hD H
    refine ⟨hD, fun h => (by rw [h] at hr; cases hr), fun j hj => ?_⟩
    have hTj := late listed hcl (mem_ready.1 hr).1 j hj
    refine ⟨fun h => (by rw [hTj] at h; cases h), fun _ => ?_⟩
    by_cases hji : j = i
    · subst hji
      exact hy.wpOp hi hD H
    · have := ready_mono hj hji
      rw [H.2.1] at this
      cases this
  | succ f ih =>
    intro listed a w hcl hfree hr hy hD H
    refine ⟨hD, fun h => (by rw [h] at hr; cases hr), fun j hj => ?_⟩
    have hTj := late listed hcl (mem_ready.1 hr).1 j hj
    refine ⟨fun h => (by rw [hTj] at h; cases h), fun _ => ?_⟩
    by_cases hji : j = i
    · subst hji
      exact hy.wpOp hi hD H
    obtain ⟨hjun, oj, hoj, hall⟩ := mem_ready.1 hj
    have hnot : ∀ e ∈ oj.after, Region.binds md e = true → e.on ≠ i := fun e he hb heq => by
      have h1 := hall e he hb
      rw [heq, getD_both (mem_ready.1 hr).1] at h1
      cases h1
    have h2 := wpOp_putD hoj (hfree j oj hoj hji hjun hnot) (fun cs b => Region.noSelect_spec hsel i oi cs b hi) (fun cs b => Region.noSelect_spec hsel j oj cs b hoj) hy ((H.2.2 j (ready_mono hj hji)).2 hTj)
    refine wpOp_mono (fun a' w' h3 => ?_) h2
    obtain ⟨h3, h4⟩ := h3
    refine ih (listed.setIfInBounds j true) a' w' (hcl.set hj) (fun k ok hk hki hun hno => hfree k ok hk hki ?_ hno) (ready_mono hr (Ne.symm hji)) h3 (anyD_D h4) ?_
    · by_cases hjk : j = k
      · subst hjk
        exact hjun
      · rwa [getD_set_ne true hjk] at hun
    · rw [Array.setIfInBounds_comm _ _ hji]
      exact h4
/-- An operation that needs no memory may be taken first. -/
theorem anyD_plain {T : List Nat} {Q : Exit → Act → World → Prop} (hQ : ∀ c a w, Q (.panic c) a w → False) {i : Nat} {oi : Oper} {v : Value} (hi : ops[i]? = some oi) (hsel : Region.noSelect ops = true) (hTi : T.contains i = false) :
    ∀ (f : Nat) (listed : Array Bool) (a : Act) (w : World),
      (∀ j oj, ops[j]? = some oj → j ≠ i → listed.getD j true = false → (∀ e ∈ oj.after, Region.binds md e = true → e.on ≠ i) → oi.apart ops oj = true) →
      i ∈ Region.ready md ops listed → Yields P ops oi v a →
      anyD P md ops D T Q f (listed.setIfInBounds i true) (a.put oi.dst v) w → anyD P md ops D T Q (f + 1) listed a w := by
  intro f
  induction f with
  | zero =>
    intro listed a w _ hr hy H
    refine ⟨H.1, fun h => (by rw [h] at hr; cases hr), fun j hj => ?_⟩
    by_cases hji : j = i
    · subst hji
      exact ⟨fun h => (by rw [hTi] at h; cases h), fun _ => hy.wpOp hi H⟩
    · have := ready_mono hj hji
      rw [H.2.1] at this
      cases this
  | succ f ih =>
    intro listed a w hfree hr hy H
    refine ⟨H.1, fun h => (by rw [h] at hr; cases hr), fun j hj => ?_⟩
    by_cases hji : j = i
    · subst hji
      exact ⟨fun h => (by rw [hTi] at h; cases h), fun _ => hy.wpOp hi H⟩
    obtain ⟨hjun, oj, hoj, hall⟩ := mem_ready.1 hj
    have hnot : ∀ e ∈ oj.after, Region.binds md e = true → e.on ≠ i := fun e he hb heq => by
      have h1 := hall e he hb
      rw [heq, getD_both (mem_ready.1 hr).1] at h1
      cases h1
    have hap := hfree j oj hoj hji hjun hnot
    have hfree2 : ∀ k ok, ops[k]? = some ok → k ≠ i → (listed.setIfInBounds j true).getD k true = false → (∀ e ∈ ok.after, Region.binds md e = true → e.on ≠ i) → oi.apart ops ok = true := fun k ok hk hki hun hno => hfree k ok hk hki (by
      by_cases hjk : j = k
      · subst hjk
        exact hjun
      · rwa [getD_set_ne true hjk] at hun) hno
    have si := fun cs b => Region.noSelect_spec hsel i oi cs b hi
    have sj := fun cs b => Region.noSelect_spec hsel j oj cs b hoj
    refine ⟨fun hTj => ?_, fun hTj => ?_⟩
    · have h2 := wpOp_put hoj hap si sj (fun c a w h => (hQ c _ w h).elim) hy ((H.2.2 j (ready_mono hj hji)).1 hTj)
      refine wpOp_mono (fun a' w' h3 => ?_) h2
      refine wpAny_first hi (Region.noSelect_spec hsel) (fun c a w h => (hQ c _ w h).elim) _ _ a' w' hfree2 (ready_mono hr (Ne.symm hji)) h3.1 ?_
      rw [Array.setIfInBounds_comm _ _ hji]
      exact h3.2
    · have h2 := wpOp_put (Q := noX) hoj hap si sj (fun c a w h => h.elim) hy ((H.2.2 j (ready_mono hj hji)).2 hTj)
      refine wpOp_mono (fun a' w' h3 => ?_) h2
      refine ih (listed.setIfInBounds j true) a' w' hfree2 (ready_mono hr (Ne.symm hji)) h3.1 ?_
      rw [Array.setIfInBounds_comm _ _ hji]
      exact h3.2
def headB (T R : List Nat) : Bool := match R with
  | [] => true
  | r :: _ => T.contains r
def treeW (md : Region.Mode) (ops : Array Oper) (T R : List Nat) : Nat → Tw → Array Bool → Bool
  | 0, .rest, listed => forcedB md ops R listed && headB T R
  | m + 1, .one b t, listed => decide (Region.ready md ops listed = [b]) && !T.contains b && treeW md ops T R m t (listed.setIfInBounds b true)
  | m + 1, .two b t b' t', listed => decide (Region.ready md ops listed = [b, b']) && !T.contains b && !T.contains b' && treeW md ops T R m t (listed.setIfInBounds b true) && treeW md ops T R m t' (listed.setIfInBounds b' true)
  | m + 1, .first i t, listed => (Region.ready md ops listed).contains i && Region.free md ops listed i && !T.contains i && ((ops[i]?).map plainB).getD false && treeW md ops T R m t (listed.setIfInBounds i true)
  | m + 1, .load i t, listed => (Region.ready md ops listed).contains i && Region.free md ops listed i && !T.contains i && T.all (fun t => reachB md ops ops.size t i) && ((ops[i]?).map plainB).getD false && treeW md ops T R m t (listed.setIfInBounds i true)
  | _, _, _ => false
/-- D is shown behind each; then the rest. -/
def seqW (P : Program) (l : List Oper) (D : World → Prop) (Q : Exit → Act → World → Prop) (lr : List Oper) : Tw → Act → World → Prop
  | .rest, a, w => wpList P l.toArray Q lr a w
  | .one b t, a, w => match l[b]? with
    | some o => wpList P l.toArray (fun x a' w' => x = .normal ∧ D w' ∧ seqW P l D Q lr t a' w') [o] a w
    | none => False
  | .two b t b' t', a, w => (match l[b]? with
    | some o => wpList P l.toArray (fun x a' w' => x = .normal ∧ D w' ∧ seqW P l D Q lr t a' w') [o] a w
    | none => False) ∧ (match l[b']? with
    | some o => wpList P l.toArray (fun x a' w' => x = .normal ∧ D w' ∧ seqW P l D Q lr t' a' w') [o] a w
    | none => False)
  | .first i t, a, w => match l[i]? with
    | some o => wpQuiet P l.toArray (fun _ => True) (fun a' => seqW P l D Q lr t a' w) [o] a
    | none => False
  | .load i t, a, w => match l[i]? with
    | some o => wpQuiet P l.toArray D (fun a' => seqW P l D Q lr t a' w) [o] a
    | none => False
theorem yields_of_quiet {l : List Oper} {i : Nat} {o : Oper} {a : Act} {K : Act → Prop} (hi : l[i]? = some o) (hp : plainB o = true) (h : wpQuiet P l.toArray (fun _ => True) K [o] a) : ∃ v, Yields P l.toArray o v a ∧ K (a.put o.dst v) := by
  have hi' : l.toArray[i]? = some o := by simpa using hi
  have hq : qOp P l.toArray (fun _ => True) i (wpQuiet P l.toArray (fun _ => True) K []) a := by unfold qOp; simp only [hi']; exact h
  obtain ⟨v, hy, hK⟩ := yieldsIn_of_qOp hi' hq
  refine ⟨v, ?_, hK⟩
  rcases hy with ⟨hw, h1⟩ | ⟨hw, rfl⟩
  · exact .inl ⟨hw, fun w => YieldsD.of_quiet hp h1 w trivial⟩
  · exact .inr ⟨hw, rfl⟩
theorem anyD_tree {l : List Oper} {T R : List Nat} {lr : List Oper} {Q : Exit → Act → World → Prop} (hsel : Region.noSelect l.toArray = true) (hQ : ∀ c a w, Q (.panic c) a w → False) (hlr : lr.map some = R.map (l.toArray[·]?)) :
    ∀ (m : Nat) (t : Tw) (listed : Array Bool) (a : Act) (w : World), Closed md l.toArray listed → treeW md l.toArray T R m t listed = true → D w → seqW P l D Q lr t a w → anyD P md l.toArray D T Q (m + R.length) listed a w := by
  intro m
  induction m with
  | zero =>
    intro t listed a w hc hB hD h
    cases t with
    | rest =>
      simp only [treeW, Bool.and_eq_true] at hB
      have h2 := any_of_forced R lr listed a w hlr hB.1 h
      rw [Nat.zero_add]
      cases R with
      | nil => exact ⟨hD, h2.1, h2.2⟩
      | cons r rs =>
        have hr := hB.1
        simp only [forcedB, Bool.and_eq_true, decide_eq_true_eq] at hr
        refine ⟨hD, by rw [hr.1]; simp, fun i hi => ⟨fun _ => h2.2 i hi, fun hT => ?_⟩⟩
        rw [hr.1] at hi
        obtain rfl : i = r := by simpa using hi
        have := hB.2
        simp only [headB] at this
        rw [this] at hT
        cases hT
    | one b t => simp [treeW] at hB
    | two b t b' t' => simp [treeW] at hB
    | first i t => simp [treeW] at hB
    | load i t => simp [treeW] at hB
  | succ m ih =>
    intro t listed a w hc hB hD h
    rw [show m + 1 + R.length = (m + R.length) + 1 by omega]
    cases t with
    | rest => simp [treeW] at hB
    | one b t =>
      simp only [treeW, Bool.and_eq_true, decide_eq_true_eq, Bool.not_eq_true'] at hB
      refine ⟨hD, by rw [hB.1.1]; simp, fun i hi => ?_⟩
      have hi0 := hi
      rw [hB.1.1] at hi
      obtain rfl : i = b := by simpa using hi
      exact ⟨fun hT => (by rw [hB.1.2] at hT; cases hT), fun _ => wpOp_mono (fun a' w' h' => ih t _ a' w' (hc.set hi0) hB.2 h'.1 h'.2) (step_of (K := fun a' w' => D w' ∧ seqW P l D Q lr t a' w') h)⟩
    | two b t b' t' =>
      simp only [treeW, Bool.and_eq_true, decide_eq_true_eq, Bool.not_eq_true'] at hB
      obtain ⟨⟨⟨⟨g1, g2⟩, g3⟩, g4⟩, g5⟩ := hB
      refine ⟨hD, by rw [g1]; simp, fun i hi => ?_⟩
      have hi0 := hi
      rw [g1] at hi
      have hi' : i = b ∨ i = b' := by simpa using hi
      rcases hi' with rfl | rfl
      · exact ⟨fun hT => (by rw [g2] at hT; cases hT), fun _ => wpOp_mono (fun a' w' h' => ih t _ a' w' (hc.set hi0) g4 h'.1 h'.2) (step_of (K := fun a' w' => D w' ∧ seqW P l D Q lr t a' w') h.1)⟩
      · exact ⟨fun hT => (by rw [g3] at hT; cases hT), fun _ => wpOp_mono (fun a' w' h' => ih t' _ a' w' (hc.set hi0) g5 h'.1 h'.2) (step_of (K := fun a' w' => D w' ∧ seqW P l D Q lr t' a' w') h.2)⟩
    | first i t =>
      simp only [treeW, Bool.and_eq_true, Bool.not_eq_true'] at hB
      obtain ⟨⟨⟨⟨g1, g2⟩, g3⟩, g4⟩, g5⟩ := hB
      cases ho : l[i]? with
      | none => simp [ho] at g4
      | some o =>
        have ho' : l.toArray[i]? = some o := by simpa using ho
        simp only [ho', Option.map_some, Option.getD_some] at g4
        simp only [seqW, ho] at h
        obtain ⟨v, hy, hK⟩ := yields_of_quiet ho g4 h
        exact anyD_plain hQ ho' hsel g3 _ listed a w (Region.free_spec ho' g2) (by simpa using g1) hy (ih t _ _ w (hc.set (by simpa using g1)) g5 hD hK)
    | load i t =>
      simp only [treeW, Bool.and_eq_true, Bool.not_eq_true'] at hB
      obtain ⟨⟨⟨⟨⟨g1, g2⟩, g3⟩, g6⟩, g4⟩, g5⟩ := hB
      cases ho : l[i]? with
      | none => simp [ho] at g4
      | some o =>
        have ho' : l.toArray[i]? = some o := by simpa using ho
        simp only [ho', Option.map_some, Option.getD_some] at g4
        simp only [seqW, ho] at h
        have hq : qOp P l.toArray D i (wpQuiet P l.toArray D (fun a' => seqW P l D Q lr t a' w) []) a := by unfold qOp; simp only [ho']; exact h
        obtain ⟨v, hy, hK⟩ := yieldsIn_of_qOp ho' hq
        have hy2 : YieldsD P l.toArray D o v a := by
          rcases hy with ⟨hw, h1⟩ | ⟨hw, rfl⟩
          · exact .inl ⟨hw, YieldsD.of_quiet g4 h1⟩
          · exact .inr ⟨hw, rfl⟩
        have g1' : i ∈ Region.ready md l.toArray listed := by simpa using g1
        exact anyD_load ho' hsel (fun t ht => List.all_eq_true.1 g6 t (by simpa using ht)) g3 _ listed a w hc (Region.free_spec ho' g2) g1' hy2 hD (ih t _ _ w (hc.set g1') g5 hD hK)
def loadsW (md : Region.Mode) (ops : Array Oper) (T R : List Nat) (m : Nat) (t : Tw) : List Nat → Array Bool → Bool
  | [], listed => treeW md ops T R m t listed
  | i :: is, listed => (Region.ready md ops listed).contains i && Region.free md ops listed i && loadsW md ops T R m t is (listed.setIfInBounds i true)
theorem anyD_loads {l : List Oper} {T R : List Nat} {lr : List Oper} {m : Nat} {t : Tw} {Q : Exit → Act → World → Prop} (hsel : Region.noSelect l.toArray = true) (hQ : ∀ c a w, Q (.panic c) a w → False) (hlr : lr.map some = R.map (l.toArray[·]?)) :
    ∀ (F : List Nat) (k : List Oper) (listed : Array Bool) (a : Act) (w : World), k.map some = F.map (l.toArray[·]?) → k.all plainB = true → Closed md l.toArray listed → loadsW md l.toArray T R m t F listed = true →
    (∀ i ∈ F, T.contains i = false ∧ ∀ t, T.contains t = true → reachB md l.toArray l.toArray.size t i = true) → D w → wpQuiet P l.toArray D (fun a' => seqW P l D Q lr t a' w) k a →
    anyD P md l.toArray D T Q (F.length + (m + R.length)) listed a w := by
  intro F
  induction F with
  | nil =>
    intro k listed a w hk _ hc hB _ hD h
    obtain rfl : k = [] := by cases k with | nil => rfl | cons x xs => simp at hk
    simp only [List.length_nil, Nat.zero_add]
    exact anyD_tree hsel hQ hlr m t listed a w hc hB hD h
  | cons i is ih =>
    intro k listed a w hk hp hc hB hW hD h
    cases k with
    | nil => simp at hk
    | cons o k =>
      simp only [List.map_cons, List.cons.injEq] at hk
      simp only [List.all_cons, Bool.and_eq_true] at hp
      simp only [loadsW, Bool.and_eq_true] at hB
      obtain ⟨⟨hr, hf⟩, hB2⟩ := hB
      have hr' : i ∈ Region.ready md l.toArray listed := by simpa using hr
      have hq : qOp P l.toArray D i (wpQuiet P l.toArray D (fun a' => seqW P l D Q lr t a' w) k) a := by unfold qOp; simp only [← hk.1]; exact h
      obtain ⟨v, hy, hK⟩ := yieldsIn_of_qOp hk.1.symm hq
      have hy2 : YieldsD P l.toArray D o v a := by
        rcases hy with ⟨hw, h1⟩ | ⟨hw, rfl⟩
        · exact .inl ⟨hw, YieldsD.of_quiet hp.1 h1⟩
        · exact .inr ⟨hw, rfl⟩
      obtain ⟨hTi, hwait⟩ := hW i (by simp)
      rw [List.length_cons, show is.length + 1 + (m + R.length) = (is.length + (m + R.length)) + 1 by omega]
      exact anyD_load hk.1.symm hsel hwait hTi _ listed a w hc (Region.free_spec hk.1.symm hf) hr' hy2 hD (ih k _ _ w hk.2 hp.2 (hc.set hr') hB2 (fun j hj => hW j (by simp [hj])) hD hK)
def planGoW (md : Region.Mode) (ops : Array Oper) (F : List Nat) (m : Nat) (t : Tw) (T R : List Nat) : List Nat → Array Bool → Bool
  | [], listed => loadsW md ops T R m t F listed
  | i :: is, listed => (Region.ready md ops listed).contains i && Region.free md ops listed i && !T.contains i && planGoW md ops F m t T R is (listed.setIfInBounds i true)
def planW (md : Region.Mode) (ops : Array Oper) (A F : List Nat) (m : Nat) (t : Tw) (T R : List Nat) : Bool :=
  Region.noSelect ops && decide (A.length + (F.length + (m + R.length)) = ops.size) && T.all (fun t => F.all fun i => reachB md ops ops.size t i) && F.all (fun i => !T.contains i) &&
    planGoW md ops F m t T R A (Array.replicate ops.size false)
theorem anyD_plan {l : List Oper} {T R : List Nat} {lr : List Oper} {m : Nat} {t : Tw} {Q : Exit → Act → World → Prop} (hsel : Region.noSelect l.toArray = true) (hQ : ∀ c a w, Q (.panic c) a w → False) (hlr : lr.map some = R.map (l.toArray[·]?)) {F : List Nat} {lf : List Oper} (hlf : lf.map some = F.map (l.toArray[·]?)) (hpf : lf.all plainB = true)
    (hW : ∀ i ∈ F, T.contains i = false ∧ ∀ t, T.contains t = true → reachB md l.toArray l.toArray.size t i = true) :
    ∀ (A : List Nat) (la : List Oper) (listed : Array Bool) (a : Act) (w : World), la.map some = A.map (l.toArray[·]?) → la.all plainB = true → Closed md l.toArray listed → planGoW md l.toArray F m t T R A listed = true →
    D w → wpQuiet P l.toArray (fun _ => True) (fun a' => wpQuiet P l.toArray D (fun a' => seqW P l D Q lr t a' w) lf a') la a → anyD P md l.toArray D T Q (A.length + (F.length + (m + R.length))) listed a w := by
  intro A
  induction A with
  | nil =>
    intro la listed a w hla _ hc hB hD h
    obtain rfl : la = [] := by cases la with | nil => rfl | cons x xs => simp at hla
    rw [List.length_nil, Nat.zero_add]
    exact anyD_loads hsel hQ hlr F lf listed a w hlf hpf hc hB hW hD h
  | cons i is ih =>
    intro la listed a w hla hp hc hB hD h
    cases la with
    | nil => simp at hla
    | cons o la =>
      simp only [List.map_cons, List.cons.injEq] at hla
      simp only [List.all_cons, Bool.and_eq_true] at hp
      simp only [planGoW, Bool.and_eq_true, Bool.not_eq_true'] at hB
      obtain ⟨⟨⟨hr, hf⟩, hTi⟩, hB2⟩ := hB
      have hr' : i ∈ Region.ready md l.toArray listed := by simpa using hr
      have hq : qOp P l.toArray (fun _ => True) i (wpQuiet P l.toArray (fun _ => True) (fun a' => wpQuiet P l.toArray D (fun a' => seqW P l D Q lr t a' w) lf a') la) a := by unfold qOp; simp only [← hla.1]; exact h
      obtain ⟨v, hy, hK⟩ := yieldsIn_of_qOp hla.1.symm hq
      rw [List.length_cons, show is.length + 1 + (F.length + (m + R.length)) = (is.length + (F.length + (m + R.length))) + 1 by omega]
      have hy2 : Yields P l.toArray o v a := by
        rcases hy with ⟨hw, h1⟩ | ⟨hw, rfl⟩
        · exact .inl ⟨hw, fun w => YieldsD.of_quiet hp.1 h1 w trivial⟩
        · exact .inr ⟨hw, rfl⟩
      exact anyD_plain hQ hla.1.symm hsel hTi _ listed a w (Region.free_spec hla.1.symm hf) hr' hy2 (ih la _ _ w hla.2 hp.2 (hc.set hr') hB2 hD hK)
/-- THE REGION: A are plain operations that need no memory; F plain ones, loads too, that all of T (what writes) wait for; t what the rest does first (D is shown behind each call or allocation), m steps; R what is left, in its one order. -/
theorem wp_region_planW {id : Nat} {Q : Exit → Act → World → Prop} {a : Act} {w : World} {l : List Oper} (A F : List Nat) (m : Nat) (t : Tw) (T R : List Nat) (hm : P.follows .mixedOrders = true)
    (hB : (planW .any l.toArray A F m t T R && (A ++ F ++ R).all (fun i => decide (i < l.length)) && (pickOps l A).all plainB && (pickOps l F).all plainB) = true) (hD : D { w with drawn := w.drawn + 1 })
    (h : wpQuiet P l.toArray (fun _ => True) (fun a' => wpQuiet P l.toArray D (fun a' => seqW P l D (fun x a w => x = .normal ∧ Q .normal a w) (pickOps l R) t a' { w with drawn := w.drawn + 1 }) (pickOps l F) a') (pickOps l A) a) :
    (Code.region id l.toArray true).wp P Q a w := by
  simp only [Bool.and_eq_true, List.all_append] at hB
  obtain ⟨⟨⟨hP, ⟨hA, hF⟩, hBB⟩, hpA⟩, hpF⟩ := hB
  simp only [planW, Bool.and_eq_true, decide_eq_true_eq] at hP
  obtain ⟨⟨⟨⟨hsel, hsz⟩, hre⟩, hFn⟩, hgo⟩ := hP
  refine wp_region_any hm ?_
  have hc : Closed .any l.toArray (Array.replicate l.toArray.size false) := fun j oj _ hl => (by rw [getD_replicate_false] at hl; cases hl)
  have h2 := anyD_plan (P := P) (md := .any) (D := D) (T := T) (Q := fun x a w => x = .normal ∧ Q .normal a w) hsel (fun c a w h => by cases h.1) (R := R) (m := m) (F := F) (pick_spec hBB) (pick_spec hF) hpF
    (fun i hi => ⟨by have := List.all_eq_true.1 hFn i hi; rw [Bool.not_eq_true'] at this; exact this, fun t ht => List.all_eq_true.1 (List.all_eq_true.1 hre t (by simpa using ht)) i hi⟩)
    A (pickOps l A) _ a _ (pick_spec hA) hpA hc hgo hD h
  rw [hsz] at h2
  exact wpAny_monoQ (fun x a w hx => by obtain ⟨rfl, h⟩ := hx; exact h) _ _ _ _ (any_of_anyD _ _ _ _ h2)
/-- .. at the class 'w, drawn, with blocks laid behind it'. -/
theorem wp_region_fresh2 {id : Nat} {Q : Exit → Act → World → Prop} {a : Act} {w : World} {l : List Oper} (A F : List Nat) (m : Nat) (t : Tw) (T R : List Nat) (hm : P.follows .mixedOrders = true)
    (hB : (planW .any l.toArray A F m t T R && (A ++ F ++ R).all (fun i => decide (i < l.length)) && (pickOps l A).all plainB && (pickOps l F).all plainB) = true)
    (h : wpQuiet P l.toArray (fun _ => True) (fun a' => wpQuiet P l.toArray (fun w' => ∃ p : Regrown, w' = Go.Sort.grow (redrawn w p.d) p.os) (fun a' => seqW P l (fun w' => ∃ p : Regrown, w' = Go.Sort.grow (redrawn w p.d) p.os) (fun x a w => x = .normal ∧ Q .normal a w) (pickOps l R) t a' w.drew) (pickOps l F) a') (pickOps l A) a) :
    (Code.region id l.toArray true).wp P Q a w :=
  wp_region_planW (D := fun w' => ∃ p : Regrown, w' = Go.Sort.grow (redrawn w p.d) p.os) A F m t T R hm hB ⟨⟨w.drawn + 1, #[]⟩, by rw [Go.Sort.grow_empty]; rfl⟩ h
variable {l : List Oper} {Q : Exit → Act → World → Prop} {lr : List Oper} {t t' : Tw} {b b' : Nat} {o o' : Oper} {a : Act} {w : World}
theorem seqT_one2 (h : l[b]? = some o) (k : wpList P l.toArray (fun x a' w' => x = .normal ∧ D w' ∧ seqW P l D Q lr t a' w') [o] a w) : seqW P l D Q lr (.one b t) a w := by
  unfold seqW
  rw [h]
  exact k
theorem seqT_first2 (h : l[b]? = some o) (k : wpQuiet P l.toArray (fun _ => True) (fun a' => seqW P l D Q lr t a' w) [o] a) : seqW P l D Q lr (.first b t) a w := by
  unfold seqW
  rw [h]
  exact k
theorem seqT_load2 (h : l[b]? = some o) (k : wpQuiet P l.toArray D (fun a' => seqW P l D Q lr t a' w) [o] a) : seqW P l D Q lr (.load b t) a w := by
  unfold seqW
  rw [h]
  exact k
theorem seqT_rest2 (k : wpList P l.toArray Q lr a w) : seqW P l D Q lr .rest a w := k
end
end Go.Proofs.YtecdendjlgohjaaGreatDoor
namespace Go.Proofs.YtecdendjlgohjaaGreatDoor
open Go.RowKit
set_option maxHeartbeats 400000
end Go.Proofs.YtecdendjlgohjaaGreatDoor
namespace Go.Proofs.YtecdendjlgohjaaGreatDoor
open Go.RowKit
set_option maxHeartbeats 400000
end Go.Proofs.YtecdendjlgohjaaGreatDoor
namespace Go.Proofs.YtecdendjlgohjaaGreatDoor
open Go.RowKit
set_option maxHeartbeats 400000
set_option maxRecDepth 100000
theorem Mid.cell (w : World) (b o : Nat) (u : Value) : Mid b (b + 1) w (w.setCell ⟨b, o, none⟩ u) :=
  Mid.of_grown (grown_setCell w b o u) fun k hk => by
    injection hk with hk
    omega
end Go.Proofs.YtecdendjlgohjaaGreatDoor
namespace Go.Proofs.YtecdendjlgohjaaGreatDoor
open Go.RowKit
set_option maxHeartbeats 400000
set_option maxRecDepth 100000
end Go.Proofs.YtecdendjlgohjaaGreatDoor
namespace Go.Proofs.YtecdendjlgohjaaGreatDoor
open Go.RowKit
set_option maxHeartbeats 400000
set_option maxRecDepth 100000
end Go.Proofs.YtecdendjlgohjaaGreatDoor
namespace Go.Proofs.YtecdendjlgohjaaGreatDoor
open Go.RowKit
set_option maxHeartbeats 400000
set_option maxRecDepth 100000
/-- The point before the k-th lies before it. -/
def M.after (xs : List (Int × Int)) (k : Nat) : Bool := k == 0 || decide (((xs[k - 1]?).getD (0, 0)).1 < ((xs[k]?).getD (0, 0)).1)
end Go.Proofs.YtecdendjlgohjaaGreatDoor
namespace Go.Proofs.YtecdendjlgohjaaGreatDoor
open Go.RowKit Go.Sort
set_option maxHeartbeats 400000
set_option maxRecDepth 100000
end Go.Proofs.YtecdendjlgohjaaGreatDoor
namespace Go.Proofs.YtecdendjlgohjaaGreatDoor
open Go.RowKit Go.Sort
set_option maxHeartbeats 400000
set_option maxRecDepth 100000
end Go.Proofs.YtecdendjlgohjaaGreatDoor
namespace Go.Proofs.YtecdendjlgohjaaGreatDoor
open Go.RowKit Go.Sort
set_option maxHeartbeats 400000
set_option maxRecDepth 100000
end Go.Proofs.YtecdendjlgohjaaGreatDoor
namespace Go.Proofs.YtecdendjlgohjaaGreatDoor
open Go.RowKit Go.Sort
set_option maxHeartbeats 1000000
set_option maxRecDepth 100000
theorem below_grow (w : World) (k : Nat) (os : Array Obj) : Below w.heap.size w (grow (w.drewN k) os) :=
  ⟨rfl, rfl, rfl, by simp [grow], fun j hj => by simp [grow, World.drewN, Array.getElem?_append_left hj]⟩
theorem impl_Decimal (n : Int) (h0 : -9223372036854775808 ≤ n) (h1 : n ≤ 9223372036854775807) (w : World) (hT : TAB w) :
    Calls Tryz.prog 33 #[.int .i64 n] w fun e w' => e = .returned (.string ⟨(Lib.itoa n).toArray⟩) ∧ Below w.heap.size w w' := by
  go_enter Tryz.func33, Tryz.ntmps33
  go_wp2_with (go_at_call 59; refine (Tryz.strconv_FormatInt_10 n h0 h1 _ hT.here).mono ?_; rintro e w1 ⟨rfl, kk, os, rfl⟩)
  go_ret
  exact ⟨rfl, below_grow _ _ _⟩
def M.strs (ls : List (List UInt8)) : List Value := ls.map fun l => .string ⟨l.toArray⟩
theorem ei_str : EI Tryz.prog 49 9 (.string ByteArray.empty) 1 16 := ⟨Tryz.underlying49, by kernel_rfl, rfl, by decide⟩
theorem M.str_app (a b : List UInt8) : (⟨a.toArray⟩ : ByteArray) ++ ⟨b.toArray⟩ = ⟨(a ++ b).toArray⟩ := by
  apply ByteArray.ext
  simp
theorem M.strs_len (ls : List (List UInt8)) : (M.strs ls).length = ls.length := by simp [M.strs]
theorem M.unstr (ls : List (List UInt8)) : (ls.map fun l => (⟨l.toArray⟩ : ByteArray)).map (fun s => s.data.toList) = ls := by
  rw [List.map_map]
  exact List.map_id'' (fun l => by simp) ls
/-- strings.Join at the call's own row of texts. -/
theorem join_own {B : Nat} {v : Value} {ls : List (List UInt8)} {w : World} (own : w.ownsRow B 9 1 v ls.length (M.strs ls)) (sep : List UInt8) (hpos : 0 < ls.length) (hN : ls.length ≤ 100000000000) (hlen : (Lib.join ls sep).length ≤ 140737488355328) :
    ∃ g cap, v = .slice (some ⟨g, 0, none⟩) ls.length cap ∧ Calls Tryz.prog 34 #[.slice (some ⟨g, 0, none⟩) ls.length cap, .string ⟨sep.toArray⟩] w fun e w' => e = .returned (.string ⟨(Lib.join ls sep).toArray⟩) ∧ Below w.heap.size w w' := by
  obtain ⟨g, cap, rfl, hB, hg⟩ := World.ownsRow.form own hpos
  obtain ⟨A, c, hv, hc1, -, -⟩ := own_shape own
  simp only [Value.slice.injEq] at hv
  obtain ⟨-, -, rfl⟩ := hv
  refine ⟨g, cap, rfl, ?_⟩
  have h := Tryz.strings_Join g 0 cap (ls.map fun l => (⟨l.toArray⟩ : ByteArray)) ⟨sep.toArray⟩ w (fun j x hx => ?_) hg (by simp; omega) (by simpa using hc1) (by rw [M.unstr]; simpa using hlen)
  · rw [M.unstr, List.length_map] at h
    simpa using h
  · rw [Nat.zero_add]
    have hadd : (⟨g, 0, none⟩ : Addr).add j = ⟨g, j, none⟩ := by unfold Addr.add; split <;> simp_all
    rw [← hadd]
    refine World.ownsRow.cells own (g := g) rfl j _ ?_
    rw [List.getElem?_map] at hx
    obtain ⟨l, hl, rfl⟩ := Option.map_eq_some_iff.1 hx
    simp [M.strs, hl]
end Go.Proofs.YtecdendjlgohjaaGreatDoor
namespace Go.Proofs
open Go.Shelf
set_option maxRecDepth 100000
def Tryz.laysC174_ren : Go.Shelf.Ren := ⟨fun | 174 => 67 | 247 => 83 | 245 => 84 | 287 => 98 | 279 => 99 | 280 => 100 | 281 => 101 | 282 => 102 | 321 => 114 | 322 => 115 | 316 => 116 | 171 => 118 | 205 => 117 | 243 => 123 | 246 => 75 | 283 => 88 | 284 => 89 | 285 => 90 | 286 => 91 | 129 => 105 | 317 => 104 | 318 => 106 | 319 => 107 | 320 => 108 | 337 => 119 | 338 => 120 | n => n, fun | 9 => 9 | 3 => 3 | 2 => 2 | 75 => 98 | 85 => 104 | 4 => 4 | 167 => 129 | 5 => 5 | 53 => 85 | 175 => 130 | 46 => 116 | 168 => 132 | 37 => 30 | 0 => 0 | 210 => 145 | 21 => 21 | 127 => 110 | 145 => 156 | 143 => 154 | 171 => 117 | 173 => 120 | 212 => 137 | 51 => 138 | 20 => 20 | 213 => 139 | 232 => 157 | 233 => 158 | 80 => 101 | n => n, fun | 15 => 2 | 16 => 3 | 17 => 0 | 18 => 6 | 19 => 7 | n => n⟩
theorem Tryz.laysC174 : Go.Proofs.LaysC.n174 Tryz.prog Tryz.laysC174_ren := {
  mixed := by kernel_rfl
  f129 := Tryz.func105.trans (congrArg some (by kernel_rfl))
  f171 := Tryz.func118.trans (congrArg some (by kernel_rfl))
  f174 := Tryz.func67.trans (congrArg some (by kernel_rfl))
  f205 := Tryz.func117.trans (congrArg some (by kernel_rfl))
  f243 := Tryz.func123.trans (congrArg some (by kernel_rfl))
  f245 := Tryz.func84.trans (congrArg some (by kernel_rfl))
  f246 := Tryz.func75.trans (congrArg some (by kernel_rfl))
  f247 := Tryz.func83.trans (congrArg some (by kernel_rfl))
  f279 := Tryz.func99.trans (congrArg some (by kernel_rfl))
  f280 := Tryz.func100.trans (congrArg some (by kernel_rfl))
  f281 := Tryz.func101.trans (congrArg some (by kernel_rfl))
  f282 := Tryz.func102.trans (congrArg some (by kernel_rfl))
  f283 := Tryz.func88.trans (congrArg some (by kernel_rfl))
  f284 := Tryz.func89.trans (congrArg some (by kernel_rfl))
  f285 := Tryz.func90.trans (congrArg some (by kernel_rfl))
  f286 := Tryz.func91.trans (congrArg some (by kernel_rfl))
  f287 := Tryz.func98.trans (congrArg some (by kernel_rfl))
  f316 := Tryz.func116.trans (congrArg some (by kernel_rfl))
  f317 := Tryz.func104.trans (congrArg some (by kernel_rfl))
  f318 := Tryz.func106.trans (congrArg some (by kernel_rfl))
  f319 := Tryz.func107.trans (congrArg some (by kernel_rfl))
  f320 := Tryz.func108.trans (congrArg some (by kernel_rfl))
  f321 := Tryz.func114.trans (congrArg some (by kernel_rfl))
  f322 := Tryz.func115.trans (congrArg some (by kernel_rfl))
  f337 := Tryz.func119.trans (congrArg some (by kernel_rfl))
  f338 := Tryz.func120.trans (congrArg some (by kernel_rfl))
  t0 := Tryz.underlying0
  a0 := Tryz.isAgg0
  z0 := Tryz.sizeOf0
  v0 := Tryz.zeroValue0
  t2 := Tryz.underlying2
  a2 := Tryz.isAgg2
  z2 := Tryz.sizeOf2
  v2 := Tryz.zeroValue2
  t3 := Tryz.underlying3
  a3 := Tryz.isAgg3
  z3 := Tryz.sizeOf3
  v3 := Tryz.zeroValue3
  t4 := Tryz.underlying4
  a4 := Tryz.isAgg4
  z4 := Tryz.sizeOf4
  v4 := Tryz.zeroValue4
  t5 := Tryz.underlying5
  a5 := Tryz.isAgg5
  z5 := Tryz.sizeOf5
  v5 := Tryz.zeroValue5
  t9 := Tryz.underlying9
  a9 := Tryz.isAgg9
  z9 := Tryz.sizeOf9
  v9 := Tryz.zeroValue9
  t20 := Tryz.underlying20
  a20 := Tryz.isAgg20
  z20 := Tryz.sizeOf20
  v20 := Tryz.zeroValue20
  t21 := Tryz.underlying21
  a21 := Tryz.isAgg21
  z21 := Tryz.sizeOf21
  v21 := Tryz.zeroValue21
  t37 := Tryz.underlying30
  a37 := Tryz.isAgg30
  z37 := Tryz.sizeOf30
  v37 := Tryz.zeroValue30
  t46 := Tryz.underlying116
  a46 := Tryz.isAgg116
  z46 := Tryz.sizeOf116
  v46 := Tryz.zeroValue116
  t51 := Tryz.underlying138
  a51 := Tryz.isAgg138
  z51 := Tryz.sizeOf138
  v51 := Tryz.zeroValue138
  t53 := Tryz.underlying85
  a53 := Tryz.isAgg85
  z53 := Tryz.sizeOf85
  v53 := Tryz.zeroValue85
  t75 := Tryz.underlying98
  a75 := Tryz.isAgg98
  z75 := Tryz.sizeOf98
  v75 := Tryz.zeroValue98
  t85 := Tryz.underlying104
  a85 := Tryz.isAgg104
  z85 := Tryz.sizeOf104
  v85 := Tryz.zeroValue104
  t127 := Tryz.underlying110
  a127 := Tryz.isAgg110
  z127 := Tryz.sizeOf110
  v127 := Tryz.zeroValue110
  t143 := Tryz.underlying154
  a143 := Tryz.isAgg154
  z143 := Tryz.sizeOf154
  v143 := Tryz.zeroValue154
  t145 := Tryz.underlying156
  a145 := Tryz.isAgg156
  z145 := Tryz.sizeOf156
  v145 := Tryz.zeroValue156
  t167 := Tryz.underlying129
  a167 := Tryz.isAgg129
  z167 := Tryz.sizeOf129
  v167 := Tryz.zeroValue129
  t168 := Tryz.underlying132
  a168 := Tryz.isAgg132
  z168 := Tryz.sizeOf132
  v168 := Tryz.zeroValue132
  t171 := Tryz.underlying117
  a171 := Tryz.isAgg117
  z171 := Tryz.sizeOf117
  v171 := Tryz.zeroValue117
  t173 := Tryz.underlying120
  a173 := Tryz.isAgg120
  z173 := Tryz.sizeOf120
  v173 := Tryz.zeroValue120
  t175 := Tryz.underlying130
  a175 := Tryz.isAgg130
  z175 := Tryz.sizeOf130
  v175 := Tryz.zeroValue130
  t210 := Tryz.underlying145
  a210 := Tryz.isAgg145
  z210 := Tryz.sizeOf145
  v210 := Tryz.zeroValue145
  t212 := Tryz.underlying137
  a212 := Tryz.isAgg137
  z212 := Tryz.sizeOf137
  v212 := Tryz.zeroValue137
  t213 := Tryz.underlying139
  a213 := Tryz.isAgg139
  z213 := Tryz.sizeOf139
  t232 := Tryz.underlying157
  a232 := Tryz.isAgg157
  z232 := Tryz.sizeOf157
  v232 := Tryz.zeroValue157
  t233 := Tryz.underlying158
  a233 := Tryz.isAgg158
  z233 := Tryz.sizeOf158
  v233 := Tryz.zeroValue158
  g15 := by kernel_rfl
  g16 := by kernel_rfl
  g17 := by kernel_rfl
  g18 := by kernel_rfl
  g19 := by kernel_rfl
  t80 := Tryz.underlying101
  a80 := Tryz.isAgg101
  z80 := Tryz.sizeOf101
  v80 := Tryz.zeroValue101
  i0 := by kernel_rfl
  i2 := by kernel_rfl
  i3 := by kernel_rfl
  i4 := by kernel_rfl
  i5 := by kernel_rfl
  i9 := by kernel_rfl
  i20 := by kernel_rfl
  i21 := by kernel_rfl
  i37 := by kernel_rfl
  i46 := by kernel_rfl
  i51 := by kernel_rfl
  i53 := by kernel_rfl
  i75 := by kernel_rfl
  i80 := by kernel_rfl
  i85 := by kernel_rfl
  i127 := by kernel_rfl
  i143 := by kernel_rfl
  i145 := by kernel_rfl
  i167 := by kernel_rfl
  i168 := by kernel_rfl
  i171 := by kernel_rfl
  i173 := by kernel_rfl
  i175 := by kernel_rfl
  i210 := by kernel_rfl
  i212 := by kernel_rfl
  i232 := by kernel_rfl
  i233 := by kernel_rfl
  m15 := by kernel_rfl
  m16 := by kernel_rfl
  m17 := by kernel_rfl
  m18 := by kernel_rfl
  m19 := by kernel_rfl
  c0 := by kernel_rfl
  c2 := by kernel_rfl
  c3 := by kernel_rfl
  c4 := by kernel_rfl
  c5 := by kernel_rfl
  c9 := by kernel_rfl
  c20 := by kernel_rfl
  c21 := by kernel_rfl
  c37 := by kernel_rfl
  c46 := by kernel_rfl
  c51 := by kernel_rfl
  c53 := by kernel_rfl
  c75 := by kernel_rfl
  c80 := by kernel_rfl
  c85 := by kernel_rfl
  c127 := by kernel_rfl
  c143 := by kernel_rfl
  c145 := by kernel_rfl
  c167 := by kernel_rfl
  c168 := by kernel_rfl
  c171 := by kernel_rfl
  c173 := by kernel_rfl
  c175 := by kernel_rfl
  c210 := by kernel_rfl
  c212 := by kernel_rfl
  c213 := by kernel_rfl
  c232 := by kernel_rfl
  c233 := by kernel_rfl }
open Go.RowKit in
theorem Tryz.strconv_ParseInt_10_at64_ok (s : ByteArray) (hmax : s.size ≤ 9223372036854775806) (v : Int) (h : Lib.parseIntB 64 s.data.toList = .ok v) (w : World) :
    Calls Tryz.prog 67 #[.string s, .int .i64 10, .int .i64 64] w fun e w' => e = .returned (.tuple #[.int .i64 v, .nilIface]) ∧ (w' = w ∨ ∃ t, w' = Lib.bytesWorld w 5 t) := Any.strconv_ParseInt_10_at64_ok Tryz.laysC174 s hmax v h w
open Go.RowKit in
theorem Tryz.strconv_ParseInt_10_at64_syntax (s : ByteArray) (hlim : s.size ≤ 281474976710656) (h : Lib.parseIntB 64 s.data.toList = Lib.parseIntB 64 []) (ev : Value) (w : World) (hv : w.cell? ⟨2, 0, none⟩ = some ev) (hev : ev = .nilIface ∨ ∃ te pe, ev = .iface te pe) :
    Calls Tryz.prog 67 #[.string s, .int .i64 10, .int .i64 64] w fun e w' => ∃ N, e = .returned (.tuple #[.int .i64 (0), .iface 132 (.pointer (some ⟨N, 0, none⟩))]) ∧ w.heap.size ≤ N ∧ w'.heap[N]? = some (.cells #[.string ⟨#[80, 97, 114, 115, 101, 73, 110, 116]⟩, .string s, ev] 145 (0, 0)) ∧ Below w.heap.size w w' := Any.strconv_ParseInt_10_at64_syntax Tryz.laysC174 s hlim (h.trans rfl) ev w hv hev
open Go.RowKit in
theorem Tryz.strconv_ParseInt_10_at64_range (s : ByteArray) (hlim : s.size ≤ 281474976710656) (h : Lib.parseIntB 64 s.data.toList = .range) (ev : Value) (w : World) (hv : w.cell? ⟨3, 0, none⟩ = some ev) (hev : ev = .nilIface ∨ ∃ te pe, ev = .iface te pe) :
    Calls Tryz.prog 67 #[.string s, .int .i64 10, .int .i64 64] w fun e w' => ∃ N, e = .returned (.tuple #[.int .i64 (Lib.intSat 64 s.data.toList), .iface 132 (.pointer (some ⟨N, 0, none⟩))]) ∧ w.heap.size ≤ N ∧ w'.heap[N]? = some (.cells #[.string ⟨#[80, 97, 114, 115, 101, 73, 110, 116]⟩, .string s, ev] 145 (0, 0)) ∧ Below w.heap.size w w' := Any.strconv_ParseInt_10_at64_range Tryz.laysC174 s hlim h ev w hv hev
def Tryz.lays101_ren : Go.Shelf.Ren := ⟨fun | 101 => 68 | 208 => 85 | 206 => 103 | n => n, fun | 9 => 9 | 4 => 4 | 3 => 3 | n => n, fun | n => n⟩
theorem Tryz.lays101 : Go.Proofs.Lays.n101 Tryz.prog Tryz.lays101_ren := {
  mixed := by kernel_rfl
  f101 := Tryz.func68.trans (congrArg some (by kernel_rfl))
  f206 := Tryz.func103.trans (congrArg some (by kernel_rfl))
  f208 := Tryz.func85.trans (congrArg some (by kernel_rfl))
  t3 := Tryz.underlying3
  a3 := Tryz.isAgg3
  z3 := Tryz.sizeOf3
  v3 := Tryz.zeroValue3
  t4 := Tryz.underlying4
  a4 := Tryz.isAgg4
  z4 := Tryz.sizeOf4
  v4 := Tryz.zeroValue4
  t9 := Tryz.underlying9
  a9 := Tryz.isAgg9
  z9 := Tryz.sizeOf9
  v9 := Tryz.zeroValue9 }
open Go.RowKit Go.Lib in
theorem Tryz.strings_TrimPrefix (s p : ByteArray) (w : World) :
    Calls Tryz.prog 68 #[.string s, .string p] w fun e w' => e = .returned (.string ⟨(Lib.trimPrefix s.data.toList p.data.toList).toArray⟩) ∧ w' = w := Any.strings_TrimPrefix Tryz.lays101 s p w
def Tryz.lays102_ren : Go.Shelf.Ren := ⟨fun | 102 => 42 | 209 => 66 | 207 => 82 | n => n, fun | 9 => 9 | 4 => 4 | 3 => 3 | n => n, fun | n => n⟩
theorem Tryz.lays102 : Go.Proofs.Lays.n102 Tryz.prog Tryz.lays102_ren := {
  mixed := by kernel_rfl
  f102 := Tryz.func42.trans (congrArg some (by kernel_rfl))
  f207 := Tryz.func82.trans (congrArg some (by kernel_rfl))
  f209 := Tryz.func66.trans (congrArg some (by kernel_rfl))
  t3 := Tryz.underlying3
  a3 := Tryz.isAgg3
  z3 := Tryz.sizeOf3
  v3 := Tryz.zeroValue3
  t4 := Tryz.underlying4
  a4 := Tryz.isAgg4
  z4 := Tryz.sizeOf4
  v4 := Tryz.zeroValue4
  t9 := Tryz.underlying9
  a9 := Tryz.isAgg9
  z9 := Tryz.sizeOf9
  v9 := Tryz.zeroValue9 }
open Go.RowKit Go.Lib in
theorem Tryz.strings_TrimSuffix (s p : ByteArray) (w : World) (hs : s.size ≤ 9223372036854775807) :
    Calls Tryz.prog 42 #[.string s, .string p] w fun e w' => e = .returned (.string ⟨(Lib.trimSuffix s.data.toList p.data.toList).toArray⟩) ∧ w' = w := Any.strings_TrimSuffix Tryz.lays102 s p w hs
def Tryz.lays146_ren : Go.Shelf.Ren := ⟨fun | 146 => 41 | 221 => 65 | 268 => 79 | 138 => 80 | 143 => 81 | 195 => 94 | 197 => 95 | 218 => 96 | 219 => 97 | 260 => 109 | 217 => 110 | 225 => 111 | 224 => 112 | 267 => 113 | 266 => 121 | 314 => 122 | n => n, fun | 9 => 9 | 31 => 49 | 3 => 3 | 4 => 4 | 0 => 0 | 105 => 126 | 21 => 21 | 5 => 5 | 46 => 116 | 119 => 148 | 139 => 151 | 138 => 150 | 146 => 152 | 51 => 138 | n => n, fun | 1 => 1 | 3 => 4 | 4 => 5 | n => n⟩
theorem Tryz.lays146 : Go.Proofs.Lays.n146 Tryz.prog Tryz.lays146_ren := {
  mixed := by kernel_rfl
  f138 := Tryz.func80.trans (congrArg some (by kernel_rfl))
  f143 := Tryz.func81.trans (congrArg some (by kernel_rfl))
  f146 := Tryz.func41.trans (congrArg some (by kernel_rfl))
  f195 := Tryz.func94.trans (congrArg some (by kernel_rfl))
  f197 := Tryz.func95.trans (congrArg some (by kernel_rfl))
  f217 := Tryz.func110.trans (congrArg some (by kernel_rfl))
  f218 := Tryz.func96.trans (congrArg some (by kernel_rfl))
  f219 := Tryz.func97.trans (congrArg some (by kernel_rfl))
  f221 := Tryz.func65.trans (congrArg some (by kernel_rfl))
  f224 := Tryz.func112.trans (congrArg some (by kernel_rfl))
  f225 := Tryz.func111.trans (congrArg some (by kernel_rfl))
  f260 := Tryz.func109.trans (congrArg some (by kernel_rfl))
  f266 := Tryz.func121.trans (congrArg some (by kernel_rfl))
  f267 := Tryz.func113.trans (congrArg some (by kernel_rfl))
  f268 := Tryz.func79.trans (congrArg some (by kernel_rfl))
  f314 := Tryz.func122.trans (congrArg some (by kernel_rfl))
  t0 := Tryz.underlying0
  a0 := Tryz.isAgg0
  z0 := Tryz.sizeOf0
  v0 := Tryz.zeroValue0
  t3 := Tryz.underlying3
  a3 := Tryz.isAgg3
  z3 := Tryz.sizeOf3
  v3 := Tryz.zeroValue3
  t4 := Tryz.underlying4
  a4 := Tryz.isAgg4
  z4 := Tryz.sizeOf4
  v4 := Tryz.zeroValue4
  t5 := Tryz.underlying5
  a5 := Tryz.isAgg5
  z5 := Tryz.sizeOf5
  v5 := Tryz.zeroValue5
  t9 := Tryz.underlying9
  a9 := Tryz.isAgg9
  z9 := Tryz.sizeOf9
  v9 := Tryz.zeroValue9
  t21 := Tryz.underlying21
  a21 := Tryz.isAgg21
  z21 := Tryz.sizeOf21
  v21 := Tryz.zeroValue21
  t31 := Tryz.underlying49
  a31 := Tryz.isAgg49
  z31 := Tryz.sizeOf49
  v31 := Tryz.zeroValue49
  t46 := Tryz.underlying116
  a46 := Tryz.isAgg116
  z46 := Tryz.sizeOf116
  v46 := Tryz.zeroValue116
  t51 := Tryz.underlying138
  a51 := Tryz.isAgg138
  z51 := Tryz.sizeOf138
  v51 := Tryz.zeroValue138
  t105 := Tryz.underlying126
  a105 := Tryz.isAgg126
  z105 := Tryz.sizeOf126
  v105 := Tryz.zeroValue126
  t119 := Tryz.underlying148
  a119 := Tryz.isAgg148
  z119 := Tryz.sizeOf148
  t138 := Tryz.underlying150
  a138 := Tryz.isAgg150
  z138 := Tryz.sizeOf150
  v138 := Tryz.zeroValue150
  t139 := Tryz.underlying151
  a139 := Tryz.isAgg151
  z139 := Tryz.sizeOf151
  v139 := Tryz.zeroValue151
  t146 := Tryz.underlying152
  a146 := Tryz.isAgg152
  z146 := Tryz.sizeOf152
  v146 := Tryz.zeroValue152
  g1 := by kernel_rfl
  g3 := by kernel_rfl
  g4 := by kernel_rfl }
open Go.RowKit Go.Lib in
theorem Tryz.strings_Split (s sep : ByteArray) (m : Int) (w : World) (hs : s.size < 4294967281) (hm : w.cell? ⟨1, 0, none⟩ = some (.int .i64 m)) (h1 : 1 ≤ sep.size) :
    Calls Tryz.prog 41 #[.string s, .string sep] w fun e w' =>
      e = .returned (.slice (some ⟨w.heap.size, 0, none⟩) (Lib.countB s sep + 1) (Lib.countB s sep + 1)) ∧ w' = w.alloc (.cells ((Lib.splitB sep 0 (Lib.countB s sep) s).map Value.string).toArray 9) := Any.strings_Split Tryz.lays146 (by kernel_rfl) s sep m w hs hm h1
end Go.Proofs
namespace Go.Proofs.YtecdendjlgohjaaGreatDoor
open Go.RowKit Go.Sort
set_option maxHeartbeats 1000000
set_option maxRecDepth 100000
/-- What the reading functions ask of the world: the table of powers of ten; some bound of the byte searches; the two errors of strconv. -/
def LAD (w : World) : Prop := TAB w ∧ (∃ m, w.cell? ⟨1, 0, none⟩ = some (.int .i64 m)) ∧ (∃ te pe, w.cell? ⟨2, 0, none⟩ = some (.iface te pe)) ∧ ∃ te pe, w.cell? ⟨3, 0, none⟩ = some (.iface te pe)
theorem LAD.on {w u : World} (h : LAD w) (b : Below w.heap.size w u) : LAD u := by
  obtain ⟨hT, ⟨m, hm⟩, ⟨te, pe, hs⟩, te', pe', hr⟩ := h
  refine ⟨hT.on b, ⟨m, ?_⟩, ⟨te, pe, ?_⟩, te', pe', ?_⟩
  · rw [b.cell (World.block_lt_of_cell? _ _ hm)]; exact hm
  · rw [b.cell (World.block_lt_of_cell? _ _ hs)]; exact hs
  · rw [b.cell (World.block_lt_of_cell? _ _ hr)]; exact hr
theorem M.bs_mk' (s : ByteArray) : (⟨s.data.toList.toArray⟩ : ByteArray) = s := by
  apply ByteArray.ext
  simp
/-- The number that a text spells. -/
def M.numB (s : ByteArray) : Option Int := M.num s.data.toList
theorem impl_ReadDecimal (s : ByteArray) (hs : s.size ≤ 1000000000) (w : World) (hL : LAD w) :
    Calls Tryz.prog 44 #[.string s] w fun e w' => e = .returned (.tuple #[.int .i64 ((M.numB s).getD 0), .bool (M.numB s).isSome]) ∧ Below w.heap.size w w' := by
  have hL' := hL
  obtain ⟨hT, -, ⟨te, pe, hsy⟩, te', pe', hrg⟩ := hL'
  have HL := Lib.hid hL
  have hnum := M.numI_eq s.data.toList
  unfold M.numI at hnum
  cases hp : Lib.parseIntB 64 s.data.toList
  case range =>
    rw [hp] at hnum
    have HN := Lib.hid (show M.numB s = none from hnum.symm)
    clear hnum hL hT hsy
    go_enter Tryz.func44, Tryz.ntmps44
    go_wp2_with (go_at_call 67; refine (Tryz.strconv_ParseInt_10_at64_range s (by omega) hp _ w hrg (Or.inr ⟨_, _, rfl⟩)).mono ?_; rintro e w1 ⟨N, rfl, -, -, b1⟩)
    go_ret2
    exact ⟨by rw [HN.out]; rfl, b1⟩
  case ok v =>
    rw [hp] at hnum
    have hb := Lib.parseIntB_bounds hp
    have v0 : -9223372036854775808 ≤ v := by have := hb.1; simp at this; omega
    have v1 : v ≤ 9223372036854775807 := by have := hb.2; simp at this; exact Int.lt_add_one_iff.1 this
    have HNM := Lib.hid (show M.numB s = if Lib.itoa v = s.data.toList ∧ (Lib.trimPrefix s.data.toList [45]).length ≤ 18 then some v else none from hnum.symm)
    clear hnum hL hsy hrg hb
    by_cases he : Lib.itoa v = s.data.toList
    · have HE := Lib.hid he
      have e1 : (Lib.itoa v == s.toList) = true := by rw [ByteArray.toList_eq, HE.out]; exact beq_self_eq_true _
      clear he
      by_cases ht : (Lib.trimPrefix s.data.toList [45]).length ≤ 18
      · have HT := Lib.hid ht
        have e2 : ¬ (18 : Int) < ((Lib.trimPrefix s.data.toList [45]).length : Int) := by omega
        go_enter Tryz.func44, Tryz.ntmps44
        go_wp2_with (first | (go_at_call 67; refine (Tryz.strconv_ParseInt_10_at64_ok s (by omega) v hp w).mono ?_; rintro e w1 ⟨rfl, hw⟩; have b1 : Below w.heap.size w w1 := (by rcases hw with rfl | ⟨t, rfl⟩; exact Below.refl _ _; exact Lib.bytesWorld_below _ _ _)) | (go_at_call 33; refine (impl_Decimal v v0 v1 _ (hT.on b1)).mono ?_; rintro e w2 ⟨rfl, b2⟩) | (go_at_call 68; refine (Tryz.strings_TrimPrefix s ⟨#[45]⟩ _).mono ?_; rintro e w3 ⟨rfl, rfl⟩))
        go_ret2
        exact ⟨by rw [HNM.out, if_pos ⟨HE.out, HT.out⟩]; rfl, bel_trans b1 b2⟩
      · have HT := Lib.hid ht
        have e2 : (18 : Int) < ((Lib.trimPrefix s.data.toList [45]).length : Int) := by omega
        go_enter Tryz.func44, Tryz.ntmps44
        go_wp2_with (first | (go_at_call 67; refine (Tryz.strconv_ParseInt_10_at64_ok s (by omega) v hp w).mono ?_; rintro e w1 ⟨rfl, hw⟩; have b1 : Below w.heap.size w w1 := (by rcases hw with rfl | ⟨t, rfl⟩; exact Below.refl _ _; exact Lib.bytesWorld_below _ _ _)) | (go_at_call 33; refine (impl_Decimal v v0 v1 _ (hT.on b1)).mono ?_; rintro e w2 ⟨rfl, b2⟩) | (go_at_call 68; refine (Tryz.strings_TrimPrefix s ⟨#[45]⟩ _).mono ?_; rintro e w3 ⟨rfl, rfl⟩))
        go_ret2
        exact ⟨by rw [HNM.out, if_neg (fun h => HT.out h.2)]; rfl, bel_trans b1 b2⟩
    · have HE := Lib.hid he
      have e1 : (Lib.itoa v == s.toList) = false := by rw [ByteArray.toList_eq, beq_eq_false_iff_ne]; exact HE.out
      clear he
      go_enter Tryz.func44, Tryz.ntmps44
      go_wp2_with (first | (go_at_call 67; refine (Tryz.strconv_ParseInt_10_at64_ok s (by omega) v hp w).mono ?_; rintro e w1 ⟨rfl, hw⟩; have b1 : Below w.heap.size w w1 := (by rcases hw with rfl | ⟨t, rfl⟩; exact Below.refl _ _; exact Lib.bytesWorld_below _ _ _)) | (go_at_call 33; refine (impl_Decimal v v0 v1 _ (hT.on b1)).mono ?_; rintro e w2 ⟨rfl, b2⟩) | (go_at_call 68; refine (Tryz.strings_TrimPrefix s ⟨#[45]⟩ _).mono ?_; rintro e w3 ⟨rfl, rfl⟩))
      go_ret2
      exact ⟨by rw [HNM.out, if_neg (fun h => HE.out h.1)]; rfl, bel_trans b1 b2⟩
  rw [hp] at hnum
  have HN := Lib.hid (show M.numB s = none from hnum.symm)
  clear hnum hL hT hrg
  go_enter Tryz.func44, Tryz.ntmps44
  go_wp2_with (go_at_call 67; refine (Tryz.strconv_ParseInt_10_at64_syntax s (by omega) (hp.trans rfl) _ w hsy (Or.inr ⟨_, _, rfl⟩)).mono ?_; rintro e w1 ⟨N, rfl, -, -, b1⟩)
  go_ret2
  exact ⟨by rw [HN.out]; rfl, b1⟩
end Go.Proofs.YtecdendjlgohjaaGreatDoor
namespace Go.Proofs.YtecdendjlgohjaaGreatDoor
open Go.ChangeShapes Go.WideShapes Go.ChangeAt Go.RowKit
open Go.Extern.Stop Go.Stop Go.Extern
set_option maxRecDepth 100000
/-- The wrap for a law over laid variables that asks for the world's shape too. -/
theorem handed_both {H : Type} {enc : TypeId × Value → H} {a : Assume} {C : Checked} {os : Os} {f : FuncId} {fn : Func} {s : ChangeSpec} {conds : List PathCond} {apart fresh handsOn again : Bool} {X : World → Array Value → Prop}
    (hX : ∀ (w w' : World) (args : Array Value), w.heap = w'.heap → X w args → X w' args)
    (own : ownKnob C.prog.godebug = none) (started : os.Started) (noInit : C.prog.inits.idxOf? f = none) (hfn : C.prog.funcs[f]? = some fn)
    (witness : ∃ (w : World) (tape : Tape) (i : Input), w.os = os ∧ (w.forCall tape i).Shaped C.prog ∧ i.vars = [] ∧ Input.okWide C.prog (w.forCall tape i) .any w.heap.size f i ∧
      ((s.pre enc C.prog fn conds apart (w.forCall tape i).memory i.args ∧ X (w.forCall tape i).memory i.args) ∧ sizedMet enc C.prog fn (OpenSpec.ofChange s) apart (w.forCall tape i).memory i.args) ∧ a.holds C.prog (lone (Frame.enter C.prog f i.args .normal) [] (w.forCall tape i)))
    (contract : ∀ (W : World) (base : Nat) (args : Array Value) (ds gs : List (DataW H)) (before : List MemPlace),
      (∀ (j : Nat) t v, fn.params[j]? = some t → args[j]? = some v → Value.okWide C.prog W .any base t v) →
      DataW.Whole enc C.prog fn.params.toList s.vars apart W args.toList ds gs before →
      conds.all (PathCond.test C.prog ⟨fn.params.toList, ds, s.plain.varTypes C.prog, gs⟩) = true →
      (DataW.weightsEach C.prog (fn.params.toList ++ s.plain.varTypes C.prog) (ds ++ gs)).all (· ≤ reachBytes) = true → W.ShapedOpen C.prog → X W args →
      a.holds C.prog (lone (Frame.enter C.prog f args .normal) [] W) →
      Calls C.prog f args W fun e W' => ∃ v, e = .returned v ∧ s.post enc C.prog fn apart fresh handsOn again W args v W') :
    ReturnsInHanded a C os f .any (fun w args => (s.pre enc C.prog fn conds apart w args ∧ X w args) ∧ sizedMet enc C.prog fn (OpenSpec.ofChange s) apart w args) (s.post enc C.prog fn apart fresh handsOn again) := by
  refine returnsInHanded_of_calls own started noInit witness ?_
  intro w tape i _ hsh _ hok hpre hholds
  obtain ⟨_, _, _, fn', hfn', _, _, _, _, hval⟩ := hok
  have e : fn' = fn := Option.some.inj (hfn'.symm.trans hfn)
  subst e
  obtain ⟨⟨⟨ds, gs, before, hw, hc⟩, hx⟩, hz⟩ := hpre
  have hw' := DataW.Whole.of_heap (w' := w.forCall tape i) (by rfl) hw
  refine (contract (w.forCall tape i) w.heap.size i.args ds gs before hval hw' hc (hz.weights hw) hsh (hX _ _ _ (by rfl) hx) hholds).mono fun e W' ⟨v, he, hp⟩ => ?_
  subst he
  exact ChangeSpec.post_blind hp
theorem gTab7 : Tryz.prog.globalNamed "internal/strconv.uint64pow10" = some 0 := by kernel_rfl
theorem gRange : Tryz.prog.globalNamed "strconv.ErrRange" = some 3 := by kernel_rfl
theorem gSyntax : Tryz.prog.globalNamed "strconv.ErrSyntax" = some 2 := by kernel_rfl
theorem tRange : (Tryz.prog.globals[3]?).map (·.type) = some 98 := by kernel_rfl
theorem tSyntax : (Tryz.prog.globals[2]?).map (·.type) = some 98 := by kernel_rfl
theorem errStar : "*" ++ "errors.errorString" = "*errors.errorString" := by decide
theorem errRow (u : TypeId) (h : Tryz.prog.typeName? 3 u = some "*errors.errorString") : u = 154 :=
  typeName_ptr_named (nm := "errors.errorString") (by rw [errStar]; kernel_rfl) (by kernel_rfl) (by decide) u (by rw [errStar]; exact h)
def L7 : List (String × DataW Unit) := [("math/bits.deBruijn32tab", Rows.laid_math_bits_deBruijn32tab), ("math/bits.deBruijn64tab", Rows.laid_math_bits_deBruijn64tab), ("internal/strconv.uint64pow10", Rows.laid_internal_strconv_uint64pow10), ("unicode/utf8.acceptRanges", Rows.laid_unicode_utf8_acceptRanges), ("strconv.ErrRange", Rows.laid_strconv_ErrRange), ("strconv.ErrSyntax", Rows.laid_strconv_ErrSyntax), ("unicode/utf8.first", Rows.laid_unicode_utf8_first)]
theorem met7_plain : laidMetH Tryz.prog L7 = laidMet Tryz.prog L7 := by
  funext W
  exact propext (by rw [MakeChecks.laidMetH_plain _ _ _ (by kernel_rfl)])
theorem err_cell {W : World} {n : String} {text : List UInt8} {r : List (String × DataW Unit)} {g : Nat} (h : laidMet Tryz.prog ((n, .iface "*errors.errorString" (.ptr (.agg [.lit (.string text)]))) :: r) W)
    (hg : Tryz.prog.globalNamed n = some g) (ht : (Tryz.prog.globals[g]?).map (·.type) = some 98) : ∃ te pe, W.cell? ⟨g, 0, none⟩ = some (.iface te pe) := by
  obtain ⟨a, s, hv, -⟩ := laid_sentinel h hg ht Tryz.underlying98 errRow Tryz.underlying154 Tryz.underlying156 rfl rfl Tryz.underlying9 (by kernel_rfl) (by kernel_rfl)
  exact ⟨_, _, World.var?_cell hg hv 0⟩
/-- What the readers ask, out of the row's condition and the world's shape. -/
theorem lad_of {W : World} (h : laidMetH Tryz.prog L7 W) (hsh : W.ShapedOpen Tryz.prog) : LAD W := by
  rw [met7_plain] at h
  have h3 : laidMet Tryz.prog (("internal/strconv.uint64pow10", Lib.tabData .u64 Lib.pow10Tab) :: _) W := h.tail.tail
  have h5 : laidMet Tryz.prog (("strconv.ErrRange", .iface "*errors.errorString" (.ptr (.agg [.lit (.string _)]))) :: _) W := h3.tail.tail
  have h6 : laidMet Tryz.prog (("strconv.ErrSyntax", .iface "*errors.errorString" (.ptr (.agg [.lit (.string _)]))) :: _) W := h5.tail
  refine ⟨Lib.tabBelow_of_tabIs (Lib.tabIs_of_head (g := 0) (t := 137) (e := 85) (n := 20) gTab7 (by kernel_rfl) (by kernel_rfl) (by kernel_rfl) (by kernel_rfl) (by kernel_rfl) h3), ?_, err_cell h6 gSyntax tSyntax, err_cell h5 gRange tRange⟩
  exact cell_of_shapedOpen_int (zero := #[.int .i64 0]) hsh (of_decide_eq_true (by kernel_rfl)) (by kernel_rfl) rfl (by kernel_rfl) (by kernel_rfl) Tryz.underlying3
/-- The witness's own heap meets the condition. -/
theorem met7 (os : Os) (args : Array Value) : laidMetH Tryz.prog L7 ((World.laidAll Tryz.prog os L7).forCall (fun _ _ => 0) ⟨#[], args, []⟩).memory := by
  rw [met7_plain]
  exact laidMet_laidAll _ (by kernel_rfl) (by kernel_rfl)
theorem shaped7 (os : Os) (args : Array Value) : ((World.laidAll Tryz.prog os L7).forCall (fun _ _ => 0) ⟨#[], args, []⟩).Shaped Tryz.prog :=
  World.shaped_of_ZipB (by kernel_rfl) (by kernel_rfl)
end Go.Proofs.YtecdendjlgohjaaGreatDoor
namespace Go.Proofs.YtecdendjlgohjaaGreatDoor
open Go.RowKit

/-- Only blocks of F, and new ones, have turned. -/
structure Chg (F : Nat → Prop) (w w' : World) : Prop where
  os : w'.os = w.os
  tape : w'.tape = w.tape
  output : w'.output = w.output
  size : w.heap.size ≤ w'.heap.size
  block : ∀ k, k < w.heap.size → ¬ F k → w'.heap[k]? = w.heap[k]?
section
variable {F F' : Nat → Prop} {a b c w w' : World} {lo hi B : Nat}
theorem Chg.refl (F : Nat → Prop) (w : World) : Chg F w w := ⟨rfl, rfl, rfl, Nat.le_refl _, fun _ _ _ => rfl⟩
theorem Chg.trans (h : Chg F a b) (k : Chg F b c) : Chg F a c :=
  ⟨k.os.trans h.os, k.tape.trans h.tape, k.output.trans h.output, Nat.le_trans h.size k.size, fun i hi hm => (k.block i (Nat.lt_of_lt_of_le hi h.size) hm).trans (h.block i hi hm)⟩
theorem Chg.wide (h : Chg F a b) (hf : ∀ k, F k → F' k) : Chg F' a b := ⟨h.os, h.tape, h.output, h.size, fun k hk hn => h.block k hk fun hF => hn (hf k hF)⟩
theorem Chg.of_below (h : Below a.heap.size a b) (F : Nat → Prop) : Chg F a b := ⟨h.os, h.tape, h.output, h.size, fun k hk _ => h.block k hk⟩
theorem Chg.of_grown {row : Option Nat} (h : a.grownBy b row) (hr : ∀ k, row = some k → F k) : Chg F a b :=
  ⟨h.os, h.tape, h.output, h.size, fun k hk hn => h.block k hk fun e => hn (hr k e.symm)⟩
theorem Chg.toBelow (h : Chg F a b) (hF : ∀ k, F k → B ≤ k) (hB : B ≤ a.heap.size) : Below B a b := ⟨h.os, h.tape, h.output, h.size, fun k hk => h.block k (by omega) fun hk' => by have := hF k hk'; omega⟩
theorem Chg.set (w : World) (g o : Nat) (u : Value) (hF : F g) : Chg F w (w.setCell ⟨g, o, none⟩ u) := Chg.of_grown (grown_setCell w g o u) fun k hk => by injection hk with hk; rw [← hk]; exact hF
end

/-- Rows of cells, s each. -/
theorem flat2_at {s : Nat} {css : List (List Value)} (hs : ∀ c ∈ css, c.length = s) {k : Nat} {c : List Value} (hk : css[k]? = some c) (j : Nat) (hj : j < s) : css.flatten[k * s + j]? = c[j]? := by
  induction css generalizing k with
  | nil => simp at hk
  | cons y ys ih =>
    have hy := hs y (by simp)
    cases k with
    | zero =>
      simp only [List.getElem?_cons_zero, Option.some.injEq] at hk
      subst hk
      rw [List.flatten_cons, Nat.zero_mul, Nat.zero_add, List.getElem?_append_left (by omega)]
    | succ k =>
      simp only [List.getElem?_cons_succ] at hk
      rw [List.flatten_cons, List.getElem?_append_right (by rw [hy, Nat.succ_mul]; omega), hy, ← ih (fun c hc => hs c (by simp [hc])) hk]
      congr 1
      rw [Nat.succ_mul]
      omega
theorem flat2_len {s : Nat} {css : List (List Value)} (hs : ∀ c ∈ css, c.length = s) : css.flatten.length = css.length * s := by
  induction css with
  | nil => simp
  | cons y ys ih => rw [List.flatten_cons, List.length_append, hs y (by simp), ih (fun c hc => hs c (by simp [hc])), List.length_cons, Nat.succ_mul, Nat.add_comm]
theorem flat2_set {s : Nat} {css : List (List Value)} (hs : ∀ c ∈ css, c.length = s) {k j : Nat} {c : List Value} {u : Value} (hk : css[k]? = some c) (hj : j < s) : css.flatten.set (k * s + j) u = (css.set k (c.set j u)).flatten := by
  induction css generalizing k with
  | nil => simp at hk
  | cons y ys ih =>
    have hy := hs y (by simp)
    cases k with
    | zero =>
      simp only [List.getElem?_cons_zero, Option.some.injEq] at hk
      subst hk
      rw [List.flatten_cons, Nat.zero_mul, Nat.zero_add, List.set_append_left _ _ (by omega), List.set_cons_zero, List.flatten_cons]
    | succ k =>
      simp only [List.getElem?_cons_succ] at hk
      rw [List.flatten_cons, List.set_append_right _ _ (by rw [hy, Nat.succ_mul]; omega), hy, List.set_cons_succ, List.flatten_cons, ← ih (fun c hc => hs c (by simp [hc])) hk]
      congr 2
      rw [Nat.succ_mul]
      omega

/-- How a plain type lies in cells: what reads as x (R), and what the call owns, in blocks of F (O). -/
structure Ty (α : Type) where
  s : Nat
  pos : 0 < s
  zero : α
  R : World → Nat → List Value → α → Prop
  O : World → (Nat → Prop) → List Value → α → Prop
  rlen : ∀ {w B cs x}, R w B cs x → cs.length = s
  keep : ∀ {w w' B cs x}, (∀ p : Addr, p.block < B → w'.cell? p = w.cell? p) → R w B cs x → R w' B cs x
  more : ∀ {w B B' cs x}, B ≤ B' → R w B cs x → R w B' cs x
  read : ∀ {w F cs x}, O w F cs x → R w w.heap.size cs x
  okeep : ∀ {w w' F cs x}, (∀ b, F b → w'.heap[b]? = w.heap[b]?) → O w F cs x → O w' F cs x
  owide : ∀ {w F F' cs x}, (∀ b, F b → F' b) → O w F cs x → O w F' cs x
  ocells : ∀ {w F cs x}, O w F cs x → ∀ u ∈ cs, u.oneCell' = true
  oreal : ∀ {w F cs x}, O w F cs x → O w (fun b => F b ∧ b < w.heap.size) cs x

/-- A type whose cells are the value itself. -/
def Ty.flat {α : Type} (s : Nat) (pos : 0 < s) (zero : α) (enc : α → List Value) (henc : ∀ x, (enc x).length = s) (h1 : ∀ x, ∀ u ∈ enc x, u.oneCell' = true) : Ty α where
  s := s
  pos := pos
  zero := zero
  R _ _ cs x := cs = enc x
  O _ _ cs x := cs = enc x
  rlen h := by rw [h]; exact henc _
  keep _ h := h
  more _ h := h
  read h := h
  okeep _ h := h
  owide _ h := h
  ocells h := by rw [h]; exact h1 _
  oreal h := h
def tI : Ty Int := Ty.flat 1 (by decide) 0 (fun x => [.int .i64 x]) (fun _ => rfl) (by simp [Value.oneCell'])
/-- Two types side by side: a struct. -/
def Ty.prod {α β : Type} (a : Ty α) (b : Ty β) : Ty (α × β) where
  s := a.s + b.s
  pos := Nat.add_pos_left a.pos _
  zero := (a.zero, b.zero)
  R w B cs x := ∃ c1 c2, cs = c1 ++ c2 ∧ a.R w B c1 x.1 ∧ b.R w B c2 x.2
  O w F cs x := ∃ c1 c2 F1 F2, cs = c1 ++ c2 ∧ a.O w F1 c1 x.1 ∧ b.O w F2 c2 x.2 ∧ (∀ k, F1 k → F k) ∧ (∀ k, F2 k → F k) ∧ (∀ k, F1 k → ¬ F2 k)
  rlen := by rintro w B cs x ⟨c1, c2, rfl, h1, h2⟩; rw [List.length_append, a.rlen h1, b.rlen h2]
  keep := by rintro w w' B cs x hk ⟨c1, c2, rfl, h1, h2⟩; exact ⟨c1, c2, rfl, a.keep hk h1, b.keep hk h2⟩
  more := by rintro w B B' cs x hk ⟨c1, c2, rfl, h1, h2⟩; exact ⟨c1, c2, rfl, a.more hk h1, b.more hk h2⟩
  read := by rintro w F cs x ⟨c1, c2, F1, F2, rfl, h1, h2, _⟩; exact ⟨c1, c2, rfl, a.read h1, b.read h2⟩
  okeep := by rintro w w' F cs x hk ⟨c1, c2, F1, F2, rfl, h1, h2, f1, f2, f3⟩; exact ⟨c1, c2, F1, F2, rfl, a.okeep (fun b hb => hk b (f1 b hb)) h1, b.okeep (fun b hb => hk b (f2 b hb)) h2, f1, f2, f3⟩
  owide := by rintro w F F' cs x hk ⟨c1, c2, F1, F2, rfl, h1, h2, f1, f2, f3⟩; exact ⟨c1, c2, F1, F2, rfl, h1, h2, fun k h => hk k (f1 k h), fun k h => hk k (f2 k h), f3⟩
  ocells := by
    rintro w F cs x ⟨c1, c2, F1, F2, rfl, h1, h2, _⟩ u hu
    rcases List.mem_append.1 hu with h | h
    · exact a.ocells h1 u h
    · exact b.ocells h2 u h
  oreal := by
    rintro w F cs x ⟨c1, c2, F1, F2, rfl, h1, h2, f1, f2, f3⟩
    exact ⟨c1, c2, _, _, rfl, a.oreal h1, b.oreal h2, fun k h => ⟨f1 k h.1, h.2⟩, fun k h => ⟨f2 k h.1, h.2⟩, fun k h h' => f3 k h.1 h'.1⟩

section
variable {α : Type} (t : Ty α)
/-- A slice that reads as a list. -/
def RS (w : World) (B : Nat) (v : Value) (xs : List α) : Prop :=
  ∃ (A : Option Addr) (c : Nat) (css : List (List Value)), v = .slice A xs.length c ∧ xs.length ≤ c ∧ c ≤ maxLen ∧ css.length = xs.length ∧ Reads w B t.s A xs.length css.flatten ∧ ∀ k (h : k < xs.length) (h' : k < css.length), t.R w B css[k] xs[k]
/-- The call's own slice: a row of its own, each element in blocks of its own. -/
def OS (e : TypeId) (w : World) (F : Nat → Prop) (v : Value) (xs : List α) : Prop :=
  ∃ (css : List (List Value)) (Fs : Nat → Nat → Prop), w.ownsRow 0 e t.s v xs.length css.flatten ∧ css.length = xs.length ∧ (∀ g, v.ownBlock = some g → F g) ∧ (∀ k b, Fs k b → F b ∧ v.ownBlock ≠ some b) ∧
    (∀ j k b, j ≠ k → Fs j b → ¬ Fs k b) ∧ ∀ k (h : k < xs.length) (h' : k < css.length), t.O w (Fs k) css[k] xs[k]
end
section
variable {α : Type} {t : Ty α} {e : TypeId} {w w' : World} {F F' : Nat → Prop} {B B' : Nat} {v : Value} {xs : List α}
theorem RS.keep (hk : ∀ p : Addr, p.block < B → w'.cell? p = w.cell? p) (h : RS t w B v xs) : RS t w' B v xs := by
  obtain ⟨A, c, css, hv, h1, h2, h3, h4, h5⟩ := h
  exact ⟨A, c, css, hv, h1, h2, h3, h4.keep hk, fun k h h' => t.keep hk (h5 k h h')⟩
theorem RS.more (hB : B ≤ B') (h : RS t w B v xs) : RS t w B' v xs := by
  obtain ⟨A, c, css, hv, h1, h2, h3, h4, h5⟩ := h
  exact ⟨A, c, css, hv, h1, h2, h3, h4.more hB, fun k h h' => t.more hB (h5 k h h')⟩
theorem OS.read (h : OS t e w F v xs) : RS t w w.heap.size v xs := by
  obtain ⟨css, Fs, h1, h2, _, _, _, h6⟩ := h
  obtain ⟨A, c, rfl, hc, hm, hr⟩ := own_shape h1
  exact ⟨A, c, css, rfl, hc, hm, h2, hr, fun k h h' => t.read (h6 k h h')⟩
theorem OS.keep (hk : ∀ b, F b → w'.heap[b]? = w.heap[b]?) (h : OS t e w F v xs) : OS t e w' F v xs := by
  obtain ⟨css, Fs, h1, h2, h3, h4, h5, h6⟩ := h
  refine ⟨css, Fs, ⟨h1.1, ?_⟩, h2, h3, h4, h5, fun k h h' => t.okeep (fun b hb => hk b (h4 k b hb).1) (h6 k h h')⟩
  rcases h1.2 with hn | ⟨g, cap, cur, rfl, hb, hg, rest⟩
  · exact .inl hn
  · exact .inr ⟨g, cap, cur, rfl, hb, by rw [hk g (h3 g rfl)]; exact hg, rest⟩
theorem OS.wide (hF : ∀ b, F b → F' b) (h : OS t e w F v xs) : OS t e w F' v xs := by
  obtain ⟨css, Fs, h1, h2, h3, h4, h5, h6⟩ := h
  exact ⟨css, Fs, h1, h2, fun g hg => hF g (h3 g hg), fun k b hb => ⟨hF b (h4 k b hb).1, (h4 k b hb).2⟩, h5, h6⟩
theorem RS.cap {A : Option Addr} {n c : Nat} (h : RS t w B (.slice A n c) xs) : xs.length = n ∧ n ≤ c ∧ c ≤ maxLen := by
  obtain ⟨A', c', css, hv, h1, h2, _⟩ := h
  simp only [Value.slice.injEq] at hv
  obtain ⟨rfl, rfl, rfl⟩ := hv
  exact ⟨rfl, h1, h2⟩
theorem RS.shape (h : RS t w B v xs) : ∃ A c, v = .slice A xs.length c := by
  obtain ⟨A, c, css, hv, _⟩ := h
  exact ⟨A, c, hv⟩
theorem OS.shape (h : OS t e w F v xs) : ∃ A c, v = .slice A xs.length c := RS.shape h.read
/-- The k-th element's cells. -/
theorem RS.at (h : RS t w B v xs) {k : Nat} (hk : k < xs.length) : ∃ b o c cs, v = .slice (some ⟨b, o, none⟩) xs.length c ∧ b < B ∧ cs.length = t.s ∧ t.R w B cs xs[k] ∧ ∀ j u, cs[j]? = some u → w.cell? ⟨b, o + k * t.s + j, none⟩ = some u := by
  obtain ⟨A, c, css, rfl, h1, h2, h3, h4, h5⟩ := h
  obtain ⟨ad, rfl, hb, hc⟩ := h4.2 (by omega)
  have hs : ∀ c ∈ css, c.length = t.s := fun c hc => by
    obtain ⟨i, hi, rfl⟩ := List.getElem_of_mem hc
    exact t.rlen (h5 i (by omega) hi)
  have h0 : 0 < css.flatten.length := by
    rw [flat2_len hs]
    exact Nat.mul_pos (by omega) t.pos
  have hsp := spot_none (hc 0 _ (List.getElem?_eq_getElem h0))
  have hsp' : ad = ⟨ad.block, ad.off, none⟩ := by simpa [Addr.add] using hsp
  have hr := h5 k hk (by omega)
  refine ⟨ad.block, ad.off, c, css[k]'(by omega), by rw [← hsp'], hb, t.rlen hr, hr, fun j u hu => ?_⟩
  have hj : j < t.s := by rw [← t.rlen hr]; exact (List.getElem?_eq_some_iff.1 hu).1
  have := hc (k * t.s + j) u (by rw [flat2_at hs (List.getElem?_eq_getElem (by omega)) j hj]; exact hu)
  rw [hsp', Addr.add_lit, ← Nat.add_assoc] at this
  exact this
end

/-- A slice as a type of one cell. -/
def Ty.sl {α : Type} (t : Ty α) (e : TypeId) : Ty (List α) where
  s := 1
  pos := Nat.one_pos
  zero := []
  R w B cs x := ∃ v, cs = [v] ∧ RS t w B v x
  O w F cs x := ∃ v, cs = [v] ∧ OS t e w F v x
  rlen := by rintro w B cs x ⟨v, rfl, _⟩; rfl
  keep := by rintro w w' B cs x hk ⟨v, rfl, h⟩; exact ⟨v, rfl, h.keep hk⟩
  more := by rintro w B B' cs x hk ⟨v, rfl, h⟩; exact ⟨v, rfl, h.more hk⟩
  read := by rintro w F cs x ⟨v, rfl, h⟩; exact ⟨v, rfl, h.read⟩
  okeep := by rintro w w' F cs x hk ⟨v, rfl, h⟩; exact ⟨v, rfl, h.keep hk⟩
  owide := by rintro w F F' cs x hk ⟨v, rfl, h⟩; exact ⟨v, rfl, h.wide hk⟩
  ocells := by
    rintro w F cs x ⟨v, rfl, h⟩ u hu
    obtain ⟨A, c, hv⟩ := h.shape
    simp only [List.mem_singleton] at hu
    subst hu hv
    rfl
  oreal := by
    rintro w F cs x ⟨v, rfl, css, Fs, h1, h2, h3, h4, h5, h6⟩
    exact ⟨v, rfl, css, _, h1, h2, fun g hg => ⟨h3 g hg, (h1.lt g hg).2⟩, fun k b hb => ⟨⟨(h4 k b hb.1).1, hb.2⟩, (h4 k b hb.1).2⟩, fun j k b hne h h' => h5 j k b hne h.1 h'.1, fun k h h' => t.oreal (h6 k h h')⟩

section
variable {α : Type} {t : Ty α} {e : TypeId} {w w' : World} {F F' : Nat → Prop} {B B' lo hi : Nat} {v : Value} {xs : List α}
/-- Blocks from lo on and below hi. -/
def Iv (lo hi : Nat) : Nat → Prop := fun k => lo ≤ k ∧ k < hi
theorem Iv.mono {lo hi lo' hi' : Nat} (h1 : lo' ≤ lo) (h2 : hi ≤ hi') : ∀ b, Iv lo hi b → Iv lo' hi' b := fun b ⟨h, h'⟩ => ⟨Nat.le_trans h1 h, Nat.lt_of_lt_of_le h' h2⟩
theorem RS.later (h : RS t w w.heap.size v xs) (hb : Below w.heap.size w w') : RS t w' w'.heap.size v xs := (h.keep fun _ hp => hb.cell hp).more hb.size
theorem RS.below (h : RS t w B v xs) (hb : Below B w w') : RS t w' B v xs := h.keep fun _ hp => hb.cell hp
theorem OS.below (h : OS t e w (Iv lo hi) v xs) (hb : Below B w w') (hB : hi ≤ B) : OS t e w' (Iv lo hi) v xs := h.keep fun b hF => hb.block b (Nat.lt_of_lt_of_le hF.2 hB)
theorem OS.iv {lo' hi' : Nat} (h : OS t e w (Iv lo hi) v xs) (h1 : lo' ≤ lo) (h2 : hi ≤ hi') : OS t e w (Iv lo' hi') v xs := h.wide (Iv.mono h1 h2)
theorem OS.nil (t : Ty α) (e : TypeId) (w : World) (F : Nat → Prop) : OS t e w F (.slice none 0 0) [] :=
  ⟨[], fun _ _ => False, World.ownsRow_nil _ _ _ _, rfl, by simp [Value.ownBlock], fun _ _ h => h.elim, fun _ _ _ _ h => h.elim, fun k h => by simp at h⟩
theorem RS.nil (t : Ty α) (w : World) (B : Nat) : RS t w B (.slice none 0 0) [] := ⟨none, 0, [], rfl, Nat.le_refl _, by simp [maxLen], rfl, Reads.none_, fun k h => by simp at h⟩
/-- All of an own slice but its k-th element. -/
def OH (t : Ty α) (e : TypeId) (w : World) (F : Nat → Prop) (v : Value) (xs : List α) (css : List (List Value)) (Fs : Nat → Nat → Prop) (k : Nat) : Prop :=
  w.ownsRow 0 e t.s v xs.length css.flatten ∧ css.length = xs.length ∧ (∀ c ∈ css, c.length = t.s) ∧ (∀ g, v.ownBlock = some g → F g) ∧ (∀ k b, Fs k b → F b ∧ v.ownBlock ≠ some b) ∧
    (∀ j k b, j ≠ k → Fs j b → ¬ Fs k b) ∧ ∀ i (h : i < xs.length) (h' : i < css.length), i ≠ k → t.O w (Fs i) css[i] xs[i]
theorem OS.open (h : OS t e w F v xs) {k : Nat} (hk : k < xs.length) : ∃ css Fs, OH t e w F v xs css Fs k ∧ ∃ cs, css[k]? = some cs ∧ t.O w (Fs k) cs xs[k] := by
  obtain ⟨css, Fs, h1, h2, h3, h4, h5, h6⟩ := h
  exact ⟨css, Fs, ⟨h1, h2, fun c hc => by
    obtain ⟨i, hi, rfl⟩ := List.getElem_of_mem hc
    exact t.rlen (t.read (h6 i (by omega) hi)), h3, h4, h5, fun i h h' _ => h6 i h h'⟩, css[k]'(by omega), List.getElem?_eq_getElem (by omega), h6 k hk (by omega)⟩
variable {css : List (List Value)} {Fs : Nat → Nat → Prop} {k : Nat}
theorem OH.fits (h : OH t e w F v xs css Fs k) : ∀ b, Fs k b → F b := fun b hb => (h.2.2.2.2.1 k b hb).1
theorem OH.form {A : Option Addr} {m c : Nat} (h : OH t e w F (.slice A m c) xs css Fs k) (hk : k < xs.length) : ∃ g, A = some ⟨g, 0, none⟩ ∧ F g ∧ ¬ Fs k g ∧ g < w.heap.size ∧ m = xs.length := by
  obtain ⟨h1, h2, h3, h4, h5, h6, h7⟩ := h
  rcases h1.2 with ⟨h0, _⟩ | ⟨g, cap, cur, h0, hg1, hg2, _⟩
  · simp only [Value.slice.injEq] at h0
    omega
  · simp only [Value.slice.injEq] at h0
    obtain ⟨rfl, rfl, rfl⟩ := h0
    exact ⟨g, rfl, h4 g rfl, fun hf => (h5 k g hf).2 rfl, (Array.getElem?_eq_some_iff.1 hg2).1, rfl⟩
theorem OH.cell {g m c : Nat} (h : OH t e w F (.slice (some ⟨g, 0, none⟩) m c) xs css Fs k) {cs : List Value} (hcs : css[k]? = some cs) {j : Nat} {u : Value} (hj : cs[j]? = some u) :
    w.cell? ⟨g, k * t.s + j, none⟩ = some u ∧ w.frozen? ⟨g, k * t.s + j, none⟩ = false := by
  obtain ⟨h1, h2, h3, _⟩ := h
  have hk : k < css.length := (List.getElem?_eq_some_iff.1 hcs).1
  have hm : m = xs.length := by
    rcases h1.2 with ⟨h0, _⟩ | ⟨g', cap, cur, h0, _⟩
    · simp at h0
    · simp only [Value.slice.injEq] at h0
      exact h0.2.1
  subst hm
  have hl : cs.length = t.s := h3 cs (List.mem_of_getElem? hcs)
  have hjs : j < t.s := by rw [← hl]; exact (List.getElem?_eq_some_iff.1 hj).1
  have hf := flat2_at h3 hcs j hjs
  rw [hj] at hf
  have hlt := (List.getElem?_eq_some_iff.1 hf).1
  exact ⟨by rw [World.ownsRow.cellAt h1 _ (by rw [← h1.1]; exact hlt)]; exact hf, World.ownsRow.frozenAt h1 _⟩
/-- A cell of the k-th element is written. -/
theorem OH.set {g m c : Nat} (h : OH t e w F (.slice (some ⟨g, 0, none⟩) m c) xs css Fs k) {cs : List Value} (hcs : css[k]? = some cs) (j : Nat) (hj : j < t.s) (u : Value) :
    OH t e (w.setCell ⟨g, k * t.s + j, none⟩ u) F (.slice (some ⟨g, 0, none⟩) m c) xs (css.set k (cs.set j u)) Fs k ∧ (css.set k (cs.set j u))[k]? = some (cs.set j u) := by
  obtain ⟨h1, h2, h3, h4, h5, h6, h7⟩ := h
  have hk : k < css.length := (List.getElem?_eq_some_iff.1 hcs).1
  have hm : m = xs.length := by
    rcases h1.2 with ⟨h0, _⟩ | ⟨g', cap, cur, h0, _⟩
    · simp at h0
    · simp only [Value.slice.injEq] at h0
      exact h0.2.1
  subst hm
  have hl : cs.length = t.s := h3 cs (List.mem_of_getElem? hcs)
  have hst := (World.ownsRow.stored h1 (k * t.s + j) u).1
  rw [flat2_set h3 hcs hj] at hst
  refine ⟨⟨hst, by rw [List.length_set]; exact h2, fun c hc => ?_, h4, h5, h6, fun i hi hi' hne => ?_⟩, by simp [hk]⟩
  · rcases List.mem_or_eq_of_mem_set hc with hc | rfl
    · exact h3 c hc
    · rw [List.length_set]; exact hl
  · rw [List.getElem_set_ne (fun e => hne e.symm)]
    refine t.okeep (fun b hb => ?_) (h7 i hi (by rw [List.length_set] at hi'; exact hi') hne)
    exact heap_setCell_other w ⟨g, k * t.s + j, none⟩ b u (fun e => (h5 i b hb).2 (by rw [e]; rfl))
/-- Blocks of the k-th element are written. -/
theorem OH.chg (h : OH t e w F v xs css Fs k) (hc : Chg (Fs k) w w') : OH t e w' F v xs css Fs k := by
  obtain ⟨h1, h2, h3, h4, h5, h6, h7⟩ := h
  refine ⟨⟨h1.1, ?_⟩, h2, h3, h4, h5, h6, fun i hi hi' hne => ?_⟩
  · rcases h1.2 with hn | ⟨g, cap, cur, rfl, hb, hg, rest⟩
    · exact .inl hn
    · exact .inr ⟨g, cap, cur, rfl, hb, by rw [hc.block g (Array.getElem?_eq_some_iff.1 hg).1 (fun hf => (h5 k g hf).2 rfl)]; exact hg, rest⟩
  · have ho := h7 i hi hi' hne
    exact t.owide (fun b hb => hb.1) (t.okeep (fun b hb => hc.block b hb.2 (fun hk => h6 k i b (fun e => hne e.symm) hk hb.1)) (t.oreal ho))
theorem OH.keep (h : OH t e w F v xs css Fs k) (hk : ∀ b, F b → w'.heap[b]? = w.heap[b]?) : OH t e w' F v xs css Fs k := by
  obtain ⟨h1, h2, h3, h4, h5, h6, h7⟩ := h
  refine ⟨⟨h1.1, ?_⟩, h2, h3, h4, h5, h6, fun i hi hi' hne => t.okeep (fun b hb => hk b (h5 i b hb).1) (h7 i hi hi' hne)⟩
  rcases h1.2 with hn | ⟨g, cap, cur, rfl, hb, hg, rest⟩
  · exact .inl hn
  · exact .inr ⟨g, cap, cur, rfl, hb, by rw [hk g (h4 g rfl)]; exact hg, rest⟩
/-- The k-th element is there again, in its own blocks or in others. -/
theorem OH.fill (h : OH t e w F v xs css Fs k) {cs : List Value} (hcs : css[k]? = some cs) {y : α} (hy : t.O w (Fs k) cs y) : OS t e w F v (xs.set k y) := by
  obtain ⟨h1, h2, h3, h4, h5, h6, h7⟩ := h
  refine ⟨css, Fs, by rw [List.length_set]; exact h1, by rw [List.length_set]; exact h2, h4, h5, h6, fun i hi hi' => ?_⟩
  by_cases hik : i = k
  · subst hik
    rw [List.getElem_set_self]
    rw [List.getElem?_eq_getElem hi', Option.some.injEq] at hcs
    rw [hcs]
    exact hy
  · rw [List.getElem_set_ne (fun e => hik e.symm)]
    exact h7 i (by rw [List.length_set] at hi; exact hi) hi' hik
theorem OS.lt (h : OS t e w F v xs) : ∀ g, v.ownBlock = some g → F g ∧ g < w.heap.size := by
  obtain ⟨css, Fs, h1, _, h3, _⟩ := h
  exact fun g hg => ⟨h3 g hg, (h1.lt g hg).2⟩
theorem OS.real (h : OS t e w F v xs) : OS t e w (fun b => F b ∧ b < w.heap.size) v xs := by
  obtain ⟨css, Fs, h1, h2, h3, h4, h5, h6⟩ := h
  exact ⟨css, _, h1, h2, fun g hg => ⟨h3 g hg, (h1.lt g hg).2⟩, fun k b hb => ⟨⟨(h4 k b hb.1).1, hb.2⟩, (h4 k b hb.1).2⟩, fun j k b hne h h' => h5 j k b hne h.1 h'.1, fun k h h' => t.oreal (h6 k h h')⟩
theorem OS.chg (h : OS t e w F v xs) (hc : Chg F' w w') (hd : ∀ b, F b → ¬ F' b) : OS t e w' F v xs :=
  (h.real.keep fun b hb => hc.block b hb.2 (hd b hb.1)).wide fun _ hb => hb.1
end
section
variable {α : Type} {t : Ty α} {P : Program} {T e : TypeId} {z : Value} {bytes : Nat}
/-- 'out = append(out, x)' onto an own slice: x's cells lie in a new block. -/
theorem wpList_pushS (hE : EI P T e z t.s bytes) {w : World} {ops : Array Oper} {rest : List Oper} {o : Oper} {a : Act} {Q : Exit → Act → World → Prop} (us : Array Value)
    (hgd : o.guard = none) (s x : Operand) (ho : o.op = .call { callee := .builtin .append, args := #[s, x], argTypes := #[T, T] })
    {F Fe : Nat → Prop} {v : Value} {xs : List α} {y : α} (hown : OS t e w F v xs) (hy : t.O w Fe us.toList y) (hd : ∀ b, F b → ¬ Fe b) (hs : a.eval s = v)
    (hx : a.eval x = .slice (some ⟨w.heap.size, 0, none⟩) 1 1)
    (hn : xs.length + 1 ≤ maxLen) (hbytes : (xs.length + 1) * bytes ≤ 140737488355328)
    (K : ∀ v' w', OS t e w' (fun b => F b ∨ Fe b ∨ w.heap.size < b ∧ b < w'.heap.size) v' (xs ++ [y]) → Chg F w w' → wpList P ops Q rest (a.put o.dst v') w') :
    wpList P ops Q (o :: rest) a (w.alloc (.cells us e)) := by
  obtain ⟨ht, hinfo, hzs, hsz⟩ := hE
  obtain ⟨i0, hi, hz0, hz1, hz2⟩ := info_parts hinfo
  have hown' := hown.real
  have hy' := t.oreal hy
  obtain ⟨css, Fs, h1, h2, h3, h4, h5, h6⟩ := hown'
  have hus : us.toList.length = t.s := t.rlen (t.read hy)
  refine wpList_append_own_at _ hgd s x T ho 0 e i0 z t.s bytes ht hi hz0 hz1 hz2 hzs hsz v xs.length css.flatten hs (h1.alloc _) ⟨w.heap.size, 0, none⟩ 1 1 us.toList hx (by rw [hus, Nat.one_mul]) ?_ (t.ocells hy) hn hbytes (Nat.zero_le _) ?_
  · intro j u hj
    have hadd : (⟨w.heap.size, 0, none⟩ : Addr).add j = ⟨w.heap.size, j, none⟩ := by unfold Addr.add; split <;> simp_all
    rw [hadd, cell_of_row _ w.heap.size j us e (0, 0) (heap_alloc_new w _)]
    simpa using hj
  · intro v' w' g1 g2 _ g4
    have hsz' : (w.alloc (.cells us e)).heap.size = w.heap.size + 1 := by simp
    have hg : w.grownBy w' v.ownBlock := by
      have := World.grownBy_alloc w (.cells us e) none
      exact ⟨g2.os.trans this.os, g2.tape.trans this.tape, g2.output.trans this.output, Nat.le_trans this.size g2.size, fun k hk hne => by
        rw [g2.block k (by simp; omega) hne]; exact this.block k hk (by simp)⟩
    have hc : Chg F w w' := Chg.of_grown hg fun k hk => (h3 k hk).1
    refine K v' w' ⟨css ++ [us.toList], fun i b => if i = xs.length then Fe b ∧ b < w.heap.size else Fs i b, ?_, by simp [h2], fun g hgb => ?_, fun i b hb => ?_, fun i j b hne hbi hbj => ?_, fun i hi1 hi2 => ?_⟩ hc
    · rw [List.flatten_append, List.length_append]
      simpa using g1
    · rcases g4 with h | h
      · rw [h] at hgb
        exact .inl (h3 g hgb).1
      · rw [h, hsz', Option.some.injEq] at hgb
        exact .inr (.inr ⟨by omega, (g1.lt g (by rw [h, hsz']; simp; omega)).2⟩)
    · change (if i = xs.length then Fe b ∧ b < w.heap.size else Fs i b) at hb
      have hlt : b < w.heap.size := by
        by_cases hil : i = xs.length
        · rw [if_pos hil] at hb; exact hb.2
        · rw [if_neg hil] at hb; exact (h4 i b hb).1.2
      refine ⟨?_, ?_⟩
      · by_cases hil : i = xs.length
        · rw [if_pos hil] at hb
          exact .inr (.inl hb.1)
        · rw [if_neg hil] at hb
          exact .inl (h4 i b hb).1.1
      · rcases g4 with h | h
        · rw [h]
          by_cases hil : i = xs.length
          · rw [if_pos hil] at hb
            exact fun e => hd b (h3 b e).1 hb.1
          · rw [if_neg hil] at hb
            exact (h4 i b hb).2
        · rw [h, hsz']
          intro e
          injection e with e
          omega
    · change (if i = xs.length then Fe b ∧ b < w.heap.size else Fs i b) at hbi
      change (if j = xs.length then Fe b ∧ b < w.heap.size else Fs j b) at hbj
      by_cases hil : i = xs.length
      · rw [if_pos hil] at hbi
        rw [if_neg (fun e => hne (hil.trans e.symm))] at hbj
        exact hd b (h4 j b hbj).1.1 hbi.1
      · rw [if_neg hil] at hbi
        by_cases hjl : j = xs.length
        · rw [if_pos hjl] at hbj
          exact hd b (h4 i b hbi).1.1 hbj.1
        · rw [if_neg hjl] at hbj
          exact h5 i j b hne hbi hbj
    · by_cases hil : i = xs.length
      · subst hil
        rw [List.getElem_append_right (by omega), List.getElem_append_right (by omega)]
        simp only [h2, Nat.sub_self, List.getElem_singleton, if_true]
        exact t.okeep (fun b hb => hg.block b hb.2 (fun e => hd b (h3 b e.symm).1 hb.1)) hy'
      · have hi' : i < xs.length := by rw [List.length_append] at hi1; simp at hi1; omega
        rw [List.getElem_append_left (by omega), List.getElem_append_left hi']
        simp only [if_neg hil]
        exact t.okeep (fun b hb => hg.block b (h4 i b hb).1.2 (fun e => (h4 i b hb).2 e.symm)) (h6 i hi' (by omega))
end
end Go.Proofs.YtecdendjlgohjaaGreatDoor
namespace Go.Proofs.YtecdendjlgohjaaGreatDoor
open Go.RowKit
section
variable {α : Type} (t : Ty α) {w w' : World} {B lo hi lo' hi' l r : Nat} {cs : List Value} {x : α} {F F' : Nat → Prop}
theorem Ty.below (h : t.R w B cs x) (hb : Below B w w') : t.R w' B cs x := t.keep (fun _ hp => hb.cell hp) h
theorem Ty.later (h : t.R w w.heap.size cs x) (hb : Below w.heap.size w w') : t.R w' w'.heap.size cs x := t.more hb.size (t.below h hb)
theorem Ty.obelow (h : t.O w (Iv lo hi) cs x) (hb : Below B w w') (hB : hi ≤ B) : t.O w' (Iv lo hi) cs x := t.okeep (fun b hF => hb.block b (Nat.lt_of_lt_of_le hF.2 hB)) h
theorem Ty.oiv (h : t.O w (Iv lo hi) cs x) (h1 : lo' ≤ lo) (h2 : hi ≤ hi') : t.O w (Iv lo' hi') cs x := t.owide (Iv.mono h1 h2) h
theorem Ty.ochg (h : t.O w F cs x) (hc : Chg F' w w') (hd : ∀ b, F b → ¬ F' b) : t.O w' F cs x := t.owide (fun b hb => hb.1) (t.okeep (fun b hb => hc.block b hb.2 (hd b hb.1)) (t.oreal h))
end
section
variable {w w' : World} {B lo hi n c : Nat} {A : Option Addr} {v : Value} {e : TypeId}
/-- Flat elements. -/
theorem RS.flat {α : Type} {s : Nat} {pos : 0 < s} {zero : α} {enc : α → List Value} {henc : ∀ x, (enc x).length = s} {h1 : ∀ x, ∀ u ∈ enc x, u.oneCell' = true} {xs : List α}
    (h : RS (Ty.flat s pos zero enc henc h1) w B (.slice A n c) xs) : RA enc s w B A n xs ∧ n ≤ c ∧ c ≤ maxLen := by
  obtain ⟨A', c', css, hv, h1', h2, h3, h4, h5⟩ := h
  simp only [Value.slice.injEq] at hv
  obtain ⟨rfl, rfl, rfl⟩ := hv
  refine ⟨⟨rfl, ?_⟩, h1', h2⟩
  have e0 : css = xs.map enc := by
    apply List.ext_getElem (by simp [h3])
    intro i hi hi'
    rw [List.getElem_map]
    exact h5 i (by omega) hi
  rw [List.flatMap_def, ← e0]
  exact h4
theorem RS.of_flat {α : Type} {s : Nat} {pos : 0 < s} {zero : α} {enc : α → List Value} {henc : ∀ x, (enc x).length = s} {h1 : ∀ x, ∀ u ∈ enc x, u.oneCell' = true} {xs : List α}
    (h : RA enc s w B A n xs) (hc : n ≤ c) (hm : c ≤ maxLen) : RS (Ty.flat s pos zero enc henc h1) w B (.slice A n c) xs := by
  obtain ⟨rfl, h2⟩ := h
  rw [List.flatMap_def] at h2
  exact ⟨A, c, xs.map enc, rfl, hc, hm, by simp, h2, fun k hk hk' => by
    show (xs.map enc)[k] = enc xs[k]
    rw [List.getElem_map]⟩
theorem OS.flat {α : Type} {s : Nat} {pos : 0 < s} {zero : α} {enc : α → List Value} {henc : ∀ x, (enc x).length = s} {h1 : ∀ x, ∀ u ∈ enc x, u.oneCell' = true} {xs : List α}
    (h : OS (Ty.flat s pos zero enc henc h1) e w (Iv lo hi) v xs) : OA enc e s lo hi w v xs := by
  obtain ⟨css, Fs, g1, g2, g3, _, _, g6⟩ := h
  have e0 : css = xs.map enc := by
    apply List.ext_getElem (by simp [g2])
    intro i hi hi'
    rw [List.getElem_map]
    exact g6 i (by omega) hi
  subst e0
  refine ⟨⟨by rw [List.flatMap_def]; exact g1.1, ?_⟩, fun k hk => (g3 k hk).2⟩
  rcases g1.2 with hn | ⟨g, cap, cur, rfl, hb, rest⟩
  · exact .inl hn
  · rw [List.flatMap_def]
    exact .inr ⟨g, cap, cur, rfl, (g3 g rfl).1, rest⟩
theorem OS.of_flat {α : Type} {s : Nat} {pos : 0 < s} {zero : α} {enc : α → List Value} {henc : ∀ x, (enc x).length = s} {h1 : ∀ x, ∀ u ∈ enc x, u.oneCell' = true} {xs : List α}
    (h : OA enc e s lo hi w v xs) : OS (Ty.flat s pos zero enc henc h1) e w (Iv lo hi) v xs := by
  refine ⟨xs.map enc, fun _ _ => False, ?_, by simp, fun g hg => ⟨(h.1.lt g hg).1, h.2 g hg⟩, fun _ _ h => h.elim, fun _ _ _ _ h => h.elim, fun k hk hk' => ?_⟩
  · rw [← List.flatMap_def]
    exact own_base h.1 (Nat.zero_le _)
  · show (xs.map enc)[k] = enc xs[k]
    rw [List.getElem_map]
theorem flat_ints (xs : List Int) : xs.flatMap (fun x : Int => [Value.int .i64 x]) = xs.map (.int .i64) := by
  induction xs with
  | nil => rfl
  | cons y ys ih => rw [List.flatMap_cons, ih]; rfl
theorem OS.of_oi {xs : List Int} (h : OI e lo w v xs) (hh : ∀ k, v.ownBlock = some k → k < hi) : OS tI e w (Iv lo hi) v xs :=
  OS.of_flat ⟨by rw [flat_ints]; exact h, hh⟩
theorem OI.os {xs : List Int} (h : OI e lo w v xs) : OS tI e w (Iv lo w.heap.size) v xs := OS.of_oi h fun k hk => (World.ownsRow.lt h k hk).2
end
/-- All ints of a list bounded .. what a harness counts: its measure of size, its marks. -/
structure Hs (α : Type) where
  sz : α → Nat
  mark : Int → α → α
  cnt : α → Nat
def hI : Hs Int := ⟨fun _ => 0, fun k _ => k, fun _ => 1⟩
section
variable {α β : Type}
def Hs.mkL (h : Hs α) : Int → List α → List α
  | _, [] => []
  | k, x :: xs => h.mark k x :: h.mkL (k + h.cnt x) xs
def Hs.cntL (h : Hs α) : List α → Nat
  | [] => 0
  | x :: xs => h.cnt x + h.cntL xs
def Hs.szL (h : Hs α) : List α → Nat
  | [] => 0
  | x :: xs => h.sz x + h.szL xs
def Hs.sl (h : Hs α) : Hs (List α) := ⟨fun xs => xs.length + h.szL xs, h.mkL, h.cntL⟩
def Hs.prod (a : Hs α) (b : Hs β) : Hs (α × β) := ⟨fun x => a.sz x.1 + b.sz x.2, fun k x => (a.mark k x.1, b.mark (k + a.cnt x.1) x.2), fun x => a.cnt x.1 + b.cnt x.2⟩
theorem Hs.mkL_len (h : Hs α) (k : Int) (xs : List α) : (h.mkL k xs).length = xs.length := by
  induction xs generalizing k with
  | nil => rfl
  | cons x xs ih => simp [Hs.mkL, ih]
theorem Hs.cntL_take (h : Hs α) {xs : List α} {i : Nat} {x : α} (hx : xs[i]? = some x) : h.cntL (xs.take (i + 1)) = h.cntL (xs.take i) + h.cnt x := by
  induction xs generalizing i with
  | nil => simp at hx
  | cons y ys ih =>
    cases i with
    | zero => simp at hx; subst hx; simp [Hs.cntL]
    | succ i =>
      simp only [List.getElem?_cons_succ] at hx
      rw [List.take_succ_cons, List.take_succ_cons, Hs.cntL, Hs.cntL, ih hx]
      omega
theorem Hs.szL_take (h : Hs α) {xs : List α} {i : Nat} {x : α} (hx : xs[i]? = some x) : h.szL (xs.take (i + 1)) = h.szL (xs.take i) + h.sz x := by
  induction xs generalizing i with
  | nil => simp at hx
  | cons y ys ih =>
    cases i with
    | zero => simp at hx; subst hx; simp [Hs.szL]
    | succ i =>
      simp only [List.getElem?_cons_succ] at hx
      rw [List.take_succ_cons, List.take_succ_cons, Hs.szL, Hs.szL, ih hx]
      omega
theorem Hs.mkL_at (h : Hs α) {xs : List α} {i : Nat} {x : α} (k : Int) (hx : xs[i]? = some x) : (h.mkL k xs)[i]? = some (h.mark (k + h.cntL (xs.take i)) x) := by
  induction xs generalizing i k with
  | nil => simp at hx
  | cons y ys ih =>
    cases i with
    | zero => simp at hx; subst hx; simp [Hs.mkL, Hs.cntL]
    | succ i =>
      simp only [List.getElem?_cons_succ] at hx
      rw [Hs.mkL, List.getElem?_cons_succ, ih _ hx, List.take_succ_cons, Hs.cntL]
      congr 2
      omega
theorem Hs.cntL_mono (h : Hs α) (xs : List α) (i : Nat) : h.cntL (xs.take i) ≤ h.cntL xs := by
  induction xs generalizing i with
  | nil => simp
  | cons y ys ih =>
    cases i with
    | zero => simp [Hs.cntL]
    | succ i => rw [List.take_succ_cons, Hs.cntL, Hs.cntL]; have := ih i; omega
theorem Hs.szL_mono (h : Hs α) (xs : List α) (i : Nat) : h.szL (xs.take i) ≤ h.szL xs := by
  induction xs generalizing i with
  | nil => simp
  | cons y ys ih =>
    cases i with
    | zero => simp [Hs.szL]
    | succ i => rw [List.take_succ_cons, Hs.szL, Hs.szL]; have := ih i; omega
theorem Hs.szL_at (h : Hs α) {xs : List α} {i : Nat} {x : α} (hx : xs[i]? = some x) : h.szL (xs.take i) + h.sz x ≤ h.szL xs := by
  rw [← h.szL_take hx]
  exact h.szL_mono _ _
theorem Hs.cntL_at (h : Hs α) {xs : List α} {i : Nat} {x : α} (hx : xs[i]? = some x) : h.cntL (xs.take i) + h.cnt x ≤ h.cntL xs := by
  rw [← h.cntL_take hx]
  exact h.cntL_mono _ _
end
end Go.Proofs.YtecdendjlgohjaaGreatDoor
namespace Go.Proofs.YtecdendjlgohjaaGreatDoor
open Go.RowKit
set_option maxHeartbeats 400000
set_option maxRecDepth 100000
/-! []int64 -/
abbrev hS : Hs (List Int) := hI.sl
end Go.Proofs.YtecdendjlgohjaaGreatDoor
namespace Go.Proofs.YtecdendjlgohjaaGreatDoor
open Go.RowKit
set_option maxHeartbeats 1000000
set_option maxRecDepth 100000
section
variable {α : Type} {t : Ty α} {e : TypeId} {w : World} {B : Nat} {F : Nat → Prop} {v : Value} {xs : List α}
theorem sl_R : (t.sl e).R w B [v] xs ↔ RS t w B v xs := ⟨fun ⟨v, h, h'⟩ => by injection h with h; rw [h]; exact h', fun h => ⟨_, rfl, h⟩⟩
theorem sl_O : (t.sl e).O w F [v] xs ↔ OS t e w F v xs := ⟨fun ⟨v, h, h'⟩ => by injection h with h; rw [h]; exact h', fun h => ⟨_, rfl, h⟩⟩
end
theorem keptB_all {B : Nat} {w w1 w2 : World} (h1 : Below B w1 w2) (hB : B = w1.heap.size) (h0 : Below w.heap.size w w1) : Below w.heap.size w w2 := by
  subst hB
  exact h0.trans (h1.mono h0.size)
theorem keptB {B : Nat} {w w1 w2 : World} {b o : Nat} {u : Value} (h1 : Below B w1 w2) (hB : B = w1.heap.size) (h0 : Below w.heap.size w w1) (h : w.cell? ⟨b, o, none⟩ = some u) (hb : b < w.heap.size) : w2.cell? ⟨b, o, none⟩ = some u := by
  subst hB
  rw [h1.cell (by simpa using Nat.lt_of_lt_of_le hb h0.size), h0.cell (by simpa using hb)]
  exact h
theorem OS.openAt {α : Type} {t : Ty α} {e : TypeId} {w : World} {F : Nat → Prop} {v : Value} {xs : List α} (h : OS t e w F v xs) {k : Nat} {x : α} (hx : xs[k]? = some x) : ∃ css Fs, OH t e w F v xs css Fs k ∧ ∃ cs, css[k]? = some cs ∧ t.O w (Fs k) cs x := by
  obtain ⟨hk, rfl⟩ := List.getElem?_eq_some_iff.1 hx
  exact h.open hk
theorem RS.atX {α : Type} {t : Ty α} {w : World} {B : Nat} {v : Value} {xs : List α} (h : RS t w B v xs) {k : Nat} {x : α} (hx : xs[k]? = some x) : ∃ b o c cs, v = .slice (some ⟨b, o, none⟩) xs.length c ∧ b < B ∧ cs.length = t.s ∧ t.R w B cs x ∧ ∀ j u, cs[j]? = some u → w.cell? ⟨b, o + k * t.s + j, none⟩ = some u := by
  obtain ⟨hk, rfl⟩ := List.getElem?_eq_some_iff.1 hx
  exact h.at hk
end Go.Proofs.YtecdendjlgohjaaGreatDoor
namespace Go.Proofs.YtecdendjlgohjaaGreatDoor
open Go.RowKit
set_option maxHeartbeats 1000000
set_option maxRecDepth 100000
theorem ei_sd : EI Tryz.prog 42 47 (.agg #[.int .i64 0, .int .i64 0]) 2 16 := ⟨Tryz.underlying42, by kernel_rfl, rfl, by decide⟩
def sd (p : (Int × Int)) : List Value := [.int .i64 p.1, .int .i64 p.2]
theorem sd_len (p : (Int × Int)) : (sd p).length = 2 := rfl
abbrev tSd : Ty (Int × Int) := Ty.flat 2 (by decide) (0, 0) sd sd_len (by simp [sd, Value.oneCell'])
abbrev hSd : Hs (Int × Int) := hI.prod hI
abbrev tSdS : Ty (List (Int × Int)) := tSd.sl 47
abbrev hSdS : Hs (List (Int × Int)) := hSd.sl
theorem hSd_szL (xs : List (Int × Int)) : hSd.szL xs = 0 := by
  induction xs with
  | nil => rfl
  | cons x xs ih => rw [Hs.szL, ih]; rfl
theorem hSd_cntL (xs : List (Int × Int)) : hSd.cntL xs = 2 * xs.length := by
  induction xs with
  | nil => rfl
  | cons x xs ih =>
    rw [Hs.cntL, ih, List.length_cons]
    show (1 + 1) + _ = _
    omega
theorem hSdS_sz (xs : List (Int × Int)) : hSdS.sz xs = xs.length := by show xs.length + hSd.szL xs = _; rw [hSd_szL]; rfl
theorem hSdS_cnt (xs : List (Int × Int)) : hSdS.cnt xs = 2 * xs.length := hSd_cntL xs
theorem mark_sd (k : Int) (x : (Int × Int)) : hSd.mark k x = (k, k + 1) := by
  simp [Hs.prod, hI]
  try omega
theorem nf_eq_Send (p0 p1 : Int) (w : World) :
    Calls Tryz.prog 86 #[.agg #[.int .i64 p0, .int .i64 p1], .agg #[.int .i64 p0, .int .i64 p1]] w fun e w' => e = .returned (.bool true) ∧ Below w.heap.size w w' := by
  go_enter Tryz.func86, Tryz.ntmps86
  go_wp2
  go_ret
  exact ⟨rfl, ((Below.refl _ _).alloc (Nat.le_refl _) _).alloc (by simp) _⟩
theorem nf_eq_SdS_ (A A' : Option Addr) (n c n' c' : Nat) (xs : List (Int × Int)) (w : World) (hx : tSdS.R w w.heap.size [.slice A n c] xs) (hy : tSdS.R w w.heap.size [.slice A' n' c'] xs) (hn : hSdS.sz xs ≤ 100000000) :
    Calls Tryz.prog 71 #[.slice A n c, .slice A' n' c'] w fun e w' => e = .returned (.bool true) ∧ Below w.heap.size w w' := by
  have hr := sl_R.1 hx
  have hr' := sl_R.1 hy
  obtain rfl : xs.length = n := hr.cap.1
  obtain rfl : xs.length = n' := hr'.cap.1
  rw [hSdS_sz] at hn
  clear hx hy
  go_enter Tryz.func71, Tryz.ntmps71
  go_wp2
  go_loopw [5] (fun i wr => ∃ k : Nat, i = .int .i64 k ∧ k ≤ xs.length ∧ Below w.heap.size w wr) (fun i _ => xs.length - (intOf i).toNat)
  case atStart => exact ⟨0, rfl, by omega, Below.refl _ _⟩
  case round =>
    obtain ⟨k, rfl, hk, hb⟩ := hrel
    by_cases hlt : k < xs.length
    · have hX := Lib.hid (List.getElem?_eq_getElem hlt)
      obtain ⟨b, o, c1, cs, hv, hab, -, hE, hc⟩ := (hr.below hb).atX hX.out
      obtain ⟨b', o', c1', cs', hv', hab', -, hE', hc'⟩ := (hr'.below hb).atX hX.out
      simp only [Value.slice.injEq] at hv hv'
      obtain ⟨rfl, -, rfl⟩ := hv
      obtain ⟨rfl, -, rfl⟩ := hv'
      generalize xs[k] = x at hX hE hE'
      obtain ⟨p0, p1⟩ := x
      obtain rfl : cs = [.int .i64 p0, .int .i64 p1] := hE
      obtain rfl : cs' = [.int .i64 p0, .int .i64 p1] := hE'
      have hc0 : wr.cell? ⟨b, o + k * 2, none⟩ = some (.int .i64 p0) := hc 0 _ rfl
      have hc1 : wr.cell? ⟨b, o + k * 2 + 1, none⟩ = some (.int .i64 p1) := hc 1 _ rfl
      have hd0 : wr.cell? ⟨b', o' + k * 2, none⟩ = some (.int .i64 p0) := hc' 0 _ rfl
      have hd1 : wr.cell? ⟨b', o' + k * 2 + 1, none⟩ = some (.int .i64 p1) := hc' 1 _ rfl
      have hbr : b < wr.heap.size := Nat.lt_of_lt_of_le hab hb.size
      have hbr' : b' < wr.heap.size := Nat.lt_of_lt_of_le hab' hb.size
      clear hc hc'
      go_wp2
      go_region_held3 (fun w' => Below wr.heap.size wr w' ∧ w'.cell? ⟨b, o + k * 2, none⟩ = some (.int .i64 p0) ∧ w'.cell? ⟨b, o + k * 2 + 1, none⟩ = some (.int .i64 p1) ∧ w'.cell? ⟨b', o' + k * 2, none⟩ = some (.int .i64 p0) ∧ w'.cell? ⟨b', o' + k * 2 + 1, none⟩ = some (.int .i64 p1))
        (first
          | exact ⟨below_drewN (Below.refl _ _) _, hc0, hc1, hd0, hd1⟩
          | exact ⟨keptB_all bel2 rfl (And.left (by assumption)), keptB bel2 rfl (And.left (by assumption)) hc0 hbr, keptB bel2 rfl (And.left (by assumption)) hc1 hbr, keptB bel2 rfl (And.left (by assumption)) hd0 hbr', keptB bel2 rfl (And.left (by assumption)) hd1 hbr'⟩)
        (first | (go_at_call 86; refine (nf_eq_Send _ _ _).mono ?_; rintro e w2 ⟨rfl, bel2⟩))
      go_wp2
      go_roundw
      case rel => exact ⟨k + 1, by go_num, by omega, hb.trans ((keptB_all bel2 rfl (below_drewN (Below.refl _ _) _)).mono hb.size)⟩
      case measure => simp [intOf]; omega
    · go_wp2
      go_ret
      exact ⟨rfl, hb⟩
theorem nf_mark_SdS_ (A : Option Addr) (n c : Nat) (k : Int) (xs : List (Int × Int)) (w : World) (F : Nat → Prop) (hx : tSdS.O w F [.slice A n c] xs) (hk : 0 ≤ k ∧ k + (hSdS.cnt xs : Int) ≤ 1000000000) :
    Calls Tryz.prog 52 #[.slice A n c, .int .i64 k] w fun e w' => e = .returned (.int .i64 (k + hSdS.cnt xs)) ∧ tSdS.O w' F [.slice A n c] (hSdS.mark k xs) ∧ Chg F w w' := by
  have ow := sl_O.1 hx
  obtain rfl : xs.length = n := ow.read.cap.1
  rw [hSdS_cnt] at *
  clear hx
  go_enter Tryz.func52, Tryz.ntmps52
  go_wp2
  go_loopw [1, 5] (fun q i wr => ∃ j : Nat, i = .int .i64 j ∧ j ≤ xs.length ∧ q = .int .i64 (k + 2 * (j : Int)) ∧ OS tSd 47 wr F (.slice A xs.length c) ((hSd.mkL k xs).take j ++ xs.drop j) ∧ Chg F w wr)
    (fun _ i _ => xs.length - (intOf i).toNat)
  case atStart => exact ⟨0, rfl, by omega, by go_num, by simpa using ow, Chg.refl _ _⟩
  case round =>
    obtain ⟨j, rfl, hj, rfl, own, hg⟩ := hrel
    by_cases hlt : j < xs.length
    · have hml := Lib.hid (hSd.mkL_len k xs)
      have hX := Lib.hid (List.getElem?_eq_getElem hlt)
      generalize xs[j] = x at hX
      obtain ⟨p0, p1⟩ := x
      have hyj := Lib.hid (show ((hSd.mkL k xs).take j ++ xs.drop j)[j]? = some (p0, p1) by rw [M.mid_at hml.out]; exact hX.out)
      obtain ⟨css, Fs, hole, cs, hcs, hE⟩ := own.openAt hyj.out
      obtain rfl : cs = [.int .i64 p0, .int .i64 p1] := hE
      obtain ⟨g, rfl, hFg, hFn, hgl, -⟩ := hole.form (List.getElem?_eq_some_iff.1 hyj.out).1
      have hmk := Lib.hid (show (hSd.mkL k xs)[j]? = some (k + 2 * (j : Int), k + 2 * (j : Int) + 1) by rw [hSd.mkL_at k hX.out, mark_sd, hSd_cntL, List.length_take, Nat.min_eq_left hj]; simp only [Option.some.injEq, Prod.mk.injEq]; omega)
      have q0 : wr.cell? ⟨g, j * 2, none⟩ = some (.int .i64 p0) := (hole.cell hcs (j := 0) rfl).1
      have r0 : wr.frozen? ⟨g, j * 2, none⟩ = false := (hole.cell hcs (j := 0) rfl).2
      have q1 : wr.cell? ⟨g, j * 2 + 1, none⟩ = some (.int .i64 p1) := (hole.cell hcs (j := 1) rfl).1
      have r1 : wr.frozen? ⟨g, j * 2 + 1, none⟩ = false := (hole.cell hcs (j := 1) rfl).2
      go_wp2
      go_roundw
      case rel =>
        have s0 := hole.set hcs 0 (by decide) (.int .i64 (k + 2 * (j : Int)))
        have c0 := hg.trans (Chg.set wr g (j * 2 + 0) (.int .i64 (k + 2 * (j : Int))) hFg)
        have s1 := s0.1.set s0.2 1 (by decide) (.int .i64 (k + 2 * (j : Int) + 1))
        have c1 := c0.trans (Chg.set _ g (j * 2 + 1) (.int .i64 (k + 2 * (j : Int) + 1)) hFg)
        have h3 := s1.1.fill s1.2 (y := (k + 2 * (j : Int), k + 2 * (j : Int) + 1)) rfl
        rw [M.set_mid hml.out hmk.out] at h3
        exact ⟨j + 1, by go_num, by omega, by go_num, h3, c1⟩
      case measure => simp [intOf]; omega
    · obtain rfl : xs.length = j := by omega
      go_wp2
      go_ret
      rw [List.take_of_length_le (by rw [Hs.mkL_len]; omega), List.drop_eq_nil_of_le (by omega), List.append_nil] at own
      exact ⟨by go_num, sl_O.2 own, hg⟩
theorem nf_held_SdS_ (A : Option Addr) (n c : Nat) (k : Int) (xs : List (Int × Int)) (w : World) (hx : tSdS.R w w.heap.size [.slice A n c] (hSdS.mark k xs)) (hk : 0 ≤ k ∧ k + (hSdS.cnt xs : Int) ≤ 1000000000) :
    Calls Tryz.prog 53 #[.slice A n c, .int .i64 k] w fun e w' => e = .returned (.int .i64 (k + hSdS.cnt xs)) ∧ Below w.heap.size w w' := by
  have hr : RS tSd w w.heap.size (.slice A n c) (hSd.mkL k xs) := sl_R.1 hx
  obtain rfl : xs.length = n := by rw [← hr.cap.1, Hs.mkL_len]
  have hml := Lib.hid (hSd.mkL_len k xs)
  rw [hSdS_cnt] at *
  clear hx
  go_enter Tryz.func53, Tryz.ntmps53
  go_wp2
  go_loop [1, 5] (fun q i => ∃ j : Nat, i = .int .i64 j ∧ j ≤ xs.length ∧ q = .int .i64 (k + 2 * (j : Int))) (fun _ i => xs.length - (intOf i).toNat)
  case atStart => exact ⟨0, rfl, by omega, by go_num⟩
  case round =>
    obtain ⟨j, rfl, hj, rfl⟩ := hrel
    by_cases hlt : j < xs.length
    · have hX := Lib.hid (List.getElem?_eq_getElem hlt)
      generalize xs[j] = x at hX
      have hmk := Lib.hid (show (hSd.mkL k xs)[j]? = some (k + 2 * (j : Int), k + 2 * (j : Int) + 1) by rw [hSd.mkL_at k hX.out, mark_sd, hSd_cntL, List.length_take, Nat.min_eq_left hj]; simp only [Option.some.injEq, Prod.mk.injEq]; omega)
      obtain ⟨b, o, c1, cs, hv, hab, -, hE, hc⟩ := hr.atX hmk.out
      simp only [Value.slice.injEq] at hv
      obtain ⟨rfl, -, rfl⟩ := hv
      obtain rfl : cs = [.int .i64 (k + 2 * (j : Int)), .int .i64 (k + 2 * (j : Int) + 1)] := hE
      have hc0 : w.cell? ⟨b, o + j * 2, none⟩ = some (.int .i64 (k + 2 * (j : Int))) := hc 0 _ rfl
      have hc1 : w.cell? ⟨b, o + j * 2 + 1, none⟩ = some (.int .i64 (k + 2 * (j : Int) + 1)) := hc 1 _ rfl
      clear hc
      go_wp2
      go_round
      case rel => exact ⟨j + 1, by go_num, by omega, by go_num⟩
      case measure => simp [intOf]; omega
    · obtain rfl : xs.length = j := by omega
      go_wp2
      go_ret
      exact ⟨by go_num, Below.refl _ _⟩
end Go.Proofs.YtecdendjlgohjaaGreatDoor
namespace Go.Proofs.YtecdendjlgohjaaGreatDoor
open Go.RowKit
set_option maxHeartbeats 2000000
set_option maxRecDepth 100000
/-- A text. -/
def tStr : Ty ByteArray where
  s := 1
  pos := Nat.one_pos
  zero := ⟨#[]⟩
  R _ _ cs x := cs = [.string x] ∧ x.size ≤ maxLen
  O _ _ cs x := cs = [.string x] ∧ x.size ≤ maxLen
  rlen := by rintro w B cs x ⟨rfl, _⟩; rfl
  keep := fun _ h => h
  more := fun _ h => h
  read := fun h => h
  okeep := fun _ h => h
  owide := fun _ h => h
  ocells := by rintro w F cs x ⟨rfl, _⟩ u hu; simp only [List.mem_singleton] at hu; subst hu; rfl
  oreal := fun h => h
def M.digs (k : Nat) : List UInt8 := if k = 0 then [] else M.digs (k / 10) ++ [UInt8.ofNat (48 + k % 10)]
theorem M.digs_len (k : Nat) : (M.digs k).length ≤ k := by
  induction k using Nat.strongRecOn with
  | _ k ih =>
    rw [M.digs]
    split
    · simp
    · have := ih (k / 10) (by omega)
      simp only [List.length_append, List.length_singleton]
      omega
/-- The text that a mark writes. -/
def M.markT (k : Int) : ByteArray := if k ≤ 0 then ⟨#[109, 48]⟩ else ⟨(109 :: M.digs k.toNat).toArray⟩
theorem M.markT_size (k : Int) : (M.markT k).size ≤ k.toNat + 2 := by
  unfold M.markT
  split
  · show 2 ≤ _; omega
  · have := M.digs_len k.toNat
    show ((109 :: M.digs k.toNat).toArray).size ≤ _
    simp only [List.size_toArray, List.length_cons]
    omega
def hStr : Hs ByteArray := ⟨fun s => s.size, fun k _ => M.markT k, fun _ => 1⟩
abbrev Strip := ByteArray × Int × List (Int × Int)
abbrev tSt : Ty Strip := tStr.prod (tI.prod tSdS)
abbrev hSt : Hs Strip := hStr.prod (hI.prod hSdS)
abbrev tM : Ty (List Strip) := tSt.sl 44
abbrev hM : Hs (List Strip) := hSt.sl
section
variable {w : World} {B : Nat} {F : Nat → Prop} {cs : List Value} {s : ByteArray} {l : Int} {xs : List (Int × Int)}
theorem open_Sd {cs : List Value} (h : tSdS.R w B cs xs) : ∃ A n c, cs = [.slice A n c] := by
  obtain ⟨v, rfl, hr⟩ := h
  obtain ⟨A, c, rfl⟩ := hr.shape
  exact ⟨_, _, _, rfl⟩
theorem st_R : tSt.R w B cs (s, l, xs) ↔ ∃ A n c, cs = [.string s, .int .i64 l, .slice A n c] ∧ s.size ≤ maxLen ∧ tSdS.R w B [.slice A n c] xs := by
  constructor
  · rintro ⟨c1, c2, rfl, ⟨rfl, h1⟩, c3, c4, rfl, h2, h3⟩
    obtain rfl : c3 = [.int .i64 l] := h2
    obtain ⟨A, n, c, rfl⟩ := open_Sd h3
    exact ⟨A, n, c, rfl, h1, h3⟩
  · rintro ⟨A, n, c, rfl, h1, h3⟩
    exact ⟨[.string s], _, rfl, ⟨rfl, h1⟩, [.int .i64 l], _, rfl, rfl, h3⟩
theorem st_O : tSt.O w F cs (s, l, xs) ↔ ∃ A n c, cs = [.string s, .int .i64 l, .slice A n c] ∧ s.size ≤ maxLen ∧ tSdS.O w F [.slice A n c] xs := by
  constructor
  · rintro ⟨c1, c2, F1, F2, rfl, ⟨rfl, h1⟩, ⟨c3, c4, F3, F4, rfl, h2, h3, f3, f4, _⟩, f1, f2, _⟩
    obtain rfl : c3 = [.int .i64 l] := h2
    obtain ⟨A, n, c, rfl⟩ := open_Sd (tSdS.read h3)
    exact ⟨A, n, c, rfl, h1, tSdS.owide (fun b hb => f2 b (f4 b hb)) h3⟩
  · rintro ⟨A, n, c, rfl, h1, h3⟩
    exact ⟨[.string s], _, fun _ => False, F, rfl, ⟨rfl, h1⟩, ⟨[.int .i64 l], _, fun _ => False, F, rfl, rfl, h3, fun _ h => h.elim, fun _ h => h, fun _ h => h.elim⟩, fun _ h => h.elim, fun _ h => h, fun _ h => h.elim⟩
theorem hSt_sz (s : ByteArray) (l : Int) (xs : List (Int × Int)) : hSt.sz (s, l, xs) = s.size + xs.length := by
  show s.size + (0 + hSdS.sz xs) = _
  rw [hSdS_sz, Nat.zero_add]
theorem hSt_cnt (s : ByteArray) (l : Int) (xs : List (Int × Int)) : hSt.cnt (s, l, xs) = 2 + 2 * xs.length := by
  show 1 + (1 + hSdS.cnt xs) = _
  rw [hSdS_cnt]
  omega
end
end Go.Proofs.YtecdendjlgohjaaGreatDoor
namespace Go.Proofs.YtecdendjlgohjaaGreatDoor
open Go.RowKit
end Go.Proofs.YtecdendjlgohjaaGreatDoor
namespace Go.Proofs.YtecdendjlgohjaaGreatDoor
open Go.RowKit
set_option maxHeartbeats 2000000
set_option maxRecDepth 100000
theorem ei_st : EI Tryz.prog 22 44 (.agg #[.string ⟨#[]⟩, .int .i64 0, .slice none 0 0]) 3 48 := ⟨Tryz.underlying22, by kernel_rfl, rfl, by decide⟩
theorem nf_eq_St (s : ByteArray) (l0 : Int) (A A' : Option Addr) (n c n' c' : Nat) (xs : List (Int × Int)) (w : World) (hx : tSdS.R w w.heap.size [.slice A n c] xs) (hy : tSdS.R w w.heap.size [.slice A' n' c'] xs) (hn : hSdS.sz xs ≤ 100000000) :
    Calls Tryz.prog 50 #[.agg #[.string s, .int .i64 l0, .slice A n c], .agg #[.string s, .int .i64 l0, .slice A' n' c']] w fun e w' => e = .returned (.bool true) ∧ Below w.heap.size w w' := by
  have hb : Below w.heap.size w ((w.alloc (.cells #[.string s, .int .i64 l0, .slice A n c] 44)).alloc (.cells #[.string s, .int .i64 l0, .slice A' n' c'] 44)) := ((Below.refl _ _).alloc (Nat.le_refl _) _).alloc (by simp) _
  have hx2 := tSdS.later hx hb
  have hy2 := tSdS.later hy hb
  go_enter Tryz.func50, Tryz.ntmps50
  go_wp2_with (go_at_call 71; refine (nf_eq_SdS_ _ _ _ _ _ _ _ _ hx2 hy2 hn).mono ?_; rintro e w2 ⟨rfl, bel2⟩)
  go_ret
  exact ⟨rfl, hb.trans (bel2.mono hb.size)⟩
theorem nf_eq_M_ (A A' : Option Addr) (n c n' c' : Nat) (xs : List Strip) (w : World) (hx : tM.R w w.heap.size [.slice A n c] xs) (hy : tM.R w w.heap.size [.slice A' n' c'] xs) (hn : hM.sz xs ≤ 100000000) :
    Calls Tryz.prog 25 #[.slice A n c, .slice A' n' c'] w fun e w' => e = .returned (.bool true) ∧ Below w.heap.size w w' := by
  have hr := sl_R.1 hx
  have hr' := sl_R.1 hy
  obtain rfl : xs.length = n := hr.cap.1
  obtain rfl : xs.length = n' := hr'.cap.1
  have hn1 : xs.length + hSt.szL xs ≤ 100000000 := hn
  clear hx hy hn
  go_enter Tryz.func25, Tryz.ntmps25
  go_wp2
  go_loopw [5] (fun i wr => ∃ k : Nat, i = .int .i64 k ∧ k ≤ xs.length ∧ Below w.heap.size w wr) (fun i _ => xs.length - (intOf i).toNat)
  case atStart => exact ⟨0, rfl, by omega, Below.refl _ _⟩
  case round =>
    obtain ⟨k, rfl, hk, hb⟩ := hrel
    by_cases hlt : k < xs.length
    · have hX := Lib.hid (List.getElem?_eq_getElem hlt)
      obtain ⟨b, o, c1, cs, hv, hab, -, hE, hc⟩ := (hr.below hb).atX hX.out
      obtain ⟨b', o', c1', cs', hv', hab', -, hE', hc'⟩ := (hr'.below hb).atX hX.out
      simp only [Value.slice.injEq] at hv hv'
      obtain ⟨rfl, -, rfl⟩ := hv
      obtain ⟨rfl, -, rfl⟩ := hv'
      have hU := hSt.szL_at hX.out
      generalize xs[k] = x at hX hE hE' hU
      obtain ⟨s, l0, ys⟩ := x
      rw [hSt_sz] at hU
      obtain ⟨A1, n1, c1, rfl, hs, hE⟩ := st_R.1 hE
      obtain ⟨A2, n2, c2, rfl, -, hE'⟩ := st_R.1 hE'
      have hc0 : wr.cell? ⟨b, o + k * 3, none⟩ = some (.string s) := hc 0 _ rfl
      have hc1 : wr.cell? ⟨b, o + k * 3 + 1, none⟩ = some (.int .i64 l0) := hc 1 _ rfl
      have hc2 : wr.cell? ⟨b, o + k * 3 + 2, none⟩ = some (.slice A1 n1 c1) := hc 2 _ rfl
      have hd0 : wr.cell? ⟨b', o' + k * 3, none⟩ = some (.string s) := hc' 0 _ rfl
      have hd1 : wr.cell? ⟨b', o' + k * 3 + 1, none⟩ = some (.int .i64 l0) := hc' 1 _ rfl
      have hd2 : wr.cell? ⟨b', o' + k * 3 + 2, none⟩ = some (.slice A2 n2 c2) := hc' 2 _ rfl
      have hbr : b < wr.heap.size := Nat.lt_of_lt_of_le hab hb.size
      have hbr' : b' < wr.heap.size := Nat.lt_of_lt_of_le hab' hb.size
      have hz := hSdS_sz ys
      have hz2 : hSdS.sz ys ≤ 100000000 := by omega
      have hF := tSdS.later (tSdS.more hb.size hE) (below_drewN (Below.refl _ _) 1)
      have hF' := tSdS.later (tSdS.more hb.size hE') (below_drewN (Below.refl _ _) 1)
      clear hc hc' hE hE' hz
      go_wp2
      go_region_held3 (fun w' => Below wr.heap.size wr w' ∧ w'.cell? ⟨b, o + k * 3, none⟩ = some (.string s) ∧ w'.cell? ⟨b, o + k * 3 + 1, none⟩ = some (.int .i64 l0) ∧ w'.cell? ⟨b, o + k * 3 + 2, none⟩ = some (.slice A1 n1 c1) ∧ w'.cell? ⟨b', o' + k * 3, none⟩ = some (.string s) ∧ w'.cell? ⟨b', o' + k * 3 + 1, none⟩ = some (.int .i64 l0) ∧ w'.cell? ⟨b', o' + k * 3 + 2, none⟩ = some (.slice A2 n2 c2))
        (first
          | exact ⟨below_drewN (Below.refl _ _) _, hc0, hc1, hc2, hd0, hd1, hd2⟩
          | exact ⟨keptB_all bel2 rfl (And.left (by assumption)), keptB bel2 rfl (And.left (by assumption)) hc0 hbr, keptB bel2 rfl (And.left (by assumption)) hc1 hbr, keptB bel2 rfl (And.left (by assumption)) hc2 hbr, keptB bel2 rfl (And.left (by assumption)) hd0 hbr', keptB bel2 rfl (And.left (by assumption)) hd1 hbr', keptB bel2 rfl (And.left (by assumption)) hd2 hbr'⟩)
        (first | (go_at_call 50; refine (nf_eq_St _ _ _ _ _ _ _ _ _ _ hF hF' hz2).mono ?_; rintro e w2 ⟨rfl, bel2⟩))
      go_wp2
      go_roundw
      case rel => exact ⟨k + 1, by go_num, by omega, hb.trans ((keptB_all bel2 rfl (below_drewN (Below.refl _ _) _)).mono hb.size)⟩
      case measure => simp [intOf]; omega
    · go_wp2
      go_ret
      exact ⟨rfl, hb⟩
end Go.Proofs.YtecdendjlgohjaaGreatDoor
