import Derived.Test.YtffhodocjjkkoaaGreatFnExactStemOfG4
import Derived.StillTail
import Derived.Deep.Quiet
import Derived.BigQuiet
import Derived.Lib.QuietBelow
import Derived.Test.YtffhodocjjkkoaaGreatFnExactStemOfG2
import Derived.Test.YtffhodocjjkkoaaGreatFnExactStemOfG1
import Derived.Test.YtffhodocjjkkoaaGreatFnExactStemOfG3
import Derived.StillTailTactics
set_option linter.unusedVariables false
set_option linter.unusedSimpArgs false
set_option maxRecDepth 100000
set_option maxHeartbeats 4000000
namespace Go.Proofs.YtffhodocjjkkoaaGreat
section
open Go.RowKit Go.Sort
def M.i_ (l : List Int) (j : Nat) : Int := (l[j]?).getD 0
def zaw (ns : List Node) (i : Nat) : Node := (ns[i]?).getD (0, 0, 0, [])
def zaf (cs : List (List Int)) (i : Nat) : List Int := (cs[i]?).getD []
def zfg (t : List Int) (x : Int) : Int := M.i_ t (((t.length : Int) * (x % 4294967296)) / 4294967296).toNat
def zi1 (x : Int) : Int := _root_.Go.bits .xor .i64 x 2734686208
def zd6 (s : Int) : Int := if s % 2 = 1 then wrap32 (zi1 (s % 4294967296 / 2)) else wrap32 (s % 4294967296 / 2)
def zah (x : Node) (tb : List (List Int)) (ins s : List Int) : Int :=
 if x.1 = 1 then M.i_ ins 0 else if x.1 = 2 then x.2.1 else if x.1 = 3 then wrap32 (M.i_ ins 0 + M.i_ ins 1) else if x.1 = 4 then wrap32 (M.i_ ins 0 - M.i_ ins 1) else
 if x.1 = 5 then wrap32 (x.2.1 * M.i_ ins 0) else if x.1 = 6 then M.i_ s 0 else if x.1 = 7 then wrap32 (M.i_ s 0 + M.i_ ins 0) else if x.1 = 8 then wrap32 (M.i_ ins 0 - M.i_ s 0) else
 if x.1 = 9 then wrap32 (M.i_ ins 0 * M.i_ ins 1) else if x.1 = 10 then M.i_ ins 0 / 2 ^ x.2.1.toNat else if x.1 = 11 then max (-x.2.1) (min x.2.1 (M.i_ ins 0)) else if x.1 = 12 then M.i_ s 0 else
 if x.1 = 13 then zfg (zaf tb x.2.1.toNat) (M.i_ ins 0) else if x.1 = 14 then M.i_ s 0 else if x.1 = 15 then (if 0 ≤ M.i_ ins 0 then M.i_ ins 1 else M.i_ ins 2) else
 if x.1 = 16 then (if 0 < M.i_ ins 1 then M.i_ ins 0 else M.i_ s 0) else wrap32 (M.i_ ins 0 + x.2.1 * M.i_ s 0)
def zak (x : Node) (ins s : List Int) (out : Int) : List Int :=
 if x.1 = 6 then s.drop 1 ++ [M.i_ ins 0] else if x.1 = 17 then s.drop 1 ++ [out] else if x.1 = 7 then [out] else if x.1 = 16 then [out] else if x.1 = 8 then [M.i_ ins 0] else
 if x.1 = 12 then [wrap32 (M.i_ s 0 + M.i_ ins 0)] else if x.1 = 14 then [zd6 (M.i_ s 0)] else []
def zcp (x : Node) : Nat := if x.1 = 6 then x.2.1.toNat else if x.1 = 17 then x.2.2.1.toNat else if x.1 = 7 then 1 else if x.1 = 8 then 1 else if x.1 = 16 then 1 else if x.1 = 12 then 1 else if x.1 = 14 then 1 else 0
def zbd (x : Node) : List Int := if x.1 = 12 then [x.2.1] else if x.1 = 14 then [x.2.1] else List.replicate (zcp x) 0
def za8 (x : Node) (fr vs : List Int) : List Int := if x.1 = 1 then [M.i_ fr x.2.1.toNat] else x.2.2.2.map fun f => M.i_ vs f.toNat
section
variable (ns : List Node) (tb : List (List Int)) (fr O : List Int)
def zan (t : Nat) : Nat := (M.i_ O t).toNat
def zc2 (cs : List (List Int)) (v0 : List Int) : Nat → List Int
 | 0 => v0
 | t + 1 => (zc2 cs v0 t).set (zan O t) (zah (zaw ns (zan O t)) tb (za8 (zaw ns (zan O t)) fr (zc2 cs v0 t)) (zaf cs (zan O t)))
def zbm (v0 : List Int) (c0 : List (List Int)) : Nat → List Int × List (List Int)
 | 0 => (v0, c0)
 | t + 1 =>
  if (zaw ns (zan O t)).1 = 6 then ((zbm v0 c0 t).1.set (zan O t) (M.i_ (zaf (zbm v0 c0 t).2 (zan O t)) 0), (zbm v0 c0 t).2)
  else ((zbm v0 c0 t).1.set (zan O t) (zah (zaw ns (zan O t)) tb (za8 (zaw ns (zan O t)) fr (zbm v0 c0 t).1) (zaf (zbm v0 c0 t).2 (zan O t))),
   (zbm v0 c0 t).2.set (zan O t) (zak (zaw ns (zan O t)) (za8 (zaw ns (zan O t)) fr (zbm v0 c0 t).1) (zaf (zbm v0 c0 t).2 (zan O t))
    (zah (zaw ns (zan O t)) tb (za8 (zaw ns (zan O t)) fr (zbm v0 c0 t).1) (zaf (zbm v0 c0 t).2 (zan O t)))))
def zc3 (vs : List Int) (c1 : List (List Int)) : Nat → List (List Int)
 | 0 => c1
 | t + 1 => if (zaw ns t).1 = 6 then (zc3 vs c1 t).set t (zak (zaw ns t) (za8 (zaw ns t) fr vs) (zaf (zc3 vs c1 t) t) 0) else zc3 vs c1 t
def zbh (cs : List (List Int)) : List Int := zc2 ns tb fr O cs (List.replicate ns.length 0) O.length
def zcj (cs : List (List Int)) : List (List Int) := (List.range ns.length).map fun i => zak (zaw ns i) (za8 (zaw ns i) fr (zbh ns tb fr O cs)) (zaf cs i) (M.i_ (zbh ns tb fr O cs) i)
end
structure M.Topo (ns : List Node) (O : List Int) : Prop where
 len : O.length = ns.length
 rng : ∀ t, t < O.length → 0 ≤ M.i_ O t ∧ M.i_ O t < ns.length
 new : ∀ s t, s < t → t < O.length → zan O s ≠ zan O t
 aft : ∀ t, t < O.length → ∀ f ∈ zbq (zaw ns (zan O t)), ∃ s, s < t ∧ f = M.i_ O s
theorem zgk {l : List Int} {k : Nat} (h : k < l.length) (x : Int) : M.i_ (l.set k x) k = x := by simp [M.i_, h]
theorem zfw {l : List Int} {k j : Nat} (h : k ≠ j) (x : Int) : M.i_ (l.set k x) j = M.i_ l j := by simp [M.i_, List.getElem?_set_ne h]
theorem zi2 {l : List (List Int)} {k : Nat} (h : k < l.length) (x : List Int) : zaf (l.set k x) k = x := by simp [zaf, h]
theorem zgl {l : List (List Int)} {k j : Nat} (h : k ≠ j) (x : List Int) : zaf (l.set k x) j = zaf l j := by simp [zaf, List.getElem?_set_ne h]
theorem zqi {a b : List Int} (hl : a.length = b.length) (h : ∀ j, j < a.length → M.i_ a j = M.i_ b j) : a = b := by
 apply List.ext_getElem hl
 intro i h1 h2
 have := h i h1
 simpa [M.i_, h1, h2] using this
theorem zqj {a b : List (List Int)} (hl : a.length = b.length) (h : ∀ j, j < a.length → zaf a j = zaf b j) : a = b := by
 apply List.ext_getElem hl
 intro i h1 h2
 have := h i h1
 simpa [zaf, h1, h2] using this
theorem zlh : ∀ (n : Nat) (l : List Nat), l.Nodup → (∀ x ∈ l, x < n) → l.length ≤ n := by
 intro n
 induction n with
 | zero =>
  intro l _ h
  cases l with
  | nil => simp
  | cons x xs => exact absurd (h x (List.mem_cons_self ..)) (by omega)
 | succ n ih =>
  intro l hd h
  by_cases hm : n ∈ l
  · have h1 := List.length_erase_of_mem hm
    have h2 := ih (l.erase n) (hd.erase n) (fun x hx => by
     rw [List.Nodup.mem_erase_iff hd] at hx
     have := h x hx.2
     omega)
    have h3 : 0 < l.length := List.length_pos_of_mem hm
    omega
  · have h2 := ih l hd (fun x hx => by
     have := h x hx
     rcases Nat.lt_succ_iff_lt_or_eq.1 this with h3 | h3
     · exact h3
     · subst h3; exact absurd hx hm)
    omega
section
variable {ns : List Node} {tb : List (List Int)} {fr O : List Int}
theorem M.Topo.all (h : M.Topo ns O) {j : Nat} (hj : j < ns.length) : ∃ t, t < O.length ∧ zan O t = j := by
 rcases Classical.em (∃ t, t < O.length ∧ zan O t = j) with h1 | h1
 · exact h1
 · exfalso
   have hnd : (j :: (List.range O.length).map (zan O)).Nodup := by
    rw [List.nodup_cons]
    refine ⟨fun hm => ?_, ?_⟩
    · obtain ⟨t, ht, e⟩ := List.mem_map.1 hm
      exact h1 ⟨t, List.mem_range.1 ht, e⟩
    · rw [List.nodup_iff_pairwise_ne, List.pairwise_map]
      refine List.Pairwise.imp_of_mem ?_ (List.pairwise_lt_range (n := O.length))
      intro a b _ hb hab
      exact h.new a b hab (List.mem_range.1 hb)
   have := zlh ns.length _ hnd (fun x hx => by
    rcases List.mem_cons.1 hx with rfl | hx
    · exact hj
    · obtain ⟨t, ht, rfl⟩ := List.mem_map.1 hx
      have := h.rng t (List.mem_range.1 ht)
      show (M.i_ O t).toNat < _
      omega)
   simp [h.len] at this
   omega
theorem zi3 (cs : List (List Int)) (v0 : List Int) (t : Nat) : (zc2 ns tb fr O cs v0 t).length = v0.length := by
 induction t with
 | zero => rfl
 | succ t ih => rw [zc2, List.length_set, ih]
theorem zli (h : M.Topo ns O) (cs : List (List Int)) (v0 : List Int) {s t t' : Nat} (hs : s < t) (ht : t ≤ t') (ht' : t' ≤ O.length) :
 M.i_ (zc2 ns tb fr O cs v0 t') (zan O s) = M.i_ (zc2 ns tb fr O cs v0 t) (zan O s) := by
 induction t' with
 | zero =>
  obtain rfl : t = 0 := by omega
  rfl
 | succ q ih =>
  rcases Nat.lt_or_ge q t with h1 | h1
  · obtain rfl : t = q + 1 := by omega
    rfl
  · rw [zc2, zfw (fun e => h.new s q (by omega) (by omega) e.symm)]
    exact ih h1 (by omega)
theorem zlj {x : Node} {a b : List Int} (h : x.1 ≠ 1 → ∀ f ∈ x.2.2.2, M.i_ a f.toNat = M.i_ b f.toNat) : za8 x fr a = za8 x fr b := by
 rw [za8, za8]
 split
 · rfl
 · rename_i h1
   exact List.map_congr_left (h h1)
theorem zlk {x : Node} (h : x.1 ≠ 6) : zbq x = x.2.2.2 := by rw [zbq, if_neg h]
theorem zi4 {x : Node} (h : x.1 = 6) (tb : List (List Int)) (a s : List Int) : zah x tb a s = M.i_ s 0 := by simp [zah, h]
theorem zqk {x : Node} (h : x.1 = 6) (a s : List Int) (o o' : Int) : zak x a s o = zak x a s o' := by simp [zak, h]
theorem zll (h : M.Topo ns O) (cs : List (List Int)) {t : Nat} (ht : t < O.length) :
 M.i_ (zbh ns tb fr O cs) (zan O t) = zah (zaw ns (zan O t)) tb (za8 (zaw ns (zan O t)) fr (zbh ns tb fr O cs)) (zaf cs (zan O t)) := by
 have hr := h.rng t ht
 rw [zbh, zli h cs _ (s := t) (t := t + 1) (by omega) (by omega) (Nat.le_refl _)]
 show M.i_ ((zc2 ns tb fr O cs _ t).set _ _) _ = _
 rw [zgk (by rw [zi3, List.length_replicate]; show (M.i_ O t).toNat < _; omega)]
 by_cases h6 : (zaw ns (zan O t)).1 = 6
 · rw [zi4 h6, zi4 h6]
 · rw [zlj]
   intro _ f hf
   obtain ⟨s, hs, rfl⟩ := h.aft t ht f (by rw [zlk h6]; exact hf)
   exact (zli h cs _ (s := s) (t := t) (t' := O.length) hs (by omega) (Nat.le_refl _)).symm
theorem zlm (v0 : List Int) (c0 : List (List Int)) (t : Nat) : (zbm ns tb fr O v0 c0 t).1.length = v0.length ∧ (zbm ns tb fr O v0 c0 t).2.length = c0.length := by
 induction t with
 | zero => exact ⟨rfl, rfl⟩
 | succ t ih =>
  rw [zbm]
  split
  · exact ⟨by rw [List.length_set]; exact ih.1, ih.2⟩
  · exact ⟨by rw [List.length_set]; exact ih.1, by rw [List.length_set]; exact ih.2⟩
theorem zql (h : M.Topo ns O) (v0 : List Int) (cs : List (List Int)) (hv : v0.length = ns.length) (hc : cs.length = ns.length) : ∀ t, t ≤ O.length →
 (∀ s, s < t → M.i_ (zbm ns tb fr O v0 cs t).1 (zan O s) = M.i_ (zbh ns tb fr O cs) (zan O s)) ∧
 (∀ s, s < t → (zaw ns (zan O s)).1 ≠ 6 → zaf (zbm ns tb fr O v0 cs t).2 (zan O s) = zak (zaw ns (zan O s)) (za8 (zaw ns (zan O s)) fr (zbh ns tb fr O cs)) (zaf cs (zan O s)) (M.i_ (zbh ns tb fr O cs) (zan O s))) ∧
 (∀ j, ((∀ s, s < t → zan O s ≠ j) ∨ (zaw ns j).1 = 6) → zaf (zbm ns tb fr O v0 cs t).2 j = zaf cs j) := by
 intro t
 induction t with
 | zero => exact fun _ => ⟨fun s hs => absurd hs (by omega), fun s hs => absurd hs (by omega), fun _ _ => rfl⟩
 | succ t ih =>
  intro ht
  obtain ⟨i1, i2, i3⟩ := ih (by omega)
  obtain ⟨l1, l2⟩ := zlm (ns := ns) (tb := tb) (fr := fr) (O := O) v0 cs t
  have hr := h.rng t (by omega)
  have hi : zan O t < ns.length := by show (M.i_ O t).toNat < _; omega
  have hcel := i3 (zan O t) (.inl fun s hs => h.new s t hs (by omega))
  have hva := zll (tb := tb) (fr := fr) h cs (t := t) (by omega)
  rw [zbm]
  by_cases h6 : (zaw ns (zan O t)).1 = 6
  · rw [if_pos h6]
    refine ⟨fun s hs => ?_, fun s hs hn => ?_, fun j hj => ?_⟩
    · rcases Nat.lt_succ_iff_lt_or_eq.1 hs with h1 | rfl
      · show M.i_ (List.set _ _ _) _ = _
        rw [zfw (fun e => h.new s t h1 (by omega) e.symm)]
        exact i1 s h1
      · show M.i_ (List.set _ _ _) _ = _
        rw [zgk (by omega), hcel, hva, zi4 h6]
    · rcases Nat.lt_succ_iff_lt_or_eq.1 hs with h1 | rfl
      · exact i2 s h1 hn
      · exact absurd h6 hn
    · exact i3 j (hj.imp (fun h1 s hs => h1 s (by omega)) id)
  · rw [if_neg h6]
    have hins : za8 (zaw ns (zan O t)) fr (zbm ns tb fr O v0 cs t).1 = za8 (zaw ns (zan O t)) fr (zbh ns tb fr O cs) := by
     refine zlj fun _ f hf => ?_
     obtain ⟨s, hs, rfl⟩ := h.aft t (by omega) f (by rw [zlk h6]; exact hf)
     exact i1 s hs
    refine ⟨fun s hs => ?_, fun s hs hn => ?_, fun j hj => ?_⟩
    · rcases Nat.lt_succ_iff_lt_or_eq.1 hs with h1 | rfl
      · show M.i_ (List.set _ _ _) _ = _
        rw [zfw (fun e => h.new s t h1 (by omega) e.symm)]
        exact i1 s h1
      · show M.i_ (List.set _ _ _) _ = _
        rw [zgk (by omega), hcel, hins, hva]
    · rcases Nat.lt_succ_iff_lt_or_eq.1 hs with h1 | rfl
      · show zaf (List.set _ _ _) _ = _
        rw [zgl (fun e => h.new s t h1 (by omega) e.symm)]
        exact i2 s h1 hn
      · show zaf (List.set _ _ _) _ = _
        rw [zi2 (by omega), hcel, hins, hva]
    · show zaf (List.set _ _ _) _ = _
      rcases hj with h1 | h1
      · rw [zgl (h1 t (by omega))]
        exact i3 j (.inl fun s hs => h1 s (by omega))
      · rw [zgl (fun e => h6 (by rw [e]; exact h1))]
        exact i3 j (.inr h1)
theorem zi5 (vs : List Int) (c1 : List (List Int)) (t : Nat) : (zc3 ns fr vs c1 t).length = c1.length := by
 induction t with
 | zero => rfl
 | succ t ih =>
  rw [zc3]
  split
  · rw [List.length_set, ih]
  · exact ih
theorem zqm (vs : List Int) (c1 : List (List Int)) : ∀ t, t ≤ c1.length → ∀ j, zaf (zc3 ns fr vs c1 t) j = if j < t ∧ (zaw ns j).1 = 6 then zak (zaw ns j) (za8 (zaw ns j) fr vs) (zaf c1 j) 0 else zaf c1 j := by
 intro t
 induction t with
 | zero => intro _ j; rw [if_neg (by omega)]; rfl
 | succ t ih =>
  intro ht j
  have hl := zi5 (ns := ns) (fr := fr) vs c1 t
  rw [zc3]
  split
  · rename_i h6
    by_cases hj : t = j
    · subst hj
      rw [zi2 (by omega), if_pos ⟨by omega, h6⟩, ih (by omega), if_neg (by omega)]
    · rw [zgl hj, ih (by omega)]
      by_cases hq : j < t ∧ (zaw ns j).1 = 6
      · rw [if_pos hq, if_pos ⟨by omega, hq.2⟩]
      · rw [if_neg hq, if_neg (fun e => hq ⟨by omega, e.2⟩)]
  · rename_i h6
    rw [ih (by omega)]
    by_cases hq : j < t ∧ (zaw ns j).1 = 6
    · rw [if_pos hq, if_pos ⟨by omega, hq.2⟩]
    · rw [if_neg hq, if_neg (fun e => by
       by_cases hj : j = t
       · subst hj; exact h6 e.2
       · exact hq ⟨by omega, e.2⟩)]
theorem zqn (h : M.Topo ns O) (v0 : List Int) (cs : List (List Int)) (hv : v0.length = ns.length) (hc : cs.length = ns.length) :
 (zbm ns tb fr O v0 cs O.length).1 = zbh ns tb fr O cs ∧ zc3 ns fr (zbh ns tb fr O cs) (zbm ns tb fr O v0 cs O.length).2 ns.length = zcj ns tb fr O cs := by
 obtain ⟨i1, i2, i3⟩ := zql (tb := tb) (fr := fr) h v0 cs hv hc O.length (Nat.le_refl _)
 obtain ⟨l1, l2⟩ := zlm (ns := ns) (tb := tb) (fr := fr) (O := O) v0 cs O.length
 refine ⟨zqi (by rw [l1, zbh, zi3, List.length_replicate, hv]) fun j hj => ?_, zqj (by rw [zi5, l2, zcj, List.length_map, List.length_range, hc]) fun j hj => ?_⟩
 · obtain ⟨t, ht, rfl⟩ := h.all (j := j) (by omega)
   exact i1 t ht
 · rw [zi5, l2, hc] at hj
   have hn : zaf (zcj ns tb fr O cs) j = zak (zaw ns j) (za8 (zaw ns j) fr (zbh ns tb fr O cs)) (zaf cs j) (M.i_ (zbh ns tb fr O cs) j) := by simp [zcj, zaf, hj]
   rw [hn, zqm _ _ _ (by omega)]
   obtain ⟨t, ht, rfl⟩ := h.all hj
   by_cases h6 : (zaw ns (zan O t)).1 = 6
   · rw [if_pos ⟨hj, h6⟩, i3 _ (.inr h6)]
     exact zqk h6 _ _ _ _
   · rw [if_neg (fun e => h6 e.2)]
     exact i2 t ht h6
end
theorem zqo {ns : List Node} {out : List Int} {i : Nat} (h : zdl ns out = some i) : i < ns.length ∧ zdk ns out i = true := by
 rw [zdl, List.find?_range_eq_some] at h
 exact ⟨List.mem_range.1 h.2.1, h.1⟩
theorem zln {xs : List Int} {m : Int} : zap xs m = true ↔ m ∈ xs := by
 rw [zap, List.any_eq_true]
 constructor
 · rintro ⟨x, hx, e⟩
   rw [decide_eq_true_eq] at e
   exact e ▸ hx
 · exact fun h => ⟨m, h, by simp⟩
theorem zlo (ns : List Node) : ∀ t, (zba ns t).length ≤ t ∧ (∀ s, s < (zba ns t).length → 0 ≤ M.i_ (zba ns t) s ∧ M.i_ (zba ns t) s < ns.length) ∧
 (∀ s u, s < u → u < (zba ns t).length → zan (zba ns t) s ≠ zan (zba ns t) u) ∧
 (∀ u, u < (zba ns t).length → ∀ f ∈ zbq (zaw ns (zan (zba ns t) u)), ∃ s, s < u ∧ f = M.i_ (zba ns t) s) := by
 intro t
 induction t with
 | zero => exact ⟨by simp [zba], fun s hs => by simp [zba] at hs, fun s u _ hu => by simp [zba] at hu, fun u hu => by simp [zba] at hu⟩
 | succ t ih =>
  obtain ⟨j1, j2, j3, j4⟩ := ih
  rw [zba]
  cases hn : zdl ns (zba ns t) with
  | none => exact ⟨Nat.le_succ_of_le j1, j2, j3, j4⟩
  | some i =>
   obtain ⟨hi, hr⟩ := zqo hn
   simp only
   generalize hO : zba ns t = O at *
   have ea : ∀ s, s < O.length → M.i_ (O ++ [(i : Int)]) s = M.i_ O s := fun s hs => by simp [M.i_, List.getElem?_append_left hs]
   have eb : M.i_ (O ++ [(i : Int)]) O.length = i := by simp [M.i_]
   have hl : (O ++ [(i : Int)]).length = O.length + 1 := by simp
   rw [zdk, Bool.and_eq_true, Bool.not_eq_true'] at hr
   have hni : ∀ s, s < O.length → zan O s ≠ i := by
    intro s hs e
    have h2 := j2 s hs
    have e2 : M.i_ O s = (i : Int) := by have : (M.i_ O s).toNat = i := e; omega
    have h3 : zap O i = true := zln.2 (by
     rw [← e2]
     simp only [M.i_, List.getElem?_eq_getElem hs, Option.getD_some]
     exact List.getElem_mem hs)
    rw [hr.1] at h3
    cases h3
   refine ⟨by rw [hl]; omega, fun s hs => ?_, fun s u hsu hu => ?_, fun u hu f hf => ?_⟩
   · rw [hl] at hs
     rcases Nat.lt_succ_iff_lt_or_eq.1 hs with h1 | rfl
     · rw [ea s h1]; exact j2 s h1
     · rw [eb]; omega
   · rw [hl] at hu
     rcases Nat.lt_succ_iff_lt_or_eq.1 hu with h1 | rfl
     · show (M.i_ _ s).toNat ≠ (M.i_ _ u).toNat
       rw [ea s (by omega), ea u h1]
       exact j3 s u hsu h1
     · show (M.i_ _ s).toNat ≠ (M.i_ _ _).toNat
       rw [ea s hsu, eb]
       have := hni s hsu
       exact this
   · rw [hl] at hu
     rcases Nat.lt_succ_iff_lt_or_eq.1 hu with h1 | rfl
     · rw [show zan (O ++ [(i : Int)]) u = zan O u by show (M.i_ _ u).toNat = (M.i_ _ u).toNat; rw [ea u h1]] at hf
       obtain ⟨s, hs, rfl⟩ := j4 u h1 f hf
       exact ⟨s, hs, (ea s (by omega)).symm⟩
     · rw [show zan (O ++ [(i : Int)]) O.length = i by show (M.i_ _ _).toNat = i; rw [eb]; omega] at hf
       have h4 := List.all_eq_true.1 hr.2 f hf
       obtain ⟨s, hs⟩ := List.getElem?_of_mem (zln.1 h4)
       have hs2 := (List.getElem?_eq_some_iff.1 hs).1
       refine ⟨s, hs2, ?_⟩
       rw [ea s hs2, M.i_, hs]
       rfl
theorem zqp (ns : List Node) (t : Nat) : (zba ns t).length ≤ ns.length := by
 obtain ⟨_, j2, j3, _⟩ := zlo ns t
 have h := zlh ns.length ((List.range (zba ns t).length).map (zan (zba ns t))) (by
  rw [List.nodup_iff_pairwise_ne, List.pairwise_map]
  refine List.Pairwise.imp_of_mem ?_ (List.pairwise_lt_range (n := (zba ns t).length))
  intro a b _ hb hab
  exact j3 a b hab (List.mem_range.1 hb)) (fun x hx => by
   obtain ⟨u, hu, rfl⟩ := List.mem_map.1 hx
   have := j2 u (List.mem_range.1 hu)
   show (M.i_ _ u).toNat < _
   omega)
 simpa using h
theorem zqq {ns : List Node} (h : (zal ns).length = ns.length) : M.Topo ns (zal ns) := by
 obtain ⟨_, j2, j3, j4⟩ := zlo ns ns.length
 exact ⟨h, j2, j3, j4⟩
end
section
open Go
section
variable {P : Program} {ops : Array Oper} {md : Region.Mode} {D : World → Prop}
def noX : Exit → Act → World → Prop := fun _ _ _ => False
def zck (o : Oper) : Bool :=
 match o.op with
 | .move _ | .assign _ | .load .. | .fieldAddr .. | .indexAddr .. | .nilCheck _ | .binOp .. | .unOp .. | .pick .. | .slice .. | .convert .. | .extract .. => true
 | _ => false
def NE (s : Sem Next) : Prop := ∀ (P : Program) (w : World) (n : Next) (w' : World), s.run P w = .ok n w' → ∃ v, n = .value v
theorem NE.bind {α : Type} {s : Sem α} {k : α → Sem Next} (h : ∀ x, NE (k x)) : NE (s >>= k) := by
 intro P w n w' e
 rw [Sem.run_bind] at e
 cases hs : s.run P w with
 | ok x w2 => rw [hs] at e; exact h x P w2 n w' e
 | halt x w2 => rw [hs] at e; simp [Result.andThen] at e
theorem NE.value (v : Value) : NE (pure (.value v)) := by
 intro P w n w' e
 rw [Sem.run_pure] at e
 injection e with e
 exact ⟨v, e.symm⟩
theorem NE.v (s : Sem Value) : NE (do pure (Next.value (← s))) := NE.bind fun _ => NE.value _
theorem zqr {o : Oper} (h : zck o = true) (ρ : Operand → Value) : NE (execOp ρ o) := by
 obtain ⟨dst, op, type, pos, after, guard⟩ := o
 cases op <;> simp only [zck, Bool.false_eq_true] at h <;> simp only [execOp]
 case nilCheck x =>
  split
  · intro P w n w' e; simp [runtimePanic, Sem.run] at e
  · intro P w n w' e; simp [runtimePanic, Sem.run] at e
  · intro P w n w' e; simp [runtimePanic, Sem.run] at e
  · split
    · intro P w n w' e; simp [runtimePanic, Sem.run] at e
    · refine NE.bind fun p => NE.bind fun y => ?_
      split
      · exact NE.bind fun _ => NE.value _
      · exact NE.value _
    · exact NE.value _
  · exact NE.value _
 case pick c x y => exact NE.bind fun _ => NE.value _
 all_goals first | exact NE.v _ | exact NE.value _
def YieldsD (P : Program) (ops : Array Oper) (D : World → Prop) (o : Oper) (v : Value) (a : Act) : Prop :=
 (Region.wanted o (yielded ops a.tmps) = true ∧ ∀ w, D w → (execOp a.eval o).run P w = .ok (.value v) w) ∨
 (Region.wanted o (yielded ops a.tmps) = false ∧ v = undef)
theorem YieldsD.of_same {o : Oper} {v : Value} {a a' : Act} (hy : YieldsD P ops D o v a) (he : execOp a'.eval o = execOp a.eval o)
 (hw : Region.wanted o (yielded ops a'.tmps) = Region.wanted o (yielded ops a.tmps)) : YieldsD P ops D o v a' := by
 unfold YieldsD at *
 rw [he, hw]
 exact hy
theorem YieldsD.of_quiet {o : Oper} {a : Act} {v : Value} (hp : zck o = true) (h : ∀ w, D w → o.quietAt P a D w v) (w : World) (hw : D w) : (execOp a.eval o).run P w = .ok (.value v) w := by
 have h1 := h w hw
 have h2 := zqr hp a.eval P w
 unfold Oper.quietAt at h1
 generalize (execOp a.eval o).run P w = r at h1 h2
 cases r with
 | ok n w' =>
  obtain ⟨u, rfl⟩ := h2 n w' rfl
  simp only [Oper.quietUpon] at h1
  obtain ⟨e1, e2⟩ := h1
  rw [e1, e2]
 | halt x w' => simp only [Oper.quietUpon] at h1
theorem YieldsD.wpOp {i : Nat} {o : Oper} {v : Value} {a : Act} (hi : ops[i]? = some o) (hy : YieldsD P ops D o v a) {K : Act → World → Prop} {w : World} {Q : Exit → Act → World → Prop} (hD : D w) (h : K (a.put o.dst v) w) : wpOp P ops Q i K a w := by
 unfold Go.wpOp
 simp only [hi]
 rcases hy with ⟨hw, hv⟩ | ⟨hw, rfl⟩
 · simp only [hw, if_true, Oper.wp]
   rw [hv w hD]
   exact .inl h
 · simp only [hw, Bool.false_eq_true, if_false]; exact h
theorem zlp {j : Nat} {oi oj : Oper} {v : Value} (hj : ops[j]? = some oj) (hap : oi.apart ops oj = true)
 (hsi : ∀ cs b, oi.op ≠ .select cs b) (hsj : ∀ cs b, oj.op ≠ .select cs b) {K : Act → World → Prop} {a : Act} {w : World}
 (hy : YieldsD P ops D oi v a) (h : wpOp P ops noX j K (a.put oi.dst v) w) :
 wpOp P ops noX j (fun a' w' => YieldsD P ops D oi v a' ∧ K (a'.put oi.dst v) w') a w := by
 obtain ⟨h1, h2, h3⟩ := Oper.apart_spec hap
 have keep : ∀ (a : Act), YieldsD P ops D oi v a → ∀ u, YieldsD P ops D oi v (a.put oj.dst u) := fun a hy u =>
  hy.of_same (execOp_put oi hsi a oj.dst u h3) (wanted_put oi a oj.dst u h3)
 have keepD : ∀ d, YieldsD P ops D oi v { a with defers := d :: a.defers } := fun d => hy.of_same rfl rfl
 unfold wpOp at *
 simp only [hj] at *
 rw [wanted_put oj a oi.dst v h1] at h
 split
 · rename_i hw
   simp only [hw, if_true] at h
   rcases h with h | ⟨hasks, hlets⟩
   case inr => exact .inr ⟨by unfold Oper.asks at *; rw [execOp_put oj hsj a oi.dst v h1] at hasks; exact hasks, hlets⟩
   refine .inl ?_
   unfold Oper.wp at *
   rw [execOp_put oj hsj a oi.dst v h1] at h
   generalize (execOp a.eval oj).run P w = r at *
   cases r with
   | ok n w' =>
    cases n <;> simp only [Oper.upon] at h ⊢
    case value u => exact ⟨keep a hy u, by rw [← Act.put_comm a v u h2]; exact h⟩
    case skip => exact ⟨keep a hy _, by rw [← Act.put_comm a v undef h2]; exact h⟩
    case defer d =>
     refine ⟨keep _ (keepD d) _, ?_⟩
     rw [← Act.put_comm _ v undef h2, ← Act.put_defers]
     exact h
    case enter f args =>
     refine Calls.mono h fun e w'' he => ?_
     cases e with
     | returned u => exact ⟨keep a hy u, by rw [← Act.put_comm a v u h2]; exact he⟩
     | panicked c => exact he
     | outgrown => exact he
    case row row args => exact Rows.mono h fun u w'' he => ⟨keep a hy u, by rw [← Act.put_comm a v u h2]; exact he⟩
   | halt x w' =>
    cases x <;> simp only [Oper.upon] at h ⊢
    case panic u => exact h
 · rename_i hw
   simp only [hw] at h
   exact ⟨keep a hy _, by rw [← Act.put_comm a v undef h2]; exact h⟩
def upD (P : Program) (md : Region.Mode) (ops : Array Oper) (D : World → Prop) (T : Nat → Bool) (L : Array Bool → Act → World → Prop) : Nat → Array Bool → Act → World → Prop
 | 0, listed, a, w => D w ∧ L listed a w
 | f + 1, listed, a, w => D w ∧ Region.ready md ops listed ≠ [] ∧ ∀ i ∈ Region.ready md ops listed, T i = false ∧ wpOp P ops noX i (upD P md ops D T L f (listed.setIfInBounds i true)) a w
theorem zlq {i : Nat} {K : Act → World → Prop} {a : Act} {w : World} {Q : Exit → Act → World → Prop} (h : wpOp P ops noX i K a w) : wpOp P ops Q i K a w := by
 unfold wpOp at *
 split
 · rename_i ho; simp only [ho] at h; exact h
 · rename_i o ho
   simp only [ho] at h
   split
   · rename_i hw
     simp only [hw, if_true] at h
     rcases h with h | ⟨_, a2, w2, hl⟩
     · refine .inl ?_
       unfold Oper.wp at *
       generalize (execOp a.eval o).run P w = r at *
       cases r with
       | ok n w' =>
        cases n <;> simp only [Oper.upon] at h ⊢
        case value u => exact h
        case skip => exact h
        case defer d => exact h
        case enter f args =>
         refine Calls.mono h fun e w'' he => ?_
         cases e with
         | returned u => exact he
         | panicked c => exact he.elim
         | outgrown => obtain ⟨a3, w3, hl⟩ := he; exact hl.elim
        case row row args => exact h
       | halt x w' =>
        cases x <;> simp only [Oper.upon] at h ⊢
        case panic u => exact h.elim
     · exact hl.elim
   · rename_i hw
     simp only [hw] at h
     exact h
theorem zqs {T : Nat → Bool} {g : Nat} {L : Array Bool → Act → World → Prop} {Q : Exit → Act → World → Prop} (hL : ∀ listed a w, L listed a w → wpAny P md ops Q g listed a w) :
 ∀ (f : Nat) (listed : Array Bool) (a : Act) (w : World), upD P md ops D T L f listed a w → wpAny P md ops Q (f + g) listed a w := by
 intro f
 induction f with
 | zero => intro listed a w h; rw [Nat.zero_add]; exact hL _ _ _ h.2
 | succ f ih =>
  intro listed a w h
  rw [show f + 1 + g = (f + g) + 1 by omega]
  exact ⟨fun h0 => absurd h0 h.2.1, fun i hi => zlq (wpOp_mono (fun a' w' h' => ih _ a' w' h') (h.2.2 i hi).2)⟩
def zc8 (md : Region.Mode) (ops : Array Oper) : Nat → Nat → Nat → Bool
 | 0, _, _ => false
 | f + 1, t, i => match ops[t]? with
  | some ot => ot.after.any fun e => Region.binds md e && (e.on == i || zc8 md ops f e.on i)
  | none => false
def Closed (md : Region.Mode) (ops : Array Oper) (listed : Array Bool) : Prop :=
 ∀ j oj, ops[j]? = some oj → listed.getD j false = true → ∀ e ∈ oj.after, Region.binds md e = true → listed.getD e.on false = true
theorem Closed.set {listed : Array Bool} (h : Closed md ops listed) {i : Nat} (hi : i ∈ Region.ready md ops listed) : Closed md ops (listed.setIfInBounds i true) := by
 obtain ⟨_, oi, hoi, hall⟩ := mem_ready.1 hi
 intro j oj hj hl e he hb
 by_cases hij : i = j
 · subst hij
   have : oj = oi := Option.some.inj (hj.symm.trans hoi)
   subst this
   exact getD_set_true (hall e he hb)
 · rw [getD_set_ne false hij] at hl
   exact getD_set_true (h j oj hj hl e he hb)
theorem zlr {listed : Array Bool} (hc : Closed md ops listed) : ∀ (f t i : Nat) (ot : Oper), ops[t]? = some ot → (∀ e ∈ ot.after, Region.binds md e = true → listed.getD e.on false = true) → zc8 md ops f t i = true → listed.getD i false = true := by
 intro f
 induction f with
 | zero => intro t i ot _ _ h; simp [zc8] at h
 | succ f ih =>
  intro t i ot ho hall h
  simp only [zc8, ho] at h
  obtain ⟨e, he, hb⟩ := Array.any_eq_true'.1 h
  simp only [Bool.and_eq_true, Bool.or_eq_true, beq_iff_eq] at hb
  obtain ⟨hb1, hb2⟩ := hb
  have hl := hall e he hb1
  rcases hb2 with h2 | h2
  · rw [← h2]; exact hl
  · cases ho2 : ops[e.on]? with
    | none =>
     cases f with
     | zero => simp [zc8] at h2
     | succ f => simp [zc8, ho2] at h2
    | some o2 => exact ih e.on i o2 ho2 (fun e2 he2 hb2 => hc e.on o2 ho2 hl e2 he2 hb2) h2
theorem zqt {T : Nat → Bool} {i : Nat} {oi : Oper} {v : Value} {L : Array Bool → Act → World → Prop} (hi : ops[i]? = some oi) (hsel : Region.noSelect ops = true)
 (hwait : ∀ t, T t = true → zc8 md ops ops.size t i = true) (hTi : T i = false)
 (hdone : ∀ listed a w, L listed a w → ∀ j ∈ Region.ready md ops listed, T j = true) :
 ∀ (f : Nat) (listed : Array Bool) (a : Act) (w : World), Closed md ops listed →
  (∀ j oj, ops[j]? = some oj → j ≠ i → listed.getD j true = false → (∀ e ∈ oj.after, Region.binds md e = true → e.on ≠ i) → oi.apart ops oj = true) →
  i ∈ Region.ready md ops listed → YieldsD P ops D oi v a → D w →
  upD P md ops D T L f (listed.setIfInBounds i true) (a.put oi.dst v) w → upD P md ops D T L (f + 1) listed a w := by
 have late : ∀ (listed : Array Bool), Closed md ops listed → listed.getD i true = false → ∀ j ∈ Region.ready md ops listed, T j = false := by
  intro listed hcl hun j hj
  cases hT : T j with
  | false => rfl
  | true =>
   obtain ⟨_, oj, hoj, hall⟩ := mem_ready.1 hj
   have := zlr hcl ops.size j i oj hoj hall (hwait j hT)
   rw [getD_both hun] at this
   cases this
 intro f
 induction f with
 | zero =>
  intro listed a w hcl _ hr hy hD H
  refine ⟨hD, fun h => (by rw [h] at hr; cases hr), fun j hj => ?_⟩
  have hTj := late listed hcl (mem_ready.1 hr).1 j hj
  refine ⟨hTj, ?_⟩
  by_cases hji : j = i
  · subst hji
    exact hy.wpOp hi hD H
  · have := hdone _ _ _ H.2 j (ready_mono hj hji)
    rw [hTj] at this
    cases this
 | succ f ih =>
  intro listed a w hcl hfree hr hy hD H
  refine ⟨hD, fun h => (by rw [h] at hr; cases hr), fun j hj => ?_⟩
  refine ⟨late listed hcl (mem_ready.1 hr).1 j hj, ?_⟩
  by_cases hji : j = i
  · subst hji
    exact hy.wpOp hi hD H
  obtain ⟨hjun, oj, hoj, hall⟩ := mem_ready.1 hj
  have hnot : ∀ e ∈ oj.after, Region.binds md e = true → e.on ≠ i := fun e he hb heq => by
   have h1 := hall e he hb
   rw [heq, getD_both (mem_ready.1 hr).1] at h1
   cases h1
  have h2 := zlp hoj (hfree j oj hoj hji hjun hnot) (fun cs b => Region.noSelect_spec hsel i oi cs b hi) (fun cs b => Region.noSelect_spec hsel j oj cs b hoj) hy (H.2.2 j (ready_mono hj hji)).2
  refine wpOp_mono (fun a' w' h3 => ?_) h2
  obtain ⟨h3, h4⟩ := h3
  have hD' : D w' := by
   cases f with
   | zero => exact h4.1
   | succ f => exact h4.1
  refine ih (listed.setIfInBounds j true) a' w' (hcl.set hj) (fun k ok hk hki hun hno => hfree k ok hk hki ?_ hno) (ready_mono hr (Ne.symm hji)) h3 hD' ?_
  · by_cases hjk : j = k
    · subst hjk
      exact hjun
    · rwa [getD_set_ne true hjk] at hun
  · rw [Array.setIfInBounds_comm _ _ hji]
    exact h4
def zd7 (md : Region.Mode) (ops : Array Oper) : List Nat → Array Bool → Bool
 | [], listed => (Region.ready md ops listed).isEmpty
 | b :: bs, listed => decide (Region.ready md ops listed = [b]) && zd7 md ops bs (listed.setIfInBounds b true)
theorem zls {Q : Exit → Act → World → Prop} : ∀ (B : List Nat) (l : List Oper) (listed : Array Bool) (a : Act) (w : World), l.map some = B.map (ops[·]?) →
 zd7 md ops B listed = true → wpList P ops Q l a w → wpAny P md ops Q B.length listed a w := by
 intro B
 induction B with
 | nil =>
  intro l listed a w hl hB h
  obtain rfl : l = [] := by cases l with | nil => rfl | cons x xs => simp at hl
  exact ⟨by simpa [zd7] using hB, h⟩
 | cons b bs ih =>
  intro l listed a w hl hB h
  cases l with
  | nil => simp at hl
  | cons o l =>
   simp only [List.map_cons, List.cons.injEq] at hl
   simp only [zd7, Bool.and_eq_true, decide_eq_true_eq] at hB
   refine ⟨fun h1 => (by rw [hB.1] at h1; cases h1), fun i hi => ?_⟩
   rw [hB.1] at hi
   obtain rfl : i = b := by simpa using hi
   have hw : wpOp P ops Q i (wpList P ops Q l) a w := by unfold wpOp; simp only [← hl.1]; exact h
   exact wpOp_mono (fun a' w' h' => ih l _ a' w' hl.2 hB.2 h') hw
inductive Tr where
 | rest
 | one (b : Nat) (t : Tr)
 | two (b : Nat) (t : Tr) (b' : Nat) (t' : Tr)
def Tr.inB (l : List Nat) : Tr → Bool
 | .rest => true
 | .one b t => !l.contains b && t.inB l
 | .two b t b' t' => !l.contains b && !l.contains b' && t.inB l && t'.inB l
def zd8 (md : Region.Mode) (ops : Array Oper) (R : List Nat) : Nat → Tr → Array Bool → Bool
 | 0, .rest, listed => zd7 md ops R listed
 | m + 1, .one b t, listed => decide (Region.ready md ops listed = [b]) && zd8 md ops R m t (listed.setIfInBounds b true)
 | m + 1, .two b t b' t', listed => decide (Region.ready md ops listed = [b, b']) && zd8 md ops R m t (listed.setIfInBounds b true) && zd8 md ops R m t' (listed.setIfInBounds b' true)
 | _, _, _ => false
def seqT (P : Program) (l : List Oper) (D : World → Prop) (Q : Exit → Act → World → Prop) (lr : List Oper) : Tr → Act → World → Prop
 | .rest, a, w => wpList P l.toArray Q lr a w
 | .one b t, a, w => match l[b]? with
  | some o => wpList P l.toArray (fun x a' w' => x = .normal ∧ D w' ∧ seqT P l D Q lr t a' w') [o] a w
  | none => False
 | .two b t b' t', a, w => (match l[b]? with
  | some o => wpList P l.toArray (fun x a' w' => x = .normal ∧ D w' ∧ seqT P l D Q lr t a' w') [o] a w
  | none => False) ∧ (match l[b']? with
  | some o => wpList P l.toArray (fun x a' w' => x = .normal ∧ D w' ∧ seqT P l D Q lr t' a' w') [o] a w
  | none => False)
theorem zqu {o : Oper} {i : Nat} (hi : ops[i]? = some o) {K : Act → World → Prop} {a : Act} {w : World} (h : wpList P ops (fun x a' w' => x = .normal ∧ K a' w') [o] a w) : wpOp P ops noX i K a w := by
 unfold wpOp
 simp only [hi]
 unfold wpList at h
 split
 · rename_i hw
   simp only [hw, if_true] at h
   rcases h with h | ⟨_, a2, w2, hl, _⟩
   · refine .inl ?_
     unfold Oper.wp at *
     generalize (execOp a.eval o).run P w = r at *
     cases r with
     | ok n w' =>
      cases n <;> simp only [Oper.upon] at h ⊢
      case value u => exact h.2
      case skip => exact h.2
      case defer d => exact h.2
      case enter f args =>
       refine Calls.mono h fun e w'' he => ?_
       cases e with
       | returned u => exact he.2
       | panicked c => exact absurd he.1 (by simp)
       | outgrown => obtain ⟨a3, w3, hl, _⟩ := he; exact absurd hl (by simp)
      case row row args => exact Rows.mono h fun u w'' he => he.2
     | halt x w' =>
      cases x <;> simp only [Oper.upon] at h ⊢
      case panic u => exact absurd h.1 (by simp)
   · exact absurd hl (by simp)
 · rename_i hw
   simp only [hw] at h
   exact h.2
theorem zfx {l : List Oper} {b : Nat} {K : Act → World → Prop} {a : Act} {w : World} (h : match l[b]? with
 | some o => wpList P l.toArray (fun x a' w' => x = .normal ∧ K a' w') [o] a w
 | none => False) : wpOp P l.toArray noX b K a w := by
 cases ho : l[b]? with
 | none => rw [ho] at h; exact h.elim
 | some o => rw [ho] at h; exact zqu (ops := l.toArray) (by simpa using ho) h
theorem zqv {l : List Oper} {T : Nat → Bool} {Q : Exit → Act → World → Prop} {R : List Nat} {lr : List Oper} : ∀ (m : Nat) (t : Tr) (listed : Array Bool) (a : Act) (w : World),
 zd8 md l.toArray R m t listed = true → t.inB R = true → (∀ b, T b = R.contains b) → D w → seqT P l D Q lr t a w →
 upD P md l.toArray D T (fun listed' a' w' => zd7 md l.toArray R listed' = true ∧ wpList P l.toArray Q lr a' w') m listed a w := by
 intro m
 induction m with
 | zero =>
  intro t listed a w hB _ _ hD h
  cases t with
  | rest => exact ⟨hD, by simpa [zd8] using hB, h⟩
  | one b t => simp [zd8] at hB
  | two b t b' t' => simp [zd8] at hB
 | succ m ih =>
  intro t listed a w hB hI hT hD h
  cases t with
  | rest => simp [zd8] at hB
  | one b t =>
   simp only [zd8, Bool.and_eq_true, decide_eq_true_eq] at hB
   simp only [Tr.inB, Bool.and_eq_true, Bool.not_eq_true'] at hI
   refine ⟨hD, fun h1 => (by rw [hB.1] at h1; cases h1), fun i hi => ?_⟩
   rw [hB.1] at hi
   obtain rfl : i = b := by simpa using hi
   refine ⟨by rw [hT]; exact hI.1, ?_⟩
   exact wpOp_mono (fun a' w' h' => ih t _ a' w' hB.2 hI.2 hT h'.1 h'.2) (zfx (K := fun a' w' => D w' ∧ seqT P l D Q lr t a' w') h)
  | two b t b' t' =>
   simp only [zd8, Bool.and_eq_true, decide_eq_true_eq] at hB
   simp only [Tr.inB, Bool.and_eq_true, Bool.not_eq_true'] at hI
   refine ⟨hD, fun h1 => (by rw [hB.1.1] at h1; cases h1), fun i hi => ?_⟩
   rw [hB.1.1] at hi
   have hi' : i = b ∨ i = b' := by simpa using hi
   rcases hi' with rfl | rfl
   · refine ⟨by rw [hT]; exact hI.1.1.1, ?_⟩
     exact wpOp_mono (fun a' w' h' => ih t _ a' w' hB.1.2 hI.1.2 hT h'.1 h'.2) (zfx (K := fun a' w' => D w' ∧ seqT P l D Q lr t a' w') h.1)
   · refine ⟨by rw [hT]; exact hI.1.1.2, ?_⟩
     exact wpOp_mono (fun a' w' h' => ih t' _ a' w' hB.2 hI.2 hT h'.1 h'.2) (zfx (K := fun a' w' => D w' ∧ seqT P l D Q lr t' a' w') h.2)
def zhj (md : Region.Mode) (ops : Array Oper) (R : List Nat) (m : Nat) (t : Tr) : List Nat → Array Bool → Bool
 | [], listed => zd8 md ops R m t listed
 | i :: is, listed => (Region.ready md ops listed).contains i && Region.free md ops listed i && zhj md ops R m t is (listed.setIfInBounds i true)
theorem zqw {l : List Oper} {T : Nat → Bool} {Q : Exit → Act → World → Prop} {R : List Nat} {lr : List Oper} {m : Nat} {t : Tr} (hsel : Region.noSelect l.toArray = true) (hI : t.inB R = true) (hT : ∀ b, T b = R.contains b) :
 ∀ (F : List Nat) (k : List Oper) (listed : Array Bool) (a : Act) (w : World), k.map some = F.map (l.toArray[·]?) → k.all zck = true → Closed md l.toArray listed → zhj md l.toArray R m t F listed = true →
 (∀ i ∈ F, T i = false ∧ ∀ t, T t = true → zc8 md l.toArray l.toArray.size t i = true) → D w → wpQuiet P l.toArray D (fun a' => seqT P l D Q lr t a' w) k a →
 upD P md l.toArray D T (fun listed' a' w' => zd7 md l.toArray R listed' = true ∧ wpList P l.toArray Q lr a' w') (F.length + m) listed a w := by
 intro F
 induction F with
 | nil =>
  intro k listed a w hk _ hc hB _ hD h
  obtain rfl : k = [] := by cases k with | nil => rfl | cons x xs => simp at hk
  simp only [List.length_nil, Nat.zero_add]
  exact zqv m t listed a w hB hI hT hD h
 | cons i is ih =>
  intro k listed a w hk hp hc hB hW hD h
  cases k with
  | nil => simp at hk
  | cons o k =>
   simp only [List.map_cons, List.cons.injEq] at hk
   simp only [List.all_cons, Bool.and_eq_true] at hp
   simp only [zhj, Bool.and_eq_true] at hB
   obtain ⟨⟨hr, hf⟩, hB2⟩ := hB
   have hr' : i ∈ Region.ready md l.toArray listed := by simpa using hr
   have hq : qOp P l.toArray D i (wpQuiet P l.toArray D (fun a' => seqT P l D Q lr t a' w) k) a := by unfold qOp; simp only [← hk.1]; exact h
   obtain ⟨v, hy, hK⟩ := yieldsIn_of_qOp hk.1.symm hq
   have hy2 : YieldsD P l.toArray D o v a := by
    rcases hy with ⟨hw, h1⟩ | ⟨hw, rfl⟩
    · exact .inl ⟨hw, YieldsD.of_quiet hp.1 h1⟩
    · exact .inr ⟨hw, rfl⟩
   obtain ⟨hTi, hwait⟩ := hW i (by simp)
   rw [List.length_cons, show is.length + 1 + m = (is.length + m) + 1 by omega]
   refine zqt hk.1.symm hsel hwait hTi ?_ (is.length + m) listed a w hc (Region.free_spec hk.1.symm hf) hr' hy2 hD (ih k _ _ w hk.2 hp.2 (hc.set hr') hB2 (fun j hj => hW j (by simp [hj])) hD hK)
   intro listed' a' w' hL j hj
   cases hd : R with
   | nil =>
    rw [hd] at hL
    have := hL.1
    simp only [zd7, List.isEmpty_iff] at this
    rw [this] at hj
    cases hj
   | cons b bs =>
    rw [hd] at hL
    have := hL.1
    simp only [zd7, Bool.and_eq_true, decide_eq_true_eq] at this
    rw [this.1] at hj
    obtain rfl : j = b := by simpa using hj
    rw [hT, hd]
    simp
def zhk (md : Region.Mode) (ops : Array Oper) (F : List Nat) (m : Nat) (t : Tr) (R : List Nat) : List Nat → Array Bool → Bool
 | [], listed => zhj md ops R m t F listed
 | i :: is, listed => (Region.ready md ops listed).contains i && Region.free md ops listed i && zhk md ops F m t R is (listed.setIfInBounds i true)
def zi6 (md : Region.Mode) (ops : Array Oper) (A F : List Nat) (m : Nat) (t : Tr) (R : List Nat) : Bool :=
 Region.noSelect ops && decide (A.length + F.length + (m + R.length) = ops.size) && R.all (fun t => F.all fun i => zc8 md ops ops.size t i) && F.all (fun i => !R.contains i) && t.inB R &&
  zhk md ops F m t R A (Array.replicate ops.size false)
theorem zqx {l : List Oper} {Q : Exit → Act → World → Prop} (hsel : Region.noSelect l.toArray = true) (hQ : ∀ c a w, Q (.panic c) a w → False) {F R : List Nat} {m : Nat} {t : Tr} {lf lr : List Oper} (hlr : lr.map some = R.map (l.toArray[·]?)) (hlf : lf.map some = F.map (l.toArray[·]?)) (hpf : lf.all zck = true)
 (hreach : ∀ t ∈ R, ∀ i ∈ F, zc8 md l.toArray l.toArray.size t i = true) (hF : ∀ i ∈ F, R.contains i = false) (hI : t.inB R = true) :
 ∀ (A : List Nat) (la : List Oper) (listed : Array Bool) (a : Act) (w : World), la.map some = A.map (l.toArray[·]?) → la.all zck = true → Closed md l.toArray listed → zhk md l.toArray F m t R A listed = true →
 D w → wpQuiet P l.toArray (fun _ => True) (fun a' => wpQuiet P l.toArray D (fun a' => seqT P l D Q lr t a' w) lf a') la a → wpAny P md l.toArray Q (A.length + F.length + (m + R.length)) listed a w := by
 intro A
 induction A with
 | nil =>
  intro la listed a w hla _ hc hB hD h
  obtain rfl : la = [] := by cases la with | nil => rfl | cons x xs => simp at hla
  have h2 := zqw (md := md) (T := fun t => R.contains t) (Q := Q) (lr := lr) hsel hI (fun b => rfl) F lf listed a w hlf hpf hc hB (fun i hi => ⟨hF i hi, fun t ht => hreach t (by simpa using ht) i hi⟩) hD h
  have h3 := zqs (Q := Q) (g := R.length) (fun listed' a' w' hL => zls R lr listed' a' w' hlr hL.1 hL.2) _ _ _ _ h2
  rw [List.length_nil, Nat.zero_add, show F.length + (m + R.length) = F.length + m + R.length by omega]
  exact h3
 | cons i is ih =>
  intro la listed a w hla hp hc hB hD h
  cases la with
  | nil => simp at hla
  | cons o la =>
   simp only [List.map_cons, List.cons.injEq] at hla
   simp only [List.all_cons, Bool.and_eq_true] at hp
   simp only [zhk, Bool.and_eq_true] at hB
   obtain ⟨⟨hr, hf⟩, hB2⟩ := hB
   have hr' : i ∈ Region.ready md l.toArray listed := by simpa using hr
   have hq : qOp P l.toArray (fun _ => True) i (wpQuiet P l.toArray (fun _ => True) (fun a' => wpQuiet P l.toArray D (fun a' => seqT P l D Q lr t a' w) lf a') la) a := by unfold qOp; simp only [← hla.1]; exact h
   obtain ⟨v, hy, hK⟩ := yieldsIn_of_qOp hla.1.symm hq
   rw [List.length_cons, show is.length + 1 + F.length + (m + R.length) = (is.length + F.length + (m + R.length)) + 1 by omega]
   have hy2 : Yields P l.toArray o v a := by
    rcases hy with ⟨hw, h1⟩ | ⟨hw, rfl⟩
    · exact .inl ⟨hw, fun w => YieldsD.of_quiet hp.1 h1 w trivial⟩
    · exact .inr ⟨hw, rfl⟩
   exact wpAny_first hla.1.symm (Region.noSelect_spec hsel) (fun c a w h => (hQ c _ w h).elim) _ listed a w (Region.free_spec hla.1.symm hf) hr' hy2 (ih la _ _ w hla.2 hp.2 (hc.set hr') hB2 hD hK)
theorem zqy {i : Nat} {K K' : Act → World → Prop} {a : Act} {w : World} {Q Q' : Exit → Act → World → Prop} (hK : ∀ a w, K a w → K' a w) (hQ : ∀ x a w, Q x a w → Q' x a w) (h : wpOp P ops Q i K a w) : wpOp P ops Q' i K' a w := by
 unfold wpOp at *
 split
 · rename_i ho; simp only [ho] at h; exact hK _ _ h
 · rename_i o ho
   simp only [ho] at h
   split
   · rename_i hw
     simp only [hw, if_true] at h
     rcases h with h | ⟨h1, a2, w2, hl⟩
     · refine .inl ?_
       unfold Oper.wp at *
       generalize (execOp a.eval o).run P w = r at *
       cases r with
       | ok n w' =>
        cases n <;> simp only [Oper.upon] at h ⊢
        case value u => exact hK _ _ h
        case skip => exact hK _ _ h
        case defer d => exact hK _ _ h
        case enter f args =>
         refine Calls.mono h fun e w'' he => ?_
         cases e with
         | returned u => exact hK _ _ he
         | panicked c => exact hQ _ _ _ he
         | outgrown => obtain ⟨a3, w3, hl⟩ := he; exact ⟨a3, w3, hQ _ _ _ hl⟩
        case row row args => exact Rows.mono h fun u w'' he => hK _ _ he
       | halt x w' =>
        cases x <;> simp only [Oper.upon] at h ⊢
        case panic u => exact hQ _ _ _ h
     · exact .inr ⟨h1, a2, w2, hQ _ _ _ hl⟩
   · rename_i hw
     simp only [hw] at h
     exact hK _ _ h
theorem zlt {Q Q' : Exit → Act → World → Prop} (hQ : ∀ x a w, Q x a w → Q' x a w) : ∀ (f : Nat) (listed : Array Bool) (a : Act) (w : World), wpAny P md ops Q f listed a w → wpAny P md ops Q' f listed a w := by
 intro f
 induction f with
 | zero => intro listed a w h; exact ⟨h.1, hQ _ _ _ h.2⟩
 | succ f ih => intro listed a w h; exact ⟨fun h0 => hQ _ _ _ (h.1 h0), fun i hi => zqy (fun a w h => ih _ a w h) hQ (h.2 i hi)⟩
def zaj (l : List Oper) (is : List Nat) : List Oper := is.filterMap (l[·]?)
theorem zfy {l : List Oper} : ∀ {is : List Nat}, is.all (fun i => decide (i < l.length)) = true → (zaj l is).map some = is.map (l.toArray[·]?) := by
 intro is
 induction is with
 | nil => intro _; rfl
 | cons i is ih =>
  intro h
  simp only [List.all_cons, Bool.and_eq_true, decide_eq_true_eq] at h
  have e : l[i]? = some l[i] := List.getElem?_eq_getElem h.1
  have e2 : zaj l (i :: is) = l[i] :: zaj l is := by simp [zaj, e]
  rw [e2, List.map_cons, List.map_cons, ih h.2]
  congr 1
  simp [e]
theorem zqz {id : Nat} {Q : Exit → Act → World → Prop} {a : Act} {w : World} {l : List Oper} (A F : List Nat) (m : Nat) (t : Tr) (R : List Nat) (hm : P.follows .mixedOrders = true)
 (hB : (zi6 .any l.toArray A F m t R && (A ++ F ++ R).all (fun i => decide (i < l.length)) && (zaj l A).all zck && (zaj l F).all zck) = true) (hD : D { w with drawn := w.drawn + 1 })
 (h : wpQuiet P l.toArray (fun _ => True) (fun a' => wpQuiet P l.toArray D (fun a' => seqT P l D (fun x a w => x = .normal ∧ Q .normal a w) (zaj l R) t a' { w with drawn := w.drawn + 1 }) (zaj l F) a') (zaj l A) a) :
 (Code.region id l.toArray true).wp P Q a w := by
 simp only [Bool.and_eq_true, List.all_append] at hB
 obtain ⟨⟨⟨hP, ⟨hA, hF⟩, hBB⟩, hpA⟩, hpF⟩ := hB
 simp only [zi6, Bool.and_eq_true, decide_eq_true_eq] at hP
 obtain ⟨⟨⟨⟨⟨hsel, hsz⟩, hre⟩, hFn⟩, hI⟩, hgo⟩ := hP
 refine wp_region_any hm ?_
 have hc : Closed .any l.toArray (Array.replicate l.toArray.size false) := fun j oj _ hl => (by rw [getD_replicate_false] at hl; cases hl)
 have h2 := zqx (P := P) (md := .any) (D := D) (Q := fun x a w => x = .normal ∧ Q .normal a w) hsel (fun c a w h => by cases h.1) (F := F) (R := R) (m := m) (zfy hBB) (zfy hF) hpF
  (fun t ht i hi => List.all_eq_true.1 (List.all_eq_true.1 hre t ht) i hi) (fun i hi => by simpa using List.all_eq_true.1 hFn i hi) hI
  A (zaj l A) _ a _ (zfy hA) hpA hc hgo hD h
 rw [hsz] at h2
 exact zlt (fun x a w hx => by obtain ⟨rfl, h⟩ := hx; exact h) _ _ _ _ h2
theorem zcq {id : Nat} {Q : Exit → Act → World → Prop} {a : Act} {w : World} {l : List Oper} (A F : List Nat) (m : Nat) (t : Tr) (R : List Nat) (hm : P.follows .mixedOrders = true)
 (hB : (zi6 .any l.toArray A F m t R && (A ++ F ++ R).all (fun i => decide (i < l.length)) && (zaj l A).all zck && (zaj l F).all zck) = true)
 (h : wpQuiet P l.toArray (fun _ => True) (fun a' => wpQuiet P l.toArray (fun w' => ∃ p : Regrown, w' = Go.Sort.grow (redrawn w p.d) p.os) (fun a' => seqT P l (fun w' => ∃ p : Regrown, w' = Go.Sort.grow (redrawn w p.d) p.os) (fun x a w => x = .normal ∧ Q .normal a w) (zaj l R) t a' w.drew) (zaj l F) a') (zaj l A) a) :
 (Code.region id l.toArray true).wp P Q a w :=
 zqz (D := fun w' => ∃ p : Regrown, w' = Go.Sort.grow (redrawn w p.d) p.os) A F m t R hm hB ⟨⟨w.drawn + 1, #[]⟩, by rw [Go.Sort.grow_empty]; rfl⟩ h
variable {l : List Oper} {Q : Exit → Act → World → Prop} {lr : List Oper} {t t' : Tr} {b b' : Nat} {o o' : Oper} {a : Act} {w : World}
theorem zao (h : l[b]? = some o) (k : wpList P l.toArray (fun x a' w' => x = .normal ∧ D w' ∧ seqT P l D Q lr t a' w') [o] a w) : seqT P l D Q lr (.one b t) a w := by
 unfold seqT
 rw [h]
 exact k
theorem zc9 (h : l[b]? = some o) (h' : l[b']? = some o') (k : wpList P l.toArray (fun x a' w' => x = .normal ∧ D w' ∧ seqT P l D Q lr t a' w') [o] a w)
 (k' : wpList P l.toArray (fun x a' w' => x = .normal ∧ D w' ∧ seqT P l D Q lr t' a' w') [o'] a w) : seqT P l D Q lr (.two b t b' t') a w := by
 unfold seqT
 rw [h, h']
 exact ⟨k, k'⟩
theorem zbi (k : wpList P l.toArray Q lr a w) : seqT P l D Q lr .rest a w := k
end
end
section
open Go.RowKit
theorem zdr {w : World} {B : Nat} {A : Option Addr} {n c : Nat} {src : List (List Int)} (hr : RS tS w B (.slice A n c) src) (hb : Hid (∀ x ∈ src, x.length ≤ 1000000000)) {k : Nat} (hk : k < n) :
 ∃ (bb o : Nat) (A1 : Option Addr) (c1 : Nat) (x : List Int), A = some ⟨bb, o, none⟩ ∧ bb < B ∧ Hid (src[k]? = some x) ∧ w.cell? ⟨bb, o + k, none⟩ = some (.slice A1 x.length c1) ∧ RI w B A1 x.length x ∧ x.length ≤ 1000000000000 := by
 obtain rfl : src.length = n := hr.cap.1
 have hX := List.getElem?_eq_getElem hk
 obtain ⟨bb, o, c1, cs, hv, hab, -, hE, hc⟩ := hr.atX hX
 simp only [Value.slice.injEq] at hv
 obtain ⟨rfl, -, rfl⟩ := hv
 obtain ⟨A1, n1, c2, rfl⟩ := zgc hE
 have hR := tS_R.1 hE
 have hcap := hR.cap
 obtain rfl : (src[k]).length = n1 := hcap.1
 have h0 : w.cell? ⟨bb, o + k * 1, none⟩ = some (.slice A1 (src[k]).length c2) := hc 0 _ rfl
 rw [Nat.mul_one] at h0
 exact ⟨bb, o, A1, c2, src[k], rfl, hab, Lib.hid hX, h0, hR.ri, by have := hb.out _ (List.getElem_mem hk); omega⟩
theorem zq0 (A : Option Addr) (n c : Nat) (src : List (List Int)) (w : World) (hx : RS tS w w.heap.size (.slice A n c) src) (hb : Hid (∀ x ∈ src, x.length ≤ 1000000000)) (hn : n ≤ 1000000000) :
 Calls Tryz.prog 121 #[.slice A n c] w fun e w' => e = .returned (.bool (src.all M.sig)) ∧ w = w' := by
 have hl := Lib.hid hx.cap.1
 go_enter Tryz.func121, Tryz.ntmps121
 go_wp2
 go_loop [4, 7] (fun _ i => ∃ k : Nat, i = .int .i64 k ∧ k ≤ n ∧ Hid (src.all M.sig = (src.drop k).all M.sig)) (fun _ i => n - (intOf i).toNat)
 case atStart => exact ⟨0, rfl, by omega, Lib.hid (by simp)⟩
 case round =>
  obtain ⟨k, rfl, hk, H⟩ := hrel
  by_cases hlt : k < n
  · obtain ⟨bb, o, A1, c1, x, rfl, hbb, X, hc, hri, hxl⟩ := zdr hx hb hlt
    have hd := Lib.hid (M.drop_at X.out)
    cases hs : M.sig x
    · have HS := Lib.hid hs
      clear hs
      go_wp2_with fail
      refine (zkf _ _ _ _ _ hri hxl).mono ?_
      rw [HS.out]
      rintro e w' ⟨rfl, rfl⟩
      go_wp2
      go_ret
      exact ⟨by rw [H.out, hd.out, List.all_cons, HS.out]; rfl, rfl⟩
    · have HS := Lib.hid hs
      clear hs
      go_wp2_with fail
      refine (zkf _ _ _ _ _ hri hxl).mono ?_
      rw [HS.out]
      rintro e w' ⟨rfl, rfl⟩
      go_wp2
      go_round
      case rel => exact ⟨k + 1, by go_num, by omega, Lib.hid (by rw [H.out, hd.out, List.all_cons, HS.out, Bool.true_and])⟩
      case measure => simp [intOf]; omega
  · have h9 := Lib.hid (show src.all M.sig = true by rw [H.out, List.drop_eq_nil_of_le (by rw [hl.out]; omega)]; rfl)
    go_wp2
    go_ret
    exact ⟨zab h9.out.symm, rfl⟩
theorem zfh (A : Option Addr) (n c : Nat) (src : List (List Int)) (w : World) (hx : RS tS w w.heap.size (.slice A n c) src) (hb : Hid (∀ x ∈ src, x.length ≤ 1000000000)) (hn : n ≤ 1000000000) :
 Calls Tryz.prog 74 #[.slice A n c] w fun e w' => e = .returned (.bool (zcb src)) ∧ w = w' := by
 have hl := Lib.hid hx.cap.1
 by_cases h : n ≤ 6
 · go_enter Tryz.func74, Tryz.ntmps74
   go_wp2_with fail
   refine (zq0 _ _ _ _ _ hx hb hn).mono ?_
   rintro e w' ⟨rfl, rfl⟩
   go_wp2
   go_ret
   exact ⟨zab (by simp [zcb, hl.out, h]), rfl⟩
 · go_enter Tryz.func74, Tryz.ntmps74
   go_wp2
   go_ret
   exact ⟨zab (by simp [zcb, hl.out, h]), rfl⟩
theorem zhl (A : Option Addr) (n c : Nat) (src : List (List Int)) (w : World) (hx : RS tS w w.heap.size (.slice A n c) src) (hb : Hid (∀ x ∈ src, x.length ≤ 1000000000)) (hn : n ≤ 1000000000) :
 Calls Tryz.prog 133 #[.slice A n c] w fun e w' => e = .returned (.bool (zcb src)) ∧ w = w' := by
 have hl := Lib.hid hx.cap.1
 go_enter Tryz.func133, Tryz.ntmps133
 go_wp2
 go_loop [3] (fun i => ∃ k : Nat, i = .int .i64 k ∧ k ≤ n ∧ Hid (src.all M.sig = (src.drop k).all M.sig)) (fun i => n - (intOf i).toNat)
 case atStart => exact ⟨0, rfl, by omega, Lib.hid (by simp)⟩
 case round =>
  obtain ⟨k, rfl, hk, H⟩ := hrel
  by_cases hlt : k < n
  · obtain ⟨bb, o, A1, c1, x, rfl, hbb, X, hc, hri, hxl⟩ := zdr hx hb hlt
    have hd := Lib.hid (M.drop_at X.out)
    cases hs : M.sig x
    · have HS := Lib.hid hs
      clear hs
      go_wp2_with fail
      refine (zfo _ _ _ _ _ hri hxl).mono ?_
      rw [HS.out]
      rintro e w' ⟨rfl, rfl⟩
      go_wp2
      go_ret
      exact ⟨zab (by rw [zcb, H.out, hd.out, List.all_cons, HS.out, Bool.false_and, Bool.and_false]), rfl⟩
    · have HS := Lib.hid hs
      clear hs
      go_wp2_with fail
      refine (zfo _ _ _ _ _ hri hxl).mono ?_
      rw [HS.out]
      rintro e w' ⟨rfl, rfl⟩
      go_wp2
      go_round
      case rel => exact ⟨k + 1, by go_num, by omega, Lib.hid (by rw [H.out, hd.out, List.all_cons, HS.out, Bool.true_and])⟩
      case measure => simp [intOf]; omega
  · have h9 := Lib.hid (show zcb src = decide (n ≤ 6) by rw [zcb, H.out, List.drop_eq_nil_of_le (by rw [hl.out]; omega), hl.out]; simp)
    go_wp2
    go_ret
    exact ⟨zab (by rw [h9.out, Bool.eq_iff_iff]; simp; try omega), rfl⟩
theorem zlu (A : Option Addr) (n c : Nat) (w : World) : Calls Tryz.prog 80 #[.slice A n c] w fun e w' => e = .returned (.int .i64 n) ∧ w = w' := by
 go_enter Tryz.func80, Tryz.ntmps80
 go_wp2
 go_ret
 exact ⟨rfl, rfl⟩
theorem zq1 (b : Nat) (m d0 d1 d2 d3 d4 : Int) (w : World) (g0 : w.cell? ⟨b, 0, none⟩ = some (.int .i64 m)) :
 Calls Tryz.prog 126 #[.agg #[.int .i64 d0, .int .i64 d1, .int .i64 d2, .int .i64 d3, .int .i64 d4], .pointer (some ⟨b, 0, none⟩)] w fun e w' => e = .returned (.bool (decide (m ≤ d0))) ∧ Below w.heap.size w w' := by
 have hb : b < w.heap.size := World.block_lt_of_cell? w _ g0
 have fin : Below w.heap.size w (w.alloc (.cells #[.int .i64 d0, .int .i64 d1, .int .i64 d2, .int .i64 d3, .int .i64 d4] 156)) := (Below.refl _ _).alloc (Nat.le_refl _) _
 go_enter Tryz.func126, Tryz.ntmps126
 go_wp2
 go_ret
 exact ⟨rfl, fin⟩
theorem zq2 (bb : Nat) (m : Int) (A : Option Addr) (n cap : Nat) (xs : List Clip) (w : World) (hx : RA cl 5 w w.heap.size A n xs) (hn : n ≤ 1000000000) (hg : w.cell? ⟨bb, 0, none⟩ = some (.int .i64 m)) :
 Calls Tryz.prog 160 #[.slice A n cap, .func (.func 126) #[] #[.pointer (some ⟨bb, 0, none⟩)]] w fun e w' => e = .returned (.int .i64 (zge (xs.findIdx? fun c => decide (m ≤ c.1)))) ∧ Below w.heap.size w w' := by
 have hl := Lib.hid hx.len
 have hbb : bb < w.heap.size := World.block_lt_of_cell? w _ hg
 go_enter Tryz.func160, Tryz.ntmps160
 go_wp2
 go_loopw [5, 8] (fun _ i wr => ∃ k : Nat, i = .int .i64 k ∧ k ≤ n ∧ Hid (∀ j, j < k → ∀ y : Clip, xs[j]? = some y → decide (m ≤ y.1) = false) ∧ Below w.heap.size w wr) (fun _ i _ => n - (intOf i).toNat)
 case atStart => exact ⟨0, rfl, by omega, Lib.hid (by omega), Below.refl _ _⟩
 case round =>
  obtain ⟨k, rfl, hk, H, hb⟩ := hrel
  by_cases hlt : k < n
  · obtain ⟨b, o, ⟨p0, p1, p2, p3, p4⟩, rfl, hab, X, hc⟩ := (hx.below hb).at zeg (by decide) hlt
    have hc0 : wr.cell? ⟨b, o + k * 5, none⟩ = some (.int .i64 p0) := hc 0 _ rfl
    have hc1 : wr.cell? ⟨b, o + k * 5 + 1, none⟩ = some (.int .i64 p1) := hc 1 _ rfl
    have hc2 : wr.cell? ⟨b, o + k * 5 + 2, none⟩ = some (.int .i64 p2) := hc 2 _ rfl
    have hc3 : wr.cell? ⟨b, o + k * 5 + 3, none⟩ = some (.int .i64 p3) := hc 3 _ rfl
    have hc4 : wr.cell? ⟨b, o + k * 5 + 4, none⟩ = some (.int .i64 p4) := hc 4 _ rfl
    clear hc
    have hgr : wr.cell? ⟨bb, 0, none⟩ = some (.int .i64 m) := by rw [hb.cell (by simpa using hbb)]; exact hg
    have cP := Lib.hid (zq1 bb m p0 p1 p2 p3 p4 wr hgr)
    cases hj : decide (m ≤ p0)
    · have hj' := Lib.hid hj
      clear hj
      go_wp2_with (go_at_call 126; refine (cP.out).mono ?_; rw [hj'.out]; rintro e w2 ⟨rfl, bel2⟩)
      go_roundw
      case rel => exact ⟨k + 1, by go_num, by omega, Lib.hid (fun j hj y hy => by rcases Nat.lt_succ_iff_lt_or_eq.1 hj with h | h; exact H.out j h y hy; subst h; rw [X.out] at hy; injection hy with hy; rw [← hy]; exact hj'.out), hb.trans (bel2.mono hb.size)⟩
      case measure => simp [intOf]; omega
    · have hf := Lib.hid (zov (p := fun c : Clip => decide (m ≤ c.1)) X.out hj H.out)
      have hj' := Lib.hid hj
      clear hj
      go_wp2_with (go_at_call 126; refine (cP.out).mono ?_; rw [hj'.out]; rintro e w2 ⟨rfl, bel2⟩)
      go_ret
      exact ⟨by rw [hf.out]; rfl, hb.trans (bel2.mono hb.size)⟩
  · have hf := Lib.hid (zow (xs := xs) (p := fun c : Clip => decide (m ≤ c.1)) (fun j hj y hy => H.out j (by rw [hl.out] at hj; omega) y hy))
    go_wp2
    go_ret
    exact ⟨by rw [hf.out]; rfl, hb⟩
theorem zq3 (xs : List Clip) (m : Int) : (zge (xs.findIdx? fun c => decide (m ≤ c.1)) ≥ 0 ↔ zbb xs m = false) := by
 unfold zbb
 cases h : xs.findIdx? fun c => decide (m ≤ c.1) with
 | none =>
  rw [List.findIdx?_eq_none_iff] at h
  simp only [zge]
  constructor
  · intro h2; omega
  · intro h2
    rw [List.all_eq_false] at h2
    obtain ⟨x, hx, h3⟩ := h2
    have := h x hx
    simp at this h3
    omega
 | some i =>
  rw [List.findIdx?_eq_some_iff_getElem] at h
  obtain ⟨hi, h2, _⟩ := h
  simp only [zge]
  constructor
  · intro _
    rw [List.all_eq_false]
    exact ⟨_, List.getElem_mem hi, by simp at h2 ⊢; omega⟩
  · intro _; omega
theorem zq4 (bb : Nat) (m : Int) (A : Option Addr) (n cap : Nat) (xs : List Clip) (w : World) (hx : RA cl 5 w w.heap.size A n xs) (hn : n ≤ 1000000000) (hg : w.cell? ⟨bb, 0, none⟩ = some (.int .i64 m)) :
 Calls Tryz.prog 125 #[.slice A n cap, .func (.func 126) #[] #[.pointer (some ⟨bb, 0, none⟩)]] w fun e w' => e = .returned (.bool (!zbb xs m)) ∧ Below w.heap.size w w' := by
 have hF := Lib.hid (zq3 xs m)
 have hI := Lib.hid (zq2 bb m A n cap xs w hx hn hg)
 generalize zge (xs.findIdx? fun c => decide (m ≤ c.1)) = q at hF hI
 by_cases h : 0 ≤ q
 · have R := Lib.hid (hF.out.1 h)
   go_enter Tryz.func125, Tryz.ntmps125
   go_wp2_with fail
   refine hI.out.mono ?_
   rintro e w2 ⟨rfl, bel2⟩
   go_wp2
   go_ret
   exact ⟨zab (by rw [R.out]; simp), bel2⟩
 · have R := Lib.hid (show zbb xs m = true by
    cases h2 : zbb xs m
    · exact absurd (hF.out.2 h2) h
    · rfl)
   go_enter Tryz.func125, Tryz.ntmps125
   go_wp2_with fail
   refine hI.out.mono ?_
   rintro e w2 ⟨rfl, bel2⟩
   go_wp2
   go_ret
   exact ⟨zab (by rw [R.out]; simpa using h), bel2⟩
theorem zq5 (A : Option Addr) (n c : Nat) (xs : List Clip) (m : Int) (w : World) (hx : RA cl 5 w w.heap.size A n xs) (hn : n ≤ 1000000000) :
 Calls Tryz.prog 79 #[.agg #[.slice A n c], .int .i64 m] w fun e w' => e = .returned (.bool (zbb xs m)) ∧ Below w.heap.size w w' := by
 obtain ⟨W, hW⟩ : ∃ W, W = (w.alloc (.cells #[.slice A n c] 89)).alloc (.cells #[.int .i64 m] 2) := ⟨_, rfl⟩
 have B0 : Below w.heap.size w W := by rw [hW]; exact ((Below.refl _ _).alloc (Nat.le_refl _) _).alloc (by simp) _
 have g0 : W.cell? ⟨w.heap.size + 1, 0, none⟩ = some (.int .i64 m) := by rw [hW]; simp [go_sem]
 have HW := Lib.hid hW
 clear hW
 have hx1 := hx.later B0
 go_enter Tryz.func79, Tryz.ntmps79
 go_wp2_with fail
 rw [← HW.out]
 refine (zq4 (w.heap.size + 1) m _ _ _ _ _ hx1 hn g0).mono ?_
 rintro e w2 ⟨rfl, bel2⟩
 go_wp2
 go_ret
 exact ⟨zab (by simp), zaa B0 bel2⟩
end
section
open Go.RowKit Go.Sort
theorem zi7 (w : World) (e : TypeId) (xs : List Int) (cur : Array Value) (h : cur.toList = xs.map (.int .i64)) : RI (w.alloc (.cells cur e)) (w.heap.size + 1) (some ⟨w.heap.size, 0, none⟩) xs.length xs :=
 ⟨by simp, fun _ => ⟨_, rfl, by simp, fun j u hu => by
  rw [show (⟨w.heap.size, 0, none⟩ : Addr).add j = ⟨w.heap.size, j, none⟩ by simp [Addr.add]; omega, cell_of_row _ w.heap.size j cur e (0, 0) (heap_alloc_new w _), ← hu, ← h, Array.getElem?_toList]⟩⟩
theorem zfz {P : Program} {f : FuncId} {args : Array Value} {w : World} {v : Ending} (h : Calls P f args w fun e w' => e = v ∧ w = w') : Calls P f args w fun e w' => e = v ∧ Below w.heap.size w w' :=
 h.mono fun _ _ ⟨he, hw⟩ => ⟨he, hw ▸ Below.refl _ _⟩
theorem zlv (a b : Int) (w : World) : Calls Tryz.prog 200 #[.int .i64 a, .int .i64 b] w fun e w' => e = .returned (.int .i64 (min a b)) ∧ w = w' := by
 by_cases h : a < b
 all_goals
  go_enter Tryz.func200, Tryz.ntmps200
  go_wp2
  go_ret
  exact ⟨zar (by omega), rfl⟩
theorem zlw (a b : Int) (w : World) : Calls Tryz.prog 88 #[.int .i64 a, .int .i64 b] w fun e w' => e = .returned (.int .i64 (max a b)) ∧ w = w' := by
 by_cases h : b < a
 all_goals
  go_enter Tryz.func88, Tryz.ntmps88
  go_wp2
  go_ret
  exact ⟨zar (by omega), rfl⟩
theorem zd9 (A : Option Addr) (n c : Nat) (xs : List Int) (m : Int) (w : World) (hx : RI w w.heap.size A n xs) (hn : n ≤ 1000000000000) :
 Calls Tryz.prog 143 #[.slice A n c, .int .i64 m] w fun e w' => e = .returned (.bool (zap xs m)) ∧ w = w' := by
 go_enter Tryz.func143, Tryz.ntmps143
 go_wp2
 go_loop [5] (fun i => ∃ k : Nat, i = .int .i64 k ∧ k ≤ n ∧ Hid (zap xs m = zap (xs.drop k) m)) (fun i => n - (intOf i).toNat)
 case atStart => exact ⟨0, rfl, by omega, Lib.hid (by simp)⟩
 case round =>
  obtain ⟨k, rfl, hk, H⟩ := hrel
  have hl := Lib.hid hx.len
  by_cases hlt : k < n
  · obtain ⟨ad, x, rfl, hab, X, hc⟩ := hx.at hlt
    have hd := Lib.hid (M.drop_at X.out)
    by_cases hs : x = m
    · have R := Lib.hid (show zap xs m = true by rw [H.out, hd.out, zhi]; simp [hs])
      have g : (x == m) = true := by simpa using hs
      subst hs
      go_wp2
      go_ret
      exact ⟨zab (by rw [R.out]), rfl⟩
    · have R := Lib.hid (show zap xs m = zap (xs.drop (k + 1)) m by rw [H.out, hd.out, zhi, decide_eq_false hs, Bool.false_or])
      have g : (x == m) = false := by simpa using hs
      clear hs
      go_wp2
      go_round
      case rel => exact ⟨k + 1, by go_num, by omega, R⟩
      case measure => simp [intOf]; omega
  · have R := Lib.hid (show zap xs m = false by rw [H.out, List.drop_eq_nil_of_le (by rw [hl.out]; omega)]; rfl)
    go_wp2
    go_ret
    exact ⟨zab (by rw [R.out]), rfl⟩
theorem zq6 (k : Int) (w : World) : Calls Tryz.prog 184 #[.int .i64 k] w fun e w' => e = .returned (.bool (M.inn k 1 17)) ∧ w = w' := by
 go_enter Tryz.func184, Tryz.ntmps184
 go_wp2_with (go_at_call 53; refine (zas _ _ _ _).mono ?_; rintro e w' ⟨rfl, rfl⟩)
 go_ret
 exact ⟨rfl, rfl⟩
theorem zq7 (k : Int) : zap [1, 2, 5, 6, 10, 11, 12, 13, 14, 17] k = zfv k := by
 rw [Bool.eq_iff_iff]
 simp only [zap, zfv, List.any_cons, List.any_nil, Bool.or_eq_true, decide_eq_true_eq, Bool.false_eq_true, or_false]
 omega
theorem zlx (k : Int) (w : World) : Calls Tryz.prog 201 #[.int .i64 k] w fun e w' => e = .returned (.bool (zfv k)) ∧ Below w.heap.size w w' := by
 obtain ⟨W, hW⟩ : ∃ W, W = w.alloc (.cells #[.int .i64 1, .int .i64 2, .int .i64 5, .int .i64 6, .int .i64 10, .int .i64 11, .int .i64 12, .int .i64 13, .int .i64 14, .int .i64 17] 2) := ⟨_, rfl⟩
 have B0 : Below w.heap.size w W := by rw [hW]; exact (Below.refl _ _).alloc (Nat.le_refl _) _
 have hr : RI W W.heap.size (some ⟨w.heap.size, 0, none⟩) 10 [1, 2, 5, 6, 10, 11, 12, 13, 14, 17] := by rw [hW]; exact (zi7 w 2 [1, 2, 5, 6, 10, 11, 12, 13, 14, 17] _ rfl).more (by simp)
 have HW := Lib.hid hW
 clear hW
 go_enter Tryz.func201, Tryz.ntmps201
 go_wp2_with fail
 rw [← HW.out]
 refine (zd9 _ _ _ _ _ _ hr (by omega)).mono ?_
 rintro e w2 ⟨rfl, rfl⟩
 go_wp2
 go_ret
 exact ⟨zab (zq7 k), B0⟩
theorem zq8 (k : Int) (w : World) (h : 0 ≤ k ∧ k ≤ 17) : Calls Tryz.prog 186 #[.int .i64 k] w fun e w' => e = .returned (.int .i64 (M.ar k.toNat)) ∧ Below w.heap.size w w' := by
 obtain ⟨j, rfl⟩ : ∃ j : Nat, k = j := ⟨k.toNat, by omega⟩
 obtain ⟨W, hW⟩ : ∃ W, W = w.alloc (.cells #[.int .i64 (-1), .int .i64 0, .int .i64 0, .int .i64 2, .int .i64 2, .int .i64 1, .int .i64 1, .int .i64 1, .int .i64 1, .int .i64 2, .int .i64 1, .int .i64 1, .int .i64 1, .int .i64 1, .int .i64 0, .int .i64 3, .int .i64 2, .int .i64 1] 2) := ⟨_, rfl⟩
 have B0 : Below w.heap.size w W := by rw [hW]; exact (Below.refl _ _).alloc (Nat.le_refl _) _
 have hr : RI W W.heap.size (some ⟨w.heap.size, 0, none⟩) 18 zhh := by rw [hW]; exact (zi7 w 2 zhh _ rfl).more (by simp)
 obtain ⟨ad, x, e, -, X, hc⟩ := hr.at (k := j) (by omega)
 injection e with e
 subst e
 have hR := Lib.hid (show M.ar j = x by rw [M.ar, List.getD_eq_getElem?_getD, X.out]; rfl)
 have hc2 : W.cell? ⟨w.heap.size, j, none⟩ = some (.int .i64 x) := by rw [← hc, show (⟨w.heap.size, 0, none⟩ : Addr).add j = ⟨w.heap.size, j, none⟩ by simp [Addr.add]; omega]
 rw [hW] at hc2
 have hj : j < 18 := by omega
 have hj2 : (j : Int) < 18 := by omega
 clear hc hr X
 go_enter Tryz.func186, Tryz.ntmps186
 go_wp2
 go_ret
 exact ⟨zar (by rw [Int.toNat_natCast, hR.out]), by rw [← hW]; exact B0⟩
theorem zq9 (b o : Nat) (a0 a1 tb : Int) (w : World) (p0 : w.cell? ⟨b, o, none⟩ = some (.int .i64 a0)) (p1 : w.cell? ⟨b, o + 1, none⟩ = some (.int .i64 a1)) (htb : 0 ≤ tb ∧ tb ≤ 1000000000) :
 Calls Tryz.prog 185 #[.pointer (some ⟨b, o, none⟩), .int .i64 tb] w fun e w' => e = .returned (.bool (M.aS a0 a1 tb)) ∧ Below w.heap.size w w' := by
 by_cases c1 : a0 = 1
 · have R := Lib.hid (show M.aS a0 a1 tb = M.inn a1 0 3 by rw [M.aS, if_pos c1])
   subst c1
   go_enter Tryz.func185, Tryz.ntmps185
   go_wp2_with (go_at_call 53; refine (zas _ _ _ _).mono ?_; rintro e w' ⟨rfl, rfl⟩)
   go_ret
   exact ⟨zab (by rw [R.out]), Below.refl _ _⟩
 have g1 : (a0 == 1) = false := by simpa using c1
 by_cases c2 : a0 = 6
 · have R := Lib.hid (show M.aS a0 a1 tb = M.inn a1 1 16 by rw [M.aS, if_neg c1, if_pos c2])
   subst c2
   go_enter Tryz.func185, Tryz.ntmps185
   go_wp2_with (go_at_call 53; refine (zas _ _ _ _).mono ?_; rintro e w' ⟨rfl, rfl⟩)
   go_ret
   exact ⟨zab (by rw [R.out]), Below.refl _ _⟩
 have g2 : (a0 == 6) = false := by simpa using c2
 by_cases c3 : a0 = 10
 · have R := Lib.hid (show M.aS a0 a1 tb = M.inn a1 0 31 by rw [M.aS, if_neg c1, if_neg c2, if_pos c3])
   subst c3
   go_enter Tryz.func185, Tryz.ntmps185
   go_wp2_with (go_at_call 53; refine (zas _ _ _ _).mono ?_; rintro e w' ⟨rfl, rfl⟩)
   go_ret
   exact ⟨zab (by rw [R.out]), Below.refl _ _⟩
 have g3 : (a0 == 10) = false := by simpa using c3
 by_cases c4 : a0 = 11
 · have R := Lib.hid (show M.aS a0 a1 tb = M.inn a1 0 2147483647 by rw [M.aS, if_neg c1, if_neg c2, if_neg c3, if_pos c4])
   subst c4
   go_enter Tryz.func185, Tryz.ntmps185
   go_wp2_with (go_at_call 53; refine (zas _ _ _ _).mono ?_; rintro e w' ⟨rfl, rfl⟩)
   go_ret
   exact ⟨zab (by rw [R.out]), Below.refl _ _⟩
 have g4 : (a0 == 11) = false := by simpa using c4
 by_cases c5 : a0 = 13
 · have R := Lib.hid (show M.aS a0 a1 tb = M.inn a1 0 (min (max tb 0) 4 - 1) by rw [M.aS, if_neg c1, if_neg c2, if_neg c3, if_neg c4, if_pos c5])
   have hm1 := fun m => zaz (zlw tb 0 (w.drewN m))
   have hm2 := fun m => zaz (zlv (max tb 0) 4 (w.drewN m))
   have hs : IntKind.i64.wrap (min (max tb 0) 4 - 1) = min (max tb 0) 4 - 1 := IntWalk.i64_in _ (by omega)
   have hm3 := fun m => zaz (zas a1 0 (min (max tb 0) 4 - 1) (w.drewN m))
   obtain ⟨q, hq⟩ : ∃ q, q = max tb 0 := ⟨_, rfl⟩
   rw [← hq] at hm1 hm2 hm3 hs R
   obtain ⟨r, hr⟩ : ∃ r, r = min q 4 := ⟨_, rfl⟩
   rw [← hr] at hm2 hm3 hs R
   clear hq hr g1 g2 g3 g4 c1 c2 c3 c4
   subst c5
   go_enter Tryz.func185, Tryz.ntmps185
   go_wp2
   go_quiet (first | exact hm1 _ | exact hm2 _ | exact hm3 _)
   go_wp2
   go_ret
   exact ⟨zab (by rw [R.out]), zac (Below.refl _ _) _⟩
 have g5 : (a0 == 13) = false := by simpa using c5
 have lb : b < w.heap.size := World.block_lt_of_cell? w _ p0
 cases hh : zfv a0
 · have R := Lib.hid (show M.aS a0 a1 tb = decide (a1 = 0) by rw [M.aS, if_neg c1, if_neg c2, if_neg c3, if_neg c4, if_neg c5, hh]; rfl)
   have HH := Lib.hid hh
   clear c1 c2 c3 c4 c5 hh
   go_enter Tryz.func185, Tryz.ntmps185
   go_wp2_with (go_at_call 201; refine (zlx _ _).mono ?_; rw [HH.out]; rintro e w2 ⟨rfl, bel2⟩; have q1 : w2.cell? ⟨b, o + 1, none⟩ = some (.int .i64 a1) := (by rw [bel2.cell lb]; exact p1))
   go_ret
   exact ⟨zab (by rw [R.out, Bool.eq_iff_iff]; simp), bel2⟩
 · have R := Lib.hid (show M.aS a0 a1 tb = M.smp a1 by rw [M.aS, if_neg c1, if_neg c2, if_neg c3, if_neg c4, if_neg c5, hh]; rfl)
   have HH := Lib.hid hh
   clear c1 c2 c3 c4 c5 hh
   go_enter Tryz.func185, Tryz.ntmps185
   go_wp2_with (first | (go_at_call 201; refine (zlx _ _).mono ?_; rw [HH.out]; rintro e w2 ⟨rfl, bel2⟩; have q1 : w2.cell? ⟨b, o + 1, none⟩ = some (.int .i64 a1) := (by rw [bel2.cell lb]; exact p1)) | (go_at_call 114; refine (zd0 _ _).mono ?_; rintro e w' ⟨rfl, rfl⟩))
   go_ret
   exact ⟨zab (by rw [R.out]), bel2⟩
end
section
open Go.RowKit
end
section
open Go.RowKit
end
section
open Go.RowKit
end
section
open Go.RowKit
theorem zgm (A A' : Option Addr) (n c n' c' : Nat) (xs ys : List Int) (w : World) (hx : RI w w.heap.size A n xs) (hy : RI w w.heap.size A' n' ys) (hn : n ≤ 1000000000) :
 Calls Tryz.prog 171 #[.slice A n c, .slice A' n' c'] w fun e w' => e = .returned (.bool (decide (xs = ys))) ∧ Below w.heap.size w w' := by
 have hl := Lib.hid hx.len
 have hl' := Lib.hid hy.len
 by_cases hnn : n = n'
 · subst hnn
   go_enter Tryz.func171, Tryz.ntmps171
   go_wp2
   go_loop [5, 6, 14] (fun _ _ i => ∃ k : Nat, i = .int .i64 k ∧ k ≤ n ∧ Hid (xs.take k = ys.take k)) (fun _ _ i => n - (intOf i).toNat)
   case atStart => exact ⟨0, rfl, by omega, Lib.hid (by simp)⟩
   case round =>
    obtain ⟨k, rfl, hk, H⟩ := hrel
    by_cases hlt : k < n
    · obtain ⟨ad, x, rfl, hab, X, hc⟩ := hx.at hlt
      obtain ⟨ad', y, rfl, hab', Y, hc'⟩ := hy.at hlt
      by_cases hxy : x = y
      · subst hxy
        go_wp2
        go_round
        case rel => exact ⟨k + 1, by go_num, by omega, Lib.hid (by rw [M.take_at X.out, M.take_at Y.out, H.out])⟩
        case measure => simp [intOf]; omega
      · have hne : (x != y) = true := by simpa using hxy
        have hno := Lib.hid (show ¬ xs = ys from fun e => by have h1 := X.out; rw [e, Y.out] at h1; injection h1 with h1; exact hxy h1.symm)
        go_wp2
        go_ret
        exact ⟨zab (by simp [hno.out]), Below.refl _ _⟩
    · go_wp2
      go_ret
      have h1 : xs = ys := by have := H.out; rwa [List.take_of_length_le (by rw [hl.out]; omega), List.take_of_length_le (by rw [hl'.out]; omega)] at this
      exact ⟨zab (by simp [h1]), Below.refl _ _⟩
 · have hne := Lib.hid (show ¬ xs = ys from fun e => hnn (by rw [← hl.out, ← hl'.out, e]))
   go_enter Tryz.func171, Tryz.ntmps171
   go_wp2
   go_ret
   exact ⟨zab (by simp [hne.out]), Below.refl _ _⟩
end
section
open Go.RowKit
theorem zly (A A' : Option Addr) (n c n' c' : Nat) (xs ys : List (List Int)) (w : World) (hx : tSS.R w w.heap.size [.slice A n c] xs) (hy : tSS.R w w.heap.size [.slice A' n' c'] ys) (hn : hSS.sz xs ≤ 100000000) :
 Calls Tryz.prog 170 #[.slice A n c, .slice A' n' c'] w fun e w' => e = .returned (.bool (decide (xs = ys))) ∧ Below w.heap.size w w' := by
 have rx := sl_R.1 hx
 have ry := sl_R.1 hy
 have hl := Lib.hid rx.cap.1
 have hl' := Lib.hid ry.cap.1
 have hm1 := Lib.hid (show xs.length + hS.szL xs ≤ 100000000 from hn)
 have hnb : n ≤ 1000000000 := by have := hm1.out; have := hl.out; omega
 clear hn hx hy
 by_cases hnn : n = n'
 · subst hnn
   go_enter Tryz.func170, Tryz.ntmps170
   go_wp2
   go_loopw [5, 6, 14] (fun _ _ i wr => ∃ k : Nat, i = .int .i64 k ∧ k ≤ n ∧ Hid (xs.take k = ys.take k) ∧ Below w.heap.size w wr) (fun _ _ i _ => n - (intOf i).toNat)
   case atStart => exact ⟨0, rfl, by omega, Lib.hid (by simp), Below.refl _ _⟩
   case round =>
    obtain ⟨k, rfl, hk, H, hb⟩ := hrel
    by_cases hlt : k < n
    · have hX := Lib.hid (List.getElem?_eq_getElem (l := xs) (i := k) (by rw [hl.out]; exact hlt))
      have hY := Lib.hid (List.getElem?_eq_getElem (l := ys) (i := k) (by rw [hl'.out]; exact hlt))
      obtain ⟨b, o1, cc, cs, hv, hab, -, hE, hcc⟩ := (rx.below hb).atX hX.out
      obtain ⟨b', o2, cc', cs', hv', hab', -, hE', hdd⟩ := (ry.below hb).atX hY.out
      simp only [Value.slice.injEq] at hv hv'
      obtain ⟨rfl, -, rfl⟩ := hv
      obtain ⟨rfl, -, rfl⟩ := hv'
      have hU := hS.szL_at hX.out
      generalize xs[k]'(by rw [hl.out]; exact hlt) = x at hX hE hU
      generalize ys[k]'(by rw [hl'.out]; exact hlt) = y at hY hE'
      obtain ⟨A1, n1, c1, rfl⟩ := za6 hE
      obtain ⟨A2, n2, c2, rfl⟩ := za6 hE'
      have e0 : wr.cell? ⟨b, o1 + k * 1, none⟩ = some (.slice A1 n1 c1) := hcc 0 _ rfl
      have f0 : wr.cell? ⟨b', o2 + k * 1, none⟩ = some (.slice A2 n2 c2) := hdd 0 _ rfl
      rw [Nat.mul_one] at e0 f0
      have hF := (tS_R.1 (tS.more hb.size hE)).ri
      have hF' := (tS_R.1 (tS.more hb.size hE')).ri
      have n1b : n1 ≤ 1000000000 := by have := zc0 hE; have := hm1.out; rw [zbl] at hU; omega
      clear hcc hdd hU hE hE'
      by_cases hp : x = y
      · have HD := Lib.hid (decide_eq_true hp)
        have HP := Lib.hid hp
        clear hp
        go_wp2_with (go_at_call 171; refine (zgm _ _ _ _ _ _ _ _ _ hF hF' n1b).mono ?_; rw [HD.out]; rintro e w2 ⟨rfl, bel2⟩)
        go_roundw
        case rel => exact ⟨k + 1, by go_num, by omega, Lib.hid (by rw [M.take_at hX.out, M.take_at hY.out, H.out, HP.out]), zaa hb bel2⟩
        case measure => simp [intOf]; omega
      · have HD := Lib.hid (decide_eq_false hp)
        have R := Lib.hid (show decide (xs = ys) = false by
         rw [decide_eq_false_iff_not]
         intro e
         have h1 := hX.out
         rw [e, hY.out] at h1
         injection h1 with h1
         exact hp h1.symm)
        clear hp
        go_wp2_with (go_at_call 171; refine (zgm _ _ _ _ _ _ _ _ _ hF hF' n1b).mono ?_; rw [HD.out]; rintro e w2 ⟨rfl, bel2⟩)
        go_ret
        exact ⟨zab (by rw [R.out]), zaa hb bel2⟩
    · go_wp2
      go_ret
      have h1 : xs = ys := by have := H.out; rwa [List.take_of_length_le (by rw [hl.out]; omega), List.take_of_length_le (by rw [hl'.out]; omega)] at this
      exact ⟨zab (by simp [h1]), hb⟩
 · have hne := Lib.hid (show ¬ xs = ys from fun e => hnn (by rw [← hl.out, ← hl'.out, e]))
   go_enter Tryz.func170, Tryz.ntmps170
   go_wp2
   go_ret
   exact ⟨zab (by simp [hne.out]), Below.refl _ _⟩
end
section
open Go.RowKit Go.Sort
theorem zi8 {a0 a1 a2 b0 b1 b2 : Int} {xs ys : List Int} (h : ¬ (a0 = b0 ∧ a1 = b1 ∧ a2 = b2)) : decide (((a0, a1, a2, xs) : Node) = (b0, b1, b2, ys)) = false := by
 rw [decide_eq_false_iff_not]
 intro e
 simp only [Prod.mk.injEq] at e
 exact h ⟨e.1, e.2.1, e.2.2.1⟩
theorem zra (a0 a1 a2 : Int) (xs ys : List Int) : decide (((a0, a1, a2, xs) : Node) = (a0, a1, a2, ys)) = decide (xs = ys) := by
 simp
theorem zrb (a0 a1 a2 b0 b1 b2 : Int) (A A' : Option Addr) (n c n' c' : Nat) (xs ys : List Int) (w : World) (hx : RI w w.heap.size A n xs) (hy : RI w w.heap.size A' n' ys) (hn : n ≤ 1000000000) :
 Calls Tryz.prog 172 #[.agg #[.int .i64 a0, .int .i64 a1, .int .i64 a2, .slice A n c], .agg #[.int .i64 b0, .int .i64 b1, .int .i64 b2, .slice A' n' c']] w fun e w' => e = .returned (.bool (decide (((a0, a1, a2, xs) : Node) = (b0, b1, b2, ys)))) ∧ Below w.heap.size w w' := by
 obtain ⟨W, hW⟩ : ∃ W, W = (w.alloc (.cells #[.int .i64 a0, .int .i64 a1, .int .i64 a2, .slice A n c] 171)).alloc (.cells #[.int .i64 b0, .int .i64 b1, .int .i64 b2, .slice A' n' c'] 171) := ⟨_, rfl⟩
 have B0 : Below w.heap.size w W := by rw [hW]; exact ((Below.refl _ _).alloc (Nat.le_refl _) _).alloc (by simp) _
 have rx := hx.later B0
 have ry := hy.later B0
 have HW := Lib.hid hW
 clear hW
 by_cases h0 : ¬ a0 = b0
 · have g0 : (a0 == b0) = false := by simpa using h0
   have R := Lib.hid (zi8 (xs := xs) (ys := ys) (a0 := a0) (a1 := a1) (a2 := a2) (b0 := b0) (b1 := b1) (b2 := b2) (fun e => h0 e.1))
   go_enter Tryz.func172, Tryz.ntmps172
   go_wp2_with fail
   try rw [← HW.out]
   go_ret
   exact ⟨zab (by rw [R.out]), B0⟩
 replace h0 : a0 = b0 := Decidable.not_not.1 h0
 subst h0
 by_cases h1 : ¬ a1 = b1
 · have g1 : (a1 == b1) = false := by simpa using h1
   have R := Lib.hid (zi8 (xs := xs) (ys := ys) (a0 := a0) (a1 := a1) (a2 := a2) (b0 := a0) (b1 := b1) (b2 := b2) (fun e => h1 e.2.1))
   go_enter Tryz.func172, Tryz.ntmps172
   go_wp2_with fail
   try rw [← HW.out]
   go_ret
   exact ⟨zab (by rw [R.out]), B0⟩
 replace h1 : a1 = b1 := Decidable.not_not.1 h1
 subst h1
 by_cases h2 : ¬ a2 = b2
 · have g2 : (a2 == b2) = false := by simpa using h2
   have R := Lib.hid (zi8 (xs := xs) (ys := ys) (a0 := a0) (a1 := a1) (a2 := a2) (b0 := a0) (b1 := a1) (b2 := b2) (fun e => h2 e.2.2))
   go_enter Tryz.func172, Tryz.ntmps172
   go_wp2_with fail
   try rw [← HW.out]
   go_ret
   exact ⟨zab (by rw [R.out]), B0⟩
 replace h2 : a2 = b2 := Decidable.not_not.1 h2
 subst h2
 rw [zra]
 go_enter Tryz.func172, Tryz.ntmps172
 go_wp2_with fail
 rw [← HW.out]
 refine (zgm _ _ _ _ _ _ _ _ _ rx ry hn).mono ?_
 rintro e w2 ⟨rfl, bel2⟩
 go_wp2
 go_ret
 exact ⟨rfl, zaa B0 bel2⟩
end
section
open Go.RowKit Go.Sort
set_option synthInstance.maxSize 2000
set_option synthInstance.maxHeartbeats 400000
theorem zrc (a0 b0 : Int) (A1 : Option Addr) (n1 c1 : Nat) (B1 : Option Addr) (m1 d1 : Nat) (A2 : Option Addr) (n2 c2 : Nat) (B2 : Option Addr) (m2 d2 : Nat) (A3 : Option Addr) (n3 c3 : Nat) (B3 : Option Addr) (m3 d3 : Nat) (x1 y1 : List (List Int)) (x2 y2 : List Node) (x3 y3 : List Int) (w : World) (h1 : tSS.R w w.heap.size [.slice A1 n1 c1] x1) (k1 : tSS.R w w.heap.size [.slice B1 m1 d1] y1) (h2 : tNS.R w w.heap.size [.slice A2 n2 c2] x2) (k2 : tNS.R w w.heap.size [.slice B2 m2 d2] y2) (h3 : tS.R w w.heap.size [.slice A3 n3 c3] x3) (k3 : tS.R w w.heap.size [.slice B3 m3 d3] y3) (hn : hP.sz ((a0, x1, x2, x3) : zad) ≤ 100000000) (hn2 : hP.sz ((b0, y1, y2, y3) : zad) ≤ 100000000) :
 Calls Tryz.prog 138 #[.agg #[.int .i64 a0, .slice A1 n1 c1, .slice A2 n2 c2, .slice A3 n3 c3], .agg #[.int .i64 b0, .slice B1 m1 d1, .slice B2 m2 d2, .slice B3 m3 d3]] w fun e w' => e = .returned (.bool (decide (((a0, x1, x2, x3) : zad) = (b0, y1, y2, y3)))) ∧ Below w.heap.size w w' := by
 obtain ⟨W, hW⟩ : ∃ W, W = (w.alloc (.cells #[.int .i64 a0, .slice A1 n1 c1, .slice A2 n2 c2, .slice A3 n3 c3] 107)).alloc (.cells #[.int .i64 b0, .slice B1 m1 d1, .slice B2 m2 d2, .slice B3 m3 d3] 107) := ⟨_, rfl⟩
 have B0 : Below w.heap.size w W := by rw [hW]; exact ((Below.refl _ _).alloc (Nat.le_refl _) _).alloc (by simp) _
 have p0 : W.cell? ⟨w.heap.size, 0, none⟩ = some (.int .i64 a0) := by rw [hW]; simp [go_sem]
 have q0 : W.cell? ⟨w.heap.size + 1, 0, none⟩ = some (.int .i64 b0) := by rw [hW]; simp [go_sem]
 have p1 : W.cell? ⟨w.heap.size, 1, none⟩ = some (.slice A1 n1 c1) := by rw [hW]; simp [go_sem]
 have q1 : W.cell? ⟨w.heap.size + 1, 1, none⟩ = some (.slice B1 m1 d1) := by rw [hW]; simp [go_sem]
 have p2 : W.cell? ⟨w.heap.size, 2, none⟩ = some (.slice A2 n2 c2) := by rw [hW]; simp [go_sem]
 have q2 : W.cell? ⟨w.heap.size + 1, 2, none⟩ = some (.slice B2 m2 d2) := by rw [hW]; simp [go_sem]
 have p3 : W.cell? ⟨w.heap.size, 3, none⟩ = some (.slice A3 n3 c3) := by rw [hW]; simp [go_sem]
 have q3 : W.cell? ⟨w.heap.size + 1, 3, none⟩ = some (.slice B3 m3 d3) := by rw [hW]; simp [go_sem]
 have lx : w.heap.size + 1 < W.heap.size := by rw [hW]; simp
 have HW := Lib.hid hW
 have r1 := tSS.later h1 B0
 have s1 := tSS.later k1 B0
 have X1 := Lib.hid (sl_R.1 h1).cap.1
 have Y1 := Lib.hid (sl_R.1 k1).cap.1
 have r2 := tNS.later h2 B0
 have s2 := tNS.later k2 B0
 have X2 := Lib.hid (sl_R.1 h2).cap.1
 have Y2 := Lib.hid (sl_R.1 k2).cap.1
 have r3 := tS.later h3 B0
 have s3 := tS.later k3 B0
 have X3 := Lib.hid (sl_R.1 h3).cap.1
 have Y3 := Lib.hid (sl_R.1 k3).cap.1
 rw [zc6] at hn hn2
 have z1 : hSS.sz x1 ≤ 100000000 := by omega
 have v1 : hSS.sz y1 ≤ 100000000 := by omega
 have bn1 : n1 ≤ 100000000 := by have e : x1.length + hS.szL x1 = hSS.sz x1 := rfl; have := X1.out; omega
 have z2 : hNS.sz x2 ≤ 100000000 := by omega
 have v2 : hNS.sz y2 ≤ 100000000 := by omega
 have bn2 : n2 ≤ 100000000 := by have e : x2.length + hN.szL x2 = hNS.sz x2 := rfl; have := X2.out; omega
 have z3 : hS.sz x3 ≤ 100000000 := by omega
 have v3 : hS.sz y3 ≤ 100000000 := by omega
 have bn3 : n3 ≤ 100000000 := by have e : x3.length + hI.szL x3 = hS.sz x3 := rfl; have := X3.out; omega
 clear hW hn hn2 h1 k1 h2 k2 h3 k3
 by_cases e0 : ¬ a0 = b0
 · have g0 : (a0 != b0) = true := by simpa using e0
   have R := Lib.hid (show decide (((a0, x1, x2, x3) : zad) = (b0, y1, y2, y3)) = false by rw [decide_eq_false_iff_not]; intro e; simp only [Prod.mk.injEq] at e; exact e0 e.1)
   go_enter Tryz.func138, Tryz.ntmps138
   go_wp2_with fail
   try rw [← HW.out]
   go_ret
   exact ⟨zab (by rw [R.out]), B0⟩
 replace e0 : a0 = b0 := Decidable.not_not.1 e0
 subst e0
 go_enter Tryz.func138, Tryz.ntmps138
 go_wp2_with fail
 rw [← HW.out]
 by_cases e1 : ¬ x1 = y1
 · have HD := Lib.hid (decide_eq_false e1)
   have R := Lib.hid (show decide (((a0, x1, x2, x3) : zad) = (a0, y1, y2, y3)) = false by rw [decide_eq_false_iff_not]; intro e; simp only [Prod.mk.injEq] at e; exact e1 e.2.1)
   refine (zly _ _ _ _ _ _ _ _ _ r1 s1 z1).mono ?_
   rw [HD.out]
   rintro e u1 ⟨rfl, bel1⟩
   go_wp2
   go_ret
   exact ⟨zab (by rw [R.out]), zaa B0 bel1⟩
 replace e1 : x1 = y1 := Decidable.not_not.1 e1
 have E1 := Lib.hid e1
 have HD1 := Lib.hid (decide_eq_true e1)
 clear e1
 refine (zly _ _ _ _ _ _ _ _ _ r1 s1 z1).mono ?_
 rw [HD1.out]
 rintro e w1 ⟨rfl, bel1⟩
 have lx_w1 := Nat.lt_of_lt_of_le lx bel1.size
 have B_w1 := zaa B0 bel1
 have p0_w1 : w1.cell? ⟨w.heap.size, 0, none⟩ = some (.int .i64 a0) := by rw [bel1.cell (by show w.heap.size < _; have := lx; omega)]; exact p0
 have q0_w1 : w1.cell? ⟨w.heap.size + 1, 0, none⟩ = some (.int .i64 a0) := by rw [bel1.cell (by show w.heap.size + 1 < _; have := lx; omega)]; exact q0
 have p1_w1 : w1.cell? ⟨w.heap.size, 1, none⟩ = some (.slice A1 n1 c1) := by rw [bel1.cell (by show w.heap.size < _; have := lx; omega)]; exact p1
 have q1_w1 : w1.cell? ⟨w.heap.size + 1, 1, none⟩ = some (.slice B1 m1 d1) := by rw [bel1.cell (by show w.heap.size + 1 < _; have := lx; omega)]; exact q1
 have p2_w1 : w1.cell? ⟨w.heap.size, 2, none⟩ = some (.slice A2 n2 c2) := by rw [bel1.cell (by show w.heap.size < _; have := lx; omega)]; exact p2
 have q2_w1 : w1.cell? ⟨w.heap.size + 1, 2, none⟩ = some (.slice B2 m2 d2) := by rw [bel1.cell (by show w.heap.size + 1 < _; have := lx; omega)]; exact q2
 have p3_w1 : w1.cell? ⟨w.heap.size, 3, none⟩ = some (.slice A3 n3 c3) := by rw [bel1.cell (by show w.heap.size < _; have := lx; omega)]; exact p3
 have q3_w1 : w1.cell? ⟨w.heap.size + 1, 3, none⟩ = some (.slice B3 m3 d3) := by rw [bel1.cell (by show w.heap.size + 1 < _; have := lx; omega)]; exact q3
 have r1_w1 := tSS.later r1 bel1
 have s1_w1 := tSS.later s1 bel1
 have r2_w1 := tNS.later r2 bel1
 have s2_w1 := tNS.later s2 bel1
 have r3_w1 := tS.later r3 bel1
 have s3_w1 := tS.later s3 bel1
 clear p0 q0 p1 q1 p2 q2 p3 q3 r1 s1 r2 s2 r3 s3
 go_wp2_with fail
 by_cases e3 : ¬ x3 = y3
 · have HD := Lib.hid (decide_eq_false e3)
   have R := Lib.hid (show decide (((a0, x1, x2, x3) : zad) = (a0, y1, y2, y3)) = false by rw [decide_eq_false_iff_not]; intro e; simp only [Prod.mk.injEq] at e; exact e3 e.2.2.2)
   refine (zgm _ _ _ _ _ _ _ _ _ (tS_R.1 r3_w1).ri (tS_R.1 s3_w1).ri (by omega)).mono ?_
   rw [HD.out]
   rintro e u1 ⟨rfl, bel1⟩
   go_wp2
   go_ret
   exact ⟨zab (by rw [R.out]), zaa B_w1 bel1⟩
 replace e3 : x3 = y3 := Decidable.not_not.1 e3
 have E3 := Lib.hid e3
 have HD2 := Lib.hid (decide_eq_true e3)
 clear e3
 refine (zgm _ _ _ _ _ _ _ _ _ (tS_R.1 r3_w1).ri (tS_R.1 s3_w1).ri (by omega)).mono ?_
 rw [HD2.out]
 rintro e w2 ⟨rfl, bel2⟩
 have lx_w2 := Nat.lt_of_lt_of_le lx_w1 bel2.size
 have B_w2 := zaa B_w1 bel2
 have p0_w2 : w2.cell? ⟨w.heap.size, 0, none⟩ = some (.int .i64 a0) := by rw [bel2.cell (by show w.heap.size < _; have := lx_w1; omega)]; exact p0_w1
 have q0_w2 : w2.cell? ⟨w.heap.size + 1, 0, none⟩ = some (.int .i64 a0) := by rw [bel2.cell (by show w.heap.size + 1 < _; have := lx_w1; omega)]; exact q0_w1
 have p1_w2 : w2.cell? ⟨w.heap.size, 1, none⟩ = some (.slice A1 n1 c1) := by rw [bel2.cell (by show w.heap.size < _; have := lx_w1; omega)]; exact p1_w1
 have q1_w2 : w2.cell? ⟨w.heap.size + 1, 1, none⟩ = some (.slice B1 m1 d1) := by rw [bel2.cell (by show w.heap.size + 1 < _; have := lx_w1; omega)]; exact q1_w1
 have p2_w2 : w2.cell? ⟨w.heap.size, 2, none⟩ = some (.slice A2 n2 c2) := by rw [bel2.cell (by show w.heap.size < _; have := lx_w1; omega)]; exact p2_w1
 have q2_w2 : w2.cell? ⟨w.heap.size + 1, 2, none⟩ = some (.slice B2 m2 d2) := by rw [bel2.cell (by show w.heap.size + 1 < _; have := lx_w1; omega)]; exact q2_w1
 have p3_w2 : w2.cell? ⟨w.heap.size, 3, none⟩ = some (.slice A3 n3 c3) := by rw [bel2.cell (by show w.heap.size < _; have := lx_w1; omega)]; exact p3_w1
 have q3_w2 : w2.cell? ⟨w.heap.size + 1, 3, none⟩ = some (.slice B3 m3 d3) := by rw [bel2.cell (by show w.heap.size + 1 < _; have := lx_w1; omega)]; exact q3_w1
 have r1_w2 := tSS.later r1_w1 bel2
 have s1_w2 := tSS.later s1_w1 bel2
 have r2_w2 := tNS.later r2_w1 bel2
 have s2_w2 := tNS.later s2_w1 bel2
 have r3_w2 := tS.later r3_w1 bel2
 have s3_w2 := tS.later s3_w1 bel2
 clear p0_w1 q0_w1 p1_w1 q1_w1 p2_w1 q2_w1 p3_w1 q3_w1 r1_w1 s1_w1 r2_w1 s2_w1 r3_w1 s3_w1
 by_cases e2 : ¬ n2 = m2
 · have g2 : ((n2 : Int) != (m2 : Int)) = true := by simp; omega
   have R := Lib.hid (show decide (((a0, x1, x2, x3) : zad) = (a0, y1, y2, y3)) = false by rw [decide_eq_false_iff_not]; intro e; simp only [Prod.mk.injEq] at e; exact e2 (by rw [← X2.out, ← Y2.out, e.2.2.1]))
   go_wp2_with fail
   go_ret
   exact ⟨zab (by rw [R.out]), B_w2⟩
 replace e2 : n2 = m2 := Decidable.not_not.1 e2
 subst e2
 go_wp2
 go_loopw [5, 6, 40] (fun _ _ i wr => ∃ k : Nat, i = .int .i64 k ∧ k ≤ n2 ∧ Hid (x2.take k = y2.take k) ∧ Below w2.heap.size w2 wr) (fun _ _ i _ => n2 - (intOf i).toNat)
 case atStart => exact ⟨0, rfl, by omega, Lib.hid (by simp), Below.refl _ _⟩
 case round =>
  obtain ⟨k, rfl, hk, H, hb0⟩ := hrel
  obtain ⟨wo0, rfl⟩ : ∃ wo : World, wo = wr := ⟨_, rfl⟩
  have lx_wo0 := Nat.lt_of_lt_of_le lx_w2 hb0.size
  have B_wo0 := zaa B_w2 hb0
  have p0_wo0 : wo0.cell? ⟨w.heap.size, 0, none⟩ = some (.int .i64 a0) := by rw [hb0.cell (by show w.heap.size < _; have := lx_w2; omega)]; exact p0_w2
  have q0_wo0 : wo0.cell? ⟨w.heap.size + 1, 0, none⟩ = some (.int .i64 a0) := by rw [hb0.cell (by show w.heap.size + 1 < _; have := lx_w2; omega)]; exact q0_w2
  have p1_wo0 : wo0.cell? ⟨w.heap.size, 1, none⟩ = some (.slice A1 n1 c1) := by rw [hb0.cell (by show w.heap.size < _; have := lx_w2; omega)]; exact p1_w2
  have q1_wo0 : wo0.cell? ⟨w.heap.size + 1, 1, none⟩ = some (.slice B1 m1 d1) := by rw [hb0.cell (by show w.heap.size + 1 < _; have := lx_w2; omega)]; exact q1_w2
  have p2_wo0 : wo0.cell? ⟨w.heap.size, 2, none⟩ = some (.slice A2 n2 c2) := by rw [hb0.cell (by show w.heap.size < _; have := lx_w2; omega)]; exact p2_w2
  have q2_wo0 : wo0.cell? ⟨w.heap.size + 1, 2, none⟩ = some (.slice B2 n2 d2) := by rw [hb0.cell (by show w.heap.size + 1 < _; have := lx_w2; omega)]; exact q2_w2
  have p3_wo0 : wo0.cell? ⟨w.heap.size, 3, none⟩ = some (.slice A3 n3 c3) := by rw [hb0.cell (by show w.heap.size < _; have := lx_w2; omega)]; exact p3_w2
  have q3_wo0 : wo0.cell? ⟨w.heap.size + 1, 3, none⟩ = some (.slice B3 m3 d3) := by rw [hb0.cell (by show w.heap.size + 1 < _; have := lx_w2; omega)]; exact q3_w2
  have r1_wo0 := tSS.later r1_w2 hb0
  have s1_wo0 := tSS.later s1_w2 hb0
  have r2_wo0 := tNS.later r2_w2 hb0
  have s2_wo0 := tNS.later s2_w2 hb0
  have r3_wo0 := tS.later r3_w2 hb0
  have s3_wo0 := tS.later s3_w2 hb0
  clear p0_w2 q0_w2 p1_w2 q1_w2 p2_w2 q2_w2 p3_w2 q3_w2 r1_w2 s1_w2 r2_w2 s2_w2 r3_w2 s3_w2
  by_cases hlt : k < n2
  · have hX := Lib.hid (List.getElem?_eq_getElem (l := x2) (i := k) (by rw [X2.out]; exact hlt))
    have hY := Lib.hid (List.getElem?_eq_getElem (l := y2) (i := k) (by rw [Y2.out]; exact hlt))
    obtain ⟨b, o1, cc, cs, hv, hab, -, hE, hcc⟩ := (sl_R.1 r2_wo0).atX hX.out
    obtain ⟨b', o2, cc', cs', hv', hab', -, hE', hdd⟩ := (sl_R.1 s2_wo0).atX hY.out
    simp only [Value.slice.injEq] at hv hv'
    obtain ⟨rfl, -, rfl⟩ := hv
    obtain ⟨rfl, -, rfl⟩ := hv'
    have hU := hN.szL_at hX.out
    have hV := hN.szL_at hY.out
    generalize x2[k]'(by rw [X2.out]; exact hlt) = x at hX hE hU
    generalize y2[k]'(by rw [Y2.out]; exact hlt) = y at hY hE' hV
    have zz : x2.length + hN.szL x2 = hNS.sz x2 := rfl
    have zv : y2.length + hN.szL y2 = hNS.sz y2 := rfl
    have zx : hN.sz x ≤ 100000000 := by omega
    have zy : hN.sz y ≤ 100000000 := by omega
    clear zz zv hU hV
    obtain ⟨ua0, ua1, ua2, ua3⟩ := x
    obtain ⟨ub0, ub1, ub2, ub3⟩ := y
    obtain ⟨Ae3, ne3, ce3, rfl, hE3⟩ := tN_R.1 hE
    obtain ⟨Be3, me3, de3, rfl, hG3⟩ := tN_R.1 hE'
    have e0 : wo0.cell? ⟨b, o1 + k * 4, none⟩ = some (.int .i64 ua0) := hcc 0 _ rfl
    have f0 : wo0.cell? ⟨b', o2 + k * 4, none⟩ = some (.int .i64 ub0) := hdd 0 _ rfl
    have e1 : wo0.cell? ⟨b, o1 + k * 4 + 1, none⟩ = some (.int .i64 ua1) := hcc 1 _ rfl
    have f1 : wo0.cell? ⟨b', o2 + k * 4 + 1, none⟩ = some (.int .i64 ub1) := hdd 1 _ rfl
    have e2 : wo0.cell? ⟨b, o1 + k * 4 + 2, none⟩ = some (.int .i64 ua2) := hcc 2 _ rfl
    have f2 : wo0.cell? ⟨b', o2 + k * 4 + 2, none⟩ = some (.int .i64 ub2) := hdd 2 _ rfl
    have e3 : wo0.cell? ⟨b, o1 + k * 4 + 3, none⟩ = some (.slice Ae3 ne3 ce3) := hcc 3 _ rfl
    have f3 : wo0.cell? ⟨b', o2 + k * 4 + 3, none⟩ = some (.slice Be3 me3 de3) := hdd 3 _ rfl
    clear hcc hdd
    obtain ⟨U, hU⟩ : ∃ U, U = wo0.alloc (.cells #[.int .i64 ua0, .int .i64 ua1, .int .i64 ua2, .slice Ae3 ne3 ce3] 171) := ⟨_, rfl⟩
    have G0 : Below wo0.heap.size wo0 U := by rw [hU]; exact (Below.refl _ _).alloc (Nat.le_refl _) _
    have sU : wo0.heap.size < U.heap.size := by rw [hU]; simp
    have g0 : U.cell? ⟨wo0.heap.size, 0, none⟩ = some (.int .i64 ua0) := by rw [hU, cell_of_row _ wo0.heap.size 0 _ 171 (0, 0) (heap_alloc_new wo0 _)]; rfl
    have l0 : U.cell? ⟨b', o2 + k * 4, none⟩ = some (.int .i64 ub0) := by rw [G0.cell hab']; exact f0
    have g1 : U.cell? ⟨wo0.heap.size, 1, none⟩ = some (.int .i64 ua1) := by rw [hU, cell_of_row _ wo0.heap.size 1 _ 171 (0, 0) (heap_alloc_new wo0 _)]; rfl
    have l1 : U.cell? ⟨b', o2 + k * 4 + 1, none⟩ = some (.int .i64 ub1) := by rw [G0.cell hab']; exact f1
    have g2 : U.cell? ⟨wo0.heap.size, 2, none⟩ = some (.int .i64 ua2) := by rw [hU, cell_of_row _ wo0.heap.size 2 _ 171 (0, 0) (heap_alloc_new wo0 _)]; rfl
    have l2 : U.cell? ⟨b', o2 + k * 4 + 2, none⟩ = some (.int .i64 ub2) := by rw [G0.cell hab']; exact f2
    have g3 : U.cell? ⟨wo0.heap.size, 3, none⟩ = some (.slice Ae3 ne3 ce3) := by rw [hU, cell_of_row _ wo0.heap.size 3 _ 171 (0, 0) (heap_alloc_new wo0 _)]; rfl
    have l3 : U.cell? ⟨b', o2 + k * 4 + 3, none⟩ = some (.slice Be3 me3 de3) := by rw [G0.cell hab']; exact f3
    have qq : U.cell? ⟨w.heap.size + 1, 2, none⟩ = some (.slice (some ⟨b', o2, none⟩) n2 d2) := by rw [G0.cell lx_wo0]; exact q2_wo0
    have HU := Lib.hid hU
    clear hU
    replace hE3 := tS.later hE3 G0
    replace hG3 := tS.later hG3 G0
    rw [zft, zbl] at zx zy
    have nb : ne3 ≤ 1000000000 := by have := zc0 hE3; omega
    have rg0 := cell_regrown g0
    have rl0 := cell_regrown l0
    have rg1 := cell_regrown g1
    have rl1 := cell_regrown l1
    have rg2 := cell_regrown g2
    have rl2 := cell_regrown l2
    have rg3 := cell_regrown g3
    have rl3 := cell_regrown l3
    have rqq := cell_regrown qq
    have cP : ∀ d os, Calls Tryz.prog 172 #[.agg #[.int .i64 ua0, .int .i64 ua1, .int .i64 ua2, .slice Ae3 ne3 ce3], .agg #[.int .i64 ub0, .int .i64 ub1, .int .i64 ub2, .slice Be3 me3 de3]] (grow (redrawn U d) os) fun e w'' => e = .returned (.bool (decide (((ua0, ua1, ua2, ua3) : Node) = (ub0, ub1, ub2, ub3)))) ∧ ∃ p : Regrown, w'' = grow (redrawn U p.d) p.os := fun d os => Calls.regrown_of (zrb _ _ _ _ _ _ _ _ _ _ _ _ _ _ _ (tS_R.1 (tS.later hE3 (below_regrown U d os))).ri (tS_R.1 (tS.later hG3 (below_regrown U d os))).ri nb)
    clear g0 l0 g1 l1 g2 l2 g3 l3 qq
    by_cases hp : ((ua0, ua1, ua2, ua3) : Node) = (ub0, ub1, ub2, ub3)
    · rw [decide_eq_true hp] at cP
      have HP := Lib.hid hp
      clear hp
      go_wp2
      rw [← HU.out]
      clear e0 f0 e1 f1 e2 f2 e3 f3
      (refine wp_region_quiet_below (by kernel_rfl) (by kernel_rfl) ?_; (repeat (go_big_quiet_step (exact cP _ _))); refine wpQuiet_nil ?_; intro _ hw'; obtain ⟨⟨dq, osq⟩, hw''⟩ := hw'; subst hw'')
      go_wp2
      go_roundw
      case rel => exact ⟨k + 1, by go_num, by omega, Lib.hid (by rw [M.take_at hX.out, M.take_at hY.out, H.out, HP.out]), zaa hb0 (zaa G0 (below_regrown U dq osq))⟩
      case measure => simp [intOf]; omega
    · rw [decide_eq_false hp] at cP
      have hxy : ¬ x2 = y2 := fun e => by have h1 := hX.out; rw [e, hY.out] at h1; injection h1 with h1; exact hp h1.symm
      have R := Lib.hid (show decide (((a0, x1, x2, x3) : zad) = (a0, y1, y2, y3)) = false by rw [decide_eq_false_iff_not]; intro e; simp only [Prod.mk.injEq] at e; exact hxy e.2.2.1)
      clear hp hxy
      go_wp2
      rw [← HU.out]
      clear e0 f0 e1 f1 e2 f2 e3 f3
      (refine wp_region_quiet_below (by kernel_rfl) (by kernel_rfl) ?_; (repeat (go_big_quiet_step (exact cP _ _))); refine wpQuiet_nil ?_; intro _ hw'; obtain ⟨⟨dq, osq⟩, hw''⟩ := hw'; subst hw'')
      go_wp2
      go_ret
      exact ⟨zab (by rw [R.out]), zaa B_wo0 (zaa G0 (below_regrown U dq osq))⟩
  have E2 := Lib.hid (show x2 = y2 by have := H.out; rwa [List.take_of_length_le (by rw [X2.out]; omega), List.take_of_length_le (by rw [Y2.out]; omega)] at this)
  clear H
  go_wp2
  clear hlt hk
  go_ret
  exact ⟨zab (by rw [E1.out, E2.out, E3.out]; simp), B_wo0⟩
end
section
open Go.RowKit
end
section
open Go.RowKit
end
section
open Go.RowKit
end
section
open Go.RowKit
end
section
open Go.RowKit
def tU8 : Ty UInt8 := Ty.flat 1 (by decide) 0 (fun x => [.int .u8 (x.toNat : Int)]) (fun _ => rfl) (by simp [Value.oneCell'])
structure SrcP (w : World) (b lo : Nat) (A : Option Addr) (n c : Nat) (code : List UInt8) (K : Nat) (a z : Int) : Prop where
 c0 : w.cell? ⟨b, 0, none⟩ = some (.slice A n c)
 c1 : w.cell? ⟨b, 1, none⟩ = some (.int .i64 a)
 c2 : w.cell? ⟨b, 2, none⟩ = some (.int .u64 z)
 f1 : w.frozen? ⟨b, 1, none⟩ = false
 f2 : w.frozen? ⟨b, 2, none⟩ = false
 rd : RS tU8 w lo (.slice A n c) code
 ha : 0 ≤ a
 hK : a ≤ K
 hb : lo ≤ b
def Src (w : World) (b lo : Nat) (A : Option Addr) (n c : Nat) (code : List UInt8) (K : Nat) : Prop := ∃ a z, SrcP w b lo A n c code K a z
section
variable {w w' : World} {b lo n c K K' : Nat} {A : Option Addr} {code : List UInt8}
theorem Src.lt (h : Src w b lo A n c code K) : b < w.heap.size := by
 obtain ⟨a, z, h⟩ := h
 exact World.block_lt_of_cell? w _ h.c0
theorem Src.keep (h : Src w b lo A n c code K) (hk : ∀ k, k < b + 1 → w'.heap[k]? = w.heap[k]?) : Src w' b lo A n c code K := by
 obtain ⟨a, z, h⟩ := h
 have hb := hk b (by omega)
 refine ⟨a, z, ?_, ?_, ?_, ?_, ?_, h.rd.keep fun p hp => World.cell?_of_block (hk p.block (by have := h.hb; omega)), h.ha, h.hK, h.hb⟩
 · rw [World.cell?_of_block hb]; exact h.c0
 · rw [World.cell?_of_block hb]; exact h.c1
 · rw [World.cell?_of_block hb]; exact h.c2
 · rw [World.frozen?_of_block hb]; exact h.f1
 · rw [World.frozen?_of_block hb]; exact h.f2
theorem Src.below {B : Nat} (h : Src w b lo A n c code K) (hb : Below B w w') (hB : b < B) : Src w' b lo A n c code K := h.keep fun k hk => hb.block k (by omega)
theorem Src.mid {l r : Nat} (h : Src w b lo A n c code K) (hm : Mid l r w w') (hd : b < l) : Src w' b lo A n c code K := by
 have hlt := h.lt
 exact h.keep fun k hk => hm.block k (by omega) (.inl (by omega))
theorem Src.more (h : Src w b lo A n c code K) (hK : K ≤ K') : Src w b lo A n c code K' := by
 obtain ⟨a, z, h⟩ := h
 exact ⟨a, z, h.c0, h.c1, h.c2, h.f1, h.f2, h.rd, h.ha, by have := h.hK; omega, h.hb⟩
end
end
section
open Go.RowKit
end
section
open Go.RowKit
end
section
open Go.RowKit
theorem OS.made0 {α : Type} (t : Ty α) (e : TypeId) (w : World) : OS t e (w.alloc (.cells #[] e)) (Iv w.heap.size (w.alloc (.cells #[] e)).heap.size) (.slice (some ⟨w.heap.size, 0, none⟩) 0 0) [] :=
 ⟨[], fun _ _ => False, World.ownsRow_made _ _ _ (Nat.zero_le _) (by simp [maxLen]) (by simp), rfl, fun g hg => by simp only [Value.ownBlock, Option.some.injEq] at hg; subst hg; exact ⟨Nat.le_refl _, by simp⟩, fun _ _ h => h.elim, fun _ _ _ _ h => h.elim, fun k h => by simp at h⟩
theorem ei_S : EI Tryz.prog 22 24 (.slice none 0 0) 1 24 := ⟨Tryz.underlying22, by kernel_rfl, rfl, by decide⟩
theorem zv6 (x : List (List Int)) : hSS.cnt x ≤ hSS.sz x := by
 show hS.cntL x ≤ x.length + hS.szL x
 have : hS.cntL x ≤ hS.szL x := by
  induction x with
  | nil => exact Nat.le_refl _
  | cons y ys ih =>
   rw [Hs.cntL, Hs.szL, zfc, zbl]
   omega
 omega
def zgn (w : World) (r : List (List Int) × Int) (en : Ending) (w' : World) : Prop :=
 ∃ v, en = .returned (.tuple #[v, .int .i64 r.2]) ∧ OS tS 24 w' (Iv w.heap.size w'.heap.size) v r.1 ∧ Below w.heap.size w w'
theorem zv7 {w w' : World} {r : List (List Int) × Int} {en : Ending} (h : zgn w r en w') :
 ∃ A n c, en = .returned (.tuple #[.slice A n c, .int .i64 r.2]) ∧ tSS.O w' (Iv w.heap.size w'.heap.size) [.slice A n c] r.1 ∧ Below w.heap.size w w' := by
 obtain ⟨v, rfl, own, bel⟩ := h
 obtain ⟨A, c, rfl⟩ := own.shape
 exact ⟨_, _, _, rfl, sl_O.2 own, bel⟩
theorem Iv.apart {a b c d : Nat} (h : b ≤ c) : ∀ k, Iv a b k → ¬ Iv c d k := fun k h1 h2 => by have := h1.2; have := h2.1; omega
theorem Iv.grow {a b c d : Nat} (h1 : a ≤ b) (h2 : b ≤ c) (h3 : c ≤ d) : ∀ k, (Iv a b k ∨ Iv b c k ∨ c < k ∧ k < d) → Iv a d k := by
 intro k h
 unfold Iv at *
 omega
end
section
open Go.RowKit
def zv8 (xs : List (Int × Int)) (a : Int) : Prop := (∀ p ∈ xs, 0 ≤ p.1 ∧ p.1 < a ∧ -65536 ≤ p.2 ∧ p.2 ≤ 65536) ∧ xs.Pairwise (fun p q => p.1 < q.1)
section
variable {lo hi g o : Nat} {w w' : World}
theorem Mid.cellK {u : Option Value} (h : Mid lo hi w w') (hg : g < w.heap.size) (hd : g < lo ∨ hi ≤ g) (hc : w.cell? ⟨g, o, none⟩ = u) : w'.cell? ⟨g, o, none⟩ = u := by rw [World.cell?_of_block (h.block g hg hd)]; exact hc
end
end
section
open Go.RowKit
end
section
open Go.RowKit
theorem zgo (a b : Int) (w : World) : Calls Tryz.prog 106 #[.int .i64 a, .int .i64 b] w fun e w' => e = .returned (.int .i64 (wrap32 (a + b))) ∧ w = w' := by
 have h1 := M.wrap32_bd a
 have h2 := M.wrap32_bd b
 go_enter Tryz.func106, Tryz.ntmps106
 go_wp2_with (go_at_call 146; refine (zia _ _).mono ?_; rintro e w' ⟨rfl, rfl⟩)
 go_ret
 exact ⟨zar (M.wrap32_add _ _), rfl⟩
theorem zlz (a b : Int) (w : World) : Calls Tryz.prog 205 #[.int .i64 a, .int .i64 b] w fun e w' => e = .returned (.int .i64 (wrap32 (a - b))) ∧ w = w' := by
 have h1 := M.wrap32_bd a
 have h2 := M.wrap32_bd b
 go_enter Tryz.func205, Tryz.ntmps205
 go_wp2_with (go_at_call 146; refine (zia _ _).mono ?_; rintro e w' ⟨rfl, rfl⟩)
 go_ret
 exact ⟨zar (M.wrap32_sub _ _), rfl⟩
theorem zgp (a b : Int) (w : World) : Calls Tryz.prog 107 #[.int .i64 a, .int .i64 b] w fun e w' => e = .returned (.int .i64 (wrap32 (a * b))) ∧ w = w' := by
 have h1 := M.wrap32_bd a
 have h2 := M.wrap32_bd b
 have h3 := M.wrap64_mul_bd _ _ h1 h2
 go_enter Tryz.func107, Tryz.ntmps107
 go_wp2_with (go_at_call 146; refine (zia _ _).mono ?_; rintro e w' ⟨rfl, rfl⟩)
 go_ret
 exact ⟨zar (M.wrap32_mul _ _), rfl⟩
end
end Go.Proofs.YtffhodocjjkkoaaGreat
