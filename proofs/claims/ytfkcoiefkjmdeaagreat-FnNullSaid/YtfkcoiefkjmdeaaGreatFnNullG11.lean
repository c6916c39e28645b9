import Derived.Test.YtfkcoiefkjmdeaaGreatFnNullG10
import Derived.Test.YtfkcoiefkjmdeaaGreatFnNullG7
import Derived.Test.YtfkcoiefkjmdeaaGreatFnNullG3
import Derived.Test.YtfkcoiefkjmdeaaGreatFnNullG6
set_option linter.unusedVariables false
set_option linter.unusedSimpArgs false
set_option maxRecDepth 100000
set_option maxHeartbeats 4000000
namespace Go.Proofs.YtfkcoiefkjmdeaaGreat
section
open Go.RowKit Go.Sort
structure M.PF (ns : List Node) (tb : List (List Int)) (O : List Int) : Prop where
 tabs : zbj tb = true
 ok : ∀ (i : Nat) (x : Node), ns[i]? = some x → zak x tb.length = true
 fr : ∀ (i : Nat) (x : Node), ns[i]? = some x → ∀ f ∈ x.2.2.2, 0 ≤ f ∧ f < ns.length
 inp : ∀ (i : Nat) (x : Node), ns[i]? = some x → x.1 = 1 → x.2.1 = 0
 top : M.Topo ns O
 len : ns.length ≤ 24
structure M.CO (ns : List Node) (cs : List (List Int)) : Prop where
 len : cs.length = ns.length
 at_ : ∀ (i : Nat) (x : Node), ns[i]? = some x → (zag cs i).length = zcc x ∧ (zag cs i).all M.smp = true
theorem zrw {ns : List Node} {i : Nat} {x : Node} (h : ns[i]? = some x) : zar ns i = x := by rw [zar, h]; rfl
theorem zfs {ns : List Node} {i : Nat} (h : i < ns.length) : ns[i]? = some (zar ns i) := by rw [zar, List.getElem?_eq_getElem h]; rfl
theorem zci {xs : List Int} (h : xs.all M.smp = true) (k : Nat) : M.smp (M.i_ xs k) = true := by
 rw [M.i_]
 cases e : xs[k]? with
 | none => rfl
 | some x => exact List.all_eq_true.1 h x (List.mem_of_getElem? e)
theorem ziy {xs : List Int} (h : xs.all M.smp = true) (k : Nat) {y : Int} (hy : M.smp y = true) : (xs.set k y).all M.smp = true := by
 rw [List.all_eq_true] at *
 intro z hz
 rcases List.mem_or_eq_of_mem_set hz with h1 | rfl
 · exact h z h1
 · exact hy
theorem zlp {x : Node} {tb : Int} (h : zak x tb = true) (fr vs : List Int) : (za1 x fr vs).length = zgp x.1 := by
 obtain ⟨k, a, b, l⟩ := x
 rw [za1]
 split
 · rename_i h1
   rw [zgp, if_pos h1]; rfl
 · rename_i h1
   rw [List.length_map]
   exact zru h h1
theorem zfc {x : Node} {fr vs : List Int} (hf : fr.all M.smp = true) (hv : vs.all M.smp = true) : (za1 x fr vs).all M.smp = true := by
 rw [za1]
 split
 · simp only [List.all_cons, List.all_nil, Bool.and_true]
   exact zci hf _
 · rw [List.all_map, List.all_eq_true]
   intro f _
   exact zci hv _
theorem zrx {x : Int} (h : M.smp x = true) (n : Nat) : M.smp (x / 2 ^ n) = true := by
 obtain ⟨h1, h2⟩ := smp_bd h
 have hp0 : (0 : Int) < 2 ^ n := Int.pow_pos (by decide)
 have hp : (1 : Int) ≤ 2 ^ n := by omega
 refine za2.2 ⟨?_, ?_⟩
 · rw [Int.le_ediv_iff_mul_le (by omega)]
   have : (-2147483648 : Int) * 2 ^ n ≤ (-2147483648 : Int) * 1 := Int.mul_le_mul_of_nonpos_left (by decide) hp
   omega
 · rcases Int.lt_or_le x 0 with h0 | h0
   · have := Int.ediv_neg_of_neg_of_pos h0 (show (0 : Int) < 2 ^ n by omega)
     omega
   · have := Int.ediv_le_self (2 ^ n) h0
     omega
theorem zry {t : List Int} (h : t.all M.smp = true) (x : Int) : M.smp (zgh t x) = true := zci h _
theorem zrz (s : Int) : M.smp (zdw s) = true := by
 rw [zdw]
 split <;> exact M.smp_wrap _
theorem zr0 {tb : List (List Int)} (h : zbj tb = true) (k : Nat) : (zag tb k).all M.smp = true := by
 rw [zag]
 cases e : tb[k]? with
 | none => rfl
 | some t => exact (ziw h e).2.1
theorem zr1 {a x : Int} (h : 0 ≤ a ∧ a ≤ 2147483647) : M.smp (max (-a) (min a x)) = true := by
 refine za2.2 ?_
 omega
theorem zlq {x : Node} {tb : List (List Int)} {ins s : List Int} {t : Int} (hok : zak x t = true) (ht : zbj tb = true) (hi : ins.all M.smp = true) (hs : s.all M.smp = true) : M.smp (zan x tb ins s) = true := by
 obtain ⟨k, a, b, l⟩ := x
 obtain ⟨hb5, hb10, hb11, hb13, hb17, hb2, hb12, hb14, hb1⟩ := zhm hok
 have e0 := zci hi 0
 have e1 := zci hi 1
 have e2 := zci hi 2
 have f0 := zci hs 0
 have g2 : k = 2 → M.smp a = true := fun h => za2.2 (hb2 h)
 obtain ⟨hk, -, -⟩ := zek hok
 simp only at hk
 rcases ze5 hk with rfl | rfl | rfl | rfl | rfl | rfl | rfl | rfl | rfl | rfl | rfl | rfl | rfl | rfl | rfl | rfl | rfl
 · simpa [zan] using e0
 · simpa [zan] using g2 rfl
 · simpa [zan] using M.smp_wrap _
 · simpa [zan] using M.smp_wrap _
 · simpa [zan] using M.smp_wrap _
 · simpa [zan] using f0
 · simpa [zan] using M.smp_wrap _
 · simpa [zan] using M.smp_wrap _
 · simpa [zan] using M.smp_wrap _
 · have := zrx e0 a.toNat
   simpa [zan] using this
 · have := zr1 (x := M.i_ ins 0) (hb11 rfl)
   simpa [zan] using this
 · simpa [zan] using f0
 · have := zry (zr0 ht a.toNat) (M.i_ ins 0)
   simpa [zan] using this
 · simpa [zan] using f0
 · have : zan (15, a, b, l) tb ins s = if 0 ≤ M.i_ ins 0 then M.i_ ins 1 else M.i_ ins 2 := by simp [zan]
   rw [this]
   split
   · exact e1
   · exact e2
 · have : zan (16, a, b, l) tb ins s = if 0 < M.i_ ins 1 then M.i_ ins 0 else M.i_ s 0 := by simp [zan]
   rw [this]
   split
   · exact e0
   · exact f0
 · simpa [zan] using M.smp_wrap _
theorem ziz {x : Node} {ins s : List Int} {t out : Int} (hok : zak x t = true) (hl : s.length = zcc x) (hi : ins.all M.smp = true) (hs : s.all M.smp = true) (ho : M.smp out = true) : (zaq x ins s out).length = zcc x ∧ (zaq x ins s out).all M.smp = true := by
 obtain ⟨k, a, b, l⟩ := x
 obtain ⟨hk, h6, h17⟩ := zek hok
 have e0 := zci hi 0
 have hd : ∀ y, M.smp y = true → (s.drop 1 ++ [y]).all M.smp = true := by
  intro y hy
  rw [List.all_append]
  simp only [List.all_cons, List.all_nil, Bool.and_true, Bool.and_eq_true]
  refine ⟨?_, hy⟩
  rw [List.all_eq_true] at hs ⊢
  exact fun z hz => hs z (List.mem_of_mem_drop hz)
 simp only at hk h6 h17
 rcases ze5 hk with rfl | rfl | rfl | rfl | rfl | rfl | rfl | rfl | rfl | rfl | rfl | rfl | rfl | rfl | rfl | rfl | rfl
 case inr.inr.inr.inr.inr.inl =>
  have := h6 rfl
  simp only [zcc, if_true] at hl
  refine ⟨?_, by simpa [zaq] using hd _ e0⟩
  simp [zaq, zcc]
  omega
 case inr.inr.inr.inr.inr.inr.inr.inr.inr.inr.inr.inr.inr.inr.inr.inr =>
  have := h17 rfl
  have hl2 : s.length = b.toNat := by rw [hl]; simp [zcc]
  refine ⟨?_, by simpa [zaq] using hd _ ho⟩
  simp [zaq, zcc]
  omega
 all_goals
  refine ⟨by simp [zaq, zcc], ?_⟩
  first
   | (simp [zaq]; done)
   | (simpa [zaq] using ho)
   | (simpa [zaq] using e0)
   | (simpa [zaq] using M.smp_wrap _)
   | (simpa [zaq] using zrz _)
theorem zlr {x : Node} {t : Int} (hok : zak x t = true) : (za3 x).length = zcc x ∧ (za3 x).all M.smp = true := by
 obtain ⟨k, a, b, l⟩ := x
 obtain ⟨-, -, -, -, -, -, hb12, hb14, -⟩ := zhm hok
 rw [za3]
 dsimp only
 split
 · rename_i h
   subst h
   have g : M.smp a = true := za2.2 (hb12 rfl)
   exact ⟨by simp [zcc], by simpa using g⟩
 split
 · rename_i h
   subst h
   have g : M.smp a = true := za2.2 (hb14 rfl)
   exact ⟨by simp [zcc], by simpa using g⟩
 · refine ⟨List.length_replicate, ?_⟩
   rw [List.all_eq_true]
   intro z hz
   rw [List.eq_of_mem_replicate hz]
   rfl
section
variable {ns : List Node} {tb : List (List Int)} {fr O : List Int}
theorem M.CO.set {cs : List (List Int)} (h : M.CO ns cs) {k : Nat} {y : List Int} (hy : ∀ x, ns[k]? = some x → y.length = zcc x ∧ y.all M.smp = true) : M.CO ns (cs.set k y) := by
 refine ⟨by rw [List.length_set]; exact h.len, fun i x hx => ?_⟩
 by_cases hk : k = i
 · subst hk
   rw [zfq (by rw [h.len]; exact (List.getElem?_eq_some_iff.1 hx).1)]
   exact hy x hx
 · rw [zer hk]
   exact h.at_ i x hx
theorem M.CO.start (hp : M.PF ns tb O) : M.CO ns (ns.map za3) := by
 refine ⟨List.length_map .., fun i x hx => ?_⟩
 have : zag (ns.map za3) i = za3 x := by simp [zag, hx]
 rw [this]
 exact zlr (hp.ok i x hx)
theorem M.PF.ord (hp : M.PF ns tb O) {t : Nat} (ht : t < O.length) : ∃ x, ns[zam O t]? = some x ∧ zar ns (zam O t) = x ∧ M.i_ O t = (zam O t : Nat) ∧ zam O t < ns.length := by
 have hr := hp.top.rng t ht
 have hi : zam O t < ns.length := by show (M.i_ O t).toNat < _; omega
 exact ⟨_, zfs hi, rfl, by show _ = (((M.i_ O t).toNat : Nat) : Int); omega, hi⟩
theorem zr2 (hp : M.PF ns tb O) (hf : fr.all M.smp = true) {cs : List (List Int)} (hc : M.CO ns cs) {v0 : List Int} (hv : v0.all M.smp = true) : ∀ t, t ≤ O.length → (zcm ns tb fr O cs v0 t).all M.smp = true := by
 intro t
 induction t with
 | zero => exact fun _ => hv
 | succ t ih =>
  intro ht
  obtain ⟨x, hx, e, -, hi⟩ := hp.ord (t := t) (by omega)
  rw [zcm, e]
  have hok := hp.ok _ _ hx
  exact ziy (ih (by omega)) _ (zlq hok hp.tabs (zfc hf (ih (by omega))) (hc.at_ _ _ hx).2)
theorem zls (hp : M.PF ns tb O) (hf : fr.all M.smp = true) {c0 : List (List Int)} (hc : M.CO ns c0) {v0 : List Int} (hv : v0.all M.smp = true) : ∀ t, t ≤ O.length → (zba ns tb fr O v0 c0 t).1.all M.smp = true ∧ M.CO ns (zba ns tb fr O v0 c0 t).2 := by
 intro t
 induction t with
 | zero => exact fun _ => ⟨hv, hc⟩
 | succ t ih =>
  intro ht
  obtain ⟨x, hx, e, -, hi⟩ := hp.ord (t := t) (by omega)
  obtain ⟨i1, i2⟩ := ih (by omega)
  have hok := hp.ok _ _ hx
  have hcx := i2.at_ _ _ hx
  have ho := zlq (tb := tb) hok hp.tabs (zfc (x := x) hf i1) hcx.2
  rw [zba, e]
  split
  · exact ⟨ziy i1 _ (zci hcx.2 _), i2⟩
  · refine ⟨ziy i1 _ ho, i2.set fun y hy => ?_⟩
    rw [hx] at hy
    injection hy with hy
    subst hy
    exact ziz hok hcx.1 (zfc hf i1) hcx.2 ho
theorem zr3 (hp : M.PF ns tb O) (hf : fr.all M.smp = true) {c1 : List (List Int)} (hc : M.CO ns c1) {vs : List Int} (hv : vs.all M.smp = true) : ∀ t, t ≤ ns.length → M.CO ns (zcr ns fr vs c1 t) := by
 intro t
 induction t with
 | zero => exact fun _ => hc
 | succ t ih =>
  intro ht
  have hx := zfs (ns := ns) (i := t) (by omega)
  have i2 := ih (by omega)
  have hcx := i2.at_ _ _ hx
  rw [zcr]
  split
  · refine i2.set fun y hy => ?_
    rw [hx] at hy
    injection hy with hy
    subst hy
    exact ziz (hp.ok _ _ hx) hcx.1 (zfc hf hv) hcx.2 rfl
  · exact i2
theorem zlt (hp : M.PF ns tb O) (hf : fr.all M.smp = true) {cs : List (List Int)} (hc : M.CO ns cs) : (zbq ns tb fr O cs).all M.smp = true := by
 refine zr2 hp hf hc ?_ _ (Nat.le_refl _)
 rw [List.all_eq_true]
 intro z hz
 rw [List.eq_of_mem_replicate hz]
 rfl
theorem zr4 (hp : M.PF ns tb O) (hf : fr.all M.smp = true) {cs : List (List Int)} (hc : M.CO ns cs) : M.CO ns (zcs ns tb fr O cs) := by
 refine ⟨by rw [zcs, List.length_map, List.length_range], fun i x hx => ?_⟩
 have hi := (List.getElem?_eq_some_iff.1 hx).1
 have hn : zag (zcs ns tb fr O cs) i = zaq (zar ns i) (za1 (zar ns i) fr (zbq ns tb fr O cs)) (zag cs i) (M.i_ (zbq ns tb fr O cs) i) := by simp [zcs, zag, hi]
 rw [hn, zrw hx]
 have hv := zlt (fr := fr) hp hf hc
 exact ziz (hp.ok _ _ hx) (hc.at_ _ _ hx).1 (zfc hf hv) (hc.at_ _ _ hx).2 (zci hv _)
end
def zdi (ns : List Node) (tb : List (List Int)) (O xs : List Int) : Nat → List (List Int)
 | 0 => ns.map za3
 | t + 1 => zcs ns tb [M.at_ xs (t : Int)] O (zdi ns tb O xs t)
def zew (ns : List Node) (tb : List (List Int)) (O xs : List Int) (t : Nat) : List Int := zbq ns tb [M.at_ xs (t : Int)] O (zdi ns tb O xs t)
def zbz (ns : List Node) (tb : List (List Int)) (O xs : List Int) (o : Int) (n : Nat) : List Int := (List.range n).map fun t => M.i_ (zew ns tb O xs t) o.toNat
def zlu (p : zaf) (xs : List Int) (n : Nat) : List Int := zbz p.2.2.1 p.2.1 (za8 p.2.2.1) xs (M.i_ p.2.2.2 0) n
theorem zdx (ns : List Node) (tb : List (List Int)) (O xs : List Int) (o : Int) (n : Nat) : (zbz ns tb O xs o n).length = n := by simp [zbz]
theorem zr5 (ns : List Node) (tb : List (List Int)) (O xs : List Int) (o : Int) (k : Nat) : zbz ns tb O xs o (k + 1) = zbz ns tb O xs o k ++ [M.i_ (zew ns tb O xs k) o.toNat] := by simp [zbz, List.range_succ]
theorem zhn {xs : List Int} (h : xs.all M.smp = true) (i : Int) : M.smp (M.at_ xs i) = true := by
 rw [M.at_]
 split
 · exact zci h _
 · rfl
section
variable {ns : List Node} {tb : List (List Int)} {O xs : List Int}
theorem zlv (h : xs.all M.smp = true) (t : Int) : [M.at_ xs t].all M.smp = true := by
 simp only [List.all_cons, List.all_nil, Bool.and_true]
 exact zhn h t
theorem zlw (hp : M.PF ns tb O) (h : xs.all M.smp = true) : ∀ t, M.CO ns (zdi ns tb O xs t) := by
 intro t
 induction t with
 | zero => exact M.CO.start hp
 | succ t ih => exact zr4 hp (zlv h _) ih
theorem zlx (hp : M.PF ns tb O) (h : xs.all M.smp = true) (t : Nat) : (zew ns tb O xs t).all M.smp = true := zlt hp (zlv h _) (zlw hp h t)
theorem zr6 (hp : M.PF ns tb O) (h : xs.all M.smp = true) (o : Int) (n : Nat) : (zbz ns tb O xs o n).all M.smp = true := by
 rw [zbz, List.all_map, List.all_eq_true]
 intro t _
 exact zci (zlx hp h t) _
end
theorem zi0 {p : zaf} (h : zcb p = true) (h1 : p.1 = 1) : M.PF p.2.2.1 p.2.1 (za8 p.2.2.1) := by
 rw [zcb, Bool.and_eq_true, decide_eq_true_eq] at h
 obtain ⟨hf, ho⟩ := h
 rw [zay] at hf
 simp only [Bool.and_eq_true, decide_eq_true_eq] at hf
 obtain ⟨⟨⟨⟨⟨g0, g1⟩, g2⟩, g3⟩, g4⟩, g5⟩ := hf
 have key : ∀ i x, p.2.2.1[i]? = some x → za7 p.2.1.length p.2.2.1.length p.1 x = true := fun i x hx => List.all_eq_true.1 g5 x (List.mem_of_getElem? hx)
 refine ⟨g1, fun i x hx => ?_, fun i x hx f hf => ?_, fun i x hx he => ?_, zpp ho, g2⟩
 · have := key i x hx
   rw [za7, Bool.and_eq_true, Bool.and_eq_true] at this
   exact this.1.1
 · have := key i x hx
   rw [za7, Bool.and_eq_true, Bool.and_eq_true] at this
   have := za2.1 (List.all_eq_true.1 this.1.2 f hf)
   omega
 · have := key i x hx
   rw [za7, Bool.and_eq_true, Bool.and_eq_true] at this
   have h2 := this.2
   have h3 := this.1.1
   obtain ⟨k, a, b, l⟩ := x
   simp only at he
   subst he
   have h4 := (zhm h3).2.2.2.2.2.2.2.2 rfl
   simp [h1] at h2
   show a = 0
   omega
theorem zr7 {p : zaf} (h : zcb p = true) : ∀ o ∈ p.2.2.2, 0 ≤ o ∧ o < p.2.2.1.length := by
 intro o ho
 rw [zcb, Bool.and_eq_true, zay] at h
 have h := h.1
 simp only [Bool.and_eq_true, decide_eq_true_eq] at h
 have := za2.1 (List.all_eq_true.1 h.1.2 o ho)
 omega
end
section
open Go.RowKit Go.Sort
section
variable {F F' : Nat → Prop} {w w' : World} {A : Option Addr} {n g k c : Nat} {xs : List Int} {e : TypeId} {base : Nat} {v : Value} {cs : List (List Int)}
def RN (F : Nat → Prop) (w : World) (A : Option Addr) (n : Nat) (xs : List Int) : Prop := RI w w.heap.size A n xs ∧ ∀ ad, 0 < n → A = some ad → ¬ F ad.block
theorem RN.chg (h : RN F w A n xs) (hc : Chg F w w') : RN F w' A n xs := by
 refine ⟨⟨h.1.1, fun hn => ?_⟩, h.2⟩
 obtain ⟨ad, e, hb, hk⟩ := h.1.2 hn
 refine ⟨ad, e, Nat.lt_of_lt_of_le hb hc.size, fun j u hu => ?_⟩
 have h2 := h.2 ad hn e
 rw [World.cell?_of_block (hc.block (ad.add j).block (by rw [ze1]; exact hb) (by rw [ze1]; exact h2))]
 exact hk j u hu
theorem RN.sub (h : RN F w A n xs) (hf : ∀ k, F' k → F k) : RN F' w A n xs := ⟨h.1, fun ad hn e hF => h.2 ad hn e (hf _ hF)⟩
theorem RN.below (h : RN F w A n xs) (hb : Below w.heap.size w w') : RN F w' A n xs := h.chg (Chg.of_below hb F)
theorem RN.of_ri {B : Nat} (h : RI w B A n xs) (hB : B ≤ w.heap.size) (hF : ∀ k, F k → B ≤ k) : RN F w A n xs := by
 refine ⟨h.more hB, fun ad hn e hf => ?_⟩
 obtain ⟨ad', e', hb, _⟩ := h.2 hn
 rw [e] at e'
 injection e' with e'
 subst e'
 have := hF _ hf
 omega
theorem RN.of_oi {B : Nat} (h : OI e B w (.slice A n c) xs) (hF : ∀ k, F k → k < B) : RN F w A n xs := by
 have hl : xs.length = n := by
  rcases h.2 with ⟨h0, h1⟩ | ⟨g, cap, cur, h0, _⟩
  · simp only [Value.slice.injEq] at h0
    rw [h0.2.1]; exact h1
  · simp only [Value.slice.injEq] at h0
    exact h0.2.1.symm
 subst hl
 refine ⟨h.ri, fun ad hn e hf => ?_⟩
 obtain ⟨g, hA, hB, hg⟩ := h.form' hn
 rw [e] at hA
 injection hA with hA
 subst hA
 have := hF _ hf
 simp only at this
 omega
theorem RN.at (h : RN F w A n xs) {k : Nat} (hk : k < n) : ∃ b o x, A = some ⟨b, o, none⟩ ∧ b < w.heap.size ∧ ¬ F b ∧ xs[k]? = some x ∧ w.cell? ⟨b, o + k, none⟩ = some (.int .i64 x) := by
 obtain ⟨b, o, rfl, hb, hc⟩ := zbb h.1 (by omega)
 have hl : k < xs.length := by rw [h.1.len]; exact hk
 exact ⟨b, o, xs[k], rfl, hb, h.2 _ (by omega) rfl, List.getElem?_eq_getElem hl, hc k _ (List.getElem?_eq_getElem hl)⟩
theorem OI.chg {B : Nat} (h : OI e B w v xs) (hc : Chg F w w') (hn : ∀ k, v.ownBlock = some k → ¬ F k) : OI e B w' v xs := by
 refine ⟨h.1, ?_⟩
 rcases h.2 with h2 | ⟨g, cap, cur, rfl, hb, hg, rest⟩
 · exact .inl h2
 · exact .inr ⟨g, cap, cur, rfl, hb, by rw [hc.block g (Array.getElem?_eq_some_iff.1 hg).1 (hn g rfl)]; exact hg, rest⟩
def CR (F : Nat → Prop) (e : TypeId) (base : Nat) (w : World) (v : Value) (cs : List (List Int)) : Prop :=
 ∃ us : List Value, w.ownsRow base e 1 v cs.length us ∧ ∀ (k : Nat) (x : List Int), cs[k]? = some x → ∃ A c, us[k]? = some (Value.slice A x.length c) ∧ x.length ≤ c ∧ RN F w A x.length x
theorem CR.form (h : CR F e base w v cs) (hn : 0 < cs.length) : ∃ g cap, v = .slice (some ⟨g, 0, none⟩) cs.length cap ∧ base ≤ g ∧ g < w.heap.size := by
 obtain ⟨us, h1, _⟩ := h
 exact World.ownsRow.form h1 hn
theorem CR.lenV {A : Option Addr} (h : CR F e base w (.slice A n c) cs) : n = cs.length := by
 obtain ⟨us, h1, _⟩ := h
 rcases h1.2 with ⟨h0, h2⟩ | ⟨g', cap, cur, h0, _⟩
 · simp only [Value.slice.injEq] at h0
   rw [h0.2.1, h2]
 · simp only [Value.slice.injEq] at h0
   exact h0.2.1
theorem CR.at (h : CR F e base w (.slice (some ⟨g, 0, none⟩) n c) cs) {k : Nat} (hk : k < n) : ∃ A' c' x, cs[k]? = some x ∧ x.length ≤ c' ∧ RN F w A' x.length x ∧ w.cell? ⟨g, k, none⟩ = some (.slice A' x.length c') ∧ w.frozen? ⟨g, k, none⟩ = false := by
 have hn := h.lenV
 subst hn
 obtain ⟨us, h1, h2⟩ := h
 obtain ⟨A', c', hu, hle, hr⟩ := h2 k _ (List.getElem?_eq_getElem hk)
 exact ⟨A', c', _, List.getElem?_eq_getElem hk, hle, hr, by rw [World.ownsRow.cellAt h1 k (by omega)]; exact hu, World.ownsRow.frozenAt h1 k⟩
theorem CR.set (h : CR F e base w (.slice (some ⟨g, 0, none⟩) n c) cs) (hg : F g) (k : Nat) {A' : Option Addr} {c' : Nat} {y : List Int} (hc : y.length ≤ c') (hr : RN F w A' y.length y) :
 CR F e base (w.setCell ⟨g, k, none⟩ (.slice A' y.length c')) (.slice (some ⟨g, 0, none⟩) n c) (cs.set k y) := by
 have hn := h.lenV
 subst hn
 obtain ⟨us, h1, h2⟩ := h
 have hch : Chg F w (w.setCell ⟨g, k, none⟩ (.slice A' y.length c')) := Chg.set w g k _ hg
 refine ⟨us.set k (.slice A' y.length c'), by rw [List.length_set]; exact (World.ownsRow.stored h1 k _).1, fun i x hx => ?_⟩
 by_cases hik : k = i
 · subst hik
   have hlt : k < cs.length := by have := (List.getElem?_eq_some_iff.1 hx).1; rwa [List.length_set] at this
   rw [List.getElem?_set_self hlt] at hx
   injection hx with hx
   subst hx
   have hus : us.length = cs.length := by have := h1.1; omega
   exact ⟨A', c', List.getElem?_set_self (by omega), hc, hr.chg hch⟩
 · rw [List.getElem?_set_ne hik] at hx
   obtain ⟨A2, c2, hu, hle, hr2⟩ := h2 i x hx
   exact ⟨A2, c2, by rw [List.getElem?_set_ne hik]; exact hu, hle, hr2.chg hch⟩
theorem CR.chg (h : CR F e base w v cs) (hc : Chg F' w w') (h1 : ∀ k, F' k → F k) (h2 : ∀ k, v.ownBlock = some k → ¬ F' k) : CR F e base w' v cs := by
 obtain ⟨us, g1, g2⟩ := h
 refine ⟨us, ⟨g1.1, ?_⟩, fun i x hx => ?_⟩
 · rcases g1.2 with hn | ⟨g, cap, cur, rfl, hb, hg, rest⟩
   · exact .inl hn
   · exact .inr ⟨g, cap, cur, rfl, hb, by rw [hc.block g (Array.getElem?_eq_some_iff.1 hg).1 (h2 g rfl)]; exact hg, rest⟩
 · obtain ⟨A2, c2, hu, hle, hr2⟩ := g2 i x hx
   exact ⟨A2, c2, hu, hle, hr2.chg (hc.wide h1)⟩
theorem CR.below (h : CR F e base w v cs) (hb : Below w.heap.size w w') : CR F e base w' v cs := h.chg (Chg.of_below hb (fun _ => False)) (fun _ h => h.elim) (fun _ _ h => h)
theorem RN.more (h : RN F w A n xs) (hF : ∀ k, F' k → F k ∨ w.heap.size ≤ k) : RN F' w A n xs := ⟨h.1, fun ad hn e hf => by
 obtain ⟨ad', e', hb, _⟩ := h.1.2 hn
 rw [e] at e'
 injection e' with e'
 subst e'
 rcases hF _ hf with h2 | h2
 · exact h.2 ad hn e h2
 · omega⟩
theorem CR.sub (h : CR F e base w v cs) (hF : ∀ k, F' k → F k) : CR F' e base w v cs := by
 obtain ⟨us, h1, h2⟩ := h
 refine ⟨us, h1, fun k x hx => ?_⟩
 obtain ⟨A, c, e1, e2, e3⟩ := h2 k x hx
 exact ⟨A, c, e1, e2, e3.sub hF⟩
theorem CR.more (h : CR F e base w v cs) (hF : ∀ k, F' k → F k ∨ w.heap.size ≤ k) : CR F' e base w v cs := by
 obtain ⟨us, h1, h2⟩ := h
 refine ⟨us, h1, fun k x hx => ?_⟩
 obtain ⟨A, c, e1, e2, e3⟩ := h2 k x hx
 exact ⟨A, c, e1, e2, e3.more hF⟩
theorem CR.of_os {G : Nat → Prop} (h : OS tS e w G v cs) (hF : ∀ k, F k → G k → v.ownBlock = some k) (hb : ∀ k, v.ownBlock = some k → base ≤ k) : CR F e base w v cs := by
 obtain ⟨css, Fs, h1, h2, h3, h4, h5, h6⟩ := h
 have hsing : ∀ k (hk : k < cs.length), ∃ A c, css[k]'(by omega) = [.slice A cs[k].length c] ∧ cs[k].length ≤ c ∧ RN F w A cs[k].length cs[k] := by
  intro k hk
  obtain ⟨u, hu, ho⟩ := h6 k hk (by omega)
  obtain ⟨A, c, rfl⟩ := ho.shape
  have hcap := ho.read.cap
  refine ⟨A, c, hu, hcap.2.1, ho.read.ri, fun ad hn he hf => ?_⟩
  subst he
  obtain ⟨css2, Fs2, k1, k2, k3, _⟩ := ho
  have hFs := k3 ad.block rfl
  have h7 := h4 k _ hFs
  exact h7.2 (hF _ hf h7.1)
 refine ⟨css.flatten, ⟨h1.1, ?_⟩, fun k x hx => ?_⟩
 · rcases h1.2 with hn | ⟨g, cap, cur, rfl, hb', rest⟩
   · exact .inl hn
   · exact .inr ⟨g, cap, cur, rfl, hb g rfl, rest⟩
 · have hk := (List.getElem?_eq_some_iff.1 hx).1
   have hx2 : cs[k]'hk = x := (List.getElem?_eq_some_iff.1 hx).2
   subst hx2
   obtain ⟨A, c, e1, e2, e3⟩ := hsing k hk
   refine ⟨A, c, ?_, e2, e3⟩
   have hs : ∀ c ∈ css, c.length = 1 := fun c hc => by
    obtain ⟨i, hi, rfl⟩ := List.getElem_of_mem hc
    obtain ⟨A', c', e1', _⟩ := hsing i (by omega)
    rw [e1']
    rfl
   have := zg0 (s := 1) hs (k := k) (List.getElem?_eq_getElem (by omega)) 0 (by omega)
   rw [Nat.mul_one, Nat.add_zero] at this
   rw [this, e1]
   rfl
def RSN (F : Nat → Prop) (w : World) (v : Value) (cs : List (List Int)) : Prop :=
 ∃ (A : Option Addr) (c : Nat) (us : List Value), v = .slice A cs.length c ∧ cs.length ≤ c ∧ c ≤ maxLen ∧ us.length = cs.length ∧ Reads w w.heap.size 1 A cs.length us ∧ (∀ ad, 0 < cs.length → A = some ad → ¬ F ad.block) ∧
  ∀ (k : Nat) (x : List Int), cs[k]? = some x → ∃ A' c', us[k]? = some (Value.slice A' x.length c') ∧ x.length ≤ c' ∧ RN F w A' x.length x
theorem RSN.chg (h : RSN F w v cs) (hc : Chg F w w') : RSN F w' v cs := by
 obtain ⟨A, c, us, rfl, h1, h2, h3, h4, h5, h6⟩ := h
 refine ⟨A, c, us, rfl, h1, h2, h3, ⟨h4.1, fun hn => ?_⟩, h5, fun k x hx => ?_⟩
 · obtain ⟨ad, e, hb, hk⟩ := h4.2 hn
   refine ⟨ad, e, Nat.lt_of_lt_of_le hb hc.size, fun j u hu => ?_⟩
   have h2 := h5 ad hn e
   rw [World.cell?_of_block (hc.block (ad.add j).block (by rw [ze1]; exact hb) (by rw [ze1]; exact h2))]
   exact hk j u hu
 · obtain ⟨A', c', e1, e2, e3⟩ := h6 k x hx
   exact ⟨A', c', e1, e2, e3.chg hc⟩
theorem RSN.below (h : RSN F w v cs) (hb : Below w.heap.size w w') : RSN F w' v cs := h.chg (Chg.of_below hb F)
theorem RSN.at (h : RSN F w v cs) {k : Nat} (hk : k < cs.length) : ∃ b o c A' c' x, v = .slice (some ⟨b, o, none⟩) cs.length c ∧ b < w.heap.size ∧ ¬ F b ∧ cs[k]? = some x ∧ x.length ≤ c' ∧ RN F w A' x.length x ∧ w.cell? ⟨b, o + k, none⟩ = some (.slice A' x.length c') := by
 obtain ⟨A, c, us, rfl, h1, h2, h3, h4, h5, h6⟩ := h
 obtain ⟨ad, e, hb, hc⟩ := h4.2 (by omega)
 subst e
 obtain ⟨A', c', e1, e2, e3⟩ := h6 k _ (List.getElem?_eq_getElem hk)
 have h0 : 0 < us.length := by omega
 have hsp := zgz (hc 0 _ (List.getElem?_eq_getElem h0))
 have hsp' : ad = ⟨ad.block, ad.off, none⟩ := by simpa [Addr.add] using hsp
 refine ⟨ad.block, ad.off, c, A', c', _, by rw [← hsp'], hb, h5 ad (by omega) rfl, List.getElem?_eq_getElem hk, e2, e3, ?_⟩
 have := hc k _ e1
 rwa [hsp', Addr.add_lit] at this
theorem RSN.of_cr {base : Nat} (h : CR F e base w v cs) (hF : ∀ k, v.ownBlock = some k → ¬ F k) : RSN F w v cs := by
 obtain ⟨us, h1, h2⟩ := h
 obtain ⟨A, c, rfl, hc, hm, hr⟩ := zbr h1
 exact ⟨A, c, us, rfl, hc, hm, by have := h1.1; omega, hr, fun ad hn he => hF _ (by rw [he]; rfl), h2⟩
theorem RSN.shape (h : RSN F w v cs) : ∃ A c, v = .slice A cs.length c := by
 obtain ⟨A, c, us, rfl, _⟩ := h
 exact ⟨A, c, rfl⟩
end
end
section
open Go.RowKit Go.Sort
theorem zr8 {x : Node} (h : x.1 = 1) (fr vs : List Int) : za1 x fr vs = [M.i_ fr x.2.1.toNat] := by rw [za1, if_pos h]
theorem zr9 {x : Node} (h : x.1 ≠ 1) (fr vs : List Int) : za1 x fr vs = zc4 x.2.2.2 vs := by rw [za1, if_neg h]; rfl
theorem zly (b : Nat) (Av : Option Addr) (nv cv : Nat) (vs : List Int) (a0 a1 a2 : Int) (A : Option Addr) (n c : Nat) (xs : List Int) (Af : Option Addr) (nf cf : Nat) (fr : List Int) (w : World)
 (p5 : w.cell? ⟨b, 5, none⟩ = some (.slice Av nv cv)) (hv : RI w w.heap.size Av nv vs) (hx : RI w w.heap.size A n xs) (hf : RI w w.heap.size Af nf fr) (hn : n ≤ 1000000000) (hnv : nv ≤ 1000000000) (hnf : nf ≤ 1000000000)
 (h1 : a0 = 1 → 0 ≤ a1 ∧ a1 < nf) (hr : Hid (∀ f ∈ xs, 0 ≤ f ∧ f < nv)) :
 Calls Tryz.prog 143 #[.pointer (some ⟨b, 0, none⟩), .agg #[.int .i64 a0, .int .i64 a1, .int .i64 a2, .slice A n c], .slice Af nf cf] w (Ret1 2 w (za1 (a0, a1, a2, xs) fr vs)) := by
 have lb : b < w.heap.size := World.block_lt_of_cell? w _ p5
 obtain ⟨W, hW, B0, sW, q0, q1, q2, q3, qf⟩ := zeu w (.int .i64 a0) (.int .i64 a1) (.int .i64 a2) (.slice A n c) 122
 have p5' : W.cell? ⟨b, 5, none⟩ = some (.slice Av nv cv) := by rw [B0.cell (by show b < _; omega)]; exact p5
 have lW : w.heap.size < W.heap.size := by omega
 have HW := Lib.hid hW
 clear hW sW
 by_cases h : a0 = 1
 · have h1' := h1 h
   subst h
   obtain ⟨j, rfl⟩ : ∃ j : Nat, a1 = (j : Int) := ⟨a1.toNat, by omega⟩
   obtain ⟨bf, of, rfl, hbf, hcf⟩ := zbb hf (by omega)
   obtain ⟨_, y, e, _, Y, _⟩ := hf.at (k := j) (by omega)
   have cy : w.cell? ⟨bf, of + j, none⟩ = some (.int .i64 y) := hcf j y Y.out
   have cy' : W.cell? ⟨bf, of + j, none⟩ = some (.int .i64 y) := by rw [B0.cell (by show bf < _; omega)]; exact cy
   have hj0 : (0 : Int) ≤ (j : Int) := by omega
   have hjn : (j : Int) < (nf : Int) := by omega
   have E := Lib.hid (show za1 (1, (j : Int), a2, xs) fr vs = [y] by rw [zr8 rfl]; show [M.i_ fr (j : Int).toNat] = _; rw [Int.toNat_natCast, zhl Y.out])
   have O1 := zel W y
   have B1 : Below w.heap.size w (W.alloc (.cells #[.int .i64 y] 2)) := B0.alloc B0.size _
   rw [HW.out] at O1 B1
   have hz : (w.alloc (.cells #[.int .i64 1, .int .i64 (j : Int), .int .i64 a2, .slice A n c] 122)).heap.size = w.heap.size + 1 := by simp
   rw [hz] at O1
   clear hz
   clear h1 h1' hcf e hr hv hx hf
   go_enter Tryz.func143, Tryz.ntmps143
   go_wp2_with fail
   go_ret
   rw [E.out]
   exact ⟨_, rfl, O1.base (B' := w.heap.size) (by simp), B1⟩
 · have E := Lib.hid (show za1 (a0, a1, a2, xs) fr vs = zc4 xs vs from zr9 h fr vs)
   have hne : (a0 == 1) = false := by simpa using h
   have pq := cell_regrown p5'
   have pq3 := cell_regrown q3
   have D1 : Below W.heap.size W W.drew := zac (Below.refl _ _) 1
   have hd0 : W.drew.heap.size = W.heap.size := rfl
   have B1 : Below w.heap.size w W.drew := zac B0 1
   clear h1
   go_enter Tryz.func143, Tryz.ntmps143
   go_wp2_with fail
   rw [← HW.out]
   (refine zdh [0, 2, 3, 4] [1, 5] 1 (.one 6 .rest) [7] (by kernel_rfl) (by kernel_rfl) ?_; simp only [zaj]; simp only [List.filterMap, List.getElem?_cons_succ, List.getElem?_cons_zero]; (repeat (go_big_quiet_step (fail))); refine wpQuiet_nil ?_; (repeat (go_big_quiet_step (fail))); refine wpQuiet_nil ?_)
   refine za0 rfl ?_
   go_wp2_with fail
   refine (zlm _ _ _ _ _ _ _ _ _ (hx.later B1) (hv.later B1) hn hnv hr).mono ?_
   rintro e w2 ⟨v4, rfl, own1, bel1⟩
   have B2 := zaa D1 bel1
   go_wp2_with fail
   refine ⟨regrown_of_below B2, zbx ?_⟩
   go_wp2_with fail
   refine ⟨rfl, v4, by simp [results, Tryz.results143, go_sem], ?_⟩
   rw [E.out]
   exact ⟨_, rfl, own1.base (by have := B1.size; omega), zaa B1 bel1⟩
theorem zsa (b : Nat) (Av : Option Addr) (nv cv : Nat) (vs : List Int) (A3 : Option Addr) (n3 c3 : Nat) (outs : List Int) (w : World)
 (p3 : w.cell? ⟨b, 3, none⟩ = some (.slice A3 n3 c3)) (p5 : w.cell? ⟨b, 5, none⟩ = some (.slice Av nv cv)) (hv : RI w w.heap.size Av nv vs) (hx : RI w w.heap.size A3 n3 outs) (hn : n3 ≤ 1000000000) (hnv : nv ≤ 1000000000) (hr : Hid (∀ f ∈ outs, 0 ≤ f ∧ f < nv)) :
 Calls Tryz.prog 134 #[.pointer (some ⟨b, 0, none⟩)] w (Ret1 2 w (zc4 outs vs)) := by
 have pq := cell_regrown p5
 have pq3 := cell_regrown p3
 have D1 : Below w.heap.size w w.drew := zac (Below.refl _ _) 1
 have hd0 : w.drew.heap.size = w.heap.size := rfl
 go_enter Tryz.func134, Tryz.ntmps134
 go_wp2_with fail
 (refine zdh [0, 1, 2, 3, 5, 6, 7] [4, 8] 1 (.one 9 .rest) [10] (by kernel_rfl) (by kernel_rfl) ?_; simp only [zaj]; simp only [List.filterMap, List.getElem?_cons_succ, List.getElem?_cons_zero]; (repeat (go_big_quiet_step (fail))); refine wpQuiet_nil ?_; (repeat (go_big_quiet_step (fail))); refine wpQuiet_nil ?_)
 refine za0 rfl ?_
 go_wp2_with fail
 refine (zlm _ _ _ _ _ _ _ _ _ (hx.later D1) (hv.later D1) hn hnv hr).mono ?_
 rintro e w2 ⟨v4, rfl, own1, bel1⟩
 have B2 := zaa D1 bel1
 go_wp2_with fail
 refine ⟨regrown_of_below B2, zbx ?_⟩
 go_wp2_with fail
 refine ⟨rfl, v4, by simp [results, Tryz.results134, go_sem], ?_⟩
 exact ⟨_, rfl, own1.base (by omega), zaa D1 bel1⟩
end
section
open Go.RowKit Go.Sort
def F2 (bv bc : Nat) : Nat → Prop := fun k => k = bv ∨ k = bc
structure Pl (b bv bc L : Nat) (pi : Int) (A1 : Option Addr) (n1 c1 : Nat) (A2 : Option Addr) (n2 c2 : Nat) (A3 : Option Addr) (n3 c3 : Nat) (Ao : Option Addr) (no co cv cc : Nat) (ns : List Node) (tb : List (List Int)) (outs O : List Int) (w : World) : Prop where
 p0 : w.cell? ⟨b, 0, none⟩ = some (.int .i64 pi)
 p1 : w.cell? ⟨b, 1, none⟩ = some (.slice A1 n1 c1)
 p2 : w.cell? ⟨b, 2, none⟩ = some (.slice A2 n2 c2)
 p3 : w.cell? ⟨b, 3, none⟩ = some (.slice A3 n3 c3)
 p4 : w.cell? ⟨b, 4, none⟩ = some (.slice Ao no co)
 p5 : w.cell? ⟨b, 5, none⟩ = some (.slice (some ⟨bv, 0, none⟩) n2 cv)
 p6 : w.cell? ⟨b, 6, none⟩ = some (.slice (some ⟨bc, 0, none⟩) n2 cc)
 h1 : RS tS w L (.slice A1 n1 c1) tb
 h2 : RS tN w L (.slice A2 n2 c2) ns
 h3 : RI w L A3 n3 outs
 h4 : RI w L Ao no O
 lv : L ≤ bv
 lc : L ≤ bc
 ne : bv ≠ bc
 nbv : b ≠ bv
 nbc : b ≠ bc
 lL : L ≤ w.heap.size
section
variable {b bv bc L : Nat} {pi : Int} {A1 : Option Addr} {n1 c1 : Nat} {A2 : Option Addr} {n2 c2 : Nat} {A3 : Option Addr} {n3 c3 : Nat} {Ao : Option Addr} {no co cv cc : Nat} {ns : List Node} {tb : List (List Int)} {outs O : List Int} {w w' : World}
theorem Pl.chg (h : Pl b bv bc L pi A1 n1 c1 A2 n2 c2 A3 n3 c3 Ao no co cv cc ns tb outs O w) (hc : Chg (F2 bv bc) w w') : Pl b bv bc L pi A1 n1 c1 A2 n2 c2 A3 n3 c3 Ao no co cv cc ns tb outs O w' := by
 have lb : b < w.heap.size := World.block_lt_of_cell? w _ h.p0
 have hn : ¬ F2 bv bc b := fun e => e.elim h.nbv h.nbc
 have hB : Below L w w' := hc.toBelow (fun k hk => hk.elim (fun e => e ▸ h.lv) (fun e => e ▸ h.lc)) h.lL
 have key : ∀ j, w'.cell? ⟨b, j, none⟩ = w.cell? ⟨b, j, none⟩ := fun j => hc.cell lb hn
 exact ⟨(key 0).trans h.p0, (key 1).trans h.p1, (key 2).trans h.p2, (key 3).trans h.p3, (key 4).trans h.p4, (key 5).trans h.p5, (key 6).trans h.p6, h.h1.below hB, h.h2.below hB, h.h3.below hB, h.h4.below hB, h.lv, h.lc, h.ne, h.nbv, h.nbc, Nat.le_trans h.lL hc.size⟩
end
theorem zlz {w : World} {b o : Nat} {x : Int} (h : w.cell? ⟨b, o, none⟩ = some (.int .i64 x)) : RI w w.heap.size (some ⟨b, o, none⟩) 1 [x] := by
 refine ⟨rfl, fun _ => ⟨_, rfl, World.block_lt_of_cell? w _ h, fun j u hu => ?_⟩⟩
 match j, hu with
 | 0, hu =>
  simp at hu
  subst hu
  simpa [Addr.add] using h
theorem ri_x {w : World} {B b o n : Nat} {xs : List Int} (h : RI w B (some ⟨b, o, none⟩) n xs) {k : Nat} {x : Int} (hx : xs[k]? = some x) : w.cell? ⟨b, o + k, none⟩ = some (.int .i64 x) := by
 have hk : k < n := by rw [← h.len]; exact (List.getElem?_eq_some_iff.1 hx).1
 obtain ⟨b', o', e, -, hc⟩ := zbb h (by omega)
 simp only [Option.some.injEq, Addr.mk.injEq] at e
 obtain ⟨rfl, rfl, -⟩ := e
 exact hc k x hx
theorem OI.ri' {e : TypeId} {B : Nat} {w : World} {A : Option Addr} {n c : Nat} {xs : List Int} (h : OI e B w (.slice A n c) xs) : RI w w.heap.size A n xs := (RN.of_oi (F := fun _ => False) h (fun _ h => h.elim)).1
theorem zi1 {cs : List (List Int)} {i : Nat} {s : List Int} (h : cs[i]? = some s) : zag cs i = s := by rw [zag, h]; rfl
theorem zdy {F : Nat → Prop} {w U : World} (h : Below w.heap.size w U) : Chg F w U := Chg.of_below h F
theorem zsb (b bv bc L : Nat) (pi : Int) (A1 : Option Addr) (n1 c1 : Nat) (A2 : Option Addr) (n2 c2 : Nat) (A3 : Option Addr) (n3 c3 : Nat) (Ao : Option Addr) (no co cv cc : Nat) (ns : List Node) (tb : List (List Int)) (outs O vs : List Int) (cs : List (List Int)) (bf of cf : Nat) (x : Int) (G : Nat → Prop) (w : World) (hG : ∀ k, F2 bv bc k → G k) (hGs : ∀ k, G k → k < w.heap.size)
 (hP : Pl b bv bc L pi A1 n1 c1 A2 n2 c2 A3 n3 c3 Ao no co cv cc ns tb outs O w) (hF : M.PF ns tb O) (hx : M.smp x = true) (h0 : 0 < n2) (hnz : hNS.sz ns ≤ 100000000)
 (hv : OI 2 L w (.slice (some ⟨bv, 0, none⟩) n2 cv) vs) (hvs : vs.all M.smp = true) (hc : CR G 26 L w (.slice (some ⟨bc, 0, none⟩) n2 cc) cs) (hco : M.CO ns cs)
 (cf0 : w.cell? ⟨bf, of, none⟩ = some (.int .i64 x)) (hbf : bf ≠ bv ∧ bf ≠ bc) :
 Calls Tryz.prog 133 #[.pointer (some ⟨b, 0, none⟩), .slice (some ⟨bf, of, none⟩) 1 cf] w fun e w' => e = .returned (.tuple #[]) ∧ Chg (F2 bv bc) w w' ∧ OI 2 L w' (.slice (some ⟨bv, 0, none⟩) n2 cv) (zbq ns tb [x] O cs) ∧ CR G 26 L w' (.slice (some ⟨bc, 0, none⟩) n2 cc) (zcs ns tb [x] O cs) := by
 have hl2 : ns.length = n2 := hP.h2.cap.1
 have hl1 : tb.length = n1 := hP.h1.cap.1
 have hlo : O.length = no := hP.h4.len
 have hno : no = n2 := by rw [← hlo, hF.top.len, hl2]
 have hlv : vs.length = n2 := hv.n_eq.symm
 have hlc : cs.length = n2 := hc.lenV.symm
 have hxs : [x].all M.smp = true := by simpa using hx
 have hnb : n2 ≤ 24 := by rw [← hl2]; exact hF.len
 have lbf : bf < w.heap.size := World.block_lt_of_cell? w _ cf0
 have lbv : bv < w.heap.size := (World.ownsRow.lt hv _ rfl).2
 have lbc : bc < w.heap.size := by obtain ⟨us, h1, _⟩ := hc; exact (World.ownsRow.lt h1 _ rfl).2
 have lb : b < w.heap.size := World.block_lt_of_cell? w _ hP.p0
 have hne := hP.ne
 have nbv := hP.nbv
 have nbc := hP.nbc
 have lv := hP.lv
 have lc := hP.lc
 have nf : ¬ F2 bv bc bf := fun e => e.elim hbf.1 hbf.2
 obtain ⟨E1, E2⟩ := zpm (tb := tb) (fr := [x]) hF.top vs cs (by rw [hlv, hl2]) (by rw [hlc, hl2])
 rw [hlo] at E1 E2
 obtain ⟨bo, oo, rfl, hbo, -⟩ := zbb hP.h4 (by omega)
 have p1_ := hP.p1
 have p2_ := hP.p2
 have p4_ := hP.p4
 have HL2 := Lib.hid hl2
 have HL1 := Lib.hid hl1
 have HLO := Lib.hid hlo
 have HNO := Lib.hid hno
 have HLV := Lib.hid hlv
 have HE1 := Lib.hid E1
 have HE2 := Lib.hid E2
 have HX := Lib.hid hxs
 have HVS := Lib.hid hvs
 have hno' : no ≤ n2 := by omega
 have hno2 : n2 ≤ no := by omega
 clear hl2 hl1 hlo hno hlv hlc E1 E2 hxs hvs hx
 go_enter Tryz.func133, Tryz.ntmps133
 go_wp2_with fail
 go_loopw [14] (fun i wr => ∃ t : Nat, i = .int .i64 t ∧ t ≤ no ∧ Chg (F2 bv bc) w wr ∧ OI 2 L wr (.slice (some ⟨bv, 0, none⟩) n2 cv) (zba ns tb [x] O vs cs t).1 ∧ CR G 26 L wr (.slice (some ⟨bc, 0, none⟩) n2 cc) (zba ns tb [x] O vs cs t).2) (fun i _ => no - (intOf i).toNat)
 case atStart => exact ⟨0, rfl, by omega, Chg.refl _ _, hv, hc⟩
 case round =>
  obtain ⟨t, rfl, ht, hch, ov, oc⟩ := hrel
  by_cases hlt : t < no
  · obtain ⟨xn, hxn, eN, eO, hi⟩ := hF.ord (t := t) (by rw [HLO.out]; exact hlt)
    obtain ⟨r1, r2⟩ := zls hF HX.out hco HVS.out t (by rw [HLO.out]; omega)
    have HR := Lib.hid (show zba ns tb [x] O vs cs (t + 1) = _ from by rw [zba])
    generalize hri : zam O t = i at *
    generalize hrv : (zba ns tb [x] O vs cs t).1 = V at *
    generalize hrc : (zba ns tb [x] O vs cs t).2 = C at *
    rw [HL2.out] at hi
    have hok := hF.ok _ _ hxn
    have hfr := hF.fr _ _ hxn
    have hinp := hF.inp _ _ hxn
    have hcx := r2.at_ _ _ hxn
    clear hri hrv hrc
    obtain ⟨bb, o, a0, a1, a2, A6, c6, x3, rfl, hbb, X, e0, e1, e2, e3, hr3, h3b⟩ := zes (hP.chg hch).h2 hnz hi
    obtain rfl : xn = (a0, a1, a2, x3) := Option.some.inj (hxn.symm.trans X.out)
    have hot : O[t]? = some (i : Int) := by
     have h2 : t < O.length := by rw [HLO.out]; exact hlt
     rw [M.i_, List.getElem?_eq_getElem h2] at eO
     rw [List.getElem?_eq_getElem h2]
     exact congrArg some eO
    have co1 : wr.cell? ⟨bo, oo + t, none⟩ = some (.int .i64 (i : Int)) := ri_x (hP.chg hch).h4 hot
    obtain ⟨U, hU, GU, sU, q0, q1, q2, q3, qf⟩ := zeu wr (.int .i64 a0) (.int .i64 a1) (.int .i64 a2) (.slice A6 x3.length c6) 122
    have HU := Lib.hid hU
    have hchU : Chg (F2 bv bc) w U := hch.trans (zdy GU)
    have hPU := hP.chg hchU
    have ovU := ov.below GU
    have ocU := oc.below GU
    obtain ⟨A', c', s, hs1, hs2, hs3, hs4, hs5⟩ := ocU.at (k := i) hi
    obtain ⟨y, hy1, hy2, hy3, -, -⟩ := ovU.at' (k := i) hi
    have hcs : zag C i = s := zi1 hs1
    rw [hcs] at hcx
    have cfU : U.cell? ⟨bf, of, none⟩ = some (.int .i64 x) := by rw [hchU.cell lbf nf]; exact cf0
    have hszr := hch.size
    have hszU := GU.size
    have p1 := hPU.p1
    have p2 := hPU.p2
    have p5 := hPU.p5
    have p6 := hPU.p6
    have p2r := (hP.chg hch).p2
    have i0 : (0 : Int) ≤ (i : Int) := by omega
    have i1 : (i : Int) < (n2 : Int) := by omega
    have t0 : (0 : Int) ≤ (t : Int) := by omega
    have t1 : (t : Int) < (no : Int) := by omega
    have HCX := Lib.hid hcx
    have HCS := Lib.hid hcs
    have HXN := Lib.hid hxn
    have HEN := Lib.hid eN
    have HOK := Lib.hid hok
    have HFR := Lib.hid hfr
    have lblk : wr.heap.size < U.heap.size := by omega
    have D1 : Below U.heap.size U U.drew := zac (Below.refl _ _) 1
    have hd0 : U.drew.heap.size = U.heap.size := rfl
    clear hU sU hcx hcs hxn eN hok hfr eO hs1
    by_cases h6 : a0 = 6
    · subst h6
      have h6' := (zek HOK.out).2.1 rfl
      simp only at h6'
      have hsl : 1 ≤ s.length := by rw [HCX.out.1]; simp [zcc]; omega
      obtain ⟨bs, os, s0, rfl, hbs, hnF, hs0, cs0⟩ := hs3.at (k := 0) (by omega)
      rw [Nat.add_zero] at cs0
      have HT := Lib.hid (show zba ns tb [x] O vs cs (t + 1) = (V.set i s0, C) by rw [HR.out, HEN.out, if_pos rfl, HCS.out, zhl hs0])
      have nsv : bs ≠ bv := fun e => hnF (hG _ (Or.inl e))
      have nsc : bs ≠ bc := fun e => hnF (hG _ (Or.inr e))
      have pp5 := cell_regrown p5
      have pp6 := cell_regrown p6
      have ppc := cell_regrown hs4
      have pps := cell_regrown cs0
      have zv : U.drew.cell? ⟨bv, i, none⟩ = some (.int .i64 y) := hy2
      have zf : U.drew.frozen? ⟨bv, i, none⟩ = false := hy3
      have hs0' := Lib.hid hs0
      have hl1s : (0 : Int) < (s.length : Int) := by omega
      clear HR HCS hs0 h6' hinp
      go_wp2_with fail
      rw [← HU.out]
      go_wp2_with fail
      (refine zdc [0, 1, 2, 4, 5, 6, 7, 9] [3, 8, 10, 11, 12, 13] 1 (.first 14 .rest) [15] [15] (by kernel_rfl) (by kernel_rfl) ?_; simp only [zaj]; simp only [List.filterMap, List.getElem?_cons_succ, List.getElem?_cons_zero]; (repeat (go_big_quiet_step (fail))); refine wpQuiet_nil ?_; (repeat (go_big_quiet_step (fail))); refine wpQuiet_nil ?_)
      (refine zbf rfl ?_; (repeat (go_big_quiet_step (fail))); refine wpQuiet_nil ?_)
      refine zbg ?_
      go_wp2_with fail
      have O2 := (ovU.stored' i s0).below (zac (Below.refl _ _) 1)
      have C2 := (ocU.chg (Chg.set (F := fun k => k = bv) U bv i (.int .i64 s0) rfl) (fun k hk => hG _ (Or.inl hk)) (fun k hk hk2 => by simp only [Value.ownBlock, Option.some.injEq] at hk; omega)).below (zac (Below.refl _ _) 1)
      refine ⟨⟨t + 1, by go_num, by omega, (hchU.trans (Chg.set U bv i (.int .i64 s0) (Or.inl rfl))).trans (zdy (zac (Below.refl _ _) 1)), ?_, ?_⟩, by simp [intOf]; omega⟩
      · rw [HT.out]
        exact O2
      · rw [HT.out]
        exact C2
    · have hne6 : (a0 == 6) = false := by simpa using h6
      have HIL := Lib.hid (zlp (x := (a0, a1, a2, x3)) HOK.out [x] V)
      have HIA := Lib.hid (zfc (x := (a0, a1, a2, x3)) HX.out r1)
      have HT := Lib.hid (show zba ns tb [x] O vs cs (t + 1) = (V.set i (zan (a0, a1, a2, x3) tb (za1 (a0, a1, a2, x3) [x] V) s), C.set i (zaq (a0, a1, a2, x3) (za1 (a0, a1, a2, x3) [x] V) s (zan (a0, a1, a2, x3) tb (za1 (a0, a1, a2, x3) [x] V) s))) by rw [HR.out, HEN.out, if_neg h6, HCS.out])
      have pp1 := cell_regrown p1
      have pp5 := cell_regrown p5
      have pp6 := cell_regrown p6
      have ppc := cell_regrown hs4
      have pq0 := cell_regrown q0
      have pq1 := cell_regrown q1
      have pq2 := cell_regrown q2
      have pq3 := cell_regrown q3
      have hfrU : RI U.drew U.drew.heap.size (some ⟨bf, of, none⟩) 1 [x] := zlz (by show U.cell? _ = _; exact cfU)
      have hvU := (ovU.below D1).ri'
      generalize hI : za1 (a0, a1, a2, x3) [x] V = I at *
      clear HR HCS
      go_wp2_with fail
      rw [← HU.out]
      go_wp2_with fail
      (refine zdc [0, 1, 2, 4, 5, 6, 7, 9, 11, 12, 13, 14, 16, 18, 20, 21, 22, 24] [3, 8, 10, 15, 17, 23, 25, 26] 6 (.one 19 (.one 27 (.first 28 (.first 29 (.first 30 (.first 31 .rest)))))) [32, 34] [32, 33, 34] (by kernel_rfl) (by kernel_rfl) ?_; simp only [zaj]; simp only [List.filterMap, List.getElem?_cons_succ, List.getElem?_cons_zero]; (repeat (go_big_quiet_step (fail))); refine wpQuiet_nil ?_; (repeat (go_big_quiet_step (fail))); refine wpQuiet_nil ?_)
      refine zai rfl ?_
      go_wp2_with fail
      refine (zly b _ _ cv V a0 a1 a2 _ _ c6 x3 _ _ cf [x] _ (show U.drew.cell? _ = _ from p5) hvU ((hr3.more (by omega)).later (zaa GU D1)) hfrU (by omega) (by omega) (by omega) (fun e => by have : a1 = 0 := hinp e; omega) (Lib.hid (fun f hf => by have := HFR.out f hf; rw [HL2.out] at this; exact this))).mono ?_
      rintro e w2 ⟨v4, rfl, own1, bel1⟩
      rw [hI] at own1
      obtain ⟨A4, c4, rfl, hri4⟩ := own1.shape
      have B2 := zaa D1 bel1
      have s2 := bel1.size
      go_wp2_with fail
      refine ⟨regrown_of_below B2, ?_⟩
      refine zai rfl ?_
      go_wp2_with fail
      refine (zrv a0 a1 a2 _ _ c6 x3 _ _ c1 tb _ _ c4 I _ _ c' s _ ((hPU.h1.below (B2.mono (by omega))).more (by omega)) hF.tabs hri4 (hs3.below B2).1 (by omega) (by rw [← HL1.out]; exact HOK.out) HIL.out HIA.out HCX.out.1 HCX.out.2).mono ?_
      rintro e w3 ⟨v5, rfl, own2, bel2⟩
      obtain ⟨A5, c5, rfl, hle5, -, -⟩ := zbr own2
      have B3 := zaa B2 bel2
      have s3 := bel2.size
      go_wp2_with fail
      refine ⟨regrown_of_below B3, ?_⟩
      (refine zbf rfl ?_; (repeat (go_big_quiet_step (fail))); refine wpQuiet_nil ?_)
      (refine zbf rfl ?_; (repeat (go_big_quiet_step (fail))); refine wpQuiet_nil ?_)
      (refine zbf rfl ?_; (repeat (go_big_quiet_step (fail))); refine wpQuiet_nil ?_)
      (refine zbf rfl ?_; (repeat (go_big_quiet_step (fail))); refine wpQuiet_nil ?_)
      refine zbg ?_
      have zv : w3.cell? ⟨bv, i, none⟩ = some (.int .i64 y) := by rw [B3.cell (by show bv < _; omega)]; exact hy2
      have zf : w3.frozen? ⟨bv, i, none⟩ = false := by rw [B3.frozen (by show bv < _; omega)]; exact hy3
      have zc : w3.cell? ⟨bc, i, none⟩ = some (.slice A' s.length c') := by rw [B3.cell (by show bc < _; omega)]; exact hs4
      have zcf : w3.frozen? ⟨bc, i, none⟩ = false := by rw [B3.frozen (by show bc < _; omega)]; exact hs5
      generalize hOut : zan (a0, a1, a2, x3) tb I s = out at *
      generalize hNx : zaq (a0, a1, a2, x3) I s out = nx at *
      go_wp2_with fail
      have hRN : RN G w3 A5 nx.length nx := RN.of_oi own2 (fun k hk => by have := hGs k hk; omega)
      have O2 := ((ovU.below B3).stored' i out).kept (zco _ bc i (.slice A5 nx.length c5)) (.inr (by simp only [Value.ownBlock, ne_eq, Option.some.injEq]; exact hne))
      have C2 := ((ocU.below B3).chg (Chg.set (F := fun k => k = bv) w3 bv i (.int .i64 out) rfl) (fun k hk => hG _ (Or.inl hk)) (fun k hk hk2 => by simp only [Value.ownBlock, Option.some.injEq] at hk; omega)).set (hG _ (Or.inr rfl)) i hle5 (hRN.chg (Chg.set _ bv i _ (hG _ (Or.inl rfl))))
      refine ⟨⟨t + 1, by go_num, by omega, ((hchU.trans (zdy B3)).trans (Chg.set w3 bv i _ (Or.inl rfl))).trans (Chg.set _ bc i _ (Or.inr rfl)), ?_, ?_⟩, by simp [intOf]; omega⟩
      · rw [HT.out]
        exact O2
      · rw [HT.out]
        exact C2
  · have htn : t = no := by omega
    obtain ⟨r1, r2⟩ := zls hF HX.out hco HVS.out no (by rw [HLO.out]; omega)
    rw [htn] at ov oc
    rw [HE1.out] at ov r1
    clear htn
    generalize hV : zbq ns tb [x] O cs = V at *
    generalize hC : (zba ns tb [x] O vs cs no).2 = C at *
    have hPr := hP.chg hch
    have hszr := hch.size
    have p2 := hPr.p2
    have HV := Lib.hid hV
    clear hV hC hv hc p1_ p2_ p4_ HE1
    go_wp2_with fail
    obtain ⟨wo, rfl⟩ : ∃ wo : World, wo = wr := ⟨_, rfl⟩
    go_loopw [84] (fun i wr => ∃ t : Nat, i = .int .i64 t ∧ t ≤ n2 ∧ Chg (F2 bv bc) w wr ∧ OI 2 L wr (.slice (some ⟨bv, 0, none⟩) n2 cv) V ∧ CR G 26 L wr (.slice (some ⟨bc, 0, none⟩) n2 cc) (zcr ns [x] V C t)) (fun i _ => n2 - (intOf i).toNat)
    case atStart => exact ⟨0, rfl, by omega, hch, ov, oc⟩
    case round =>
     clear hch ov oc hPr hszr p2
     obtain ⟨t, rfl, ht, hch, ov, oc⟩ := hrel
     by_cases hlt : t < n2
     · have r3 := zr3 hF HX.out r2 r1 t (by rw [HL2.out]; omega)
       have HR := Lib.hid (show zcr ns [x] V C (t + 1) = _ from by rw [zcr])
       have hxn := zfs (ns := ns) (i := t) (by rw [HL2.out]; exact hlt)
       generalize hrd : zcr ns [x] V C t = C1 at *
       obtain ⟨xn, hN⟩ : ∃ xn, zar ns t = xn := ⟨_, rfl⟩
       rw [hN] at hxn
       have hok := hF.ok _ _ hxn
       have hfr := hF.fr _ _ hxn
       have hcx := r3.at_ _ _ hxn
       clear hrd
       obtain ⟨bb, o, a0, a1, a2, A6, c6, x3, rfl, hbb, X, e0, e1, e2, e3, hr3, h3b⟩ := zes (hP.chg hch).h2 hnz hlt
       obtain rfl : xn = (a0, a1, a2, x3) := Option.some.inj (hxn.symm.trans X.out)
       obtain ⟨U, hU, GU, sU, q0, q1, q2, q3, qf⟩ := zeu wr (.int .i64 a0) (.int .i64 a1) (.int .i64 a2) (.slice A6 x3.length c6) 122
       have HU := Lib.hid hU
       have hchU : Chg (F2 bv bc) w U := hch.trans (zdy GU)
       have hPU := hP.chg hchU
       have ovU := ov.below GU
       have ocU := oc.below GU
       obtain ⟨A', c', s, hs1, hs2, hs3, hs4, hs5⟩ := ocU.at (k := t) hlt
       have hcs : zag C1 t = s := zi1 hs1
       rw [hcs] at hcx
       have cfU : U.cell? ⟨bf, of, none⟩ = some (.int .i64 x) := by rw [hchU.cell lbf nf]; exact cf0
       have hszr := hch.size
       have hszU := GU.size
       have p5 := hPU.p5
       have p6 := hPU.p6
       have i0 : (0 : Int) ≤ (t : Int) := by omega
       have i1 : (t : Int) < (n2 : Int) := by omega
       have HCX := Lib.hid hcx
       have HCS := Lib.hid hcs
       have HNN := Lib.hid hN
       have HOK := Lib.hid hok
       have HFR := Lib.hid hfr
       have lblk : wr.heap.size < U.heap.size := by omega
       have D1 : Below U.heap.size U U.drew := zac (Below.refl _ _) 1
       have hd0 : U.drew.heap.size = U.heap.size := rfl
       clear hU sU hcx hcs hxn hN hok hfr hs1
       by_cases h6 : a0 = 6
       · subst h6
         have h6' := (zek HOK.out).2.1 rfl
         simp only at h6'
         have hsl : 1 ≤ s.length := by rw [HCX.out.1]; simp [zcc]; omega
         have HIL := Lib.hid (zlp (x := (6, a1, a2, x3)) HOK.out [x] V)
         have HIA := Lib.hid (zfc (x := (6, a1, a2, x3)) HX.out r1)
         have HT := Lib.hid (show zcr ns [x] V C (t + 1) = C1.set t (zaq (6, a1, a2, x3) (za1 (6, a1, a2, x3) [x] V) s 0) by rw [HR.out, HNN.out, if_pos rfl, HCS.out])
         have pp5 := cell_regrown p5
         have pp6 := cell_regrown p6
         have ppc := cell_regrown hs4
         have pq0 := cell_regrown q0
         have pq1 := cell_regrown q1
         have pq2 := cell_regrown q2
         have pq3 := cell_regrown q3
         have hfrU : RI U.drew U.drew.heap.size (some ⟨bf, of, none⟩) 1 [x] := zlz (by show U.cell? _ = _; exact cfU)
         have hvU := (ovU.below D1).ri'
         generalize hI : za1 (6, a1, a2, x3) [x] V = I at *
         clear HR HCS h6'
         obtain ⟨s0, ss, rfl⟩ := zix hsl
         go_wp2_with fail
         rw [← HU.out]
         go_wp2_with fail
         (refine zdc [0, 1, 2, 4, 6, 8, 10, 11, 12, 14] [3, 5, 7, 13, 15, 16] 6 (.one 9 (.one 17 (.first 18 (.first 19 (.first 20 (.first 21 .rest)))))) [22] [22] (by kernel_rfl) (by kernel_rfl) ?_; simp only [zaj]; simp only [List.filterMap, List.getElem?_cons_succ, List.getElem?_cons_zero]; (repeat (go_big_quiet_step (fail))); refine wpQuiet_nil ?_; (repeat (go_big_quiet_step (fail))); refine wpQuiet_nil ?_)
         refine zai rfl ?_
         go_wp2_with fail
         refine (zly b _ _ cv V 6 a1 a2 _ _ c6 x3 _ _ cf [x] _ (show U.drew.cell? _ = _ from p5) hvU ((hr3.more (by omega)).later (zaa GU D1)) hfrU (by omega) (by omega) (by omega) (fun e => absurd e (by decide)) (Lib.hid (fun f hf => by have := HFR.out f hf; rw [HL2.out] at this; exact this))).mono ?_
         rintro e w2 ⟨v4, rfl, own1, bel1⟩
         rw [hI] at own1
         have hil : I.length = 1 := HIL.out
         obtain ⟨x0, rfl⟩ := len1 hil
         obtain ⟨g4, cap4, hA4, -, -⟩ := own1.form (by simp)
         subst hA4
         obtain ⟨y4, hy4, cy4, -, -, -⟩ := own1.at' (k := 0) (by simp)
         obtain rfl : y4 = x0 := by have := hy4.out; simpa using this.symm
         have B2 := zaa D1 bel1
         have s2 := bel1.size
         clear hil hy4
         go_wp2_with fail
         refine ⟨regrown_of_below B2, ?_⟩
         refine zai rfl ?_
         obtain ⟨bs, os, rfl, hbs, hcs0⟩ := zbb hs3.1 (by simp)
         go_wp2_with fail
         refine (zlo a1 a2 _ _ c6 _ _ _ cap4 _ _ _ c' y4 s0 ss _ cy4 (hs3.below B2).1 (by have := HCX.out.1; have h6' := (zek HOK.out).2.1 rfl; simp [zcc] at this h6'; simp; omega) hs2).mono ?_
         rintro e w3 ⟨v5, rfl, own2, bel2⟩
         obtain ⟨A5, c5, rfl, hle5, -, -⟩ := zbr own2
         have B3 := zaa B2 bel2
         have s3 := bel2.size
         go_wp2_with fail
         refine ⟨regrown_of_below B3, ?_⟩
         (refine zbf rfl ?_; (repeat (go_big_quiet_step (fail))); refine wpQuiet_nil ?_)
         (refine zbf rfl ?_; (repeat (go_big_quiet_step (fail))); refine wpQuiet_nil ?_)
         (refine zbf rfl ?_; (repeat (go_big_quiet_step (fail))); refine wpQuiet_nil ?_)
         (refine zbf rfl ?_; (repeat (go_big_quiet_step (fail))); refine wpQuiet_nil ?_)
         refine zbg ?_
         have zc : w3.cell? ⟨bc, t, none⟩ = some (.slice (some ⟨bs, os, none⟩) (s0 :: ss).length c') := by rw [B3.cell (by show bc < _; omega)]; exact hs4
         have zcf : w3.frozen? ⟨bc, t, none⟩ = false := by rw [B3.frozen (by show bc < _; omega)]; exact hs5
         have HNX := Lib.hid (show zaq (6, a1, a2, x3) [y4] (s0 :: ss) 0 = ss ++ [y4] by simp [zaq, M.i_])
         have hln : (ss ++ [y4]).length = ss.length + 1 := by simp
         have hRN : RN G w3 A5 (ss ++ [y4]).length (ss ++ [y4]) := RN.of_oi own2 (fun k hk => by have := hGs k hk; omega)
         have C2 := (ocU.below B3).set (hG _ (Or.inr rfl)) t hle5 hRN
         rw [hln] at C2
         have HLN := Lib.hid hln
         have O2 := (ovU.below B3).kept (zco _ bc t (.slice A5 (ss.length + 1) c5)) (.inr (by simp only [Value.ownBlock, ne_eq, Option.some.injEq]; exact hne))
         clear hln
         go_wp2_with fail
         refine ⟨⟨t + 1, by go_num, by omega, (hchU.trans (zdy B3)).trans (Chg.set w3 bc t _ (Or.inr rfl)), O2, ?_⟩, by simp [intOf]; omega⟩
         rw [HT.out, HNX.out]
         exact C2
       · have hne6 : (a0 == 6) = false := by simpa using h6
         have HT := Lib.hid (show zcr ns [x] V C (t + 1) = C1 by rw [HR.out, HNN.out, if_neg h6])
         clear HR
         go_wp2_with fail
         rw [← HU.out]
         go_wp2_with fail
         exact ⟨⟨t + 1, by go_num, by omega, hchU, ovU, by rw [HT.out]; exact ocU⟩, by simp [intOf]; omega⟩
     · have htn : t = n2 := by omega
       subst htn
       have HE := HE2.out
       rw [HL2.out] at HE
       rw [HE] at oc
       go_wp2_with fail
       go_end0
       exact ⟨rfl, hch, by rw [HV.out]; exact ov, oc⟩
end
section
open Go.RowKit Go.Sort
theorem zsc {x : Node} {t : Int} (h : zak x t = true) : (za3 x).length ≤ 16 := by
 rw [(zlr h).1]
 obtain ⟨k, a, b, l⟩ := x
 obtain ⟨hk, h6, h17⟩ := zek h
 simp only at hk h6 h17
 rw [zcc]
 dsimp only
 by_cases e6 : k = 6
 · have := h6 e6
   rw [if_pos e6]; omega
 rw [if_neg e6]
 by_cases e17 : k = 17
 · have := h17 e17
   rw [if_pos e17]; omega
 rw [if_neg e17]
 repeat' split
 all_goals omega
theorem zsd {ns : List Node} {k : Nat} {x : Node} (h : ns[k]? = some x) : (ns.map za3).take (k + 1) = (ns.map za3).take k ++ [za3 x] := by
 rw [M.take_at]
 simp [h]
theorem zse (a0 : Int) (A1 : Option Addr) (n1 c1 : Nat) (A2 : Option Addr) (n2 c2 : Nat) (A3 : Option Addr) (n3 c3 : Nat) (ns : List Node) (tb : Int) (w : World) (h2 : RS tN w w.heap.size (.slice A2 n2 c2) ns) (hnz : hNS.sz ns ≤ 100000000) (hok : Hid (∀ x ∈ ns, zak x tb = true)) :
 Calls Tryz.prog 115 #[.agg #[.int .i64 a0, .slice A1 n1 c1, .slice A2 n2 c2, .slice A3 n3 c3]] w fun e w' => ∃ v, e = .returned (.agg #[v]) ∧ OS tS 26 w' (Iv w.heap.size w'.heap.size) v (ns.map za3) ∧ Below w.heap.size w w' := by
 obtain ⟨W0, hW0, B0_, s0, p0, p1, p2, p3, pf⟩ := zeu w (.int .i64 a0) (.slice A1 n1 c1) (.slice A2 n2 c2) (.slice A3 n3 c3) 36
 obtain ⟨W1, hW1, B1_, s1, r0, rf⟩ := zfb W0 (.slice none 0 0) 153
 obtain ⟨W, hW, B2_, s2, d0, df⟩ := zfb W1 (.slice none 0 0) 153
 have BW := zaa (zaa B0_ B1_) B2_
 have q2 : W.cell? ⟨w.heap.size, 2, none⟩ = some (.slice A2 n2 c2) := by rw [(zaa B1_ B2_).cell (by show w.heap.size < _; omega)]; exact p2
 have R0 : W.cell? ⟨w.heap.size + 1, 0, none⟩ = some (.slice none 0 0) := by rw [s0] at r0; rw [B2_.cell (by show w.heap.size + 1 < _; omega)]; exact r0
 have RF : W.frozen? ⟨w.heap.size + 1, 0, none⟩ = false := by have := rf 0; rw [s0] at this; rw [B2_.frozen (by show w.heap.size + 1 < _; omega)]; exact this
 have e1 : W1.heap.size = w.heap.size + 1 + 1 := by omega
 rw [e1] at d0 df
 have df0 := df 0
 rw [hW0] at hW1
 rw [hW1] at hW
 have HW := Lib.hid hW
 have lW : w.heap.size + 1 + 1 < W.heap.size := by omega
 have hl := Lib.hid h2.cap.1
 have hnb : n2 ≤ 100000000 := by have e : ns.length + hN.szL ns = hNS.sz ns := rfl; have := hl.out; omega
 clear hW0 hW1 hW s0 s1 s2 e1 p0 p1 p2 p3 pf r0 rf df B0_ B1_ B2_
 go_enter Tryz.func115, Tryz.ntmps115
 go_wp2_with fail
 rw [← HW.out]
 go_wp2_with fail
 go_loopw [10] (fun i wr => ∃ (k : Nat) (v : Value), i = .int .i64 k ∧ k ≤ n2 ∧ OS tS 26 wr (Iv W.heap.size wr.heap.size) v ((ns.map za3).take k) ∧ Gr (w.heap.size + 1 + 1) 0 W wr v) (fun i _ => n2 - (intOf i).toNat)
 case atStart => exact ⟨0, _, rfl, by omega, OS.nil _ _ _ _, Gr.start d0⟩
 case round =>
  obtain ⟨k, v, rfl, hk, own, G⟩ := hrel
  have sr := G.chg.size
  have Cwr : Below w.heap.size w wr := BW.trans (G.chg.toBelow (fun b (hb : b = _) => by omega) (by omega))
  by_cases hlt : k < n2
  · obtain ⟨bb, o, b0, b1, b2, A5, c5, y3, rfl, hbb, X, e0, e1, e2, e3, hr3, h3b⟩ := zes (h2.below Cwr) hnz hlt
    have hbw : bb < wr.heap.size := by omega
    obtain ⟨V, hV, BV, sV, n0, n1, n2_, n3_, nf⟩ := zeu wr (.int .i64 b0) (.int .i64 b1) (.int .i64 b2) (.slice A5 y3.length c5) 122
    have hvg : V.cell? ⟨w.heap.size + 1 + 1, 0, none⟩ = some v := by rw [BV.cell (by show w.heap.size + 1 + 1 < _; omega)]; exact G.cel
    have m0 := cell_regrown n0
    have m1 := cell_regrown n1
    have m2 := cell_regrown n2_
    have m3 := cell_regrown n3_
    have mg := cell_regrown hvg
    have HV := Lib.hid hV
    have DV : Below wr.heap.size wr V.drew := zac BV 1
    have DD : Below V.heap.size V V.drew := zac (Below.refl _ _) 1
    have hdv : V.drew.heap.size = V.heap.size := rfl
    have hpt := Lib.hid (zsd X.out)
    have hxl : ((ns.map za3).take k).length ≤ 100000000 := by rw [List.length_take]; omega
    have hokx := hok.out _ (List.mem_of_getElem? X.out)
    have HOK := Lib.hid hokx
    clear hV hokx
    go_wp2_with fail
    rw [← HV.out]
    (refine zdh [0] [1, 2] 2 (.one 3 (.one 4 .rest)) [5, 6, 7] (by kernel_rfl) (by kernel_rfl) ?_; simp only [zaj]; simp only [List.filterMap, List.getElem?_cons_succ, List.getElem?_cons_zero]; (repeat (go_big_quiet_step (fail))); refine wpQuiet_nil ?_; (repeat (go_big_quiet_step (fail))); refine wpQuiet_nil ?_)
    refine za0 rfl ?_
    go_wp2_with fail
    refine (zq7 b0 b1 b2 _ _ c5 y3 tb _ HOK.out).mono ?_
    rintro e w2 ⟨v1, rfl, on, bel2⟩
    generalize hS : za3 (b0, b1, b2, y3) = st at *
    obtain ⟨A6, c6, rfl, -⟩ := on.shape
    have s2_ := bel2.size
    have Bw2 := zaa DV bel2
    have BVw := zaa DD bel2
    have own2 := own.below Bw2 (Nat.le_refl _)
    have G2 := G.below Bw2 (by omega)
    have os2 := tS_O.2 (OI.os on)
    go_wp2_with fail
    refine ⟨regrown_of_below BVw, za0 rfl ?_⟩
    go_wp2_with fail
    refine ⟨regrown_of_below (zaa BVw ((Below.refl _ _).alloc (Nat.le_refl _) _)), zbx ?_⟩
    go_wp2_with (at_builtin; refine zaz ei_S #[.slice A6 st.length c6] rfl _ _ rfl own2 os2 (Iv.apart (by omega)) rfl rfl (by unfold maxLen; omega) (by omega) ?_; intro v3 w4 own4 ch4; obtain ⟨A7, c7, e7⟩ := own4.shape; obtain ⟨n7, hn7⟩ : ∃ n7, n7 = ((ns.map za3).take k ++ [st]).length := ⟨_, rfl⟩; rw [← hn7] at e7; subst e7; have HN7 := Lib.hid hn7; clear hn7; have G4 := G2.row ch4 (by omega) (fun b hb => ⟨hb.1, by have := hb.1; omega⟩); have hc4 := G4.cel; have hf4 : w4.frozen? ⟨w.heap.size + 1 + 1, 0, none⟩ = false := (by rw [G4.fro]; exact df0))
    go_roundw
    case rel =>
     have s4 := ch4.size
     refine ⟨k + 1, _, by go_num, by omega, ?_, G4.set df0 _⟩
     rw [hpt.out]
     refine (own4.chg (Chg.set (F := fun b => b = w.heap.size + 1 + 1) w4 (w.heap.size + 1 + 1) 0 _ rfl) (fun b hb (e : b = _) => ?_)).wide (fun b hb => ?_)
     · rcases hb with hb | hb | hb
       · have := hb.1; omega
       · have := hb.1; omega
       · omega
     · have e9 : (w4.setCell ⟨w.heap.size + 1 + 1, 0, none⟩ (.slice A7 n7 c7)).heap.size = w4.heap.size := by simp
       rcases hb with hb | hb | hb
       · exact ⟨hb.1, by have := hb.2; omega⟩
       · exact ⟨by have := hb.1; omega, by have := hb.2; omega⟩
       · exact ⟨by omega, by omega⟩
    case measure => simp [intOf]; omega
  · obtain rfl : k = n2 := by omega
    rw [List.take_of_length_le (by rw [List.length_map, hl.out]; exact Nat.le_refl _)] at own
    obtain ⟨A2', c2', rfl⟩ := own.shape
    have gc := G.cel
    have R1 : wr.cell? ⟨w.heap.size + 1, 0, none⟩ = some (.slice none 0 0) := by rw [G.chg.cell (by omega) (by omega)]; exact R0
    have S1 : wr.frozen? ⟨w.heap.size + 1, 0, none⟩ = false := by rw [G.chg.frozen (by omega) (by omega)]; exact RF
    generalize hsl : (ns.map za3).length = sl at *
    go_wp2
    refine bodyPost_ret (v := .agg #[.slice A2' sl c2']) (by simp [results, Tryz.results115, go_sem, R1, S1]) rfl ?_
    refine ⟨_, rfl, ?_, ?_⟩
    · exact ((own.chg (Chg.set (F := fun b => b = w.heap.size + 1) wr (w.heap.size + 1) 0 _ rfl) (fun b hb (e : b = _) => by have := hb.1; omega))).wide (fun b hb => ⟨by have := hb.1; omega, by have := hb.2; simpa using this⟩)
    · exact Cwr.setCell (by simp) _
end
section
open Go.RowKit Go.Sort
theorem zsf (w : World) (z0 z1 z2 z3 z4 z5 z6 : Value) (t : TypeId) : ∃ U, U = w.alloc (.cells #[z0, z1, z2, z3, z4, z5, z6] t) ∧ Below w.heap.size w U ∧ U.heap.size = w.heap.size + 1 ∧ U.cell? ⟨w.heap.size, 0, none⟩ = some z0 ∧ U.cell? ⟨w.heap.size, 1, none⟩ = some z1 ∧ U.cell? ⟨w.heap.size, 2, none⟩ = some z2 ∧ U.cell? ⟨w.heap.size, 3, none⟩ = some z3 ∧ U.cell? ⟨w.heap.size, 4, none⟩ = some z4 ∧ U.cell? ⟨w.heap.size, 5, none⟩ = some z5 ∧ U.cell? ⟨w.heap.size, 6, none⟩ = some z6 :=
 ⟨_, rfl, (Below.refl _ _).alloc (Nat.le_refl _) _, by simp, by simp [go_sem], by simp [go_sem], by simp [go_sem], by simp [go_sem], by simp [go_sem], by simp [go_sem], by simp [go_sem]⟩
theorem zsg (pi : Int) (A1 : Option Addr) (n1 c1 : Nat) (A2 : Option Addr) (n2 c2 : Nat) (A3 : Option Addr) (n3 c3 : Nat) (Av : Option Addr) (nv cv : Nat) (ns : List Node) (tb : List (List Int)) (outs : List Int) (cs : List (List Int)) (w : World)
 (h1 : RS tS w w.heap.size (.slice A1 n1 c1) tb) (h2 : RS tN w w.heap.size (.slice A2 n2 c2) ns) (h3 : RI w w.heap.size A3 n3 outs) (hS : tSS.R w w.heap.size [.slice Av nv cv] cs) (hF : M.PF ns tb (za8 ns)) (h0 : 0 < n2) (hnz : hNS.sz ns ≤ 100000000) (hcz : hSS.sz cs ≤ 100000000) (hcl : cs.length = ns.length) :
 Calls Tryz.prog 114 #[.agg #[.int .i64 pi, .slice A1 n1 c1, .slice A2 n2 c2, .slice A3 n3 c3], .agg #[.slice Av nv cv]] w fun e w' => ∃ (b bv bc L : Nat) (Ao : Option Addr) (co cv' cc : Nat), e = .returned (.pointer (some ⟨b, 0, none⟩)) ∧
  Pl b bv bc L pi A1 n1 c1 A2 n2 c2 A3 n3 c3 Ao n2 co cv' cc ns tb outs (za8 ns) w' ∧ OI 2 L w' (.slice (some ⟨bv, 0, none⟩) n2 cv') (List.replicate n2 0) ∧ CR (F2 bv bc) 26 L w' (.slice (some ⟨bc, 0, none⟩) n2 cc) cs ∧ Below w.heap.size w w' ∧ w.heap.size ≤ bv ∧ w.heap.size ≤ bc := by
 have hl := Lib.hid h2.cap.1
 have hnb : n2 ≤ 100000000 := by have e : ns.length + hN.szL ns = hNS.sz ns := rfl; have := hl.out; omega
 obtain ⟨W0, hW0, B0_, s0, p0, p1, p2, p3, pf⟩ := zeu w (.int .i64 pi) (.slice A1 n1 c1) (.slice A2 n2 c2) (.slice A3 n3 c3) 36
 obtain ⟨W, hW, B1_, s1, r0, rf⟩ := zfb W0 (.slice Av nv cv) 153
 have B0 := zaa B0_ B1_
 have q0 : W.cell? ⟨w.heap.size, 0, none⟩ = some (.int .i64 pi) := by rw [B1_.cell (by show w.heap.size < _; omega)]; exact p0
 have q1 : W.cell? ⟨w.heap.size, 1, none⟩ = some (.slice A1 n1 c1) := by rw [B1_.cell (by show w.heap.size < _; omega)]; exact p1
 have q2 : W.cell? ⟨w.heap.size, 2, none⟩ = some (.slice A2 n2 c2) := by rw [B1_.cell (by show w.heap.size < _; omega)]; exact p2
 have q3 : W.cell? ⟨w.heap.size, 3, none⟩ = some (.slice A3 n3 c3) := by rw [B1_.cell (by show w.heap.size < _; omega)]; exact p3
 rw [s0] at r0
 rw [hW0] at hW
 have HW := Lib.hid hW
 have lW : w.heap.size + 1 < W.heap.size := by omega
 have m0 := cell_regrown q0
 have m1 := cell_regrown q1
 have m2 := cell_regrown q2
 have m3 := cell_regrown q3
 have m4 := cell_regrown r0
 have D1 : Below W.heap.size W W.drew := zac (Below.refl _ _) 1
 have hd0 : W.drew.heap.size = W.heap.size := rfl
 have BD : Below w.heap.size w W.drew := zac B0 1
 have hid1 := Lib.hid (fun (x : Node) (hx : x ∈ ns) (f : Int) (hf : f ∈ x.2.2.2) => show zax n2 f = true from by
  obtain ⟨i, hi⟩ := List.getElem?_of_mem hx
  have := hF.fr i x hi f hf
  rw [hl.out] at this
  exact za2.2 (by omega))
 have HO := Lib.hid hF.top.len
 have HCL := Lib.hid hcl
 clear hW0 hW s0 s1 p0 p1 p2 p3 pf rf B0_ B1_ q0 q1 q2 q3 r0 hcl
 go_enter Tryz.func114, Tryz.ntmps114
 go_wp2_with fail
 rw [← HW.out]
 (refine zdc [3, 7] [0, 1, 4, 8] 4 (.one 2 (.one 5 (.one 6 (.one 9 .rest)))) [10] [10, 11, 12] (by kernel_rfl) (by kernel_rfl) ?_; simp only [zaj]; simp only [List.filterMap, List.getElem?_cons_succ, List.getElem?_cons_zero]; (repeat (go_big_quiet_step (fail))); refine wpQuiet_nil ?_; (repeat (go_big_quiet_step (fail))); refine wpQuiet_nil ?_)
 refine zai rfl ?_
 go_wp2_with fail
 refine (zk4 _ _ _ _ _ _ _ _ _ _ ns _ (h2.later BD) hnz hid1).mono ?_
 rintro e w1 ⟨v1, rfl, own1, bel1⟩
 have hln : (za8 ns).length = n2 := by rw [HO.out, hl.out]
 obtain ⟨A4, c4, rfl, -⟩ := own1.shape
 rw [hln] at own1 ⊢
 have HLN := Lib.hid hln
 have B1 := zaa D1 bel1
 have s1 := bel1.size
 clear hln
 go_wp2_with fail
 refine ⟨regrown_of_below B1, ?_⟩
 refine zai rfl ?_
 go_wp2_with (go_at_call 131; refine (ze9 _ _ _ _).mono ?_; rintro e w' ⟨rfl, rfl⟩)
 refine ⟨regrown_of_below B1, ?_⟩
 refine zai rfl ?_
 go_wp2_with fail
 refine (zcv _ _ (by omega) (by omega)).mono ?_
 rintro e w2 ⟨v2, rfl, own2, bel2⟩
 rw [Int.toNat_natCast] at own2
 have B2 := zaa B1 bel2
 have s2 := bel2.size
 obtain ⟨bv, cv', e2, hbv1, hbv2⟩ := own2.form (by simp; omega)
 rw [List.length_replicate] at e2
 subst e2
 go_wp2_with fail
 refine ⟨regrown_of_below B2, ?_⟩
 refine zai rfl ?_
 go_wp2_with fail
 refine (zgo _ _ _ cs _ (tSS.later hS (zaa B0 B2)) hcz).mono ?_
 rintro e w3 ⟨v3, rfl, own3, bel3⟩
 have B3 := zaa B2 bel3
 have s3 := bel3.size
 obtain ⟨bc, cc, e3, hbc1, hbc2⟩ : ∃ bc cc, v3 = .slice (some ⟨bc, 0, none⟩) cs.length cc ∧ w2.heap.size ≤ bc ∧ bc < w3.heap.size := by
  obtain ⟨css, Fs, g1, g2, g3, _⟩ := own3
  obtain ⟨g, cap, hv, _, hg⟩ := World.ownsRow.form g1 (by rw [HCL.out, hl.out]; omega)
  exact ⟨g, cap, hv, (g3 g (by rw [hv]; rfl)).1, hg⟩
 have C3 : CR (F2 bv bc) 26 w1.heap.size w3 v3 cs := CR.of_os own3 (fun k hk hG => by
  rcases hk with rfl | rfl
  · have := hG.1; omega
  · rw [e3]; rfl) (fun k hk => by rw [e3] at hk; simp only [Value.ownBlock, Option.some.injEq] at hk; omega)
 rw [HCL.out, hl.out] at e3
 subst e3
 obtain ⟨U, hU, BU, sU, u0, u1, u2, u3, u4, u5, u6⟩ := zsf w3 (.int .i64 pi) (.slice A1 n1 c1) (.slice A2 n2 c2) (.slice A3 n3 c3) (.slice A4 n2 c4) (.slice (some ⟨bv, 0, none⟩) n2 cv') (.slice (some ⟨bc, 0, none⟩) n2 cc) 166
 have BB := zaa (zaa B0 B3) BU
 have sW := B0.size
 have o1 := (own1.base (show 0 ≤ _ by omega)).below ((zaa bel2 bel3).trans (BU.mono (by omega)))
 have R1 : RI U w1.heap.size A4 n2 (za8 ns) := by
  have h := own1.ri'
  exact h.below ((zaa bel2 bel3).trans (BU.mono (by omega)))
 have HU := Lib.hid hU
 clear hU o1
 go_wp2_with fail
 refine ⟨regrown_of_below B3, ?_⟩
 refine zbg ?_
 go_wp2_with fail
 rw [← HU.out]
 go_ret
 exact ⟨w3.heap.size, bv, bc, w1.heap.size, A4, c4, cv', cc, rfl, ⟨u0, u1, u2, u3, u4, u5, u6, (h1.below BB).more (by omega), (h2.below BB).more (by omega), (h3.below BB).more (by omega), R1, hbv1, by omega, by omega, by omega, by omega, by omega⟩,
  own2.below (zaa bel3 BU), C3.below BU, BB, by omega, by omega⟩
end
section
open Go.RowKit Go.Sort
section
variable {P : Program} {t e : TypeId} {z : Value} {bytes : Nat}
theorem zl0 (hE : EI P t e z 1 bytes) {w : World} {ops : Array Oper} {rest : List Oper} {o : Oper} {a : Act} {Q : Exit → Act → World → Prop} {u : Value}
 (hgd : o.guard = none) (s x : Operand)
 (ho : o.op = .call { callee := .builtin .append, args := #[s, x], argTypes := #[t, t] })
 {B : Nat} {v : Value} {n : Nat} {xs : List Value} (hown : w.ownsRow B e 1 v n xs) (hs : a.eval s = v)
 (hx : a.eval x = .slice (some ⟨w.heap.size, 0, none⟩) 1 1) (h1 : u.oneCell' = true)
 (hn : n + 1 ≤ maxLen) (hbytes : (n + 1) * bytes ≤ 140737488355328) (hbase : B ≤ w.heap.size)
 (K : ∀ v' w', w'.ownsRow B e 1 v' (n + 1) (xs ++ [u]) → w.grownBy w' v.ownBlock → Below B w w' → (v'.ownBlock = v.ownBlock ∨ ∀ k, v'.ownBlock = some k → w.heap.size ≤ k) → wpList P ops Q rest (a.put o.dst v') w') :
 wpList P ops Q (o :: rest) a (w.alloc (.cells #[u] e)) := by
 obtain ⟨ht, hinfo, hzs, hsz⟩ := hE
 obtain ⟨i0, hi, hz0, hz1, hz2⟩ := info_parts hinfo
 refine wpList_append_own_at _ hgd s x t ho B e i0 z 1 bytes ht hi hz0 hz1 hz2 hzs hsz v n xs hs (hown.alloc _) ⟨w.heap.size, 0, none⟩ 1 1 [u] hx rfl ?_ (by simpa using h1) hn hbytes (by simp; omega) ?_
 · intro j u2 hj
   have hadd : (⟨w.heap.size, 0, none⟩ : Addr).add j = ⟨w.heap.size, j, none⟩ := by unfold Addr.add; split <;> simp_all
   rw [hadd, cell_of_row _ w.heap.size j #[u] e (0, 0) (heap_alloc_new w _)]
   simpa using hj
 · intro v' w' h2 h3 _ g4
   have h4 : w.grownBy w' v.ownBlock := by
    have := World.grownBy_alloc w (.cells #[u] e) none
    exact ⟨h3.os.trans this.os, h3.tape.trans this.tape, h3.output.trans this.output, Nat.le_trans this.size h3.size, fun k hk hne => by
     rw [h3.block k (by simp; omega) hne]; exact this.block k hk (by simp)⟩
   refine K v' w' h2 h4 ((Below.refl _ _).grown h4 hbase fun k hk => (hown.lt k hk).1) ?_
   rcases g4 with h | h
   · exact .inl h
   · refine .inr fun k hk => ?_
     rw [h] at hk
     have hsz' : (w.alloc (.cells #[u] e)).heap.size = w.heap.size + 1 := by simp
     rw [hsz', Option.some.injEq] at hk
     omega
end
theorem zsh (b bv bc L : Nat) (A1 : Option Addr) (n1 c1 : Nat) (A2 : Option Addr) (n2 c2 : Nat) (A3 : Option Addr) (c3 : Nat) (Ao : Option Addr) (no co_ cv cc : Nat) (ns : List Node) (tb : List (List Int)) (o : Int) (O vs : List Int) (bi oi ci : Nat) (A : Option Addr) (m c : Nat) (xs : List Int) (n : Nat) (w : World)
 (hP : Pl b bv bc L 1 A1 n1 c1 A2 n2 c2 A3 1 c3 Ao no co_ cv cc ns tb [o] O w) (hF : M.PF ns tb O) (h0 : 0 < n2) (hnz : hNS.sz ns ≤ 100000000) (ho : 0 ≤ o ∧ o < n2)
 (hv : OI 2 L w (.slice (some ⟨bv, 0, none⟩) n2 cv) vs) (hvs : vs.all M.smp = true) (hc : CR (F2 bv bc) 26 L w (.slice (some ⟨bc, 0, none⟩) n2 cc) (ns.map za3))
 (ci0 : w.cell? ⟨bi, oi, none⟩ = some (.slice A m c)) (hbi : bi ≠ bv ∧ bi ≠ bc) (hx : RN (F2 bv bc) w A m xs) (hxs : xs.all M.smp = true) (hm : m ≤ 1000000) (hn : n ≤ 4000) :
 Calls Tryz.prog 116 #[.pointer (some ⟨b, 0, none⟩), .slice (some ⟨bi, oi, none⟩) 1 ci, .int .i64 0, .int .i64 n] w fun e w' => ∃ (g c' : Nat) (A' : Option Addr) (c'' : Nat), e = .returned (.slice (some ⟨g, 0, none⟩) 1 c') ∧ w'.cell? ⟨g, 0, none⟩ = some (.slice A' n c'') ∧ RI w' w'.heap.size A' n (zbz ns tb O xs o n) ∧ Chg (F2 bv bc) w w' := by
 have lbv : bv < w.heap.size := (World.ownsRow.lt hv _ rfl).2
 have lbc : bc < w.heap.size := by obtain ⟨us, h1, _⟩ := hc; exact (World.ownsRow.lt h1 _ rfl).2
 have lb : b < w.heap.size := World.block_lt_of_cell? w _ hP.p0
 have lbi : bi < w.heap.size := World.block_lt_of_cell? w _ ci0
 have nbi : ¬ F2 bv bc bi := fun e => e.elim hbi.1 hbi.2
 have lL := hP.lL
 have lv := hP.lv
 have lc := hP.lc
 have nbv := hP.nbv
 have nbc := hP.nbc
 have p0 := hP.p0
 have p3 := hP.p3
 have hx1 := Lib.hid hx.1.len
 have HXS := Lib.hid hxs
 have HL2 := Lib.hid hP.h2.cap.1
 have hnb : n2 ≤ 24 := by rw [← HL2.out]; exact hF.len
 clear hxs
 go_enter Tryz.func116, Tryz.ntmps116
 go_wp2_with (at_make; refine zgw ei_S rfl _ _ rfl 1 _ _ rfl rfl rfl rfl (by omega) (by unfold maxLen; omega) ?_; intro w1 own1 bel1; have p0' : w1.cell? ⟨b, 0, none⟩ = some (.int .i64 1) := (by rw [bel1.cell (by show b < _; omega)]; exact p0))
 have z1 := (World.ownsRow.lt own1 _ rfl).2
 have s1 := bel1.size
 have oc0 : w1.cell? ⟨w.heap.size, 0, none⟩ = some (.slice none 0 0) := by rw [World.ownsRow.cellAt own1 0 (by omega)]; simp [madeCells, Value.cells]
 have of0 : w1.frozen? ⟨w.heap.size, 0, none⟩ = false := World.ownsRow.frozenAt own1 0
 clear own1 p0
 refine (zcv 1 _ (by omega) (by omega)).mono ?_
 rintro e w2 ⟨v2, rfl, own2, bel2⟩
 obtain ⟨bf, cf, e2, hbf1, hbf2⟩ := own2.form (by decide)
 rw [show (List.replicate (1 : Int).toNat (0 : Int)).length = 1 from rfl] at e2
 subst e2
 have s2 := bel2.size
 replace own2 : OI 2 w1.heap.size w2 (.slice (some ⟨bf, 0, none⟩) 1 cf) [0] := own2
 have oc2 : w2.cell? ⟨w.heap.size, 0, none⟩ = some (.slice none 0 0) := by rw [bel2.cell (by show w.heap.size < _; omega)]; exact oc0
 have of2 : w2.frozen? ⟨w.heap.size, 0, none⟩ = false := by rw [bel2.frozen (by show w.heap.size < _; omega)]; exact of0
 have B2 := zaa bel1 bel2
 have hcG : CR (fun k => k = bv ∨ k = bc ∨ k = bf ∨ k = w.heap.size) 26 L w2 (.slice (some ⟨bc, 0, none⟩) n2 cc) (ns.map za3) := (hc.more (F' := fun k => k = bv ∨ k = bc ∨ k = bf ∨ k = w.heap.size) (fun k hk => by
  rcases hk with h | h | h | h
  · exact .inl (.inl h)
  · exact .inl (.inr h)
  · exact .inr (by omega)
  · exact .inr (by omega))).below B2
 clear oc0 of0 p0' bel1 bel2 p3
 go_wp2_with fail
 go_loopw [11] (fun i wr => ∃ t : Nat, i = .int .i64 t ∧ t ≤ n ∧ ∃ (V : List Int) (y : Int) (vo : Value), Hid (V.all M.smp = true) ∧ Chg (F2 bv bc) w wr ∧ w2.heap.size ≤ wr.heap.size ∧ OI 2 L wr (.slice (some ⟨bv, 0, none⟩) n2 cv) V ∧ CR (fun k => k = bv ∨ k = bc ∨ k = bf ∨ k = w.heap.size ∨ vo.ownBlock = some k) 26 L wr (.slice (some ⟨bc, 0, none⟩) n2 cc) (zdi ns tb O xs t) ∧
  OI 2 w1.heap.size wr (.slice (some ⟨bf, 0, none⟩) 1 cf) [y] ∧ wr.cell? ⟨w.heap.size, 0, none⟩ = some vo ∧ wr.frozen? ⟨w.heap.size, 0, none⟩ = false ∧ OI 2 w2.heap.size wr vo (zbz ns tb O xs o t)) (fun i _ => n - (intOf i).toNat)
 case atStart => exact ⟨0, rfl, by omega, vs, 0, _, Lib.hid hvs, zdy B2, Nat.le_refl _, hv.below B2, hcG.more (fun k hk => by rcases hk with h | h | h | h | h; (exact .inl (.inl h)); (exact .inl (.inr (.inl h))); (exact .inl (.inr (.inr (.inl h)))); (exact .inl (.inr (.inr (.inr h)))); cases h), own2, oc2, of2, OI.nil _ _ _⟩
 case round =>
  obtain ⟨t, rfl, ht, V, y, vo, HV, hch, hsz, ov, oc, ofr, co, fo, oo⟩ := hrel
  obtain ⟨wo, rfl⟩ : ∃ wo : World, wo = wr := ⟨_, rfl⟩
  by_cases hlt : t < n
  · have HC := zlw hF HXS.out t
    have hP1 := hP.chg hch
    have HS := Lib.hid (zr5 ns tb O xs o t)
    have HN := Lib.hid (show zdi ns tb O xs (t + 1) = zcs ns tb [M.at_ xs (t : Int)] O (zdi ns tb O xs t) from rfl)
    have HW := Lib.hid (show zew ns tb O xs t = zbq ns tb [M.at_ xs (t : Int)] O (zdi ns tb O xs t) from rfl)
    have HVL := Lib.hid (zlx hF HXS.out t)
    have hax := zhn HXS.out (t : Int)
    have hxo := hx.chg hch
    have cio : wo.cell? ⟨bi, oi, none⟩ = some (.slice A m c) := by rw [hch.cell lbi nbi]; exact ci0
    have t0 : (0 : Int) ≤ (t : Int) := by omega
    have t1 : (t : Int) < (n : Int) := by omega
    obtain ⟨cy, hcy⟩ : ∃ cy, cy = M.at_ xs (t : Int) := ⟨_, rfl⟩
    have fz := World.ownsRow.frozenAt ofr 0
    have fc : wo.cell? ⟨bf, 0, none⟩ = some (.int .i64 y) := by rw [World.ownsRow.cellAt ofr 0 (by simp)]; rfl
    go_wp2_with fail
    go_loopw [38] (fun i wr => ∃ k : Nat, i = .int .i64 k ∧ ((k = 0 ∧ wr = wo) ∨ (k = 1 ∧ wr = wo.setCell ⟨bf, 0, none⟩ (.int .i64 cy)))) (fun i _ => 1 - (intOf i).toNat)
    case atStart => exact ⟨0, rfl, .inl ⟨rfl, rfl⟩⟩
    case round =>
     obtain ⟨k, rfl, hor⟩ := hrel
     rcases hor with ⟨rfl, rfl⟩ | ⟨rfl, rfl⟩
     · have HCY := Lib.hid hcy
       clear hcy
       go_wp2_with fail
       refine (zf2 _ _ _ xs _ _ hxo.1 (by omega) (by omega)).mono ?_
       rw [← HCY.out]
       rintro e w' ⟨rfl, rfl⟩
       go_wp2_with fail
       go_roundw
       case rel => exact ⟨1, by go_num, .inr ⟨rfl, by trivial⟩⟩
       case measure => simp [intOf]
     · have ofr2 : OI 2 w1.heap.size (wo.setCell ⟨bf, 0, none⟩ (.int .i64 cy)) (.slice (some ⟨bf, 0, none⟩) 1 cf) [cy] := ofr.stored' 0 cy
       have hcf : Chg (fun x => x = bf) wo (wo.setCell ⟨bf, 0, none⟩ (.int .i64 cy)) := Chg.set wo bf 0 _ rfl
       have cfc : (wo.setCell ⟨bf, 0, none⟩ (.int .i64 cy)).cell? ⟨bf, 0, none⟩ = some (.int .i64 cy) := by rw [World.ownsRow.cellAt ofr2 0 (by simp)]; rfl
       have ov2 := ov.kept (zco wo bf 0 (.int .i64 cy)) (.inr (by simp only [Value.ownBlock, ne_eq, Option.some.injEq]; omega))
       have oo2 := oo.kept (zco wo bf 0 (.int .i64 cy)) (.inr (fun e => by have := (World.ownsRow.lt oo _ e).1; omega))
       have hch2 : Chg (F2 bv bc) w (wo.setCell ⟨bf, 0, none⟩ (.int .i64 cy)) := hch.up hcf (fun x hx e => by omega)
       have oc2 : CR (fun k => k = bv ∨ k = bc ∨ k = bf ∨ k = w.heap.size ∨ vo.ownBlock = some k) 26 L (wo.setCell ⟨bf, 0, none⟩ (.int .i64 cy)) (.slice (some ⟨bc, 0, none⟩) n2 cc) (zdi ns tb O xs t) := oc.chg hcf (fun k hk => .inr (.inr (.inl hk))) (fun k hk hk2 => by simp only [Value.ownBlock, Option.some.injEq] at hk; omega)
       have co2 : (wo.setCell ⟨bf, 0, none⟩ (.int .i64 cy)).cell? ⟨w.heap.size, 0, none⟩ = some vo := by rw [hcf.cell (by omega) (by omega)]; exact co
       have fo2 : (wo.setCell ⟨bf, 0, none⟩ (.int .i64 cy)).frozen? ⟨w.heap.size, 0, none⟩ = false := by rw [hcf.frozen (by omega) (by omega)]; exact fo
       obtain ⟨wp, hwp⟩ : ∃ wp, wp = wo.setCell ⟨bf, 0, none⟩ (.int .i64 cy) := ⟨_, rfl⟩
       have swp : wo.heap.size ≤ wp.heap.size := by rw [hwp]; simp
       have hP2 := hP.chg hch2
       rw [← hwp] at ofr2 cfc ov2 oo2 hch2 oc2 co2 fo2 hP2 ⊢
       clear hwp hcf
       rw [← hcy] at hax
       have HCY := Lib.hid hcy
       clear hcy
       go_wp2_with fail
       refine (zsb b bv bc L 1 _ _ c1 _ _ c2 _ _ c3 _ _ co_ cv cc ns tb [o] O V (zdi ns tb O xs t) bf 0 cf cy (fun k => k = bv ∨ k = bc ∨ k = bf ∨ k = w.heap.size ∨ vo.ownBlock = some k) wp (fun k hk => hk.elim .inl (fun h => .inr (.inl h))) (fun k hk => by rcases hk with h | h | h | h | h; omega; omega; omega; omega; exact (World.ownsRow.lt oo2 _ h).2) hP2 hF hax h0 hnz ov2 HV.out oc2 HC cfc (by omega)).mono ?_
       rintro e w3 ⟨rfl, ch3, ov3, oc3⟩
       rw [← HCY.out] at HN HW
       rw [← HW.out] at ov3
       rw [← HN.out] at oc3
       have hch3 := hch2.trans ch3
       have hP3 := hP.chg hch3
       have s3 := ch3.size
       have p3_3 := hP3.p3
       have p5_3 := hP3.p5
       have ofr3 := ofr2.chg ch3 (fun k hk h => by simp only [Value.ownBlock, Option.some.injEq] at hk; rcases h with h | h <;> omega)
       have oo3 := oo2.chg ch3 (fun k hk h => by have := (World.ownsRow.lt oo2 _ hk).1; rcases h with h | h <;> omega)
       have co3 : w3.cell? ⟨w.heap.size, 0, none⟩ = some vo := by rw [ch3.cell (by omega) (fun h => by rcases h with h | h <;> omega)]; exact co2
       have fo3 : w3.frozen? ⟨w.heap.size, 0, none⟩ = false := by rw [ch3.frozen (by omega) (fun h => by rcases h with h | h <;> omega)]; exact fo2
       have HMI := Lib.hid (show zc4 [o] (zew ns tb O xs t) = [M.i_ (zew ns tb O xs t) o.toNat] from rfl)
       clear ov2 oc2 oo2 ofr2 co2 fo2 hP2 hch2 cfc ov oc ofr co fo oo fz fc hP1 hxo cio
       go_wp2_with fail
       refine (zsa b _ n2 cv (zew ns tb O xs t) _ 1 c3 [o] w3 p3_3 p5_3 ov3.ri' (hP3.h3.more hP3.lL) (by omega) (by omega) (Lib.hid (fun f hf => by
        obtain rfl : f = o := by simpa using hf
        omega))).mono ?_
       rintro e w4 ⟨v4, rfl, own4, bel4⟩
       rw [HMI.out] at own4
       obtain ⟨g4, cap4, e4, hg4, hg4'⟩ := own4.form (by simp)
       rw [List.length_singleton] at e4
       subst e4
       obtain ⟨x4, hx4⟩ : ∃ x4, x4 = M.i_ (zew ns tb O xs t) o.toNat := ⟨_, rfl⟩
       rw [← hx4] at own4 HS
       have s4 := bel4.size
       have c4 : w4.cell? ⟨g4, 0, none⟩ = some (.int .i64 x4) := by rw [World.ownsRow.cellAt own4 0 (by simp)]; rfl
       have co4 : w4.cell? ⟨w.heap.size, 0, none⟩ = some vo := by rw [bel4.cell (by show w.heap.size < _; omega)]; exact co3
       have fo4 : w4.frozen? ⟨w.heap.size, 0, none⟩ = false := by rw [bel4.frozen (by show w.heap.size < _; omega)]; exact fo3
       have oo4 := oo3.below bel4
       have hln := Lib.hid (zdx ns tb O xs o t)
       clear hx4
       go_wp2_with fail
       obtain ⟨wq, rfl⟩ : ∃ wq : World, wq = w4 := ⟨_, rfl⟩
       go_loopw [57] (fun i wr => ∃ k : Nat, i = .int .i64 k ∧ ((k = 0 ∧ wr = wq) ∨ (k = 1 ∧ ∃ v', wr.cell? ⟨w.heap.size, 0, none⟩ = some v' ∧ wr.frozen? ⟨w.heap.size, 0, none⟩ = false ∧ OI 2 w2.heap.size wr v' (zbz ns tb O xs o (t + 1)) ∧ Chg (fun b => b = w.heap.size ∨ vo.ownBlock = some b) wq wr ∧ (v'.ownBlock = vo.ownBlock ∨ ∀ k, v'.ownBlock = some k → wq.heap.size ≤ k)))) (fun i _ => 1 - (intOf i).toNat)
       case atStart => exact ⟨0, rfl, .inl ⟨rfl, rfl⟩⟩
       case round =>
        obtain ⟨k, rfl, hor⟩ := hrel
        rcases hor with ⟨rfl, rfl⟩ | ⟨rfl, v5, co5, fo5, oo5, ch5, hb5⟩
        · have hlp := zdx ns tb O xs o t
          have hlp' : (zbz ns tb O xs o t).length ≤ 1000000 := by omega
          clear hlp
          go_wp2_with (at_builtin; refine zl0 zbl rfl _ _ rfl oo4 rfl rfl rfl (by unfold maxLen; omega) (by omega) (by omega) ?_; intro v5 w5 own5 gr5 bel5 hb5; have op5 := OI.push own5; obtain ⟨A5, c5, e5, -⟩ := op5.shape; obtain ⟨n5, hn5⟩ : ∃ n5, n5 = (zbz ns tb O xs o t ++ [x4]).length := ⟨_, rfl⟩; rw [← hn5] at e5; subst e5; have HN5 := Lib.hid hn5; clear hn5; have hc5 : w5.cell? ⟨w.heap.size, 0, none⟩ = some vo := (by rw [bel5.cell (by show w.heap.size < _; omega)]; exact co4); have hf5 : w5.frozen? ⟨w.heap.size, 0, none⟩ = false := (by rw [bel5.frozen (by show w.heap.size < _; omega)]; exact fo4))
          go_roundw
          case rel =>
           refine ⟨1, by go_num, .inr ⟨rfl, .slice A5 n5 c5, World.cell?_setCell_same (h := hc5) .., by simp [go_sem, hf5], ?_, ?_, hb5⟩⟩
           · rw [HS.out]
             exact op5.kept (zco _ _ 0 _) (.inr (fun e => by have := (World.ownsRow.lt op5 _ e).1; omega))
           · exact (Chg.of_grown gr5 (fun k hk => .inr hk)).trans (Chg.set w5 _ 0 _ (.inl rfl))
          case measure => simp [intOf]
        · have s5 := ch5.size
          have hch5 : Chg (F2 bv bc) w wr := (hch3.trans (zdy bel4)).up ch5 (fun x hx e => by
           rcases e with e | e
           · omega
           · have := (World.ownsRow.lt oo4 _ e).1; omega)
          have nF : ∀ x, x < w2.heap.size → x ≠ w.heap.size → ¬ (x = w.heap.size ∨ vo.ownBlock = some x) := fun x hx hne e => by
           rcases e with e | e
           · exact hne e
           · have := (World.ownsRow.lt oo4 _ e).1; omega
          have ov5 := (ov3.below bel4).chg ch5 (fun k hk => by simp only [Value.ownBlock, Option.some.injEq] at hk; exact nF k (by omega) (by omega))
          have oc5 := (oc3.below bel4).more (F' := fun k => k = bv ∨ k = bc ∨ k = bf ∨ k = w.heap.size ∨ v5.ownBlock = some k ∨ vo.ownBlock = some k) (fun k hk => by
           rcases hk with h | h | h | h | h | h
           · exact .inl (.inl h)
           · exact .inl (.inr (.inl h))
           · exact .inl (.inr (.inr (.inl h)))
           · exact .inl (.inr (.inr (.inr (.inl h))))
           · rcases hb5 with h5 | h5
             · exact .inl (.inr (.inr (.inr (.inr (h5 ▸ h)))))
             · exact .inr (h5 k h)
           · exact .inl (.inr (.inr (.inr (.inr h)))))
          have oc6 := (oc5.chg ch5 (fun k hk => by
           rcases hk with h | h
           · exact .inr (.inr (.inr (.inl h)))
           · exact .inr (.inr (.inr (.inr (.inr h))))) (fun k hk => by simp only [Value.ownBlock, Option.some.injEq] at hk; exact nF k (by omega) (by omega))).sub (F' := fun k => k = bv ∨ k = bc ∨ k = bf ∨ k = w.heap.size ∨ v5.ownBlock = some k) (fun k hk => by
           rcases hk with h | h | h | h | h
           · exact .inl h
           · exact .inr (.inl h)
           · exact .inr (.inr (.inl h))
           · exact .inr (.inr (.inr (.inl h)))
           · exact .inr (.inr (.inr (.inr (.inl h)))))
          have ofr5 := (ofr3.below bel4).chg ch5 (fun k hk => by simp only [Value.ownBlock, Option.some.injEq] at hk; exact nF k (by omega) (by omega))
          clear ov3 oc3 oc5 oo3 co3 fo3 ofr3 oo4 co4 fo4
          go_wp2_with fail
          go_roundw
          case rel => exact ⟨t + 1, by go_num, by omega, _, _, v5, HVL, hch5, by omega, ov5, oc6, ofr5, co5, fo5, oo5⟩
          case measure => simp [intOf]; omega
  · obtain rfl : t = n := by omega
    obtain ⟨A5, c5, e5, hri⟩ := oo.shape
    rw [zdx] at e5 hri
    subst e5
    go_wp2_with fail
    go_ret
    exact ⟨_, _, A5, c5, rfl, co, hri, hch⟩
end
section
open Go.RowKit Go.Sort
theorem zsi {xs : List (List Int)} {m : Nat} (h : ∀ x ∈ xs, x.length ≤ m) : hS.szL xs ≤ m * xs.length := by
 induction xs with
 | nil => simp [Hs.szL]
 | cons x xs ih =>
  have h1 := h x (by simp)
  have h2 := ih (fun y hy => h y (by simp [hy]))
  have e : hS.szL (x :: xs) = hS.sz x + hS.szL xs := rfl
  rw [e, zb8, List.length_cons, Nat.mul_succ]
  omega
theorem zsj {ns : List Node} {tb : List (List Int)} {O : List Int} (hF : M.PF ns tb O) : hSS.sz (ns.map za3) ≤ 1000 := by
 have h1 := zsi (xs := ns.map za3) (m := 16) (fun x hx => by
  obtain ⟨y, hy, rfl⟩ := List.mem_map.1 hx
  obtain ⟨i, hi⟩ := List.getElem?_of_mem hy
  exact zsc (hF.ok i y hi))
 have e : hSS.sz (ns.map za3) = (ns.map za3).length + hS.szL (ns.map za3) := rfl
 have h2 := hF.len
 rw [e]
 rw [List.length_map] at h1 ⊢
 omega
theorem zl1 (A1 : Option Addr) (n1 c1 : Nat) (A2 : Option Addr) (n2 c2 : Nat) (A3 : Option Addr) (c3 : Nat) (ns : List Node) (tb : List (List Int)) (o : Int) (bi oi ci : Nat) (A : Option Addr) (m c : Nat) (xs : List Int) (n : Nat) (w : World)
 (h1 : RS tS w w.heap.size (.slice A1 n1 c1) tb) (h2 : RS tN w w.heap.size (.slice A2 n2 c2) ns) (h3 : RI w w.heap.size A3 1 [o]) (hF : M.PF ns tb (za8 ns)) (ho : 0 ≤ o ∧ o < n2) (hnz : hNS.sz ns ≤ 100000000)
 (ci0 : w.cell? ⟨bi, oi, none⟩ = some (.slice A m c)) (hx : RI w w.heap.size A m xs) (hxs : xs.all M.smp = true) (hm : m ≤ 1000000) (hn : n ≤ 4000) :
 Calls Tryz.prog 94 #[.agg #[.int .i64 1, .slice A1 n1 c1, .slice A2 n2 c2, .slice A3 1 c3], .slice (some ⟨bi, oi, none⟩) 1 ci, .int .i64 n] w fun e w' => ∃ (g c' : Nat) (A' : Option Addr) (c'' : Nat), e = .returned (.slice (some ⟨g, 0, none⟩) 1 c') ∧ w'.cell? ⟨g, 0, none⟩ = some (.slice A' n c'') ∧ RI w' w'.heap.size A' n (zbz ns tb (za8 ns) xs o n) ∧ Below w.heap.size w w' := by
 have lbi : bi < w.heap.size := World.block_lt_of_cell? w _ ci0
 obtain ⟨W, hW, B0, s0, p0, p1, p2, p3, pf⟩ := zeu w (.int .i64 1) (.slice A1 n1 c1) (.slice A2 n2 c2) (.slice A3 1 c3) 36
 have m0 := cell_regrown p0
 have m1 := cell_regrown p1
 have m2 := cell_regrown p2
 have m3 := cell_regrown p3
 have HW := Lib.hid hW
 have lW : w.heap.size < W.heap.size := by omega
 have D1 : Below W.heap.size W W.drew := zac (Below.refl _ _) 1
 have hd0 : W.drew.heap.size = W.heap.size := rfl
 have BD : Below w.heap.size w W.drew := zac B0 1
 have HXS := Lib.hid hxs
 have HSZ := Lib.hid (zsj hF)
 have HOK := Lib.hid (fun (x : Node) (hx : x ∈ ns) => show zak x tb.length = true from by
  obtain ⟨i, hi⟩ := List.getElem?_of_mem hx
  exact hF.ok i x hi)
 clear hW s0 p0 p1 p2 p3 pf hxs
 go_enter Tryz.func94, Tryz.ntmps94
 go_wp2_with fail
 rw [← HW.out]
 (refine zdc [4, 5] [0, 1] 2 (.one 2 (.one 3 .rest)) [6] [6, 7] (by kernel_rfl) (by kernel_rfl) ?_; simp only [zaj]; simp only [List.filterMap, List.getElem?_cons_succ, List.getElem?_cons_zero]; (repeat (go_big_quiet_step (fail))); refine wpQuiet_nil ?_; (repeat (go_big_quiet_step (fail))); refine wpQuiet_nil ?_)
 refine zai rfl ?_
 go_wp2_with fail
 refine (zse _ _ _ _ _ _ _ _ _ _ ns tb.length _ (h2.later BD) hnz HOK).mono ?_
 rintro e w1 ⟨v1, rfl, own1, bel1⟩
 obtain ⟨Av, cv, e1⟩ := own1.shape
 rw [show (ns.map za3).length = n2 by rw [List.length_map]; exact h2.cap.1] at e1
 subst e1
 have B1 := zaa D1 bel1
 have BB1 := zaa B0 B1
 have s1 := bel1.size
 have r1 : tSS.R w1 w1.heap.size [.slice Av n2 cv] (ns.map za3) := sl_R.2 own1.read
 have hcl : (ns.map za3).length = ns.length := List.length_map ..
 have HCL := Lib.hid hcl
 clear hcl
 go_wp2_with fail
 refine ⟨regrown_of_below B1, ?_⟩
 refine zai rfl ?_
 go_wp2_with fail
 refine (zsg 1 _ _ c1 _ _ c2 _ _ c3 _ _ cv ns tb [o] (ns.map za3) _ (h1.later BB1) (h2.later BB1) (h3.later BB1) r1 hF (by omega) hnz (by have := HSZ.out; omega) HCL.out).mono ?_
 rintro e w2 ⟨b, bv, bc, L, Ao, co, cv', cc, rfl, hP, ov, oc, bel2, hbv, hbc⟩
 have B2 := zaa B1 bel2
 have BB2 := zaa B0 B2
 have s2 := bel2.size
 have ci2 : w2.cell? ⟨bi, oi, none⟩ = some (.slice A m c) := by rw [BB2.cell (by show bi < _; omega)]; exact ci0
 have hx2 : RN (F2 bv bc) w2 A m xs := RN.of_ri (B := w.heap.size) (hx.below BB2) BB2.size (fun k hk => by rcases hk with h | h <;> omega)
 have hrp : (List.replicate n2 (0 : Int)).all M.smp = true := by
  rw [List.all_eq_true]
  intro z hz
  rw [List.eq_of_mem_replicate hz]
  rfl
 have HRP := Lib.hid hrp
 clear hrp
 go_wp2_with fail
 refine ⟨regrown_of_below B2, ?_⟩
 refine zbg ?_
 go_wp2_with fail
 refine (zsh b bv bc L _ _ c1 _ _ c2 _ c3 _ _ co cv' cc ns tb o (za8 ns) _ bi oi ci A m c xs n w2 hP hF (by omega) hnz ho ov HRP.out oc ci2 (by omega) hx2 HXS.out hm hn).mono ?_
 rintro e w3 ⟨g, c', A', c'', rfl, cg, rg, ch⟩
 go_wp2_with fail
 go_ret
 exact ⟨g, c', A', c'', rfl, cg, rg, BB2.trans (ch.toBelow (fun k hk => by rcases hk with h | h <;> omega) (by omega))⟩
end
section
open Go.RowKit Go.Sort
theorem RSN.of_os {F G : Nat → Prop} {e : TypeId} {w : World} {v : Value} {cs : List (List Int)} (h : OS tS e w G v cs) (hF : ∀ k, F k → ¬ G k) : RSN F w v cs := by
 have h2 := h
 obtain ⟨css, Fs, h1, _, h3, _⟩ := h
 exact RSN.of_cr (CR.of_os (base := 0) h2 (fun k hk hG => absurd hG (hF k hk)) (fun _ _ => Nat.zero_le _)) (fun k hk hf => hF k hf (h3 k hk))
end
section
open Go.RowKit Go.Sort
theorem OS.one {e : TypeId} {w : World} {lo hi : Nat} {v : Value} {x : List Int} (h : OS tS e w (Iv lo hi) v [x]) :
 ∃ bo cO vo, v = .slice (some ⟨bo, 0, none⟩) 1 cO ∧ lo ≤ bo ∧ bo < w.heap.size ∧ w.cell? ⟨bo, 0, none⟩ = some vo ∧ w.frozen? ⟨bo, 0, none⟩ = false ∧ OI 2 lo w vo x ∧ vo.ownBlock ≠ some bo := by
 obtain ⟨A, c, rfl⟩ := h.shape
 obtain ⟨css, Fs, hO, cs, hcs, ho⟩ := h.open (k := 0) (by simp)
 obtain ⟨g, rfl, hF, hn, hg, -⟩ := hO.form (by simp)
 obtain ⟨vo, rfl, hvo⟩ := ho
 have hc := hO.cell hcs (j := 0) (u := vo) rfl
 rw [Nat.zero_mul, Nat.add_zero] at hc
 refine ⟨g, c, vo, rfl, hF.1, hg, hc.1, hc.2, (hvo.wide (F' := Iv lo hi) hO.fits).oi, fun e => hn (hvo.lt g e).1⟩
theorem RSN.more {F F' : Nat → Prop} {w : World} {v : Value} {cs : List (List Int)} (h : RSN F w v cs) (hF : ∀ k, F' k → F k ∨ w.heap.size ≤ k) : RSN F' w v cs := by
 obtain ⟨A, c, us, rfl, h1, h2, h3, h4, h5, h6⟩ := h
 refine ⟨A, c, us, rfl, h1, h2, h3, h4, fun ad hn he hf => ?_, fun k x hx => ?_⟩
 · obtain ⟨ad', e', hb, _⟩ := h4.2 hn
   rw [he] at e'
   injection e' with e'
   subst e'
   rcases hF _ hf with h | h
   · exact h5 ad hn he h
   · omega
 · obtain ⟨A', c', e1, e2, e3⟩ := h6 k x hx
   exact ⟨A', c', e1, e2, e3.more hF⟩
end
section
open Go.RowKit Go.Sort
end
section
open Go.RowKit
end
section
open Go.RowKit
end
section
open Go.RowKit
def zb3 (k : Nat) (l : Int) (acc : List Int) (p : Int × Int) : List Int := acc.set p.1.toNat (max ((acc[p.1.toNat]?).getD 0) ((acc[k]?).getD 0 + l))
def zca (xs : List zad) : Nat → List Int
 | 0 => List.replicate xs.length 0
 | k + 1 => ((xs[k]?).getD M.sz).2.2.foldl (zb3 k ((xs[k]?).getD M.sz).2.1) (zca xs k)
def zem (xs : List zad) (k : Nat) (l : Int) (us : List (Int × Int)) (j : Nat) : List Int := (us.take j).foldl (zb3 k l) (zca xs k)
def zb4 (xs : List zad) : List Int := zca xs xs.length
theorem zl2 (k : Nat) (l : Int) (acc : List Int) (p : Int × Int) : (zb3 k l acc p).length = acc.length := by simp [zb3]
theorem zsk (k : Nat) (l : Int) (us : List (Int × Int)) : ∀ acc, (us.foldl (zb3 k l) acc).length = acc.length := by
 induction us with
 | nil => intro acc; rfl
 | cons u us ih => intro acc; rw [List.foldl_cons, ih, zl2]
theorem zi2 (xs : List zad) : ∀ k, (zca xs k).length = xs.length := by
 intro k
 induction k with
 | zero => simp [zca]
 | succ k ih => rw [zca, zsk, ih]
theorem zsl {xs : List zad} {k : Nat} {l : Int} {us : List (Int × Int)} {j : Nat} {p : Int × Int} (h : us[j]? = some p) : zem xs k l us (j + 1) = zb3 k l (zem xs k l us j) p := by
 rw [zem, M.take_at h, List.foldl_append]; rfl
theorem zsm {xs : List zad} {k : Nat} {s : ByteArray} {l : Int} {us : List (Int × Int)} (h : xs[k]? = some (s, l, us)) : zem xs k l us us.length = zca xs (k + 1) := by
 rw [zem, zca, h, List.take_of_length_le (Nat.le_refl _)]; rfl
def zdz (b : Int) (acc : List Int) : Prop := ∀ v ∈ acc, 0 ≤ v ∧ v ≤ b
theorem zft {b : Int} {acc : List Int} {i : Nat} {v : Int} (h : zdz b acc) (hv : acc[i]? = some v) : 0 ≤ v ∧ v ≤ b := h v (List.mem_of_getElem? hv)
theorem zho {b : Int} {acc : List Int} (hb : 0 ≤ b) (h : zdz b acc) (i : Nat) : 0 ≤ (acc[i]?).getD 0 ∧ (acc[i]?).getD 0 ≤ b := by
 cases hv : acc[i]? with
 | none => simp; exact hb
 | some v => exact zft h hv
theorem zhp {b b' : Int} {acc : List Int} (h : zdz b acc) (hb : b ≤ b') : zdz b' acc := fun v hv => ⟨(h v hv).1, Int.le_trans (h v hv).2 hb⟩
theorem zsn {b : Int} {acc : List Int} {k : Nat} {l : Int} {p : Int × Int} (hb : 0 ≤ b) (h : zdz b acc) (hl : 0 ≤ l ∧ l ≤ 32) : zdz (b + 32) (zb3 k l acc p) := by
 intro v hv
 rcases List.mem_or_eq_of_mem_set hv with h1 | rfl
 · have := h v h1; omega
 · have h1 := zho hb h p.1.toNat
   have h2 := zho hb h k
   omega
theorem zl3 {k : Nat} {l : Int} (hl : 0 ≤ l ∧ l ≤ 32) (us : List (Int × Int)) : ∀ {b : Int} {acc : List Int}, 0 ≤ b → zdz b acc → zdz (b + 32 * us.length) (us.foldl (zb3 k l) acc) := by
 induction us with
 | nil => intro b acc _ h; simpa using h
 | cons u us ih =>
  intro b acc hb h
  have := ih (b := b + 32) (acc := zb3 k l acc u) (by omega) (zsn hb h hl)
  refine zhp this ?_
  simp only [List.length_cons]
  omega
theorem zd0 {xs : List zad} (h : zas xs = true) : 1 ≤ xs.length ∧ xs.length ≤ 8 := by
 rw [zas, Bool.and_eq_true] at h
 have := zc1.1 h.1
 omega
theorem zfd {xs : List zad} (h : zas xs = true) {k : Nat} {s : ByteArray} {l : Int} {us : List (Int × Int)} (hk : xs[k]? = some (s, l, us)) : (0 ≤ l ∧ l ≤ 32) ∧ us.length ≤ 4 ∧ zbo xs.length k us = true := by
 rw [zas, Bool.and_eq_true, List.all_eq_true] at h
 have h1 := h.2 k (List.mem_range.2 (List.getElem?_eq_some_iff.1 hk).1)
 rw [zf9 hk, Bool.and_eq_true] at h1
 have h2 := h1.1
 rw [zbi, Bool.and_eq_true, Bool.and_eq_true, zbp, Bool.and_eq_true] at h2
 refine ⟨zc1.1 h2.1.2, ?_, h2.2.1⟩
 have h3 := h2.2.2
 split at h3
 · have : us.length = 0 := by simpa using h3
   omega
 · have := zc1.1 h3
   simp only at this
   omega
theorem zi3 {m : Int} {us : List (Int × Int)} : ∀ {last : Int} {j : Nat} {p0 p1 : Int}, zbo m last us = true → us[j]? = some (p0, p1) → last < p0 ∧ p0 ≤ m - 1 ∧ M.smp p1 = true := by
 induction us with
 | nil => intro last j p0 p1 _ h; simp at h
 | cons u us ih =>
  intro last j p0 p1 h hj
  rw [zbo, Bool.and_eq_true, Bool.and_eq_true] at h
  have h1 := zc1.1 h.1.1
  cases j with
  | zero =>
   simp only [List.getElem?_cons_zero, Option.some.injEq] at hj
   subst hj
   exact ⟨by simp only at h1; omega, h1.2, h.1.2⟩
  | succ j =>
   simp only [List.getElem?_cons_succ] at hj
   have := ih h.2 hj
   exact ⟨by omega, this.2⟩
theorem zhq {xs : List zad} (h : zas xs = true) : ∀ k, k ≤ xs.length → zdz (128 * k) (zca xs k) := by
 intro k
 induction k with
 | zero => intro _ v hv; rw [zca] at hv; have := (List.mem_replicate.1 hv).2; omega
 | succ k ih =>
  intro hk
  have hx : xs[k]? = some xs[k] := List.getElem?_eq_getElem (by omega)
  generalize xs[k] = x at hx
  obtain ⟨s, l, us⟩ := x
  obtain ⟨h1, h2, _⟩ := zfd h hx
  rw [zca, hx]
  refine zhp (zl3 h1 us (by omega) (ih (by omega))) ?_
  omega
theorem zso {xs : List zad} (h : zas xs = true) {k : Nat} {s : ByteArray} {l : Int} {us : List (Int × Int)} (hx : xs[k]? = some (s, l, us)) (j : Nat) : zdz 2000 (zem xs k l us j) := by
 obtain ⟨h1, h2, _⟩ := zfd h hx
 have h3 := zhq h k (by have := (List.getElem?_eq_some_iff.1 hx).1; omega)
 have h4 := zd0 h
 have h5 := (List.getElem?_eq_some_iff.1 hx).1
 refine zhp (zl3 (k := k) h1 (us.take j) (by omega) h3) ?_
 have : (us.take j).length ≤ 4 := by rw [List.length_take]; omega
 omega
theorem zsp {acc : List Int} {k q : Nat} {l g a b : Int} (ha : acc[q]? = some a) (hb : acc[k]? = some b) : zb3 k l acc ((q : Int), g) = acc.set q (max a (b + l)) := by
 rw [zb3]
 simp only [Int.toNat_natCast]
 rw [ha, hb]; rfl
end
end Go.Proofs.YtfkcoiefkjmdeaaGreat
