import Derived.Test.YtffhodocjjkkoaaGreatFnExactStemOfG8
import Derived.Test.YtffhodocjjkkoaaGreatFnExactStemOfG5
import Derived.Test.YtffhodocjjkkoaaGreatFnExactStemOfG7
import Derived.Deep.DeepCutAuto
import Derived.Deep.RegionWith
import Derived.Test.YtffhodocjjkkoaaGreatFnExactStemOfG2
set_option linter.unusedVariables false
set_option linter.unusedSimpArgs false
set_option maxRecDepth 100000
set_option maxHeartbeats 4000000
namespace Go.Proofs.YtffhodocjjkkoaaGreat
section
open Go.RowKit Go.Sort
structure M.PF (ns : List Node) (tb : List (List Int)) (O : List Int) : Prop where
 tabs : zb4 tb = true
 ok : ∀ (i : Nat) (x : Node), ns[i]? = some x → zai x tb.length = true
 fr : ∀ (i : Nat) (x : Node), ns[i]? = some x → ∀ f ∈ x.2.2.2, 0 ≤ f ∧ f < ns.length
 inp : ∀ (i : Nat) (x : Node), ns[i]? = some x → x.1 = 1 → x.2.1 = 0
 top : M.Topo ns O
 len : ns.length ≤ 24
structure M.CO (ns : List Node) (cs : List (List Int)) : Prop where
 len : cs.length = ns.length
 at_ : ∀ (i : Nat) (x : Node), ns[i]? = some x → (zaf cs i).length = zcp x ∧ (zaf cs i).all M.smp = true
theorem zs3 {ns : List Node} {i : Nat} {x : Node} (h : ns[i]? = some x) : zaw ns i = x := by rw [zaw, h]; rfl
theorem zho {ns : List Node} {i : Nat} (h : i < ns.length) : ns[i]? = some (zaw ns i) := by rw [zaw, List.getElem?_eq_getElem h]; rfl
theorem zdu {xs : List Int} (h : xs.all M.smp = true) (k : Nat) : M.smp (M.i_ xs k) = true := by
 rw [M.i_]
 cases e : xs[k]? with
 | none => rfl
 | some x => exact List.all_eq_true.1 h x (List.mem_of_getElem? e)
theorem zjc {xs : List Int} (h : xs.all M.smp = true) (k : Nat) {y : Int} (hy : M.smp y = true) : (xs.set k y).all M.smp = true := by
 rw [List.all_eq_true] at *
 intro z hz
 rcases List.mem_or_eq_of_mem_set hz with h1 | rfl
 · exact h z h1
 · exact hy
theorem zhp {x : Node} {tb : Int} (h : zai x tb = true) (fr vs : List Int) : (za8 x fr vs).length = zf4 x.1 := by
 obtain ⟨k, a, b, l⟩ := x
 rw [za8]
 split
 · rename_i h1
   rw [zf4, if_pos h1]; rfl
 · rename_i h1
   rw [List.length_map]
   exact zs0 h h1
theorem zev {x : Node} {fr vs : List Int} (hf : fr.all M.smp = true) (hv : vs.all M.smp = true) : (za8 x fr vs).all M.smp = true := by
 rw [za8]
 split
 · simp only [List.all_cons, List.all_nil, Bool.and_true]
   exact zdu hf _
 · rw [List.all_map, List.all_eq_true]
   intro f _
   exact zdu hv _
theorem zs4 {x : Int} (h : M.smp x = true) (n : Nat) : M.smp (x / 2 ^ n) = true := by
 obtain ⟨h1, h2⟩ := smp_bd h
 have hp0 : (0 : Int) < 2 ^ n := Int.pow_pos (by decide)
 have hp : (1 : Int) ≤ 2 ^ n := by omega
 refine zby.2 ⟨?_, ?_⟩
 · rw [Int.le_ediv_iff_mul_le (by omega)]
   have : (-2147483648 : Int) * 2 ^ n ≤ (-2147483648 : Int) * 1 := Int.mul_le_mul_of_nonpos_left (by decide) hp
   omega
 · rcases Int.lt_or_le x 0 with h0 | h0
   · have := Int.ediv_neg_of_neg_of_pos h0 (show (0 : Int) < 2 ^ n by omega)
     omega
   · have := Int.ediv_le_self (2 ^ n) h0
     omega
theorem zs5 {t : List Int} (h : t.all M.smp = true) (x : Int) : M.smp (zfg t x) = true := zdu h _
theorem zs6 (s : Int) : M.smp (zd6 s) = true := by
 rw [zd6]
 split <;> exact M.smp_wrap _
theorem zs7 {tb : List (List Int)} (h : zb4 tb = true) (k : Nat) : (zaf tb k).all M.smp = true := by
 rw [zaf]
 cases e : tb[k]? with
 | none => rfl
 | some t => exact (zgx h e).2.1
theorem zs8 {a x : Int} (h : 0 ≤ a ∧ a ≤ 2147483647) : M.smp (max (-a) (min a x)) = true := by
 refine zby.2 ?_
 omega
theorem zmk {x : Node} {tb : List (List Int)} {ins s : List Int} {t : Int} (hok : zai x t = true) (ht : zb4 tb = true) (hi : ins.all M.smp = true) (hs : s.all M.smp = true) : M.smp (zah x tb ins s) = true := by
 obtain ⟨k, a, b, l⟩ := x
 obtain ⟨hb5, hb10, hb11, hb13, hb17, hb2, hb12, hb14, hb1⟩ := zgw hok
 have e0 := zdu hi 0
 have e1 := zdu hi 1
 have e2 := zdu hi 2
 have f0 := zdu hs 0
 have g2 : k = 2 → M.smp a = true := fun h => zby.2 (hb2 h)
 obtain ⟨hk, -, -⟩ := zea hok
 simp only at hk
 rcases ze3 hk with rfl | rfl | rfl | rfl | rfl | rfl | rfl | rfl | rfl | rfl | rfl | rfl | rfl | rfl | rfl | rfl | rfl
 · simpa [zah] using e0
 · simpa [zah] using g2 rfl
 · simpa [zah] using M.smp_wrap _
 · simpa [zah] using M.smp_wrap _
 · simpa [zah] using M.smp_wrap _
 · simpa [zah] using f0
 · simpa [zah] using M.smp_wrap _
 · simpa [zah] using M.smp_wrap _
 · simpa [zah] using M.smp_wrap _
 · have := zs4 e0 a.toNat
   simpa [zah] using this
 · have := zs8 (x := M.i_ ins 0) (hb11 rfl)
   simpa [zah] using this
 · simpa [zah] using f0
 · have := zs5 (zs7 ht a.toNat) (M.i_ ins 0)
   simpa [zah] using this
 · simpa [zah] using f0
 · have : zah (15, a, b, l) tb ins s = if 0 ≤ M.i_ ins 0 then M.i_ ins 1 else M.i_ ins 2 := by simp [zah]
   rw [this]
   split
   · exact e1
   · exact e2
 · have : zah (16, a, b, l) tb ins s = if 0 < M.i_ ins 1 then M.i_ ins 0 else M.i_ s 0 := by simp [zah]
   rw [this]
   split
   · exact e0
   · exact f0
 · simpa [zah] using M.smp_wrap _
theorem zjd {x : Node} {ins s : List Int} {t out : Int} (hok : zai x t = true) (hl : s.length = zcp x) (hi : ins.all M.smp = true) (hs : s.all M.smp = true) (ho : M.smp out = true) : (zak x ins s out).length = zcp x ∧ (zak x ins s out).all M.smp = true := by
 obtain ⟨k, a, b, l⟩ := x
 obtain ⟨hk, h6, h17⟩ := zea hok
 have e0 := zdu hi 0
 have hd : ∀ y, M.smp y = true → (s.drop 1 ++ [y]).all M.smp = true := by
  intro y hy
  rw [List.all_append]
  simp only [List.all_cons, List.all_nil, Bool.and_true, Bool.and_eq_true]
  refine ⟨?_, hy⟩
  rw [List.all_eq_true] at hs ⊢
  exact fun z hz => hs z (List.mem_of_mem_drop hz)
 simp only at hk h6 h17
 rcases ze3 hk with rfl | rfl | rfl | rfl | rfl | rfl | rfl | rfl | rfl | rfl | rfl | rfl | rfl | rfl | rfl | rfl | rfl
 case inr.inr.inr.inr.inr.inl =>
  have := h6 rfl
  simp only [zcp, if_true] at hl
  refine ⟨?_, by simpa [zak] using hd _ e0⟩
  simp [zak, zcp]
  omega
 case inr.inr.inr.inr.inr.inr.inr.inr.inr.inr.inr.inr.inr.inr.inr.inr =>
  have := h17 rfl
  have hl2 : s.length = b.toNat := by rw [hl]; simp [zcp]
  refine ⟨?_, by simpa [zak] using hd _ ho⟩
  simp [zak, zcp]
  omega
 all_goals
  refine ⟨by simp [zak, zcp], ?_⟩
  first
   | (simp [zak]; done)
   | (simpa [zak] using ho)
   | (simpa [zak] using e0)
   | (simpa [zak] using M.smp_wrap _)
   | (simpa [zak] using zs6 _)
theorem zml {x : Node} {t : Int} (hok : zai x t = true) : (zbd x).length = zcp x ∧ (zbd x).all M.smp = true := by
 obtain ⟨k, a, b, l⟩ := x
 obtain ⟨-, -, -, -, -, -, hb12, hb14, -⟩ := zgw hok
 rw [zbd]
 dsimp only
 split
 · rename_i h
   subst h
   have g : M.smp a = true := zby.2 (hb12 rfl)
   exact ⟨by simp [zcp], by simpa using g⟩
 split
 · rename_i h
   subst h
   have g : M.smp a = true := zby.2 (hb14 rfl)
   exact ⟨by simp [zcp], by simpa using g⟩
 · refine ⟨List.length_replicate, ?_⟩
   rw [List.all_eq_true]
   intro z hz
   rw [List.eq_of_mem_replicate hz]
   rfl
section
variable {ns : List Node} {tb : List (List Int)} {fr O : List Int}
theorem M.CO.set {cs : List (List Int)} (h : M.CO ns cs) {k : Nat} {y : List Int} (hy : ∀ x, ns[k]? = some x → y.length = zcp x ∧ y.all M.smp = true) : M.CO ns (cs.set k y) := by
 refine ⟨by rw [List.length_set]; exact h.len, fun i x hx => ?_⟩
 by_cases hk : k = i
 · subst hk
   rw [zi2 (by rw [h.len]; exact (List.getElem?_eq_some_iff.1 hx).1)]
   exact hy x hx
 · rw [zgl hk]
   exact h.at_ i x hx
theorem M.CO.start (hp : M.PF ns tb O) : M.CO ns (ns.map zbd) := by
 refine ⟨List.length_map .., fun i x hx => ?_⟩
 have : zaf (ns.map zbd) i = zbd x := by simp [zaf, hx]
 rw [this]
 exact zml (hp.ok i x hx)
theorem M.PF.ord (hp : M.PF ns tb O) {t : Nat} (ht : t < O.length) : ∃ x, ns[zan O t]? = some x ∧ zaw ns (zan O t) = x ∧ M.i_ O t = (zan O t : Nat) ∧ zan O t < ns.length := by
 have hr := hp.top.rng t ht
 have hi : zan O t < ns.length := by show (M.i_ O t).toNat < _; omega
 exact ⟨_, zho hi, rfl, by show _ = (((M.i_ O t).toNat : Nat) : Int); omega, hi⟩
theorem zmm (hp : M.PF ns tb O) (hf : fr.all M.smp = true) {cs : List (List Int)} (hc : M.CO ns cs) {v0 : List Int} (hv : v0.all M.smp = true) : ∀ t, t ≤ O.length → (zc2 ns tb fr O cs v0 t).all M.smp = true := by
 intro t
 induction t with
 | zero => exact fun _ => hv
 | succ t ih =>
  intro ht
  obtain ⟨x, hx, e, -, hi⟩ := hp.ord (t := t) (by omega)
  rw [zc2, e]
  have hok := hp.ok _ _ hx
  exact zjc (ih (by omega)) _ (zmk hok hp.tabs (zev hf (ih (by omega))) (hc.at_ _ _ hx).2)
theorem zmn (hp : M.PF ns tb O) (hf : fr.all M.smp = true) {c0 : List (List Int)} (hc : M.CO ns c0) {v0 : List Int} (hv : v0.all M.smp = true) : ∀ t, t ≤ O.length → (zbm ns tb fr O v0 c0 t).1.all M.smp = true ∧ M.CO ns (zbm ns tb fr O v0 c0 t).2 := by
 intro t
 induction t with
 | zero => exact fun _ => ⟨hv, hc⟩
 | succ t ih =>
  intro ht
  obtain ⟨x, hx, e, -, hi⟩ := hp.ord (t := t) (by omega)
  obtain ⟨i1, i2⟩ := ih (by omega)
  have hok := hp.ok _ _ hx
  have hcx := i2.at_ _ _ hx
  have ho := zmk (tb := tb) hok hp.tabs (zev (x := x) hf i1) hcx.2
  rw [zbm, e]
  split
  · exact ⟨zjc i1 _ (zdu hcx.2 _), i2⟩
  · refine ⟨zjc i1 _ ho, i2.set fun y hy => ?_⟩
    rw [hx] at hy
    injection hy with hy
    subst hy
    exact zjd hok hcx.1 (zev hf i1) hcx.2 ho
theorem zs9 (hp : M.PF ns tb O) (hf : fr.all M.smp = true) {c1 : List (List Int)} (hc : M.CO ns c1) {vs : List Int} (hv : vs.all M.smp = true) : ∀ t, t ≤ ns.length → M.CO ns (zc3 ns fr vs c1 t) := by
 intro t
 induction t with
 | zero => exact fun _ => hc
 | succ t ih =>
  intro ht
  have hx := zho (ns := ns) (i := t) (by omega)
  have i2 := ih (by omega)
  have hcx := i2.at_ _ _ hx
  rw [zc3]
  split
  · refine i2.set fun y hy => ?_
    rw [hx] at hy
    injection hy with hy
    subst hy
    exact zjd (hp.ok _ _ hx) hcx.1 (zev hf hv) hcx.2 rfl
  · exact i2
theorem zje (hp : M.PF ns tb O) (hf : fr.all M.smp = true) {cs : List (List Int)} (hc : M.CO ns cs) : (zbh ns tb fr O cs).all M.smp = true := by
 refine zmm hp hf hc ?_ _ (Nat.le_refl _)
 rw [List.all_eq_true]
 intro z hz
 rw [List.eq_of_mem_replicate hz]
 rfl
theorem zta (cs : List (List Int)) : (zbh ns tb fr O cs).length = ns.length := by rw [zbh, zi3, List.length_replicate]
theorem ztb (hp : M.PF ns tb O) (hf : fr.all M.smp = true) {cs : List (List Int)} (hc : M.CO ns cs) : M.CO ns (zcj ns tb fr O cs) := by
 refine ⟨by rw [zcj, List.length_map, List.length_range], fun i x hx => ?_⟩
 have hi := (List.getElem?_eq_some_iff.1 hx).1
 have hn : zaf (zcj ns tb fr O cs) i = zak (zaw ns i) (za8 (zaw ns i) fr (zbh ns tb fr O cs)) (zaf cs i) (M.i_ (zbh ns tb fr O cs) i) := by simp [zcj, zaf, hi]
 rw [hn, zs3 hx]
 have hv := zje (fr := fr) hp hf hc
 exact zjd (hp.ok _ _ hx) (hc.at_ _ _ hx).1 (zev hf hv) (hc.at_ _ _ hx).2 (zdu hv _)
end
def zdc (ns : List Node) (tb : List (List Int)) (O xs : List Int) : Nat → List (List Int)
 | 0 => ns.map zbd
 | t + 1 => zcj ns tb [M.at_ xs (t : Int)] O (zdc ns tb O xs t)
def zdd (ns : List Node) (tb : List (List Int)) (O xs : List Int) (t : Nat) : List Int := zbh ns tb [M.at_ xs (t : Int)] O (zdc ns tb O xs t)
def zbv (ns : List Node) (tb : List (List Int)) (O xs : List Int) (o : Int) (n : Nat) : List Int := (List.range n).map fun t => M.i_ (zdd ns tb O xs t) o.toNat
def zmo (p : zad) (xs : List Int) (n : Nat) : List Int := zbv p.2.2.1 p.2.1 (zal p.2.2.1) xs (M.i_ p.2.2.2 0) n
theorem zen (ns : List Node) (tb : List (List Int)) (O xs : List Int) (o : Int) (n : Nat) : (zbv ns tb O xs o n).length = n := by simp [zbv]
theorem zmp (ns : List Node) (tb : List (List Int)) (O xs : List Int) (o : Int) (k : Nat) : zbv ns tb O xs o (k + 1) = zbv ns tb O xs o k ++ [M.i_ (zdd ns tb O xs k) o.toNat] := by simp [zbv, List.range_succ]
theorem zhq {xs : List Int} (h : xs.all M.smp = true) (i : Int) : M.smp (M.at_ xs i) = true := by
 rw [M.at_]
 split
 · exact zdu h _
 · rfl
section
variable {ns : List Node} {tb : List (List Int)} {O xs : List Int}
theorem zmq (h : xs.all M.smp = true) (t : Int) : [M.at_ xs t].all M.smp = true := by
 simp only [List.all_cons, List.all_nil, Bool.and_true]
 exact zhq h t
theorem zhr (hp : M.PF ns tb O) (h : xs.all M.smp = true) : ∀ t, M.CO ns (zdc ns tb O xs t) := by
 intro t
 induction t with
 | zero => exact M.CO.start hp
 | succ t ih => exact ztb hp (zmq h _) ih
theorem zjf (hp : M.PF ns tb O) (h : xs.all M.smp = true) (t : Nat) : (zdd ns tb O xs t).all M.smp = true := zje hp (zmq h _) (zhr hp h t)
theorem ztc (hp : M.PF ns tb O) (h : xs.all M.smp = true) (o : Int) (n : Nat) : (zbv ns tb O xs o n).all M.smp = true := by
 rw [zbv, List.all_map, List.all_eq_true]
 intro t _
 exact zdu (zjf hp h t) _
end
theorem zjg {p : zad} (h : zcw p = true) (h1 : p.1 = 1) : M.PF p.2.2.1 p.2.1 (zal p.2.2.1) := by
 rw [zcw, Bool.and_eq_true, decide_eq_true_eq] at h
 obtain ⟨hf, ho⟩ := h
 rw [za7] at hf
 simp only [Bool.and_eq_true, decide_eq_true_eq] at hf
 obtain ⟨⟨⟨⟨⟨g0, g1⟩, g2⟩, g3⟩, g4⟩, g5⟩ := hf
 have key : ∀ i x, p.2.2.1[i]? = some x → zbp p.2.1.length p.2.2.1.length p.1 x = true := fun i x hx => List.all_eq_true.1 g5 x (List.mem_of_getElem? hx)
 refine ⟨g1, fun i x hx => ?_, fun i x hx f hf => ?_, fun i x hx he => ?_, zqq ho, g2⟩
 · have := key i x hx
   rw [zbp, Bool.and_eq_true, Bool.and_eq_true] at this
   exact this.1.1
 · have := key i x hx
   rw [zbp, Bool.and_eq_true, Bool.and_eq_true] at this
   have := zby.1 (List.all_eq_true.1 this.1.2 f hf)
   omega
 · have := key i x hx
   rw [zbp, Bool.and_eq_true, Bool.and_eq_true] at this
   have h2 := this.2
   have h3 := this.1.1
   obtain ⟨k, a, b, l⟩ := x
   simp only at he
   subst he
   have h4 := (zgw h3).2.2.2.2.2.2.2.2 rfl
   simp [h1] at h2
   show a = 0
   omega
theorem zmr {p : zad} (h : zcw p = true) : ∀ o ∈ p.2.2.2, 0 ≤ o ∧ o < p.2.2.1.length := by
 intro o ho
 rw [zcw, Bool.and_eq_true, za7] at h
 have h := h.1
 simp only [Bool.and_eq_true, decide_eq_true_eq] at h
 have := zby.1 (List.all_eq_true.1 h.1.2 o ho)
 omega
end
section
open Go.RowKit Go.Sort
theorem zgz (A : Option Addr) (n c : Nat) (xs : List (List Int)) (w : World) (hx : tSS.R w w.heap.size [.slice A n c] xs) (hn : hSS.sz xs ≤ 100000000) :
 Calls Tryz.prog 174 #[.slice A n c] w fun e w' => ∃ v, e = .returned v ∧ OS tS 24 w' (Iv w.heap.size w'.heap.size) v xs ∧ Below w.heap.size w w' := by
 have rx := sl_R.1 hx
 have hl := Lib.hid rx.cap.1
 have hq1 : xs.length + hS.szL xs = hSS.sz xs := rfl
 have hb1 : Hid (∀ x ∈ xs, x.length ≤ 1000000000) := Lib.hid (fun x hx => by
  obtain ⟨i, hi⟩ := List.getElem?_of_mem hx
  have := hS.szL_at hi
  rw [zbl] at this
  omega)
 have hnb : n ≤ 100000000 := by have := hl.out; omega
 have hxl : xs.length ≤ 100000000 := by omega
 clear hx hn hq1
 go_enter Tryz.func174, Tryz.ntmps174
 go_wp2_with fail
 go_loopw [3, 9] (fun v i wr => ∃ k : Nat, i = .int .i64 k ∧ k ≤ n ∧ OS tS 24 wr (Iv w.heap.size wr.heap.size) v (xs.take k) ∧ Below w.heap.size w wr) (fun _ i _ => n - (intOf i).toNat)
 case atStart => exact ⟨0, rfl, by omega, OS.made0 _ _ _, (Below.refl _ _).alloc (Nat.le_refl _) _⟩
 case round =>
  obtain ⟨k, rfl, hk, own, Bw⟩ := hrel
  by_cases hlt : k < n
  · obtain ⟨bb, o, A1, c1, x, rfl, hbb, X, hc, hri, hxl2⟩ := zdr (rx.below Bw) hb1 hlt
    have hri2 := hri.more Bw.size
    have hx9 := hb1.out x (List.mem_of_getElem? X.out)
    have hpt := Lib.hid (M.take_at X.out)
    have hpl : (xs.take k).length ≤ 100000000 := by rw [List.length_take]; omega
    have hsb := Bw.size
    go_wp2_with fail
    refine (zd1 _ _ _ _ _ hri2 (by omega)).mono ?_
    rintro e w1 ⟨v1, rfl, own1, bel1⟩
    obtain ⟨A4, c4, rfl, -⟩ := own1.shape
    have ow := own.below bel1 (Nat.le_refl _)
    have os2 := tS_O.2 (OI.os own1)
    have s2 := bel1.size
    go_wp2_with (at_builtin; refine zca ei_S #[.slice A4 x.length c4] rfl _ _ rfl ow os2 (Iv.apart (Nat.le_refl _)) rfl rfl (by unfold maxLen; omega) (by omega) ?_; intro v3 w4 own4 ch4)
    go_roundw
    case rel =>
     refine ⟨k + 1, by go_num, by omega, ?_, (Bw.trans (bel1.mono hsb)).trans (ch4.toBelow (fun b hb => hb.1) (by omega))⟩
     rw [hpt.out]
     exact own4.wide (Iv.grow hsb s2 ch4.size)
    case measure => simp [intOf]; omega
  · obtain rfl : k = n := by omega
    go_wp2
    go_ret
    rw [List.take_of_length_le (by rw [hl.out]; exact Nat.le_refl _)] at own
    exact ⟨_, rfl, own, Bw⟩
theorem ztd (a0 a1 a2 : Int) (A : Option Addr) (n c : Nat) (xs : List Int) (w : World) (hx : RI w w.heap.size A n xs) (hn : n ≤ 100000000) :
 Calls Tryz.prog 199 #[.agg #[.int .i64 a0, .int .i64 a1, .int .i64 a2, .slice A n c]] w fun e w' => ∃ A' n' c', e = .returned (.agg #[.int .i64 a0, .int .i64 a1, .int .i64 a2, .slice A' n' c']) ∧ tN.O w' (Iv w.heap.size w'.heap.size) [.int .i64 a0, .int .i64 a1, .int .i64 a2, .slice A' n' c'] (a0, a1, a2, xs) ∧ Below w.heap.size w w' := by
 obtain rfl : xs.length = n := hx.len
 obtain ⟨W, hW⟩ : ∃ W, W = (w.alloc (.cells #[.int .i64 a0, .int .i64 a1, .int .i64 a2, .slice A xs.length c] 171)).alloc (.cells #[.int .i64 0, .int .i64 0, .int .i64 0, .slice none 0 0] 171) := ⟨_, rfl⟩
 have B0 : Below w.heap.size w W := by rw [hW]; exact ((Below.refl _ _).alloc (Nat.le_refl _) _).alloc (by simp) _
 have lW : w.heap.size + 1 < W.heap.size := by rw [hW]; simp
 have p0 : W.cell? ⟨w.heap.size, 0, none⟩ = some (.int .i64 a0) := by rw [hW]; simp [go_sem]
 have pf0 : W.frozen? ⟨w.heap.size, 0, none⟩ = false := by rw [hW]; simp [go_sem]
 have r0 : W.cell? ⟨w.heap.size + 1, 0, none⟩ = some (.int .i64 0) := by rw [hW]; simp [go_sem]
 have rf0 : W.frozen? ⟨w.heap.size + 1, 0, none⟩ = false := by rw [hW]; simp [go_sem]
 have p1 : W.cell? ⟨w.heap.size, 1, none⟩ = some (.int .i64 a1) := by rw [hW]; simp [go_sem]
 have pf1 : W.frozen? ⟨w.heap.size, 1, none⟩ = false := by rw [hW]; simp [go_sem]
 have r1 : W.cell? ⟨w.heap.size + 1, 1, none⟩ = some (.int .i64 0) := by rw [hW]; simp [go_sem]
 have rf1 : W.frozen? ⟨w.heap.size + 1, 1, none⟩ = false := by rw [hW]; simp [go_sem]
 have p2 : W.cell? ⟨w.heap.size, 2, none⟩ = some (.int .i64 a2) := by rw [hW]; simp [go_sem]
 have pf2 : W.frozen? ⟨w.heap.size, 2, none⟩ = false := by rw [hW]; simp [go_sem]
 have r2 : W.cell? ⟨w.heap.size + 1, 2, none⟩ = some (.int .i64 0) := by rw [hW]; simp [go_sem]
 have rf2 : W.frozen? ⟨w.heap.size + 1, 2, none⟩ = false := by rw [hW]; simp [go_sem]
 have p3 : W.cell? ⟨w.heap.size, 3, none⟩ = some (.slice A xs.length c) := by rw [hW]; simp [go_sem]
 have pf3 : W.frozen? ⟨w.heap.size, 3, none⟩ = false := by rw [hW]; simp [go_sem]
 have r3 : W.cell? ⟨w.heap.size + 1, 3, none⟩ = some (.slice none 0 0) := by rw [hW]; simp [go_sem]
 have rf3 : W.frozen? ⟨w.heap.size + 1, 3, none⟩ = false := by rw [hW]; simp [go_sem]
 have HW := Lib.hid hW
 have hx1 := hx.later B0
 clear hW
 go_enter Tryz.func199, Tryz.ntmps199
 go_wp2_with fail
 rw [← HW.out]
 refine (zd1 _ _ _ _ _ hx1 (by omega)).mono ?_
 rintro e w1 ⟨v1, rfl, own1, bel1⟩
 obtain ⟨A4, c4, rfl, -⟩ := own1.shape
 have s1 := bel1.size
 replace p0 : w1.cell? ⟨w.heap.size, 0, none⟩ = some (.int .i64 a0) := by rw [bel1.cell (by show w.heap.size < W.heap.size; omega)]; exact p0
 replace pf0 : w1.frozen? ⟨w.heap.size, 0, none⟩ = false := by rw [bel1.frozen (by show w.heap.size < W.heap.size; omega)]; exact pf0
 replace r0 : w1.cell? ⟨w.heap.size + 1, 0, none⟩ = some (.int .i64 0) := by rw [bel1.cell (by show w.heap.size + 1 < W.heap.size; omega)]; exact r0
 replace rf0 : w1.frozen? ⟨w.heap.size + 1, 0, none⟩ = false := by rw [bel1.frozen (by show w.heap.size + 1 < W.heap.size; omega)]; exact rf0
 replace p1 : w1.cell? ⟨w.heap.size, 1, none⟩ = some (.int .i64 a1) := by rw [bel1.cell (by show w.heap.size < W.heap.size; omega)]; exact p1
 replace pf1 : w1.frozen? ⟨w.heap.size, 1, none⟩ = false := by rw [bel1.frozen (by show w.heap.size < W.heap.size; omega)]; exact pf1
 replace r1 : w1.cell? ⟨w.heap.size + 1, 1, none⟩ = some (.int .i64 0) := by rw [bel1.cell (by show w.heap.size + 1 < W.heap.size; omega)]; exact r1
 replace rf1 : w1.frozen? ⟨w.heap.size + 1, 1, none⟩ = false := by rw [bel1.frozen (by show w.heap.size + 1 < W.heap.size; omega)]; exact rf1
 replace p2 : w1.cell? ⟨w.heap.size, 2, none⟩ = some (.int .i64 a2) := by rw [bel1.cell (by show w.heap.size < W.heap.size; omega)]; exact p2
 replace pf2 : w1.frozen? ⟨w.heap.size, 2, none⟩ = false := by rw [bel1.frozen (by show w.heap.size < W.heap.size; omega)]; exact pf2
 replace r2 : w1.cell? ⟨w.heap.size + 1, 2, none⟩ = some (.int .i64 0) := by rw [bel1.cell (by show w.heap.size + 1 < W.heap.size; omega)]; exact r2
 replace rf2 : w1.frozen? ⟨w.heap.size + 1, 2, none⟩ = false := by rw [bel1.frozen (by show w.heap.size + 1 < W.heap.size; omega)]; exact rf2
 replace p3 : w1.cell? ⟨w.heap.size, 3, none⟩ = some (.slice A xs.length c) := by rw [bel1.cell (by show w.heap.size < W.heap.size; omega)]; exact p3
 replace pf3 : w1.frozen? ⟨w.heap.size, 3, none⟩ = false := by rw [bel1.frozen (by show w.heap.size < W.heap.size; omega)]; exact pf3
 replace r3 : w1.cell? ⟨w.heap.size + 1, 3, none⟩ = some (.slice none 0 0) := by rw [bel1.cell (by show w.heap.size + 1 < W.heap.size; omega)]; exact r3
 replace rf3 : w1.frozen? ⟨w.heap.size + 1, 3, none⟩ = false := by rw [bel1.frozen (by show w.heap.size + 1 < W.heap.size; omega)]; exact rf3
 have B1 := zaa B0 bel1
 have lw1 : w.heap.size < w1.heap.size := by omega
 have lw2 : w.heap.size + 1 < w1.heap.size := by omega
 have o1 := tS_O.2 (OI.os own1)
 clear B0 HW
 obtain ⟨U, hU⟩ : ∃ U, U = w1.setCell ⟨w.heap.size, 3, none⟩ (.slice A4 xs.length c4) := ⟨_, rfl⟩
 have m1 : Mid w.heap.size (w.heap.size + 1) w1 U := by rw [hU]; exact Mid.of_grown (zav w1 w.heap.size 3 _) fun k hk => by injection hk with hk; omega
 have eU : U.heap.size = w1.heap.size := by rw [hU]; simp
 have BU : Below (w.heap.size + 1) w1 U ∨ True := .inr trivial
 have u0 : U.cell? ⟨w.heap.size + 1, 0, none⟩ = some (.int .i64 0) := by rw [hU]; simp [go_sem, r0, lw1]
 have v0 : U.frozen? ⟨w.heap.size + 1, 0, none⟩ = false := by rw [hU]; simp [go_sem, rf0, lw1]
 have u1 : U.cell? ⟨w.heap.size + 1, 1, none⟩ = some (.int .i64 0) := by rw [hU]; simp [go_sem, r1, lw1]
 have v1 : U.frozen? ⟨w.heap.size + 1, 1, none⟩ = false := by rw [hU]; simp [go_sem, rf1, lw1]
 have u2 : U.cell? ⟨w.heap.size + 1, 2, none⟩ = some (.int .i64 0) := by rw [hU]; simp [go_sem, r2, lw1]
 have v2 : U.frozen? ⟨w.heap.size + 1, 2, none⟩ = false := by rw [hU]; simp [go_sem, rf2, lw1]
 have u3 : U.cell? ⟨w.heap.size + 1, 3, none⟩ = some (.slice none 0 0) := by rw [hU]; simp [go_sem, r3, lw1]
 have v3 : U.frozen? ⟨w.heap.size + 1, 3, none⟩ = false := by rw [hU]; simp [go_sem, rf3, lw1]
 have HU := Lib.hid hU
 clear hU BU
 go_wp2
 rw [← HU.out]
 have mm : Mid w.heap.size (w.heap.size + 1 + 1) U ((((U.setCell ⟨w.heap.size + 1, 0, none⟩ (.int .i64 a0)).setCell ⟨w.heap.size + 1, 1, none⟩ (.int .i64 a1)).setCell ⟨w.heap.size + 1, 2, none⟩ (.int .i64 a2)).setCell ⟨w.heap.size + 1, 3, none⟩ (.slice A4 xs.length c4)) := ((((Mid.of_grown (zav _ _ 0 _) (fun k hk => by injection hk with hk; omega)).trans (Mid.of_grown (zav _ _ 1 _) (fun k hk => by injection hk with hk; omega))).trans (Mid.of_grown (zav _ _ 2 _) (fun k hk => by injection hk with hk; omega))).trans (Mid.of_grown (zav _ _ 3 _) (fun k hk => by injection hk with hk; omega)))
 clear p0 p1 p2 p3 pf0 pf1 pf2 pf3 r0 r1 r2 r3 rf0 rf1 rf2 rf3
 refine bodyPost_ret (v := .agg #[.int .i64 a0, .int .i64 a1, .int .i64 a2, .slice A4 xs.length c4]) (by simp [results, Tryz.results199, go_sem, u0, u1, u2, u3, v0, v1, v2, v3]) rfl ?_
 have hM := (m1.wide (Nat.le_refl _) (Nat.le_succ _)).trans mm
 have eE := mm.size
 refine ⟨A4, xs.length, c4, rfl, tN_O.2 ⟨A4, xs.length, c4, Iv W.heap.size w1.heap.size, rfl, tS.omid o1 hM (.inr (by omega)) (Nat.le_refl _), Iv.mono (by omega) (by have := hM.size; omega)⟩, B1.trans (hM.toBelow (by omega))⟩
end
section
open Go.RowKit Go.Sort
theorem Chg.up {F G : Nat → Prop} {a b c : World} (h : Chg G a b) (k : Chg F b c) (hf : ∀ x, x < a.heap.size → F x → G x) : Chg G a c :=
 ⟨k.os.trans h.os, k.tape.trans h.tape, k.output.trans h.output, Nat.le_trans h.size k.size, fun i hi hn => (k.block i (Nat.lt_of_lt_of_le hi h.size) (fun hF => hn (hf i hi hF))).trans (h.block i hi hn)⟩
theorem Chg.upB {G : Nat → Prop} {a b c : World} (h : Chg G a b) (k : Below b.heap.size b c) : Chg G a c := h.up (Chg.of_below k (fun _ => False)) (fun _ _ h => h.elim)
theorem Chg.cell {F : Nat → Prop} {a b : World} (h : Chg F a b) {k j : Nat} (hk : k < a.heap.size) (hn : ¬ F k) : b.cell? ⟨k, j, none⟩ = a.cell? ⟨k, j, none⟩ := by
 exact World.cell?_of_block (h.block k hk hn)
theorem Chg.frozen {F : Nat → Prop} {a b : World} (h : Chg F a b) {k j : Nat} (hk : k < a.heap.size) (hn : ¬ F k) : b.frozen? ⟨k, j, none⟩ = a.frozen? ⟨k, j, none⟩ := by
 have hb := h.block k hk hn
 simp only [World.frozen?]
 rw [hb]
structure Gr (g f : Nat) (w0 w : World) (v : Value) : Prop where
 chg : Chg (fun b => b = g) w0 w
 cel : w.cell? ⟨g, f, none⟩ = some v
 oth : ∀ j, j ≠ f → w.cell? ⟨g, j, none⟩ = w0.cell? ⟨g, j, none⟩
 fro : ∀ j, w.frozen? ⟨g, j, none⟩ = w0.frozen? ⟨g, j, none⟩
theorem Gr.start {g f : Nat} {w : World} {v : Value} (h : w.cell? ⟨g, f, none⟩ = some v) : Gr g f w w v := ⟨Chg.refl _ _, h, fun _ _ => rfl, fun _ => rfl⟩
theorem Gr.below {g f : Nat} {w0 w w' : World} {v : Value} (h : Gr g f w0 w v) (hb : Below w.heap.size w w') (hg : g < w.heap.size) : Gr g f w0 w' v :=
 ⟨h.chg.upB hb, by rw [hb.cell (p := ⟨g, f, none⟩) hg]; exact h.cel, fun j hj => by rw [hb.cell (p := ⟨g, j, none⟩) hg]; exact h.oth j hj, fun j => by rw [hb.frozen (p := ⟨g, j, none⟩) hg]; exact h.fro j⟩
theorem Gr.row {g f : Nat} {w0 w w' : World} {v : Value} {F : Nat → Prop} (h : Gr g f w0 w v) (hc : Chg F w w') (hg : g < w.heap.size) (hF : ∀ b, F b → w0.heap.size ≤ b ∧ b ≠ g) : Gr g f w0 w' v :=
 ⟨h.chg.up hc (fun x hx hFx => by have := hF x hFx; omega), by rw [hc.cell hg (fun e => (hF g e).2 rfl)]; exact h.cel, fun j hj => by rw [hc.cell hg (fun e => (hF g e).2 rfl)]; exact h.oth j hj, fun j => by rw [hc.frozen hg (fun e => (hF g e).2 rfl)]; exact h.fro j⟩
theorem Gr.set {g f : Nat} {w0 w : World} {v : Value} (h : Gr g f w0 w v) (hz : w0.frozen? ⟨g, f, none⟩ = false) (u : Value) : Gr g f w0 (w.setCell ⟨g, f, none⟩ u) u := by
 have hfr : w.frozen? ⟨g, f, none⟩ = false := by rw [h.fro]; exact hz
 have hc := h.cel
 refine ⟨h.chg.trans (Chg.set w g f u rfl), by simp [go_sem, hc], fun j hj => ?_, fun j => ?_⟩
 · rw [← h.oth j hj]
   simp [go_sem, Ne.symm hj]
   try omega
 · rw [← h.fro j]
   simp [go_sem]
end
section
open Go.RowKit Go.Sort
section
variable {F F' : Nat → Prop} {w w' : World} {A : Option Addr} {n g k c : Nat} {xs : List Int} {e : TypeId} {base : Nat} {v : Value} {cs : List (List Int)}
def RN (F : Nat → Prop) (w : World) (A : Option Addr) (n : Nat) (xs : List Int) : Prop := RI w w.heap.size A n xs ∧ ∀ ad, 0 < n → A = some ad → ¬ F ad.block
theorem RN.chg (h : RN F w A n xs) (hc : Chg F w w') : RN F w' A n xs := by
 refine ⟨⟨h.1.1, fun hn => ?_⟩, h.2⟩
 obtain ⟨ad, e, hb, hk⟩ := h.1.2 hn
 refine ⟨ad, e, Nat.lt_of_lt_of_le hb hc.size, fun j u hu => ?_⟩
 have h2 := h.2 ad hn e
 rw [World.cell?_of_block (hc.block (ad.add j).block (by rw [zfa]; exact hb) (by rw [zfa]; exact h2))]
 exact hk j u hu
theorem RN.sub (h : RN F w A n xs) (hf : ∀ k, F' k → F k) : RN F' w A n xs := ⟨h.1, fun ad hn e hF => h.2 ad hn e (hf _ hF)⟩
theorem RN.below (h : RN F w A n xs) (hb : Below w.heap.size w w') : RN F w' A n xs := h.chg (Chg.of_below hb F)
theorem RN.of_ri {B : Nat} (h : RI w B A n xs) (hB : B ≤ w.heap.size) (hF : ∀ k, F k → B ≤ k) : RN F w A n xs := by
 refine ⟨h.more hB, fun ad hn e hf => ?_⟩
 obtain ⟨ad', e', hb, _⟩ := h.2 hn
 rw [e] at e'
 injection e' with e'
 subst e'
 have := hF _ hf
 omega
theorem RN.of_oi {B : Nat} (h : OI e B w (.slice A n c) xs) (hF : ∀ k, F k → k < B) : RN F w A n xs := by
 have hl : xs.length = n := by
  rcases h.2 with ⟨h0, h1⟩ | ⟨g, cap, cur, h0, _⟩
  · simp only [Value.slice.injEq] at h0
    rw [h0.2.1]; exact h1
  · simp only [Value.slice.injEq] at h0
    exact h0.2.1.symm
 subst hl
 refine ⟨h.ri, fun ad hn e hf => ?_⟩
 obtain ⟨g, hA, hB, hg⟩ := h.form' hn
 rw [e] at hA
 injection hA with hA
 subst hA
 have := hF _ hf
 simp only at this
 omega
theorem RN.at (h : RN F w A n xs) {k : Nat} (hk : k < n) : ∃ b o x, A = some ⟨b, o, none⟩ ∧ b < w.heap.size ∧ ¬ F b ∧ xs[k]? = some x ∧ w.cell? ⟨b, o + k, none⟩ = some (.int .i64 x) := by
 obtain ⟨b, o, rfl, hb, hc⟩ := zam h.1 (by omega)
 have hl : k < xs.length := by rw [h.1.len]; exact hk
 exact ⟨b, o, xs[k], rfl, hb, h.2 _ (by omega) rfl, List.getElem?_eq_getElem hl, hc k _ (List.getElem?_eq_getElem hl)⟩
theorem OI.chg {B : Nat} (h : OI e B w v xs) (hc : Chg F w w') (hn : ∀ k, v.ownBlock = some k → ¬ F k) : OI e B w' v xs := by
 refine ⟨h.1, ?_⟩
 rcases h.2 with h2 | ⟨g, cap, cur, rfl, hb, hg, rest⟩
 · exact .inl h2
 · exact .inr ⟨g, cap, cur, rfl, hb, by rw [hc.block g (Array.getElem?_eq_some_iff.1 hg).1 (hn g rfl)]; exact hg, rest⟩
def CR (F : Nat → Prop) (e : TypeId) (base : Nat) (w : World) (v : Value) (cs : List (List Int)) : Prop :=
 ∃ us : List Value, w.ownsRow base e 1 v cs.length us ∧ ∀ (k : Nat) (x : List Int), cs[k]? = some x → ∃ A c, us[k]? = some (Value.slice A x.length c) ∧ x.length ≤ c ∧ RN F w A x.length x
theorem CR.form (h : CR F e base w v cs) (hn : 0 < cs.length) : ∃ g cap, v = .slice (some ⟨g, 0, none⟩) cs.length cap ∧ base ≤ g ∧ g < w.heap.size := by
 obtain ⟨us, h1, _⟩ := h
 exact World.ownsRow.form h1 hn
theorem CR.lenV {A : Option Addr} (h : CR F e base w (.slice A n c) cs) : n = cs.length := by
 obtain ⟨us, h1, _⟩ := h
 rcases h1.2 with ⟨h0, h2⟩ | ⟨g', cap, cur, h0, _⟩
 · simp only [Value.slice.injEq] at h0
   rw [h0.2.1, h2]
 · simp only [Value.slice.injEq] at h0
   exact h0.2.1
theorem CR.at (h : CR F e base w (.slice (some ⟨g, 0, none⟩) n c) cs) {k : Nat} (hk : k < n) : ∃ A' c' x, cs[k]? = some x ∧ x.length ≤ c' ∧ RN F w A' x.length x ∧ w.cell? ⟨g, k, none⟩ = some (.slice A' x.length c') ∧ w.frozen? ⟨g, k, none⟩ = false := by
 have hn := h.lenV
 subst hn
 obtain ⟨us, h1, h2⟩ := h
 obtain ⟨A', c', hu, hle, hr⟩ := h2 k _ (List.getElem?_eq_getElem hk)
 exact ⟨A', c', _, List.getElem?_eq_getElem hk, hle, hr, by rw [World.ownsRow.cellAt h1 k (by omega)]; exact hu, World.ownsRow.frozenAt h1 k⟩
theorem CR.set (h : CR F e base w (.slice (some ⟨g, 0, none⟩) n c) cs) (hg : F g) (k : Nat) {A' : Option Addr} {c' : Nat} {y : List Int} (hc : y.length ≤ c') (hr : RN F w A' y.length y) :
 CR F e base (w.setCell ⟨g, k, none⟩ (.slice A' y.length c')) (.slice (some ⟨g, 0, none⟩) n c) (cs.set k y) := by
 have hn := h.lenV
 subst hn
 obtain ⟨us, h1, h2⟩ := h
 have hch : Chg F w (w.setCell ⟨g, k, none⟩ (.slice A' y.length c')) := Chg.set w g k _ hg
 refine ⟨us.set k (.slice A' y.length c'), by rw [List.length_set]; exact (World.ownsRow.stored h1 k _).1, fun i x hx => ?_⟩
 by_cases hik : k = i
 · subst hik
   have hlt : k < cs.length := by have := (List.getElem?_eq_some_iff.1 hx).1; rwa [List.length_set] at this
   rw [List.getElem?_set_self hlt] at hx
   injection hx with hx
   subst hx
   have hus : us.length = cs.length := by have := h1.1; omega
   exact ⟨A', c', List.getElem?_set_self (by omega), hc, hr.chg hch⟩
 · rw [List.getElem?_set_ne hik] at hx
   obtain ⟨A2, c2, hu, hle, hr2⟩ := h2 i x hx
   exact ⟨A2, c2, by rw [List.getElem?_set_ne hik]; exact hu, hle, hr2.chg hch⟩
theorem CR.chg (h : CR F e base w v cs) (hc : Chg F' w w') (h1 : ∀ k, F' k → F k) (h2 : ∀ k, v.ownBlock = some k → ¬ F' k) : CR F e base w' v cs := by
 obtain ⟨us, g1, g2⟩ := h
 refine ⟨us, ⟨g1.1, ?_⟩, fun i x hx => ?_⟩
 · rcases g1.2 with hn | ⟨g, cap, cur, rfl, hb, hg, rest⟩
   · exact .inl hn
   · exact .inr ⟨g, cap, cur, rfl, hb, by rw [hc.block g (Array.getElem?_eq_some_iff.1 hg).1 (h2 g rfl)]; exact hg, rest⟩
 · obtain ⟨A2, c2, hu, hle, hr2⟩ := g2 i x hx
   exact ⟨A2, c2, hu, hle, hr2.chg (hc.wide h1)⟩
theorem CR.below (h : CR F e base w v cs) (hb : Below w.heap.size w w') : CR F e base w' v cs := h.chg (Chg.of_below hb (fun _ => False)) (fun _ h => h.elim) (fun _ _ h => h)
theorem RN.more (h : RN F w A n xs) (hF : ∀ k, F' k → F k ∨ w.heap.size ≤ k) : RN F' w A n xs := ⟨h.1, fun ad hn e hf => by
 obtain ⟨ad', e', hb, _⟩ := h.1.2 hn
 rw [e] at e'
 injection e' with e'
 subst e'
 rcases hF _ hf with h2 | h2
 · exact h.2 ad hn e h2
 · omega⟩
theorem CR.sub (h : CR F e base w v cs) (hF : ∀ k, F' k → F k) : CR F' e base w v cs := by
 obtain ⟨us, h1, h2⟩ := h
 refine ⟨us, h1, fun k x hx => ?_⟩
 obtain ⟨A, c, e1, e2, e3⟩ := h2 k x hx
 exact ⟨A, c, e1, e2, e3.sub hF⟩
theorem CR.more (h : CR F e base w v cs) (hF : ∀ k, F' k → F k ∨ w.heap.size ≤ k) : CR F' e base w v cs := by
 obtain ⟨us, h1, h2⟩ := h
 refine ⟨us, h1, fun k x hx => ?_⟩
 obtain ⟨A, c, e1, e2, e3⟩ := h2 k x hx
 exact ⟨A, c, e1, e2, e3.more hF⟩
theorem CR.of_os {G : Nat → Prop} (h : OS tS e w G v cs) (hF : ∀ k, F k → G k → v.ownBlock = some k) (hb : ∀ k, v.ownBlock = some k → base ≤ k) : CR F e base w v cs := by
 obtain ⟨css, Fs, h1, h2, h3, h4, h5, h6⟩ := h
 have hsing : ∀ k (hk : k < cs.length), ∃ A c, css[k]'(by omega) = [.slice A cs[k].length c] ∧ cs[k].length ≤ c ∧ RN F w A cs[k].length cs[k] := by
  intro k hk
  obtain ⟨u, hu, ho⟩ := h6 k hk (by omega)
  obtain ⟨A, c, rfl⟩ := ho.shape
  have hcap := ho.read.cap
  refine ⟨A, c, hu, hcap.2.1, ho.read.ri, fun ad hn he hf => ?_⟩
  subst he
  obtain ⟨css2, Fs2, k1, k2, k3, _⟩ := ho
  have hFs := k3 ad.block rfl
  have h7 := h4 k _ hFs
  exact h7.2 (hF _ hf h7.1)
 refine ⟨css.flatten, ⟨h1.1, ?_⟩, fun k x hx => ?_⟩
 · rcases h1.2 with hn | ⟨g, cap, cur, rfl, hb', rest⟩
   · exact .inl hn
   · exact .inr ⟨g, cap, cur, rfl, hb g rfl, rest⟩
 · have hk := (List.getElem?_eq_some_iff.1 hx).1
   have hx2 : cs[k]'hk = x := (List.getElem?_eq_some_iff.1 hx).2
   subst hx2
   obtain ⟨A, c, e1, e2, e3⟩ := hsing k hk
   refine ⟨A, c, ?_, e2, e3⟩
   have hs : ∀ c ∈ css, c.length = 1 := fun c hc => by
    obtain ⟨i, hi, rfl⟩ := List.getElem_of_mem hc
    obtain ⟨A', c', e1', _⟩ := hsing i (by omega)
    rw [e1']
    rfl
   have := zg8 (s := 1) hs (k := k) (List.getElem?_eq_getElem (by omega)) 0 (by omega)
   rw [Nat.mul_one, Nat.add_zero] at this
   rw [this, e1]
   rfl
def RSN (F : Nat → Prop) (w : World) (v : Value) (cs : List (List Int)) : Prop :=
 ∃ (A : Option Addr) (c : Nat) (us : List Value), v = .slice A cs.length c ∧ cs.length ≤ c ∧ c ≤ maxLen ∧ us.length = cs.length ∧ Reads w w.heap.size 1 A cs.length us ∧ (∀ ad, 0 < cs.length → A = some ad → ¬ F ad.block) ∧
  ∀ (k : Nat) (x : List Int), cs[k]? = some x → ∃ A' c', us[k]? = some (Value.slice A' x.length c') ∧ x.length ≤ c' ∧ RN F w A' x.length x
theorem RSN.chg (h : RSN F w v cs) (hc : Chg F w w') : RSN F w' v cs := by
 obtain ⟨A, c, us, rfl, h1, h2, h3, h4, h5, h6⟩ := h
 refine ⟨A, c, us, rfl, h1, h2, h3, ⟨h4.1, fun hn => ?_⟩, h5, fun k x hx => ?_⟩
 · obtain ⟨ad, e, hb, hk⟩ := h4.2 hn
   refine ⟨ad, e, Nat.lt_of_lt_of_le hb hc.size, fun j u hu => ?_⟩
   have h2 := h5 ad hn e
   rw [World.cell?_of_block (hc.block (ad.add j).block (by rw [zfa]; exact hb) (by rw [zfa]; exact h2))]
   exact hk j u hu
 · obtain ⟨A', c', e1, e2, e3⟩ := h6 k x hx
   exact ⟨A', c', e1, e2, e3.chg hc⟩
theorem RSN.below (h : RSN F w v cs) (hb : Below w.heap.size w w') : RSN F w' v cs := h.chg (Chg.of_below hb F)
theorem RSN.at (h : RSN F w v cs) {k : Nat} (hk : k < cs.length) : ∃ b o c A' c' x, v = .slice (some ⟨b, o, none⟩) cs.length c ∧ b < w.heap.size ∧ ¬ F b ∧ cs[k]? = some x ∧ x.length ≤ c' ∧ RN F w A' x.length x ∧ w.cell? ⟨b, o + k, none⟩ = some (.slice A' x.length c') := by
 obtain ⟨A, c, us, rfl, h1, h2, h3, h4, h5, h6⟩ := h
 obtain ⟨ad, e, hb, hc⟩ := h4.2 (by omega)
 subst e
 obtain ⟨A', c', e1, e2, e3⟩ := h6 k _ (List.getElem?_eq_getElem hk)
 have h0 : 0 < us.length := by omega
 have hsp := zg7 (hc 0 _ (List.getElem?_eq_getElem h0))
 have hsp' : ad = ⟨ad.block, ad.off, none⟩ := by simpa [Addr.add] using hsp
 refine ⟨ad.block, ad.off, c, A', c', _, by rw [← hsp'], hb, h5 ad (by omega) rfl, List.getElem?_eq_getElem hk, e2, e3, ?_⟩
 have := hc k _ e1
 rwa [hsp', Addr.add_lit] at this
theorem RSN.of_cr {base : Nat} (h : CR F e base w v cs) (hF : ∀ k, v.ownBlock = some k → ¬ F k) : RSN F w v cs := by
 obtain ⟨us, h1, h2⟩ := h
 obtain ⟨A, c, rfl, hc, hm, hr⟩ := zb9 h1
 exact ⟨A, c, us, rfl, hc, hm, by have := h1.1; omega, hr, fun ad hn he => hF _ (by rw [he]; rfl), h2⟩
theorem RSN.shape (h : RSN F w v cs) : ∃ A c, v = .slice A cs.length c := by
 obtain ⟨A, c, us, rfl, _⟩ := h
 exact ⟨A, c, rfl⟩
end
end
section
open Go
section
variable {P : Program} {ops : Array Oper} {md : Region.Mode} {D : World → Prop}
inductive Tw where
 | rest
 | one (b : Nat) (t : Tw)
 | two (b : Nat) (t : Tw) (b' : Nat) (t' : Tw)
 | first (i : Nat) (t : Tw)
 | load (i : Nat) (t : Tw)
def anyD (P : Program) (md : Region.Mode) (ops : Array Oper) (D : World → Prop) (T : List Nat) (Q : Exit → Act → World → Prop) : Nat → Array Bool → Act → World → Prop
 | 0, listed, a, w => D w ∧ Region.ready md ops listed = [] ∧ Q .normal a w
 | f + 1, listed, a, w => D w ∧ Region.ready md ops listed ≠ [] ∧ ∀ i ∈ Region.ready md ops listed,
  (T.contains i = true → wpOp P ops Q i (wpAny P md ops Q f (listed.setIfInBounds i true)) a w) ∧ (T.contains i = false → wpOp P ops noX i (anyD P md ops D T Q f (listed.setIfInBounds i true)) a w)
theorem zte {T : List Nat} {Q : Exit → Act → World → Prop} : ∀ {f : Nat} {listed : Array Bool} {a : Act} {w : World}, anyD P md ops D T Q f listed a w → D w
 | 0, _, _, _, h => h.1
 | _ + 1, _, _, _, h => h.1
theorem ztf {T : List Nat} {Q : Exit → Act → World → Prop} : ∀ (f : Nat) (listed : Array Bool) (a : Act) (w : World), anyD P md ops D T Q f listed a w → wpAny P md ops Q f listed a w := by
 intro f
 induction f with
 | zero => intro listed a w h; exact ⟨h.2.1, h.2.2⟩
 | succ f ih =>
  intro listed a w h
  refine ⟨fun h0 => absurd h0 h.2.1, fun i hi => ?_⟩
  cases hT : T.contains i with
  | true => exact (h.2.2 i hi).1 hT
  | false => exact zlq (wpOp_mono (fun a' w' h' => ih _ a' w' h') ((h.2.2 i hi).2 hT))
theorem zms {T : List Nat} {Q : Exit → Act → World → Prop} {i : Nat} {oi : Oper} {v : Value} (hi : ops[i]? = some oi) (hsel : Region.noSelect ops = true)
 (hwait : ∀ t, T.contains t = true → zc8 md ops ops.size t i = true) (hTi : T.contains i = false) :
 ∀ (f : Nat) (listed : Array Bool) (a : Act) (w : World), Closed md ops listed →
  (∀ j oj, ops[j]? = some oj → j ≠ i → listed.getD j true = false → (∀ e ∈ oj.after, Region.binds md e = true → e.on ≠ i) → oi.apart ops oj = true) →
  i ∈ Region.ready md ops listed → YieldsD P ops D oi v a → D w →
  anyD P md ops D T Q f (listed.setIfInBounds i true) (a.put oi.dst v) w → anyD P md ops D T Q (f + 1) listed a w := by
 have late : ∀ (listed : Array Bool), Closed md ops listed → listed.getD i true = false → ∀ j ∈ Region.ready md ops listed, T.contains j = false := by
  intro listed hcl hun j hj
  cases hT : T.contains j with
  | false => rfl
  | true =>
   obtain ⟨_, oj, hoj, hall⟩ := mem_ready.1 hj
   have := zlr hcl ops.size j i oj hoj hall (hwait j hT)
   rw [getD_both hun] at this
   cases this
 intro f
 induction f with
 | zero =>
  intro listed a w hcl _ hr hy hD H
  refine ⟨hD, fun h => (by rw [h] at hr; cases hr), fun j hj => ?_⟩
  have hTj := late listed hcl (mem_ready.1 hr).1 j hj
  refine ⟨fun h => (by rw [hTj] at h; cases h), fun _ => ?_⟩
  by_cases hji : j = i
  · subst hji
    exact hy.wpOp hi hD H
  · have := ready_mono hj hji
    rw [H.2.1] at this
    cases this
 | succ f ih =>
  intro listed a w hcl hfree hr hy hD H
  refine ⟨hD, fun h => (by rw [h] at hr; cases hr), fun j hj => ?_⟩
  have hTj := late listed hcl (mem_ready.1 hr).1 j hj
  refine ⟨fun h => (by rw [hTj] at h; cases h), fun _ => ?_⟩
  by_cases hji : j = i
  · subst hji
    exact hy.wpOp hi hD H
  obtain ⟨hjun, oj, hoj, hall⟩ := mem_ready.1 hj
  have hnot : ∀ e ∈ oj.after, Region.binds md e = true → e.on ≠ i := fun e he hb heq => by
   have h1 := hall e he hb
   rw [heq, getD_both (mem_ready.1 hr).1] at h1
   cases h1
  have h2 := zlp hoj (hfree j oj hoj hji hjun hnot) (fun cs b => Region.noSelect_spec hsel i oi cs b hi) (fun cs b => Region.noSelect_spec hsel j oj cs b hoj) hy ((H.2.2 j (ready_mono hj hji)).2 hTj)
  refine wpOp_mono (fun a' w' h3 => ?_) h2
  obtain ⟨h3, h4⟩ := h3
  refine ih (listed.setIfInBounds j true) a' w' (hcl.set hj) (fun k ok hk hki hun hno => hfree k ok hk hki ?_ hno) (ready_mono hr (Ne.symm hji)) h3 (zte h4) ?_
  · by_cases hjk : j = k
    · subst hjk
      exact hjun
    · rwa [getD_set_ne true hjk] at hun
  · rw [Array.setIfInBounds_comm _ _ hji]
    exact h4
theorem zmt {T : List Nat} {Q : Exit → Act → World → Prop} (hQ : ∀ c a w, Q (.panic c) a w → False) {i : Nat} {oi : Oper} {v : Value} (hi : ops[i]? = some oi) (hsel : Region.noSelect ops = true) (hTi : T.contains i = false) :
 ∀ (f : Nat) (listed : Array Bool) (a : Act) (w : World),
  (∀ j oj, ops[j]? = some oj → j ≠ i → listed.getD j true = false → (∀ e ∈ oj.after, Region.binds md e = true → e.on ≠ i) → oi.apart ops oj = true) →
  i ∈ Region.ready md ops listed → Yields P ops oi v a →
  anyD P md ops D T Q f (listed.setIfInBounds i true) (a.put oi.dst v) w → anyD P md ops D T Q (f + 1) listed a w := by
 intro f
 induction f with
 | zero =>
  intro listed a w _ hr hy H
  refine ⟨H.1, fun h => (by rw [h] at hr; cases hr), fun j hj => ?_⟩
  by_cases hji : j = i
  · subst hji
    exact ⟨fun h => (by rw [hTi] at h; cases h), fun _ => hy.wpOp hi H⟩
  · have := ready_mono hj hji
    rw [H.2.1] at this
    cases this
 | succ f ih =>
  intro listed a w hfree hr hy H
  refine ⟨H.1, fun h => (by rw [h] at hr; cases hr), fun j hj => ?_⟩
  by_cases hji : j = i
  · subst hji
    exact ⟨fun h => (by rw [hTi] at h; cases h), fun _ => hy.wpOp hi H⟩
  obtain ⟨hjun, oj, hoj, hall⟩ := mem_ready.1 hj
  have hnot : ∀ e ∈ oj.after, Region.binds md e = true → e.on ≠ i := fun e he hb heq => by
   have h1 := hall e he hb
   rw [heq, getD_both (mem_ready.1 hr).1] at h1
   cases h1
  have hap := hfree j oj hoj hji hjun hnot
  have hfree2 : ∀ k ok, ops[k]? = some ok → k ≠ i → (listed.setIfInBounds j true).getD k true = false → (∀ e ∈ ok.after, Region.binds md e = true → e.on ≠ i) → oi.apart ops ok = true := fun k ok hk hki hun hno => hfree k ok hk hki (by
   by_cases hjk : j = k
   · subst hjk
     exact hjun
   · rwa [getD_set_ne true hjk] at hun) hno
  have si := fun cs b => Region.noSelect_spec hsel i oi cs b hi
  have sj := fun cs b => Region.noSelect_spec hsel j oj cs b hoj
  refine ⟨fun hTj => ?_, fun hTj => ?_⟩
  · have h2 := wpOp_put hoj hap si sj (fun c a w h => (hQ c _ w h).elim) hy ((H.2.2 j (ready_mono hj hji)).1 hTj)
    refine wpOp_mono (fun a' w' h3 => ?_) h2
    refine wpAny_first hi (Region.noSelect_spec hsel) (fun c a w h => (hQ c _ w h).elim) _ _ a' w' hfree2 (ready_mono hr (Ne.symm hji)) h3.1 ?_
    rw [Array.setIfInBounds_comm _ _ hji]
    exact h3.2
  · have h2 := wpOp_put (Q := noX) hoj hap si sj (fun c a w h => h.elim) hy ((H.2.2 j (ready_mono hj hji)).2 hTj)
    refine wpOp_mono (fun a' w' h3 => ?_) h2
    refine ih (listed.setIfInBounds j true) a' w' hfree2 (ready_mono hr (Ne.symm hji)) h3.1 ?_
    rw [Array.setIfInBounds_comm _ _ hji]
    exact h3.2
def zmu (T R : List Nat) : Bool := match R with
 | [] => true
 | r :: _ => T.contains r
def zcz (md : Region.Mode) (ops : Array Oper) (T R : List Nat) : Nat → Tw → Array Bool → Bool
 | 0, .rest, listed => zd7 md ops R listed && zmu T R
 | m + 1, .one b t, listed => decide (Region.ready md ops listed = [b]) && !T.contains b && zcz md ops T R m t (listed.setIfInBounds b true)
 | m + 1, .two b t b' t', listed => decide (Region.ready md ops listed = [b, b']) && !T.contains b && !T.contains b' && zcz md ops T R m t (listed.setIfInBounds b true) && zcz md ops T R m t' (listed.setIfInBounds b' true)
 | m + 1, .first i t, listed => (Region.ready md ops listed).contains i && Region.free md ops listed i && !T.contains i && ((ops[i]?).map zck).getD false && zcz md ops T R m t (listed.setIfInBounds i true)
 | m + 1, .load i t, listed => (Region.ready md ops listed).contains i && Region.free md ops listed i && !T.contains i && T.all (fun t => zc8 md ops ops.size t i) && ((ops[i]?).map zck).getD false && zcz md ops T R m t (listed.setIfInBounds i true)
 | _, _, _ => false
def seqW (P : Program) (l : List Oper) (D : World → Prop) (Q : Exit → Act → World → Prop) (lr : List Oper) : Tw → Act → World → Prop
 | .rest, a, w => wpList P l.toArray Q lr a w
 | .one b t, a, w => match l[b]? with
  | some o => wpList P l.toArray (fun x a' w' => x = .normal ∧ D w' ∧ seqW P l D Q lr t a' w') [o] a w
  | none => False
 | .two b t b' t', a, w => (match l[b]? with
  | some o => wpList P l.toArray (fun x a' w' => x = .normal ∧ D w' ∧ seqW P l D Q lr t a' w') [o] a w
  | none => False) ∧ (match l[b']? with
  | some o => wpList P l.toArray (fun x a' w' => x = .normal ∧ D w' ∧ seqW P l D Q lr t' a' w') [o] a w
  | none => False)
 | .first i t, a, w => match l[i]? with
  | some o => wpQuiet P l.toArray (fun _ => True) (fun a' => seqW P l D Q lr t a' w) [o] a
  | none => False
 | .load i t, a, w => match l[i]? with
  | some o => wpQuiet P l.toArray D (fun a' => seqW P l D Q lr t a' w) [o] a
  | none => False
theorem ztg {l : List Oper} {i : Nat} {o : Oper} {a : Act} {K : Act → Prop} (hi : l[i]? = some o) (hp : zck o = true) (h : wpQuiet P l.toArray (fun _ => True) K [o] a) : ∃ v, Yields P l.toArray o v a ∧ K (a.put o.dst v) := by
 have hi' : l.toArray[i]? = some o := by simpa using hi
 have hq : qOp P l.toArray (fun _ => True) i (wpQuiet P l.toArray (fun _ => True) K []) a := by unfold qOp; simp only [hi']; exact h
 obtain ⟨v, hy, hK⟩ := yieldsIn_of_qOp hi' hq
 refine ⟨v, ?_, hK⟩
 rcases hy with ⟨hw, h1⟩ | ⟨hw, rfl⟩
 · exact .inl ⟨hw, fun w => YieldsD.of_quiet hp h1 w trivial⟩
 · exact .inr ⟨hw, rfl⟩
theorem zth {l : List Oper} {T R : List Nat} {lr : List Oper} {Q : Exit → Act → World → Prop} (hsel : Region.noSelect l.toArray = true) (hQ : ∀ c a w, Q (.panic c) a w → False) (hlr : lr.map some = R.map (l.toArray[·]?)) :
 ∀ (m : Nat) (t : Tw) (listed : Array Bool) (a : Act) (w : World), Closed md l.toArray listed → zcz md l.toArray T R m t listed = true → D w → seqW P l D Q lr t a w → anyD P md l.toArray D T Q (m + R.length) listed a w := by
 intro m
 induction m with
 | zero =>
  intro t listed a w hc hB hD h
  cases t with
  | rest =>
   simp only [zcz, Bool.and_eq_true] at hB
   have h2 := zls R lr listed a w hlr hB.1 h
   rw [Nat.zero_add]
   cases R with
   | nil => exact ⟨hD, h2.1, h2.2⟩
   | cons r rs =>
    have hr := hB.1
    simp only [zd7, Bool.and_eq_true, decide_eq_true_eq] at hr
    refine ⟨hD, by rw [hr.1]; simp, fun i hi => ⟨fun _ => h2.2 i hi, fun hT => ?_⟩⟩
    rw [hr.1] at hi
    obtain rfl : i = r := by simpa using hi
    have := hB.2
    simp only [zmu] at this
    rw [this] at hT
    cases hT
  | one b t => simp [zcz] at hB
  | two b t b' t' => simp [zcz] at hB
  | first i t => simp [zcz] at hB
  | load i t => simp [zcz] at hB
 | succ m ih =>
  intro t listed a w hc hB hD h
  rw [show m + 1 + R.length = (m + R.length) + 1 by omega]
  cases t with
  | rest => simp [zcz] at hB
  | one b t =>
   simp only [zcz, Bool.and_eq_true, decide_eq_true_eq, Bool.not_eq_true'] at hB
   refine ⟨hD, by rw [hB.1.1]; simp, fun i hi => ?_⟩
   have hi0 := hi
   rw [hB.1.1] at hi
   obtain rfl : i = b := by simpa using hi
   exact ⟨fun hT => (by rw [hB.1.2] at hT; cases hT), fun _ => wpOp_mono (fun a' w' h' => ih t _ a' w' (hc.set hi0) hB.2 h'.1 h'.2) (zfx (K := fun a' w' => D w' ∧ seqW P l D Q lr t a' w') h)⟩
  | two b t b' t' =>
   simp only [zcz, Bool.and_eq_true, decide_eq_true_eq, Bool.not_eq_true'] at hB
   obtain ⟨⟨⟨⟨g1, g2⟩, g3⟩, g4⟩, g5⟩ := hB
   refine ⟨hD, by rw [g1]; simp, fun i hi => ?_⟩
   have hi0 := hi
   rw [g1] at hi
   have hi' : i = b ∨ i = b' := by simpa using hi
   rcases hi' with rfl | rfl
   · exact ⟨fun hT => (by rw [g2] at hT; cases hT), fun _ => wpOp_mono (fun a' w' h' => ih t _ a' w' (hc.set hi0) g4 h'.1 h'.2) (zfx (K := fun a' w' => D w' ∧ seqW P l D Q lr t a' w') h.1)⟩
   · exact ⟨fun hT => (by rw [g3] at hT; cases hT), fun _ => wpOp_mono (fun a' w' h' => ih t' _ a' w' (hc.set hi0) g5 h'.1 h'.2) (zfx (K := fun a' w' => D w' ∧ seqW P l D Q lr t' a' w') h.2)⟩
  | first i t =>
   simp only [zcz, Bool.and_eq_true, Bool.not_eq_true'] at hB
   obtain ⟨⟨⟨⟨g1, g2⟩, g3⟩, g4⟩, g5⟩ := hB
   cases ho : l[i]? with
   | none => simp [ho] at g4
   | some o =>
    have ho' : l.toArray[i]? = some o := by simpa using ho
    simp only [ho', Option.map_some, Option.getD_some] at g4
    simp only [seqW, ho] at h
    obtain ⟨v, hy, hK⟩ := ztg ho g4 h
    exact zmt hQ ho' hsel g3 _ listed a w (Region.free_spec ho' g2) (by simpa using g1) hy (ih t _ _ w (hc.set (by simpa using g1)) g5 hD hK)
  | load i t =>
   simp only [zcz, Bool.and_eq_true, Bool.not_eq_true'] at hB
   obtain ⟨⟨⟨⟨⟨g1, g2⟩, g3⟩, g6⟩, g4⟩, g5⟩ := hB
   cases ho : l[i]? with
   | none => simp [ho] at g4
   | some o =>
    have ho' : l.toArray[i]? = some o := by simpa using ho
    simp only [ho', Option.map_some, Option.getD_some] at g4
    simp only [seqW, ho] at h
    have hq : qOp P l.toArray D i (wpQuiet P l.toArray D (fun a' => seqW P l D Q lr t a' w) []) a := by unfold qOp; simp only [ho']; exact h
    obtain ⟨v, hy, hK⟩ := yieldsIn_of_qOp ho' hq
    have hy2 : YieldsD P l.toArray D o v a := by
     rcases hy with ⟨hw, h1⟩ | ⟨hw, rfl⟩
     · exact .inl ⟨hw, YieldsD.of_quiet g4 h1⟩
     · exact .inr ⟨hw, rfl⟩
    have g1' : i ∈ Region.ready md l.toArray listed := by simpa using g1
    exact zms ho' hsel (fun t ht => List.all_eq_true.1 g6 t (by simpa using ht)) g3 _ listed a w hc (Region.free_spec ho' g2) g1' hy2 hD (ih t _ _ w (hc.set g1') g5 hD hK)
def zhs (md : Region.Mode) (ops : Array Oper) (T R : List Nat) (m : Nat) (t : Tw) : List Nat → Array Bool → Bool
 | [], listed => zcz md ops T R m t listed
 | i :: is, listed => (Region.ready md ops listed).contains i && Region.free md ops listed i && zhs md ops T R m t is (listed.setIfInBounds i true)
theorem zti {l : List Oper} {T R : List Nat} {lr : List Oper} {m : Nat} {t : Tw} {Q : Exit → Act → World → Prop} (hsel : Region.noSelect l.toArray = true) (hQ : ∀ c a w, Q (.panic c) a w → False) (hlr : lr.map some = R.map (l.toArray[·]?)) :
 ∀ (F : List Nat) (k : List Oper) (listed : Array Bool) (a : Act) (w : World), k.map some = F.map (l.toArray[·]?) → k.all zck = true → Closed md l.toArray listed → zhs md l.toArray T R m t F listed = true →
 (∀ i ∈ F, T.contains i = false ∧ ∀ t, T.contains t = true → zc8 md l.toArray l.toArray.size t i = true) → D w → wpQuiet P l.toArray D (fun a' => seqW P l D Q lr t a' w) k a →
 anyD P md l.toArray D T Q (F.length + (m + R.length)) listed a w := by
 intro F
 induction F with
 | nil =>
  intro k listed a w hk _ hc hB _ hD h
  obtain rfl : k = [] := by cases k with | nil => rfl | cons x xs => simp at hk
  simp only [List.length_nil, Nat.zero_add]
  exact zth hsel hQ hlr m t listed a w hc hB hD h
 | cons i is ih =>
  intro k listed a w hk hp hc hB hW hD h
  cases k with
  | nil => simp at hk
  | cons o k =>
   simp only [List.map_cons, List.cons.injEq] at hk
   simp only [List.all_cons, Bool.and_eq_true] at hp
   simp only [zhs, Bool.and_eq_true] at hB
   obtain ⟨⟨hr, hf⟩, hB2⟩ := hB
   have hr' : i ∈ Region.ready md l.toArray listed := by simpa using hr
   have hq : qOp P l.toArray D i (wpQuiet P l.toArray D (fun a' => seqW P l D Q lr t a' w) k) a := by unfold qOp; simp only [← hk.1]; exact h
   obtain ⟨v, hy, hK⟩ := yieldsIn_of_qOp hk.1.symm hq
   have hy2 : YieldsD P l.toArray D o v a := by
    rcases hy with ⟨hw, h1⟩ | ⟨hw, rfl⟩
    · exact .inl ⟨hw, YieldsD.of_quiet hp.1 h1⟩
    · exact .inr ⟨hw, rfl⟩
   obtain ⟨hTi, hwait⟩ := hW i (by simp)
   rw [List.length_cons, show is.length + 1 + (m + R.length) = (is.length + (m + R.length)) + 1 by omega]
   exact zms hk.1.symm hsel hwait hTi _ listed a w hc (Region.free_spec hk.1.symm hf) hr' hy2 hD (ih k _ _ w hk.2 hp.2 (hc.set hr') hB2 (fun j hj => hW j (by simp [hj])) hD hK)
def zht (md : Region.Mode) (ops : Array Oper) (F : List Nat) (m : Nat) (t : Tw) (T R : List Nat) : List Nat → Array Bool → Bool
 | [], listed => zhs md ops T R m t F listed
 | i :: is, listed => (Region.ready md ops listed).contains i && Region.free md ops listed i && !T.contains i && zht md ops F m t T R is (listed.setIfInBounds i true)
def zjh (md : Region.Mode) (ops : Array Oper) (A F : List Nat) (m : Nat) (t : Tw) (T R : List Nat) : Bool :=
 Region.noSelect ops && decide (A.length + (F.length + (m + R.length)) = ops.size) && T.all (fun t => F.all fun i => zc8 md ops ops.size t i) && F.all (fun i => !T.contains i) &&
  zht md ops F m t T R A (Array.replicate ops.size false)
theorem ztj {l : List Oper} {T R : List Nat} {lr : List Oper} {m : Nat} {t : Tw} {Q : Exit → Act → World → Prop} (hsel : Region.noSelect l.toArray = true) (hQ : ∀ c a w, Q (.panic c) a w → False) (hlr : lr.map some = R.map (l.toArray[·]?)) {F : List Nat} {lf : List Oper} (hlf : lf.map some = F.map (l.toArray[·]?)) (hpf : lf.all zck = true)
 (hW : ∀ i ∈ F, T.contains i = false ∧ ∀ t, T.contains t = true → zc8 md l.toArray l.toArray.size t i = true) :
 ∀ (A : List Nat) (la : List Oper) (listed : Array Bool) (a : Act) (w : World), la.map some = A.map (l.toArray[·]?) → la.all zck = true → Closed md l.toArray listed → zht md l.toArray F m t T R A listed = true →
 D w → wpQuiet P l.toArray (fun _ => True) (fun a' => wpQuiet P l.toArray D (fun a' => seqW P l D Q lr t a' w) lf a') la a → anyD P md l.toArray D T Q (A.length + (F.length + (m + R.length))) listed a w := by
 intro A
 induction A with
 | nil =>
  intro la listed a w hla _ hc hB hD h
  obtain rfl : la = [] := by cases la with | nil => rfl | cons x xs => simp at hla
  rw [List.length_nil, Nat.zero_add]
  exact zti hsel hQ hlr F lf listed a w hlf hpf hc hB hW hD h
 | cons i is ih =>
  intro la listed a w hla hp hc hB hD h
  cases la with
  | nil => simp at hla
  | cons o la =>
   simp only [List.map_cons, List.cons.injEq] at hla
   simp only [List.all_cons, Bool.and_eq_true] at hp
   simp only [zht, Bool.and_eq_true, Bool.not_eq_true'] at hB
   obtain ⟨⟨⟨hr, hf⟩, hTi⟩, hB2⟩ := hB
   have hr' : i ∈ Region.ready md l.toArray listed := by simpa using hr
   have hq : qOp P l.toArray (fun _ => True) i (wpQuiet P l.toArray (fun _ => True) (fun a' => wpQuiet P l.toArray D (fun a' => seqW P l D Q lr t a' w) lf a') la) a := by unfold qOp; simp only [← hla.1]; exact h
   obtain ⟨v, hy, hK⟩ := yieldsIn_of_qOp hla.1.symm hq
   rw [List.length_cons, show is.length + 1 + (F.length + (m + R.length)) = (is.length + (F.length + (m + R.length))) + 1 by omega]
   have hy2 : Yields P l.toArray o v a := by
    rcases hy with ⟨hw, h1⟩ | ⟨hw, rfl⟩
    · exact .inl ⟨hw, fun w => YieldsD.of_quiet hp.1 h1 w trivial⟩
    · exact .inr ⟨hw, rfl⟩
   exact zmt hQ hla.1.symm hsel hTi _ listed a w (Region.free_spec hla.1.symm hf) hr' hy2 (ih la _ _ w hla.2 hp.2 (hc.set hr') hB2 hD hK)
theorem ztk {id : Nat} {Q : Exit → Act → World → Prop} {a : Act} {w : World} {l : List Oper} (A F : List Nat) (m : Nat) (t : Tw) (T R : List Nat) (hm : P.follows .mixedOrders = true)
 (hB : (zjh .any l.toArray A F m t T R && (A ++ F ++ R).all (fun i => decide (i < l.length)) && (zaj l A).all zck && (zaj l F).all zck) = true) (hD : D { w with drawn := w.drawn + 1 })
 (h : wpQuiet P l.toArray (fun _ => True) (fun a' => wpQuiet P l.toArray D (fun a' => seqW P l D (fun x a w => x = .normal ∧ Q .normal a w) (zaj l R) t a' { w with drawn := w.drawn + 1 }) (zaj l F) a') (zaj l A) a) :
 (Code.region id l.toArray true).wp P Q a w := by
 simp only [Bool.and_eq_true, List.all_append] at hB
 obtain ⟨⟨⟨hP, ⟨hA, hF⟩, hBB⟩, hpA⟩, hpF⟩ := hB
 simp only [zjh, Bool.and_eq_true, decide_eq_true_eq] at hP
 obtain ⟨⟨⟨⟨hsel, hsz⟩, hre⟩, hFn⟩, hgo⟩ := hP
 refine wp_region_any hm ?_
 have hc : Closed .any l.toArray (Array.replicate l.toArray.size false) := fun j oj _ hl => (by rw [getD_replicate_false] at hl; cases hl)
 have h2 := ztj (P := P) (md := .any) (D := D) (T := T) (Q := fun x a w => x = .normal ∧ Q .normal a w) hsel (fun c a w h => by cases h.1) (R := R) (m := m) (F := F) (zfy hBB) (zfy hF) hpF
  (fun i hi => ⟨by have := List.all_eq_true.1 hFn i hi; rw [Bool.not_eq_true'] at this; exact this, fun t ht => List.all_eq_true.1 (List.all_eq_true.1 hre t (by simpa using ht)) i hi⟩)
  A (zaj l A) _ a _ (zfy hA) hpA hc hgo hD h
 rw [hsz] at h2
 exact zlt (fun x a w hx => by obtain ⟨rfl, h⟩ := hx; exact h) _ _ _ _ (ztf _ _ _ _ h2)
theorem zce {id : Nat} {Q : Exit → Act → World → Prop} {a : Act} {w : World} {l : List Oper} (A F : List Nat) (m : Nat) (t : Tw) (T R : List Nat) (hm : P.follows .mixedOrders = true)
 (hB : (zjh .any l.toArray A F m t T R && (A ++ F ++ R).all (fun i => decide (i < l.length)) && (zaj l A).all zck && (zaj l F).all zck) = true)
 (h : wpQuiet P l.toArray (fun _ => True) (fun a' => wpQuiet P l.toArray (fun w' => ∃ p : Regrown, w' = Go.Sort.grow (redrawn w p.d) p.os) (fun a' => seqW P l (fun w' => ∃ p : Regrown, w' = Go.Sort.grow (redrawn w p.d) p.os) (fun x a w => x = .normal ∧ Q .normal a w) (zaj l R) t a' w.drew) (zaj l F) a') (zaj l A) a) :
 (Code.region id l.toArray true).wp P Q a w :=
 ztk (D := fun w' => ∃ p : Regrown, w' = Go.Sort.grow (redrawn w p.d) p.os) A F m t T R hm hB ⟨⟨w.drawn + 1, #[]⟩, by rw [Go.Sort.grow_empty]; rfl⟩ h
variable {l : List Oper} {Q : Exit → Act → World → Prop} {lr : List Oper} {t t' : Tw} {b b' : Nat} {o o' : Oper} {a : Act} {w : World}
theorem zbe (h : l[b]? = some o) (k : wpList P l.toArray (fun x a' w' => x = .normal ∧ D w' ∧ seqW P l D Q lr t a' w') [o] a w) : seqW P l D Q lr (.one b t) a w := by
 unfold seqW
 rw [h]
 exact k
theorem zmv (h : l[b]? = some o) (h' : l[b']? = some o') (k : wpList P l.toArray (fun x a' w' => x = .normal ∧ D w' ∧ seqW P l D Q lr t a' w') [o] a w)
 (k' : wpList P l.toArray (fun x a' w' => x = .normal ∧ D w' ∧ seqW P l D Q lr t' a' w') [o'] a w) : seqW P l D Q lr (.two b t b' t') a w := by
 unfold seqW
 rw [h, h']
 exact ⟨k, k'⟩
theorem zcg (h : l[b]? = some o) (k : wpQuiet P l.toArray (fun _ => True) (fun a' => seqW P l D Q lr t a' w) [o] a) : seqW P l D Q lr (.first b t) a w := by
 unfold seqW
 rw [h]
 exact k
theorem zmw (h : l[b]? = some o) (k : wpQuiet P l.toArray D (fun a' => seqW P l D Q lr t a' w) [o] a) : seqW P l D Q lr (.load b t) a w := by
 unfold seqW
 rw [h]
 exact k
theorem zb7 (k : wpList P l.toArray Q lr a w) : seqW P l D Q lr .rest a w := k
end
end
section
open Go.RowKit Go.Sort
theorem zdm (w : World) (z0 z1 z2 z3 : Value) (t : TypeId) : ∃ U, U = w.alloc (.cells #[z0, z1, z2, z3] t) ∧ Below w.heap.size w U ∧ U.heap.size = w.heap.size + 1 ∧ U.cell? ⟨w.heap.size, 0, none⟩ = some z0 ∧ U.cell? ⟨w.heap.size, 1, none⟩ = some z1 ∧ U.cell? ⟨w.heap.size, 2, none⟩ = some z2 ∧ U.cell? ⟨w.heap.size, 3, none⟩ = some z3 ∧ (∀ j, U.frozen? ⟨w.heap.size, j, none⟩ = false) :=
 ⟨_, rfl, (Below.refl _ _).alloc (Nat.le_refl _) _, by simp, by simp [go_sem], by simp [go_sem], by simp [go_sem], by simp [go_sem], fun j => by simp [go_sem]⟩
theorem zbw (w : World) (z0 z1 z2 z3 z4 z5 : Value) (t : TypeId) : ∃ U, U = w.alloc (.cells #[z0, z1, z2, z3, z4, z5] t) ∧ Below w.heap.size w U ∧ U.heap.size = w.heap.size + 1 ∧ U.cell? ⟨w.heap.size, 0, none⟩ = some z0 ∧ U.cell? ⟨w.heap.size, 1, none⟩ = some z1 ∧ U.cell? ⟨w.heap.size, 2, none⟩ = some z2 ∧ U.cell? ⟨w.heap.size, 3, none⟩ = some z3 ∧ U.cell? ⟨w.heap.size, 4, none⟩ = some z4 ∧ U.cell? ⟨w.heap.size, 5, none⟩ = some z5 ∧ (∀ j, U.frozen? ⟨w.heap.size, j, none⟩ = false) :=
 ⟨_, rfl, (Below.refl _ _).alloc (Nat.le_refl _) _, by simp, by simp [go_sem], by simp [go_sem], by simp [go_sem], by simp [go_sem], by simp [go_sem], by simp [go_sem], fun j => by simp [go_sem]⟩
theorem zeb (w : World) (z0 : Value) (t : TypeId) : ∃ U, U = w.alloc (.cells #[z0] t) ∧ Below w.heap.size w U ∧ U.heap.size = w.heap.size + 1 ∧ U.cell? ⟨w.heap.size, 0, none⟩ = some z0 ∧ (∀ j, U.frozen? ⟨w.heap.size, j, none⟩ = false) :=
 ⟨_, rfl, (Below.refl _ _).alloc (Nat.le_refl _) _, by simp, by simp [go_sem], fun j => by simp [go_sem]⟩
theorem zji (w : World) (z0 z1 z2 : Value) (t : TypeId) : ∃ U, U = w.alloc (.cells #[z0, z1, z2] t) ∧ Below w.heap.size w U ∧ U.heap.size = w.heap.size + 1 ∧ U.cell? ⟨w.heap.size, 0, none⟩ = some z0 ∧ U.cell? ⟨w.heap.size, 1, none⟩ = some z1 ∧ U.cell? ⟨w.heap.size, 2, none⟩ = some z2 ∧ (∀ j, U.frozen? ⟨w.heap.size, j, none⟩ = false) :=
 ⟨_, rfl, (Below.refl _ _).alloc (Nat.le_refl _) _, by simp, by simp [go_sem], by simp [go_sem], by simp [go_sem], fun j => by simp [go_sem]⟩
theorem box6 {U : World} {g : Nat} {z0 z1 z2 z3 z4 z5 : Value} (c0 : U.cell? ⟨g, 0, none⟩ = some z0) (c1 : U.cell? ⟨g, 1, none⟩ = some z1) (c2 : U.cell? ⟨g, 2, none⟩ = some z2) (c3 : U.cell? ⟨g, 3, none⟩ = some z3) (c4 : U.cell? ⟨g, 4, none⟩ = some z4) (c5 : U.cell? ⟨g, 5, none⟩ = some z5) (f : ∀ j, U.frozen? ⟨g, j, none⟩ = false) (v0 v1 v2 v3 v4 v5 : Value) :
 ∃ U', U' = (((((U.setCell ⟨g, 0, none⟩ v0).setCell ⟨g, 1, none⟩ v1).setCell ⟨g, 2, none⟩ v2).setCell ⟨g, 3, none⟩ v3).setCell ⟨g, 4, none⟩ v4).setCell ⟨g, 5, none⟩ v5 ∧ U'.cell? ⟨g, 0, none⟩ = some v0 ∧ U'.cell? ⟨g, 1, none⟩ = some v1 ∧ U'.cell? ⟨g, 2, none⟩ = some v2 ∧ U'.cell? ⟨g, 3, none⟩ = some v3 ∧ U'.cell? ⟨g, 4, none⟩ = some v4 ∧ U'.cell? ⟨g, 5, none⟩ = some v5 ∧ (∀ j, U'.frozen? ⟨g, j, none⟩ = false) ∧ Chg (fun b => b = g) U U' ∧ U'.heap.size = U.heap.size := by
 refine ⟨_, rfl, by simp [go_sem, c0], by simp [go_sem, c1], by simp [go_sem, c2], by simp [go_sem, c3], by simp [go_sem, c4], by simp [go_sem, c5], fun j => by simp [go_sem, f j], (((((Chg.set (F := fun b => b = g) _ g 0 v0 rfl).trans (Chg.set _ g 1 v1 rfl)).trans (Chg.set _ g 2 v2 rfl)).trans (Chg.set _ g 3 v3 rfl)).trans (Chg.set _ g 4 v4 rfl)).trans (Chg.set _ g 5 v5 rfl), by simp⟩
theorem zmx (xs : List zag) : ∀ u ∈ xs.flatMap cl, u.oneCell' = true := by
 intro u hu
 obtain ⟨x, -, hx⟩ := List.mem_flatMap.1 hu
 simp only [cl, List.mem_cons, List.mem_nil_iff, or_false] at hx
 rcases hx with h | h | h | h | h <;> rw [h] <;> rfl
theorem zmy (xs : List (Int × Int)) : ∀ u ∈ xs.flatMap sd, u.oneCell' = true := by
 intro u hu
 obtain ⟨x, -, hx⟩ := List.mem_flatMap.1 hu
 simp only [sd, List.mem_cons, List.mem_nil_iff, or_false] at hx
 rcases hx with h | h <;> rw [h] <;> rfl
theorem zhu {w : World} {B : Nat} {A : Option Addr} {n c : Nat} {ms : List zae} (hr : RS tSt w B (.slice A n c) ms) (hb : hM.sz ms ≤ 100000000) {k : Nat} (hk : k < n) :
 ∃ (bb o : Nat) (s : ByteArray) (l : Int) (A1 : Option Addr) (n1 c1 : Nat) (us : List (Int × Int)), A = some ⟨bb, o, none⟩ ∧ bb < B ∧ Hid (ms[k]? = some (s, l, us)) ∧ w.cell? ⟨bb, o + k * 3, none⟩ = some (.string s) ∧ w.cell? ⟨bb, o + k * 3 + 1, none⟩ = some (.int .i64 l) ∧ w.cell? ⟨bb, o + k * 3 + 2, none⟩ = some (.slice A1 n1 c1) ∧ s.size ≤ maxLen ∧ RA sd 2 w B A1 n1 us ∧ n1 ≤ 100000000 := by
 obtain rfl : ms.length = n := hr.cap.1
 have hX := List.getElem?_eq_getElem hk
 obtain ⟨bb, o, c1, cs, hv, hab, -, hE, hc⟩ := hr.atX hX
 simp only [Value.slice.injEq] at hv
 obtain ⟨rfl, -, rfl⟩ := hv
 have hU := hSt.szL_at hX
 have hU2 : ms.length + hSt.szL ms ≤ 100000000 := hb
 generalize ms[k] = x at hX hE hU
 obtain ⟨s, l, us⟩ := x
 obtain ⟨A1, n1, c1, rfl, hs, hS⟩ := st_R.1 hE
 have hra : RA sd 2 w B A1 n1 us := (sl_R.1 hS).flat.1
 have hl : us.length = n1 := hra.len
 have hz : us.length ≤ hSt.sz (s, l, us) := by
  have e : hSt.sz (s, l, us) = s.size + (0 + (us.length + hSd.szL us)) := rfl
  omega
 have e0 : w.cell? ⟨bb, o + k * 3, none⟩ = some (.string s) := hc 0 _ rfl
 exact ⟨bb, o, s, l, A1, n1, c1, us, rfl, hab, Lib.hid hX, e0, hc 1 _ rfl, hc 2 _ rfl, hs, hra, by omega⟩
end
section
open Go.RowKit Go.Sort
theorem zmz {x : Node} (h : x.1 = 1) (fr vs : List Int) : za8 x fr vs = [M.i_ fr x.2.1.toNat] := by rw [za8, if_pos h]
theorem zm0 {x : Node} (h : x.1 ≠ 1) (fr vs : List Int) : za8 x fr vs = zcl x.2.2.2 vs := by rw [za8, if_neg h]; rfl
theorem zm1 (b : Nat) (Av : Option Addr) (nv cv : Nat) (vs : List Int) (a0 a1 a2 : Int) (A : Option Addr) (n c : Nat) (xs : List Int) (Af : Option Addr) (nf cf : Nat) (fr : List Int) (w : World)
 (p5 : w.cell? ⟨b, 5, none⟩ = some (.slice Av nv cv)) (hv : RI w w.heap.size Av nv vs) (hx : RI w w.heap.size A n xs) (hf : RI w w.heap.size Af nf fr) (hn : n ≤ 1000000000) (hnv : nv ≤ 1000000000) (hnf : nf ≤ 1000000000)
 (h1 : a0 = 1 → 0 ≤ a1 ∧ a1 < nf) (hr : Hid (∀ f ∈ xs, 0 ≤ f ∧ f < nv)) :
 Calls Tryz.prog 197 #[.pointer (some ⟨b, 0, none⟩), .agg #[.int .i64 a0, .int .i64 a1, .int .i64 a2, .slice A n c], .slice Af nf cf] w (Ret1 2 w (za8 (a0, a1, a2, xs) fr vs)) := by
 have lb : b < w.heap.size := World.block_lt_of_cell? w _ p5
 obtain ⟨W, hW, B0, sW, q0, q1, q2, q3, qf⟩ := zdm w (.int .i64 a0) (.int .i64 a1) (.int .i64 a2) (.slice A n c) 171
 have p5' : W.cell? ⟨b, 5, none⟩ = some (.slice Av nv cv) := by rw [B0.cell (by show b < _; omega)]; exact p5
 have lW : w.heap.size < W.heap.size := by omega
 have HW := Lib.hid hW
 clear hW sW
 by_cases h : a0 = 1
 · have h1' := h1 h
   subst h
   obtain ⟨j, rfl⟩ : ∃ j : Nat, a1 = (j : Int) := ⟨a1.toNat, by omega⟩
   obtain ⟨bf, of, rfl, hbf, hcf⟩ := zam hf (by omega)
   obtain ⟨_, y, e, _, Y, _⟩ := hf.at (k := j) (by omega)
   have cy : w.cell? ⟨bf, of + j, none⟩ = some (.int .i64 y) := hcf j y Y.out
   have cy' : W.cell? ⟨bf, of + j, none⟩ = some (.int .i64 y) := by rw [B0.cell (by show bf < _; omega)]; exact cy
   have hj0 : (0 : Int) ≤ (j : Int) := by omega
   have hjn : (j : Int) < (nf : Int) := by omega
   have E := Lib.hid (show za8 (1, (j : Int), a2, xs) fr vs = [y] by rw [zmz rfl]; show [M.i_ fr (j : Int).toNat] = _; rw [Int.toNat_natCast, zgv Y.out])
   have O1 := zdt W y
   have B1 : Below w.heap.size w (W.alloc (.cells #[.int .i64 y] 2)) := B0.alloc B0.size _
   rw [HW.out] at O1 B1
   have hz : (w.alloc (.cells #[.int .i64 1, .int .i64 (j : Int), .int .i64 a2, .slice A n c] 171)).heap.size = w.heap.size + 1 := by simp
   rw [hz] at O1
   clear hz
   clear h1 h1' hcf e hr hv hx hf
   go_enter Tryz.func197, Tryz.ntmps197
   go_wp2_with fail
   go_ret
   rw [E.out]
   exact ⟨_, rfl, O1.base (B' := w.heap.size) (by simp), B1⟩
 · have E := Lib.hid (show za8 (a0, a1, a2, xs) fr vs = zcl xs vs from zm0 h fr vs)
   have hne : (a0 == 1) = false := by simpa using h
   have pq := cell_regrown p5'
   have pq3 := cell_regrown q3
   have D1 : Below W.heap.size W W.drew := zac (Below.refl _ _) 1
   have hd0 : W.drew.heap.size = W.heap.size := rfl
   have B1 : Below w.heap.size w W.drew := zac B0 1
   clear h1
   go_enter Tryz.func197, Tryz.ntmps197
   go_wp2_with fail
   rw [← HW.out]
   (refine zcq [0, 2, 3, 4] [1, 5] 1 (.one 6 .rest) [7] (by kernel_rfl) (by kernel_rfl) ?_; simp only [zaj]; simp only [List.filterMap, List.getElem?_cons_succ, List.getElem?_cons_zero]; (repeat (go_big_quiet_step (fail))); refine wpQuiet_nil ?_; (repeat (go_big_quiet_step (fail))); refine wpQuiet_nil ?_)
   refine zao rfl ?_
   go_wp2_with fail
   refine (zmg _ _ _ _ _ _ _ _ _ (hx.later B1) (hv.later B1) hn hnv hr).mono ?_
   rintro e w2 ⟨v4, rfl, own1, bel1⟩
   have B2 := zaa D1 bel1
   go_wp2_with fail
   refine ⟨regrown_of_below B2, zbi ?_⟩
   go_wp2_with fail
   refine ⟨rfl, v4, by simp [results, Tryz.results197, go_sem], ?_⟩
   rw [E.out]
   exact ⟨_, rfl, own1.base (by have := B1.size; omega), zaa B1 bel1⟩
theorem ztl (b : Nat) (Av : Option Addr) (nv cv : Nat) (vs : List Int) (A3 : Option Addr) (n3 c3 : Nat) (outs : List Int) (w : World)
 (p3 : w.cell? ⟨b, 3, none⟩ = some (.slice A3 n3 c3)) (p5 : w.cell? ⟨b, 5, none⟩ = some (.slice Av nv cv)) (hv : RI w w.heap.size Av nv vs) (hx : RI w w.heap.size A3 n3 outs) (hn : n3 ≤ 1000000000) (hnv : nv ≤ 1000000000) (hr : Hid (∀ f ∈ outs, 0 ≤ f ∧ f < nv)) :
 Calls Tryz.prog 177 #[.pointer (some ⟨b, 0, none⟩)] w (Ret1 2 w (zcl outs vs)) := by
 have pq := cell_regrown p5
 have pq3 := cell_regrown p3
 have D1 : Below w.heap.size w w.drew := zac (Below.refl _ _) 1
 have hd0 : w.drew.heap.size = w.heap.size := rfl
 go_enter Tryz.func177, Tryz.ntmps177
 go_wp2_with fail
 (refine zcq [0, 1, 2, 3, 5, 6, 7] [4, 8] 1 (.one 9 .rest) [10] (by kernel_rfl) (by kernel_rfl) ?_; simp only [zaj]; simp only [List.filterMap, List.getElem?_cons_succ, List.getElem?_cons_zero]; (repeat (go_big_quiet_step (fail))); refine wpQuiet_nil ?_; (repeat (go_big_quiet_step (fail))); refine wpQuiet_nil ?_)
 refine zao rfl ?_
 go_wp2_with fail
 refine (zmg _ _ _ _ _ _ _ _ _ (hx.later D1) (hv.later D1) hn hnv hr).mono ?_
 rintro e w2 ⟨v4, rfl, own1, bel1⟩
 have B2 := zaa D1 bel1
 go_wp2_with fail
 refine ⟨regrown_of_below B2, zbi ?_⟩
 go_wp2_with fail
 refine ⟨rfl, v4, by simp [results, Tryz.results177, go_sem], ?_⟩
 exact ⟨_, rfl, own1.base (by omega), zaa D1 bel1⟩
end
section
open Go.RowKit Go.Sort
def F2 (bv bc : Nat) : Nat → Prop := fun k => k = bv ∨ k = bc
structure Pl (b bv bc L : Nat) (pi : Int) (A1 : Option Addr) (n1 c1 : Nat) (A2 : Option Addr) (n2 c2 : Nat) (A3 : Option Addr) (n3 c3 : Nat) (Ao : Option Addr) (no co cv cc : Nat) (ns : List Node) (tb : List (List Int)) (outs O : List Int) (w : World) : Prop where
 p0 : w.cell? ⟨b, 0, none⟩ = some (.int .i64 pi)
 p1 : w.cell? ⟨b, 1, none⟩ = some (.slice A1 n1 c1)
 p2 : w.cell? ⟨b, 2, none⟩ = some (.slice A2 n2 c2)
 p3 : w.cell? ⟨b, 3, none⟩ = some (.slice A3 n3 c3)
 p4 : w.cell? ⟨b, 4, none⟩ = some (.slice Ao no co)
 p5 : w.cell? ⟨b, 5, none⟩ = some (.slice (some ⟨bv, 0, none⟩) n2 cv)
 p6 : w.cell? ⟨b, 6, none⟩ = some (.slice (some ⟨bc, 0, none⟩) n2 cc)
 h1 : RS tS w L (.slice A1 n1 c1) tb
 h2 : RS tN w L (.slice A2 n2 c2) ns
 h3 : RI w L A3 n3 outs
 h4 : RI w L Ao no O
 lv : L ≤ bv
 lc : L ≤ bc
 ne : bv ≠ bc
 nbv : b ≠ bv
 nbc : b ≠ bc
 lL : L ≤ w.heap.size
section
variable {b bv bc L : Nat} {pi : Int} {A1 : Option Addr} {n1 c1 : Nat} {A2 : Option Addr} {n2 c2 : Nat} {A3 : Option Addr} {n3 c3 : Nat} {Ao : Option Addr} {no co cv cc : Nat} {ns : List Node} {tb : List (List Int)} {outs O : List Int} {w w' : World}
theorem Pl.chg (h : Pl b bv bc L pi A1 n1 c1 A2 n2 c2 A3 n3 c3 Ao no co cv cc ns tb outs O w) (hc : Chg (F2 bv bc) w w') : Pl b bv bc L pi A1 n1 c1 A2 n2 c2 A3 n3 c3 Ao no co cv cc ns tb outs O w' := by
 have lb : b < w.heap.size := World.block_lt_of_cell? w _ h.p0
 have hn : ¬ F2 bv bc b := fun e => e.elim h.nbv h.nbc
 have hB : Below L w w' := hc.toBelow (fun k hk => hk.elim (fun e => e ▸ h.lv) (fun e => e ▸ h.lc)) h.lL
 have key : ∀ j, w'.cell? ⟨b, j, none⟩ = w.cell? ⟨b, j, none⟩ := fun j => hc.cell lb hn
 exact ⟨(key 0).trans h.p0, (key 1).trans h.p1, (key 2).trans h.p2, (key 3).trans h.p3, (key 4).trans h.p4, (key 5).trans h.p5, (key 6).trans h.p6, h.h1.below hB, h.h2.below hB, h.h3.below hB, h.h4.below hB, h.lv, h.lc, h.ne, h.nbv, h.nbc, Nat.le_trans h.lL hc.size⟩
end
theorem zm2 {w : World} {b o : Nat} {x : Int} (h : w.cell? ⟨b, o, none⟩ = some (.int .i64 x)) : RI w w.heap.size (some ⟨b, o, none⟩) 1 [x] := by
 refine ⟨rfl, fun _ => ⟨_, rfl, World.block_lt_of_cell? w _ h, fun j u hu => ?_⟩⟩
 match j, hu with
 | 0, hu =>
  simp at hu
  subst hu
  simpa [Addr.add] using h
theorem ri_x {w : World} {B b o n : Nat} {xs : List Int} (h : RI w B (some ⟨b, o, none⟩) n xs) {k : Nat} {x : Int} (hx : xs[k]? = some x) : w.cell? ⟨b, o + k, none⟩ = some (.int .i64 x) := by
 have hk : k < n := by rw [← h.len]; exact (List.getElem?_eq_some_iff.1 hx).1
 obtain ⟨b', o', e, -, hc⟩ := zam h (by omega)
 simp only [Option.some.injEq, Addr.mk.injEq] at e
 obtain ⟨rfl, rfl, -⟩ := e
 exact hc k x hx
theorem OI.ri' {e : TypeId} {B : Nat} {w : World} {A : Option Addr} {n c : Nat} {xs : List Int} (h : OI e B w (.slice A n c) xs) : RI w w.heap.size A n xs := (RN.of_oi (F := fun _ => False) h (fun _ h => h.elim)).1
theorem zg0 {cs : List (List Int)} {i : Nat} {s : List Int} (h : cs[i]? = some s) : zaf cs i = s := by rw [zaf, h]; rfl
theorem zcr {F : Nat → Prop} {w U : World} (h : Below w.heap.size w U) : Chg F w U := Chg.of_below h F
theorem ztm (b bv bc L : Nat) (pi : Int) (A1 : Option Addr) (n1 c1 : Nat) (A2 : Option Addr) (n2 c2 : Nat) (A3 : Option Addr) (n3 c3 : Nat) (Ao : Option Addr) (no co cv cc : Nat) (ns : List Node) (tb : List (List Int)) (outs O vs : List Int) (cs : List (List Int)) (bf of cf : Nat) (x : Int) (G : Nat → Prop) (w : World) (hG : ∀ k, F2 bv bc k → G k) (hGs : ∀ k, G k → k < w.heap.size)
 (hP : Pl b bv bc L pi A1 n1 c1 A2 n2 c2 A3 n3 c3 Ao no co cv cc ns tb outs O w) (hF : M.PF ns tb O) (hx : M.smp x = true) (h0 : 0 < n2) (hnz : hNS.sz ns ≤ 100000000)
 (hv : OI 2 L w (.slice (some ⟨bv, 0, none⟩) n2 cv) vs) (hvs : vs.all M.smp = true) (hc : CR G 24 L w (.slice (some ⟨bc, 0, none⟩) n2 cc) cs) (hco : M.CO ns cs)
 (cf0 : w.cell? ⟨bf, of, none⟩ = some (.int .i64 x)) (hbf : bf ≠ bv ∧ bf ≠ bc) :
 Calls Tryz.prog 176 #[.pointer (some ⟨b, 0, none⟩), .slice (some ⟨bf, of, none⟩) 1 cf] w fun e w' => e = .returned (.tuple #[]) ∧ Chg (F2 bv bc) w w' ∧ OI 2 L w' (.slice (some ⟨bv, 0, none⟩) n2 cv) (zbh ns tb [x] O cs) ∧ CR G 24 L w' (.slice (some ⟨bc, 0, none⟩) n2 cc) (zcj ns tb [x] O cs) := by
 have hl2 : ns.length = n2 := hP.h2.cap.1
 have hl1 : tb.length = n1 := hP.h1.cap.1
 have hlo : O.length = no := hP.h4.len
 have hno : no = n2 := by rw [← hlo, hF.top.len, hl2]
 have hlv : vs.length = n2 := hv.n_eq.symm
 have hlc : cs.length = n2 := hc.lenV.symm
 have hxs : [x].all M.smp = true := by simpa using hx
 have hnb : n2 ≤ 24 := by rw [← hl2]; exact hF.len
 have lbf : bf < w.heap.size := World.block_lt_of_cell? w _ cf0
 have lbv : bv < w.heap.size := (World.ownsRow.lt hv _ rfl).2
 have lbc : bc < w.heap.size := by obtain ⟨us, h1, _⟩ := hc; exact (World.ownsRow.lt h1 _ rfl).2
 have lb : b < w.heap.size := World.block_lt_of_cell? w _ hP.p0
 have hne := hP.ne
 have nbv := hP.nbv
 have nbc := hP.nbc
 have lv := hP.lv
 have lc := hP.lc
 have nf : ¬ F2 bv bc bf := fun e => e.elim hbf.1 hbf.2
 obtain ⟨E1, E2⟩ := zqn (tb := tb) (fr := [x]) hF.top vs cs (by rw [hlv, hl2]) (by rw [hlc, hl2])
 rw [hlo] at E1 E2
 obtain ⟨bo, oo, rfl, hbo, -⟩ := zam hP.h4 (by omega)
 have p1_ := hP.p1
 have p2_ := hP.p2
 have p4_ := hP.p4
 have HL2 := Lib.hid hl2
 have HL1 := Lib.hid hl1
 have HLO := Lib.hid hlo
 have HNO := Lib.hid hno
 have HLV := Lib.hid hlv
 have HE1 := Lib.hid E1
 have HE2 := Lib.hid E2
 have HX := Lib.hid hxs
 have HVS := Lib.hid hvs
 have hno' : no ≤ n2 := by omega
 have hno2 : n2 ≤ no := by omega
 clear hl2 hl1 hlo hno hlv hlc E1 E2 hxs hvs hx
 go_enter Tryz.func176, Tryz.ntmps176
 go_wp2_with fail
 go_loopw [14] (fun i wr => ∃ t : Nat, i = .int .i64 t ∧ t ≤ no ∧ Chg (F2 bv bc) w wr ∧ OI 2 L wr (.slice (some ⟨bv, 0, none⟩) n2 cv) (zbm ns tb [x] O vs cs t).1 ∧ CR G 24 L wr (.slice (some ⟨bc, 0, none⟩) n2 cc) (zbm ns tb [x] O vs cs t).2) (fun i _ => no - (intOf i).toNat)
 case atStart => exact ⟨0, rfl, by omega, Chg.refl _ _, hv, hc⟩
 case round =>
  obtain ⟨t, rfl, ht, hch, ov, oc⟩ := hrel
  by_cases hlt : t < no
  · obtain ⟨xn, hxn, eN, eO, hi⟩ := hF.ord (t := t) (by rw [HLO.out]; exact hlt)
    obtain ⟨r1, r2⟩ := zmn hF HX.out hco HVS.out t (by rw [HLO.out]; omega)
    have HR := Lib.hid (show zbm ns tb [x] O vs cs (t + 1) = _ from by rw [zbm])
    generalize hri : zan O t = i at *
    generalize hrv : (zbm ns tb [x] O vs cs t).1 = V at *
    generalize hrc : (zbm ns tb [x] O vs cs t).2 = C at *
    rw [HL2.out] at hi
    have hok := hF.ok _ _ hxn
    have hfr := hF.fr _ _ hxn
    have hinp := hF.inp _ _ hxn
    have hcx := r2.at_ _ _ hxn
    clear hri hrv hrc
    obtain ⟨bb, o, a0, a1, a2, A6, c6, x3, rfl, hbb, X, e0, e1, e2, e3, hr3, h3b⟩ := zds (hP.chg hch).h2 hnz hi
    obtain rfl : xn = (a0, a1, a2, x3) := Option.some.inj (hxn.symm.trans X.out)
    have hot : O[t]? = some (i : Int) := by
     have h2 : t < O.length := by rw [HLO.out]; exact hlt
     rw [M.i_, List.getElem?_eq_getElem h2] at eO
     rw [List.getElem?_eq_getElem h2]
     exact congrArg some eO
    have co1 : wr.cell? ⟨bo, oo + t, none⟩ = some (.int .i64 (i : Int)) := ri_x (hP.chg hch).h4 hot
    obtain ⟨U, hU, GU, sU, q0, q1, q2, q3, qf⟩ := zdm wr (.int .i64 a0) (.int .i64 a1) (.int .i64 a2) (.slice A6 x3.length c6) 171
    have HU := Lib.hid hU
    have hchU : Chg (F2 bv bc) w U := hch.trans (zcr GU)
    have hPU := hP.chg hchU
    have ovU := ov.below GU
    have ocU := oc.below GU
    obtain ⟨A', c', s, hs1, hs2, hs3, hs4, hs5⟩ := ocU.at (k := i) hi
    obtain ⟨y, hy1, hy2, hy3, -, -⟩ := ovU.at' (k := i) hi
    have hcs : zaf C i = s := zg0 hs1
    rw [hcs] at hcx
    have cfU : U.cell? ⟨bf, of, none⟩ = some (.int .i64 x) := by rw [hchU.cell lbf nf]; exact cf0
    have hszr := hch.size
    have hszU := GU.size
    have p1 := hPU.p1
    have p2 := hPU.p2
    have p5 := hPU.p5
    have p6 := hPU.p6
    have p2r := (hP.chg hch).p2
    have i0 : (0 : Int) ≤ (i : Int) := by omega
    have i1 : (i : Int) < (n2 : Int) := by omega
    have t0 : (0 : Int) ≤ (t : Int) := by omega
    have t1 : (t : Int) < (no : Int) := by omega
    have HCX := Lib.hid hcx
    have HCS := Lib.hid hcs
    have HXN := Lib.hid hxn
    have HEN := Lib.hid eN
    have HOK := Lib.hid hok
    have HFR := Lib.hid hfr
    have lblk : wr.heap.size < U.heap.size := by omega
    have D1 : Below U.heap.size U U.drew := zac (Below.refl _ _) 1
    have hd0 : U.drew.heap.size = U.heap.size := rfl
    clear hU sU hcx hcs hxn eN hok hfr eO hs1
    by_cases h6 : a0 = 6
    · subst h6
      have h6' := (zea HOK.out).2.1 rfl
      simp only at h6'
      have hsl : 1 ≤ s.length := by rw [HCX.out.1]; simp [zcp]; omega
      obtain ⟨bs, os, s0, rfl, hbs, hnF, hs0, cs0⟩ := hs3.at (k := 0) (by omega)
      rw [Nat.add_zero] at cs0
      have HT := Lib.hid (show zbm ns tb [x] O vs cs (t + 1) = (V.set i s0, C) by rw [HR.out, HEN.out, if_pos rfl, HCS.out, zgv hs0])
      have nsv : bs ≠ bv := fun e => hnF (hG _ (Or.inl e))
      have nsc : bs ≠ bc := fun e => hnF (hG _ (Or.inr e))
      have pp5 := cell_regrown p5
      have pp6 := cell_regrown p6
      have ppc := cell_regrown hs4
      have pps := cell_regrown cs0
      have zv : U.drew.cell? ⟨bv, i, none⟩ = some (.int .i64 y) := hy2
      have zf : U.drew.frozen? ⟨bv, i, none⟩ = false := hy3
      have hs0' := Lib.hid hs0
      have hl1s : (0 : Int) < (s.length : Int) := by omega
      clear HR HCS hs0 h6' hinp
      go_wp2_with fail
      rw [← HU.out]
      go_wp2_with fail
      (refine zce [0, 1, 2, 4, 5, 6, 7, 9] [3, 8, 10, 11, 12, 13] 1 (.first 14 .rest) [15] [15] (by kernel_rfl) (by kernel_rfl) ?_; simp only [zaj]; simp only [List.filterMap, List.getElem?_cons_succ, List.getElem?_cons_zero]; (repeat (go_big_quiet_step (fail))); refine wpQuiet_nil ?_; (repeat (go_big_quiet_step (fail))); refine wpQuiet_nil ?_)
      (refine zcg rfl ?_; (repeat (go_big_quiet_step (fail))); refine wpQuiet_nil ?_)
      refine zb7 ?_
      go_wp2_with fail
      have O2 := (ovU.stored' i s0).below (zac (Below.refl _ _) 1)
      have C2 := (ocU.chg (Chg.set (F := fun k => k = bv) U bv i (.int .i64 s0) rfl) (fun k hk => hG _ (Or.inl hk)) (fun k hk hk2 => by simp only [Value.ownBlock, Option.some.injEq] at hk; omega)).below (zac (Below.refl _ _) 1)
      refine ⟨⟨t + 1, by go_num, by omega, (hchU.trans (Chg.set U bv i (.int .i64 s0) (Or.inl rfl))).trans (zcr (zac (Below.refl _ _) 1)), ?_, ?_⟩, by simp [intOf]; omega⟩
      · rw [HT.out]
        exact O2
      · rw [HT.out]
        exact C2
    · have hne6 : (a0 == 6) = false := by simpa using h6
      have HIL := Lib.hid (zhp (x := (a0, a1, a2, x3)) HOK.out [x] V)
      have HIA := Lib.hid (zev (x := (a0, a1, a2, x3)) HX.out r1)
      have HT := Lib.hid (show zbm ns tb [x] O vs cs (t + 1) = (V.set i (zah (a0, a1, a2, x3) tb (za8 (a0, a1, a2, x3) [x] V) s), C.set i (zak (a0, a1, a2, x3) (za8 (a0, a1, a2, x3) [x] V) s (zah (a0, a1, a2, x3) tb (za8 (a0, a1, a2, x3) [x] V) s))) by rw [HR.out, HEN.out, if_neg h6, HCS.out])
      have pp1 := cell_regrown p1
      have pp5 := cell_regrown p5
      have pp6 := cell_regrown p6
      have ppc := cell_regrown hs4
      have pq0 := cell_regrown q0
      have pq1 := cell_regrown q1
      have pq2 := cell_regrown q2
      have pq3 := cell_regrown q3
      have hfrU : RI U.drew U.drew.heap.size (some ⟨bf, of, none⟩) 1 [x] := zm2 (by show U.cell? _ = _; exact cfU)
      have hvU := (ovU.below D1).ri'
      generalize hI : za8 (a0, a1, a2, x3) [x] V = I at *
      clear HR HCS
      go_wp2_with fail
      rw [← HU.out]
      go_wp2_with fail
      (refine zce [0, 1, 2, 4, 5, 6, 7, 9, 11, 12, 13, 14, 16, 18, 20, 21, 22, 24] [3, 8, 10, 15, 17, 23, 25, 26] 6 (.one 19 (.one 27 (.first 28 (.first 29 (.first 30 (.first 31 .rest)))))) [32, 34] [32, 33, 34] (by kernel_rfl) (by kernel_rfl) ?_; simp only [zaj]; simp only [List.filterMap, List.getElem?_cons_succ, List.getElem?_cons_zero]; (repeat (go_big_quiet_step (fail))); refine wpQuiet_nil ?_; (repeat (go_big_quiet_step (fail))); refine wpQuiet_nil ?_)
      refine zbe rfl ?_
      go_wp2_with fail
      refine (zm1 b _ _ cv V a0 a1 a2 _ _ c6 x3 _ _ cf [x] _ (show U.drew.cell? _ = _ from p5) hvU ((hr3.more (by omega)).later (zaa GU D1)) hfrU (by omega) (by omega) (by omega) (fun e => by have : a1 = 0 := hinp e; omega) (Lib.hid (fun f hf => by have := HFR.out f hf; rw [HL2.out] at this; exact this))).mono ?_
      rintro e w2 ⟨v4, rfl, own1, bel1⟩
      rw [hI] at own1
      obtain ⟨A4, c4, rfl, hri4⟩ := own1.shape
      have B2 := zaa D1 bel1
      have s2 := bel1.size
      go_wp2_with fail
      refine ⟨regrown_of_below B2, ?_⟩
      refine zbe rfl ?_
      go_wp2_with fail
      refine (zs1 a0 a1 a2 _ _ c6 x3 _ _ c1 tb _ _ c4 I _ _ c' s _ ((hPU.h1.below (B2.mono (by omega))).more (by omega)) hF.tabs hri4 (hs3.below B2).1 (by omega) (by rw [← HL1.out]; exact HOK.out) HIL.out HIA.out HCX.out.1 HCX.out.2).mono ?_
      rintro e w3 ⟨v5, rfl, own2, bel2⟩
      obtain ⟨A5, c5, rfl, hle5, -, -⟩ := zb9 own2
      have B3 := zaa B2 bel2
      have s3 := bel2.size
      go_wp2_with fail
      refine ⟨regrown_of_below B3, ?_⟩
      (refine zcg rfl ?_; (repeat (go_big_quiet_step (fail))); refine wpQuiet_nil ?_)
      (refine zcg rfl ?_; (repeat (go_big_quiet_step (fail))); refine wpQuiet_nil ?_)
      (refine zcg rfl ?_; (repeat (go_big_quiet_step (fail))); refine wpQuiet_nil ?_)
      (refine zcg rfl ?_; (repeat (go_big_quiet_step (fail))); refine wpQuiet_nil ?_)
      refine zb7 ?_
      have zv : w3.cell? ⟨bv, i, none⟩ = some (.int .i64 y) := by rw [B3.cell (by show bv < _; omega)]; exact hy2
      have zf : w3.frozen? ⟨bv, i, none⟩ = false := by rw [B3.frozen (by show bv < _; omega)]; exact hy3
      have zc : w3.cell? ⟨bc, i, none⟩ = some (.slice A' s.length c') := by rw [B3.cell (by show bc < _; omega)]; exact hs4
      have zcf : w3.frozen? ⟨bc, i, none⟩ = false := by rw [B3.frozen (by show bc < _; omega)]; exact hs5
      generalize hOut : zah (a0, a1, a2, x3) tb I s = out at *
      generalize hNx : zak (a0, a1, a2, x3) I s out = nx at *
      go_wp2_with fail
      have hRN : RN G w3 A5 nx.length nx := RN.of_oi own2 (fun k hk => by have := hGs k hk; omega)
      have O2 := ((ovU.below B3).stored' i out).kept (zav _ bc i (.slice A5 nx.length c5)) (.inr (by simp only [Value.ownBlock, ne_eq, Option.some.injEq]; exact hne))
      have C2 := ((ocU.below B3).chg (Chg.set (F := fun k => k = bv) w3 bv i (.int .i64 out) rfl) (fun k hk => hG _ (Or.inl hk)) (fun k hk hk2 => by simp only [Value.ownBlock, Option.some.injEq] at hk; omega)).set (hG _ (Or.inr rfl)) i hle5 (hRN.chg (Chg.set _ bv i _ (hG _ (Or.inl rfl))))
      refine ⟨⟨t + 1, by go_num, by omega, ((hchU.trans (zcr B3)).trans (Chg.set w3 bv i _ (Or.inl rfl))).trans (Chg.set _ bc i _ (Or.inr rfl)), ?_, ?_⟩, by simp [intOf]; omega⟩
      · rw [HT.out]
        exact O2
      · rw [HT.out]
        exact C2
  · have htn : t = no := by omega
    obtain ⟨r1, r2⟩ := zmn hF HX.out hco HVS.out no (by rw [HLO.out]; omega)
    rw [htn] at ov oc
    rw [HE1.out] at ov r1
    clear htn
    generalize hV : zbh ns tb [x] O cs = V at *
    generalize hC : (zbm ns tb [x] O vs cs no).2 = C at *
    have hPr := hP.chg hch
    have hszr := hch.size
    have p2 := hPr.p2
    have HV := Lib.hid hV
    clear hV hC hv hc p1_ p2_ p4_ HE1
    go_wp2_with fail
    obtain ⟨wo, rfl⟩ : ∃ wo : World, wo = wr := ⟨_, rfl⟩
    go_loopw [84] (fun i wr => ∃ t : Nat, i = .int .i64 t ∧ t ≤ n2 ∧ Chg (F2 bv bc) w wr ∧ OI 2 L wr (.slice (some ⟨bv, 0, none⟩) n2 cv) V ∧ CR G 24 L wr (.slice (some ⟨bc, 0, none⟩) n2 cc) (zc3 ns [x] V C t)) (fun i _ => n2 - (intOf i).toNat)
    case atStart => exact ⟨0, rfl, by omega, hch, ov, oc⟩
    case round =>
     clear hch ov oc hPr hszr p2
     obtain ⟨t, rfl, ht, hch, ov, oc⟩ := hrel
     by_cases hlt : t < n2
     · have r3 := zs9 hF HX.out r2 r1 t (by rw [HL2.out]; omega)
       have HR := Lib.hid (show zc3 ns [x] V C (t + 1) = _ from by rw [zc3])
       have hxn := zho (ns := ns) (i := t) (by rw [HL2.out]; exact hlt)
       generalize hrd : zc3 ns [x] V C t = C1 at *
       obtain ⟨xn, hN⟩ : ∃ xn, zaw ns t = xn := ⟨_, rfl⟩
       rw [hN] at hxn
       have hok := hF.ok _ _ hxn
       have hfr := hF.fr _ _ hxn
       have hcx := r3.at_ _ _ hxn
       clear hrd
       obtain ⟨bb, o, a0, a1, a2, A6, c6, x3, rfl, hbb, X, e0, e1, e2, e3, hr3, h3b⟩ := zds (hP.chg hch).h2 hnz hlt
       obtain rfl : xn = (a0, a1, a2, x3) := Option.some.inj (hxn.symm.trans X.out)
       obtain ⟨U, hU, GU, sU, q0, q1, q2, q3, qf⟩ := zdm wr (.int .i64 a0) (.int .i64 a1) (.int .i64 a2) (.slice A6 x3.length c6) 171
       have HU := Lib.hid hU
       have hchU : Chg (F2 bv bc) w U := hch.trans (zcr GU)
       have hPU := hP.chg hchU
       have ovU := ov.below GU
       have ocU := oc.below GU
       obtain ⟨A', c', s, hs1, hs2, hs3, hs4, hs5⟩ := ocU.at (k := t) hlt
       have hcs : zaf C1 t = s := zg0 hs1
       rw [hcs] at hcx
       have cfU : U.cell? ⟨bf, of, none⟩ = some (.int .i64 x) := by rw [hchU.cell lbf nf]; exact cf0
       have hszr := hch.size
       have hszU := GU.size
       have p5 := hPU.p5
       have p6 := hPU.p6
       have i0 : (0 : Int) ≤ (t : Int) := by omega
       have i1 : (t : Int) < (n2 : Int) := by omega
       have HCX := Lib.hid hcx
       have HCS := Lib.hid hcs
       have HNN := Lib.hid hN
       have HOK := Lib.hid hok
       have HFR := Lib.hid hfr
       have lblk : wr.heap.size < U.heap.size := by omega
       have D1 : Below U.heap.size U U.drew := zac (Below.refl _ _) 1
       have hd0 : U.drew.heap.size = U.heap.size := rfl
       clear hU sU hcx hcs hxn hN hok hfr hs1
       by_cases h6 : a0 = 6
       · subst h6
         have h6' := (zea HOK.out).2.1 rfl
         simp only at h6'
         have hsl : 1 ≤ s.length := by rw [HCX.out.1]; simp [zcp]; omega
         have HIL := Lib.hid (zhp (x := (6, a1, a2, x3)) HOK.out [x] V)
         have HIA := Lib.hid (zev (x := (6, a1, a2, x3)) HX.out r1)
         have HT := Lib.hid (show zc3 ns [x] V C (t + 1) = C1.set t (zak (6, a1, a2, x3) (za8 (6, a1, a2, x3) [x] V) s 0) by rw [HR.out, HNN.out, if_pos rfl, HCS.out])
         have pp5 := cell_regrown p5
         have pp6 := cell_regrown p6
         have ppc := cell_regrown hs4
         have pq0 := cell_regrown q0
         have pq1 := cell_regrown q1
         have pq2 := cell_regrown q2
         have pq3 := cell_regrown q3
         have hfrU : RI U.drew U.drew.heap.size (some ⟨bf, of, none⟩) 1 [x] := zm2 (by show U.cell? _ = _; exact cfU)
         have hvU := (ovU.below D1).ri'
         generalize hI : za8 (6, a1, a2, x3) [x] V = I at *
         clear HR HCS h6'
         obtain ⟨s0, ss, rfl⟩ := zgy hsl
         go_wp2_with fail
         rw [← HU.out]
         go_wp2_with fail
         (refine zce [0, 1, 2, 4, 6, 8, 10, 11, 12, 14] [3, 5, 7, 13, 15, 16] 6 (.one 9 (.one 17 (.first 18 (.first 19 (.first 20 (.first 21 .rest)))))) [22] [22] (by kernel_rfl) (by kernel_rfl) ?_; simp only [zaj]; simp only [List.filterMap, List.getElem?_cons_succ, List.getElem?_cons_zero]; (repeat (go_big_quiet_step (fail))); refine wpQuiet_nil ?_; (repeat (go_big_quiet_step (fail))); refine wpQuiet_nil ?_)
         refine zbe rfl ?_
         go_wp2_with fail
         refine (zm1 b _ _ cv V 6 a1 a2 _ _ c6 x3 _ _ cf [x] _ (show U.drew.cell? _ = _ from p5) hvU ((hr3.more (by omega)).later (zaa GU D1)) hfrU (by omega) (by omega) (by omega) (fun e => absurd e (by decide)) (Lib.hid (fun f hf => by have := HFR.out f hf; rw [HL2.out] at this; exact this))).mono ?_
         rintro e w2 ⟨v4, rfl, own1, bel1⟩
         rw [hI] at own1
         have hil : I.length = 1 := HIL.out
         obtain ⟨x0, rfl⟩ := len1 hil
         obtain ⟨g4, cap4, hA4, -, -⟩ := own1.form (by simp)
         subst hA4
         obtain ⟨y4, hy4, cy4, -, -, -⟩ := own1.at' (k := 0) (by simp)
         obtain rfl : y4 = x0 := by have := hy4.out; simpa using this.symm
         have B2 := zaa D1 bel1
         have s2 := bel1.size
         clear hil hy4
         go_wp2_with fail
         refine ⟨regrown_of_below B2, ?_⟩
         refine zbe rfl ?_
         obtain ⟨bs, os, rfl, hbs, hcs0⟩ := zam hs3.1 (by simp)
         go_wp2_with fail
         refine (zmj a1 a2 _ _ c6 _ _ _ cap4 _ _ _ c' y4 s0 ss _ cy4 (hs3.below B2).1 (by have := HCX.out.1; have h6' := (zea HOK.out).2.1 rfl; simp [zcp] at this h6'; simp; omega) hs2).mono ?_
         rintro e w3 ⟨v5, rfl, own2, bel2⟩
         obtain ⟨A5, c5, rfl, hle5, -, -⟩ := zb9 own2
         have B3 := zaa B2 bel2
         have s3 := bel2.size
         go_wp2_with fail
         refine ⟨regrown_of_below B3, ?_⟩
         (refine zcg rfl ?_; (repeat (go_big_quiet_step (fail))); refine wpQuiet_nil ?_)
         (refine zcg rfl ?_; (repeat (go_big_quiet_step (fail))); refine wpQuiet_nil ?_)
         (refine zcg rfl ?_; (repeat (go_big_quiet_step (fail))); refine wpQuiet_nil ?_)
         (refine zcg rfl ?_; (repeat (go_big_quiet_step (fail))); refine wpQuiet_nil ?_)
         refine zb7 ?_
         have zc : w3.cell? ⟨bc, t, none⟩ = some (.slice (some ⟨bs, os, none⟩) (s0 :: ss).length c') := by rw [B3.cell (by show bc < _; omega)]; exact hs4
         have zcf : w3.frozen? ⟨bc, t, none⟩ = false := by rw [B3.frozen (by show bc < _; omega)]; exact hs5
         have HNX := Lib.hid (show zak (6, a1, a2, x3) [y4] (s0 :: ss) 0 = ss ++ [y4] by simp [zak, M.i_])
         have hln : (ss ++ [y4]).length = ss.length + 1 := by simp
         have hRN : RN G w3 A5 (ss ++ [y4]).length (ss ++ [y4]) := RN.of_oi own2 (fun k hk => by have := hGs k hk; omega)
         have C2 := (ocU.below B3).set (hG _ (Or.inr rfl)) t hle5 hRN
         rw [hln] at C2
         have HLN := Lib.hid hln
         have O2 := (ovU.below B3).kept (zav _ bc t (.slice A5 (ss.length + 1) c5)) (.inr (by simp only [Value.ownBlock, ne_eq, Option.some.injEq]; exact hne))
         clear hln
         go_wp2_with fail
         refine ⟨⟨t + 1, by go_num, by omega, (hchU.trans (zcr B3)).trans (Chg.set w3 bc t _ (Or.inr rfl)), O2, ?_⟩, by simp [intOf]; omega⟩
         rw [HT.out, HNX.out]
         exact C2
       · have hne6 : (a0 == 6) = false := by simpa using h6
         have HT := Lib.hid (show zc3 ns [x] V C (t + 1) = C1 by rw [HR.out, HNN.out, if_neg h6])
         clear HR
         go_wp2_with fail
         rw [← HU.out]
         go_wp2_with fail
         exact ⟨⟨t + 1, by go_num, by omega, hchU, ovU, by rw [HT.out]; exact ocU⟩, by simp [intOf]; omega⟩
     · have htn : t = n2 := by omega
       subst htn
       have HE := HE2.out
       rw [HL2.out] at HE
       rw [HE] at oc
       go_wp2_with fail
       go_end0
       exact ⟨rfl, hch, by rw [HV.out]; exact ov, oc⟩
end
end Go.Proofs.YtffhodocjjkkoaaGreat
