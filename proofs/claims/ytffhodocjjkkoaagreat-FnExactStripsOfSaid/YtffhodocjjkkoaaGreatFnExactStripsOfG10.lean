import Derived.Test.YtffhodocjjkkoaaGreatFnExactStripsOfG9
import Derived.Test.YtffhodocjjkkoaaGreatFnExactStripsOfG6
import Derived.Test.YtffhodocjjkkoaaGreatFnExactStripsOfG8
import Derived.Deep.DeepCutAuto
import Derived.Deep.RegionWith
import Derived.Test.YtffhodocjjkkoaaGreatFnExactStripsOfG3
set_option linter.unusedVariables false
set_option linter.unusedSimpArgs false
namespace Go.Proofs.YtffhodocjjkkoaaGreat
open Go.RowKit Go.Sort
set_option maxHeartbeats 2000000
set_option maxRecDepth 100000
set_option linter.unusedVariables false
set_option linter.unusedSimpArgs false
theorem M.node_a {a0 a1 a2 : Int} {xs : List Int} {tb : Int} (h : M.nodeOk (a0, a1, a2, xs) tb = true) :
    (a0 = 5 → -2147483648 ≤ a1 ∧ a1 ≤ 2147483647) ∧ (a0 = 10 → 0 ≤ a1 ∧ a1 ≤ 31) ∧ (a0 = 11 → 0 ≤ a1 ∧ a1 ≤ 2147483647) ∧ (a0 = 13 → 0 ≤ a1 ∧ a1 ≤ 3 ∧ a1 < tb) ∧ (a0 = 17 → -2147483648 ≤ a1 ∧ a1 ≤ 2147483647) ∧ (a0 = 2 → -2147483648 ≤ a1 ∧ a1 ≤ 2147483647) ∧ (a0 = 12 → -2147483648 ≤ a1 ∧ a1 ≤ 2147483647) ∧ (a0 = 14 → -2147483648 ≤ a1 ∧ a1 ≤ 2147483647) ∧ (a0 = 1 → 0 ≤ a1 ∧ a1 ≤ 3) := by
  rw [M.nodeOk] at h
  simp only [Bool.and_eq_true] at h
  have hA := h.2.1.1.1.1
  have hL := h.2.2
  refine ⟨?_, ?_, ?_, ?_, ?_, ?_, ?_, ?_, ?_⟩ <;> rintro rfl <;> simp [M.aI, M.kd, M.kds, M.inn] at hA hL <;> omega
theorem M.node_len {a0 a1 a2 : Int} {xs : List Int} {tb : Int} (h : M.nodeOk (a0, a1, a2, xs) tb = true) : a0 ≠ 1 → xs.length = M.insLen a0 := by
  obtain ⟨hk, -, -⟩ := M.nodeOk_start h
  rw [M.nodeOk] at h
  simp only [Bool.and_eq_true] at h
  have hL := h.2.1.2
  simp only at hk
  rcases M.kind_cases hk with rfl | rfl | rfl | rfl | rfl | rfl | rfl | rfl | rfl | rfl | rfl | rfl | rfl | rfl | rfl | rfl | rfl
  all_goals
    simp [M.kd, M.kds, M.insLen, M.ar, M.ars] at hL ⊢
    try omega
theorem M.tab_len {ts : List (List Int)} (h : M.tabsOk ts = true) {k : Nat} {t : List Int} (ht : ts[k]? = some t) : (1 ≤ t.length ∧ t.length ≤ 16) ∧ t.all M.smp = true ∧ ts.length ≤ 4 := by
  rw [M.tabsOk, Bool.and_eq_true] at h
  have h2 := List.all_eq_true.1 h.1 t (List.mem_of_getElem? ht)
  rw [M.tabOk, Bool.and_eq_true] at h2
  refine ⟨?_, h2.2, of_decide_eq_true h.2⟩
  have := h2.1
  simp at this
  omega
theorem smp_bd {x : Int} (h : M.smp x = true) : -2147483648 ≤ x ∧ x ≤ 2147483647 := M.inn_iff.1 h
theorem smp_nil {xs : List Int} (h : xs.all M.smp = true) {k : Nat} {x : Int} (hx : xs[k]? = some x) : -2147483648 ≤ x ∧ x ≤ 2147483647 := smp_bd (List.all_eq_true.1 h x (List.mem_of_getElem? hx))
theorem cons_of {xs : List Int} (h : 1 ≤ xs.length) : ∃ a zs, xs = a :: zs := by
  match xs, h with
  | a :: zs, _ => exact ⟨a, zs, rfl⟩
theorem impl_step (a0 a1 a2 : Int) (A : Option Addr) (n c : Nat) (xs : List Int) (At : Option Addr) (nt ct : Nat) (tb : List (List Int)) (Ai : Option Addr) (ni ci : Nat) (ins : List Int) (As : Option Addr) (ns cs : Nat) (s : List Int) (w : World) (ht : RS tS w w.heap.size (.slice At nt ct) tb) (htb : M.tabsOk tb = true) (hi : RI w w.heap.size Ai ni ins) (hs : RI w w.heap.size As ns s) (hcs : ns ≤ cs)
    (hok : M.nodeOk (a0, a1, a2, xs) nt = true) (hil : ins.length = M.insLen a0) (hia : ins.all M.smp = true) (hsl : s.length = M.stLen (a0, a1, a2, xs)) (hsa : s.all M.smp = true) :
    Calls Tryz.prog 196 #[.agg #[.int .i64 a0, .int .i64 a1, .int .i64 a2, .slice A n c], .slice At nt ct, .slice Ai ni ci, .slice As ns cs] w fun e w' => ∃ v, e = .returned (.tuple #[.int .i64 (M.nOut (a0, a1, a2, xs) tb ins s), v]) ∧ OI 2 w.heap.size w' v (M.nNext (a0, a1, a2, xs) ins s (M.nOut (a0, a1, a2, xs) tb ins s)) ∧ Below w.heap.size w w' := by
  obtain ⟨hk, h6, h17⟩ := M.nodeOk_start hok
  obtain ⟨hb5, hb10, hb11, hb13, hb17, -⟩ := M.node_a hok
  have hnt : tb.length = nt := ht.cap.1
  simp only at hk h6 h17
  rcases M.kind_cases hk with rfl | rfl | rfl | rfl | rfl | rfl | rfl | rfl | rfl | rfl | rfl | rfl | rfl | rfl | rfl | rfl | rfl
  case inl =>
    obtain ⟨i0, rfl⟩ := len1 (show ins.length = 1 from hil)
    have hn := hi.len
    simp only [List.length_cons, List.length_nil] at hn
    subst hn
    obtain ⟨bi, oi, rfl, hbi, hci⟩ := ri_lit hi (by omega)
    have c0 : w.cell? ⟨bi, oi, none⟩ = some (.int .i64 i0) := hci 0 _ rfl
    have e0 := smp_nil hia (k := 0) (x := i0) rfl
    exact (impl_step_pure _ _ _ _ _ _ _ _ _ _ w (by simp) (fun W hB => impl_out1 _ _ _ _ _ _ _ _ _ _ _ _ W (by rw [hB.cell hbi]; exact c0))).mono fun e w' h => by simpa [M.nOut, M.nNext, M.i_] using h
  case inr.inl =>
    obtain rfl := len0 (show ins.length = 0 from hil)
    have hn := hi.len
    simp only [List.length_nil] at hn
    subst hn
    exact (impl_step_pure _ _ _ _ _ _ _ _ _ _ w (by simp) (fun W hB => impl_out2 _ _ _ _ _ _ _ _ _ _ W)).mono fun e w' h => by simpa [M.nOut, M.nNext, M.i_] using h
  case inr.inr.inl =>
    obtain ⟨i0, i1, rfl⟩ := len2 (show ins.length = 2 from hil)
    have hn := hi.len
    simp only [List.length_cons, List.length_nil] at hn
    subst hn
    obtain ⟨bi, oi, rfl, hbi, hci⟩ := ri_lit hi (by omega)
    have c0 : w.cell? ⟨bi, oi, none⟩ = some (.int .i64 i0) := hci 0 _ rfl
    have c1 : w.cell? ⟨bi, oi + 1, none⟩ = some (.int .i64 i1) := hci 1 _ rfl
    have e0 := smp_nil hia (k := 0) (x := i0) rfl
    have e1 := smp_nil hia (k := 1) (x := i1) rfl
    exact (impl_step_pure _ _ _ _ _ _ _ _ _ _ w (by simp) (fun W hB => impl_out3 _ _ _ _ _ _ _ _ _ _  _ _ _ W (by rw [hB.cell hbi]; exact c0) (by rw [hB.cell hbi]; exact c1) ⟨e0.1, e0.2, e1.1, e1.2⟩)).mono fun e w' h => by simpa [M.nOut, M.nNext, M.i_] using h
  case inr.inr.inr.inl =>
    obtain ⟨i0, i1, rfl⟩ := len2 (show ins.length = 2 from hil)
    have hn := hi.len
    simp only [List.length_cons, List.length_nil] at hn
    subst hn
    obtain ⟨bi, oi, rfl, hbi, hci⟩ := ri_lit hi (by omega)
    have c0 : w.cell? ⟨bi, oi, none⟩ = some (.int .i64 i0) := hci 0 _ rfl
    have c1 : w.cell? ⟨bi, oi + 1, none⟩ = some (.int .i64 i1) := hci 1 _ rfl
    have e0 := smp_nil hia (k := 0) (x := i0) rfl
    have e1 := smp_nil hia (k := 1) (x := i1) rfl
    exact (impl_step_pure _ _ _ _ _ _ _ _ _ _ w (by simp) (fun W hB => impl_out4 _ _ _ _ _ _ _ _ _ _  _ _ _ W (by rw [hB.cell hbi]; exact c0) (by rw [hB.cell hbi]; exact c1) ⟨e0.1, e0.2, e1.1, e1.2⟩)).mono fun e w' h => by simpa [M.nOut, M.nNext, M.i_] using h
  case inr.inr.inr.inr.inl =>
    obtain ⟨i0, rfl⟩ := len1 (show ins.length = 1 from hil)
    have hn := hi.len
    simp only [List.length_cons, List.length_nil] at hn
    subst hn
    obtain ⟨bi, oi, rfl, hbi, hci⟩ := ri_lit hi (by omega)
    have c0 : w.cell? ⟨bi, oi, none⟩ = some (.int .i64 i0) := hci 0 _ rfl
    have e0 := smp_nil hia (k := 0) (x := i0) rfl
    exact (impl_step_pure _ _ _ _ _ _ _ _ _ _ w (by simp) (fun W hB => impl_out5 _ _ _ _ _ _ _ _ _ _ _ _ W (by rw [hB.cell hbi]; exact c0) (hb5 rfl) e0)).mono fun e w' h => by simpa [M.nOut, M.nNext, M.i_] using h
  case inr.inr.inr.inr.inr.inl =>
    obtain ⟨i0, rfl⟩ := len1 (show ins.length = 1 from hil)
    have hn := hi.len
    simp only [List.length_cons, List.length_nil] at hn
    subst hn
    obtain ⟨bi, oi, rfl, hbi, hci⟩ := ri_lit hi (by omega)
    have c0 : w.cell? ⟨bi, oi, none⟩ = some (.int .i64 i0) := hci 0 _ rfl
    have e0 := smp_nil hia (k := 0) (x := i0) rfl
    have hsl2 : s.length = a1.toNat := hsl
    have hsr := h6 rfl
    obtain ⟨s0, ss, rfl⟩ := cons_of (xs := s) (by omega)
    have hm := hs.len
    simp only [List.length_cons] at hm hsl2
    obtain ⟨bs, os_, rfl, hbs, hcs0⟩ := ri_lit hs (by omega)
    have d0 : w.cell? ⟨bs, os_, none⟩ = some (.int .i64 s0) := hcs0 0 _ rfl
    have f0 := smp_nil hsa (k := 0) (x := s0) rfl
    exact (impl_step6 _ _ _ _ _ _ _ _ _ _ _ _ _ _ _ _ w c0 hs (by omega) hcs).mono fun e w' h => by simpa [M.nOut, M.nNext, M.i_] using h
  case inr.inr.inr.inr.inr.inr.inl =>
    obtain ⟨i0, rfl⟩ := len1 (show ins.length = 1 from hil)
    have hn := hi.len
    simp only [List.length_cons, List.length_nil] at hn
    subst hn
    obtain ⟨bi, oi, rfl, hbi, hci⟩ := ri_lit hi (by omega)
    have c0 : w.cell? ⟨bi, oi, none⟩ = some (.int .i64 i0) := hci 0 _ rfl
    have e0 := smp_nil hia (k := 0) (x := i0) rfl
    obtain ⟨s0, rfl⟩ := len1 (show s.length = 1 from hsl)
    have hm := hs.len
    simp only [List.length_cons, List.length_nil] at hm
    obtain ⟨bs, os_, rfl, hbs, hcs0⟩ := ri_lit hs (by omega)
    have d0 : w.cell? ⟨bs, os_, none⟩ = some (.int .i64 s0) := hcs0 0 _ rfl
    have f0 := smp_nil hsa (k := 0) (x := s0) rfl
    exact (impl_step7 _ _ _ _ _ _ _ _ _ _ _ _ _ _ _ w c0 d0 (by omega) e0 f0).mono fun e w' h => by simpa [M.nOut, M.nNext, M.i_] using h
  case inr.inr.inr.inr.inr.inr.inr.inl =>
    obtain ⟨i0, rfl⟩ := len1 (show ins.length = 1 from hil)
    have hn := hi.len
    simp only [List.length_cons, List.length_nil] at hn
    subst hn
    obtain ⟨bi, oi, rfl, hbi, hci⟩ := ri_lit hi (by omega)
    have c0 : w.cell? ⟨bi, oi, none⟩ = some (.int .i64 i0) := hci 0 _ rfl
    have e0 := smp_nil hia (k := 0) (x := i0) rfl
    obtain ⟨s0, rfl⟩ := len1 (show s.length = 1 from hsl)
    have hm := hs.len
    simp only [List.length_cons, List.length_nil] at hm
    obtain ⟨bs, os_, rfl, hbs, hcs0⟩ := ri_lit hs (by omega)
    have d0 : w.cell? ⟨bs, os_, none⟩ = some (.int .i64 s0) := hcs0 0 _ rfl
    have f0 := smp_nil hsa (k := 0) (x := s0) rfl
    exact (impl_step8 _ _ _ _ _ _ _ _ _ _ _ _ _ _ _ w c0 d0 (by omega) e0 f0).mono fun e w' h => by simpa [M.nOut, M.nNext, M.i_] using h
  case inr.inr.inr.inr.inr.inr.inr.inr.inl =>
    obtain ⟨i0, i1, rfl⟩ := len2 (show ins.length = 2 from hil)
    have hn := hi.len
    simp only [List.length_cons, List.length_nil] at hn
    subst hn
    obtain ⟨bi, oi, rfl, hbi, hci⟩ := ri_lit hi (by omega)
    have c0 : w.cell? ⟨bi, oi, none⟩ = some (.int .i64 i0) := hci 0 _ rfl
    have c1 : w.cell? ⟨bi, oi + 1, none⟩ = some (.int .i64 i1) := hci 1 _ rfl
    have e0 := smp_nil hia (k := 0) (x := i0) rfl
    have e1 := smp_nil hia (k := 1) (x := i1) rfl
    exact (impl_step_pure _ _ _ _ _ _ _ _ _ _ w (by simp) (fun W hB => impl_out9 _ _ _ _ _ _ _ _ _ _  _ _ _ W (by rw [hB.cell hbi]; exact c0) (by rw [hB.cell hbi]; exact c1) ⟨e0.1, e0.2, e1.1, e1.2⟩)).mono fun e w' h => by simpa [M.nOut, M.nNext, M.i_] using h
  case inr.inr.inr.inr.inr.inr.inr.inr.inr.inl =>
    obtain ⟨i0, rfl⟩ := len1 (show ins.length = 1 from hil)
    have hn := hi.len
    simp only [List.length_cons, List.length_nil] at hn
    subst hn
    obtain ⟨bi, oi, rfl, hbi, hci⟩ := ri_lit hi (by omega)
    have c0 : w.cell? ⟨bi, oi, none⟩ = some (.int .i64 i0) := hci 0 _ rfl
    have e0 := smp_nil hia (k := 0) (x := i0) rfl
    exact (impl_step_pure _ _ _ _ _ _ _ _ _ _ w (by simp) (fun W hB => impl_out10 _ _ _ _ _ _ _ _ _ _ _ _ W (by rw [hB.cell hbi]; exact c0) (hb10 rfl) e0)).mono fun e w' h => by simpa [M.nOut, M.nNext, M.i_] using h
  case inr.inr.inr.inr.inr.inr.inr.inr.inr.inr.inl =>
    obtain ⟨i0, rfl⟩ := len1 (show ins.length = 1 from hil)
    have hn := hi.len
    simp only [List.length_cons, List.length_nil] at hn
    subst hn
    obtain ⟨bi, oi, rfl, hbi, hci⟩ := ri_lit hi (by omega)
    have c0 : w.cell? ⟨bi, oi, none⟩ = some (.int .i64 i0) := hci 0 _ rfl
    have e0 := smp_nil hia (k := 0) (x := i0) rfl
    exact (impl_step_pure _ _ _ _ _ _ _ _ _ _ w (by simp) (fun W hB => impl_out11 _ _ _ _ _ _ _ _ _ _ _ _ W (by rw [hB.cell hbi]; exact c0) (hb11 rfl) e0)).mono fun e w' h => by simpa [M.nOut, M.nNext, M.i_] using h
  case inr.inr.inr.inr.inr.inr.inr.inr.inr.inr.inr.inl =>
    obtain ⟨i0, rfl⟩ := len1 (show ins.length = 1 from hil)
    have hn := hi.len
    simp only [List.length_cons, List.length_nil] at hn
    subst hn
    obtain ⟨bi, oi, rfl, hbi, hci⟩ := ri_lit hi (by omega)
    have c0 : w.cell? ⟨bi, oi, none⟩ = some (.int .i64 i0) := hci 0 _ rfl
    have e0 := smp_nil hia (k := 0) (x := i0) rfl
    obtain ⟨s0, rfl⟩ := len1 (show s.length = 1 from hsl)
    have hm := hs.len
    simp only [List.length_cons, List.length_nil] at hm
    obtain ⟨bs, os_, rfl, hbs, hcs0⟩ := ri_lit hs (by omega)
    have d0 : w.cell? ⟨bs, os_, none⟩ = some (.int .i64 s0) := hcs0 0 _ rfl
    have f0 := smp_nil hsa (k := 0) (x := s0) rfl
    exact (impl_step12 _ _ _ _ _ _ _ _ _ _ _ _ _ _ _ w c0 d0 (by omega) e0 f0).mono fun e w' h => by simpa [M.nOut, M.nNext, M.i_] using h
  case inr.inr.inr.inr.inr.inr.inr.inr.inr.inr.inr.inr.inl =>
    obtain ⟨i0, rfl⟩ := len1 (show ins.length = 1 from hil)
    have hn := hi.len
    simp only [List.length_cons, List.length_nil] at hn
    subst hn
    obtain ⟨bi, oi, rfl, hbi, hci⟩ := ri_lit hi (by omega)
    have c0 : w.cell? ⟨bi, oi, none⟩ = some (.int .i64 i0) := hci 0 _ rfl
    have e0 := smp_nil hia (k := 0) (x := i0) rfl
    have h13 := hb13 rfl
    obtain ⟨j, rfl⟩ : ∃ j : Nat, a1 = (j : Int) := ⟨a1.toNat, by omega⟩
    have hjn : j < nt := by omega
    obtain ⟨bt, ot, A1, c1, t, rfl, hbt, X, hct, hrt, -⟩ := src_cell ht (Lib.hid (fun x hx => by obtain ⟨k, hk⟩ := List.getElem?_of_mem hx; have := (M.tab_len htb hk).1; omega)) hjn
    obtain ⟨htl, -, ht4⟩ := M.tab_len htb X.out
    have hcel : M.cel tb j = t := by rw [M.cel, X.out]; rfl
    exact (impl_step_pure _ _ _ _ _ _ _ _ _ _ w (by simp) (fun W hB => impl_out13 _ _ _ _ _ _ _ _ _ _ _ _ _ _ _ _ _ t W (by rw [hB.cell hbi]; exact c0) ⟨rfl, by omega, by omega⟩ (by rw [hB.cell hbt]; exact hct) (hrt.later hB) htl)).mono fun e w' h => by simpa [M.nOut, M.nNext, M.i_, hcel] using h
  case inr.inr.inr.inr.inr.inr.inr.inr.inr.inr.inr.inr.inr.inl =>
    obtain rfl := len0 (show ins.length = 0 from hil)
    have hn := hi.len
    simp only [List.length_nil] at hn
    subst hn
    obtain ⟨s0, rfl⟩ := len1 (show s.length = 1 from hsl)
    have hm := hs.len
    simp only [List.length_cons, List.length_nil] at hm
    obtain ⟨bs, os_, rfl, hbs, hcs0⟩ := ri_lit hs (by omega)
    have d0 : w.cell? ⟨bs, os_, none⟩ = some (.int .i64 s0) := hcs0 0 _ rfl
    have f0 := smp_nil hsa (k := 0) (x := s0) rfl
    exact (impl_step14 _ _ _ _ _ _ _ _ _ _ _ _ _ w d0 (by omega) f0).mono fun e w' h => by simpa [M.nOut, M.nNext, M.i_] using h
  case inr.inr.inr.inr.inr.inr.inr.inr.inr.inr.inr.inr.inr.inr.inl =>
    obtain ⟨i0, i1, i2, rfl⟩ := len3 (show ins.length = 3 from hil)
    have hn := hi.len
    simp only [List.length_cons, List.length_nil] at hn
    subst hn
    obtain ⟨bi, oi, rfl, hbi, hci⟩ := ri_lit hi (by omega)
    have c0 : w.cell? ⟨bi, oi, none⟩ = some (.int .i64 i0) := hci 0 _ rfl
    have c1 : w.cell? ⟨bi, oi + 1, none⟩ = some (.int .i64 i1) := hci 1 _ rfl
    have c2 : w.cell? ⟨bi, oi + 2, none⟩ = some (.int .i64 i2) := hci 2 _ rfl
    have e0 := smp_nil hia (k := 0) (x := i0) rfl
    have e1 := smp_nil hia (k := 1) (x := i1) rfl
    have e2 := smp_nil hia (k := 2) (x := i2) rfl
    exact (impl_step_pure _ _ _ _ _ _ _ _ _ _ w (by simp) (fun W hB => impl_out15 _ _ _ _ _ _ _ _ _ _ _  _ _ _ W (by rw [hB.cell hbi]; exact c0) (by rw [hB.cell hbi]; exact c1) (by rw [hB.cell hbi]; exact c2) ⟨e0.1, e0.2, e1.1, e1.2, e2.1, e2.2⟩)).mono fun e w' h => by simpa [M.nOut, M.nNext, M.i_] using h
  case inr.inr.inr.inr.inr.inr.inr.inr.inr.inr.inr.inr.inr.inr.inr.inl =>
    obtain ⟨i0, i1, rfl⟩ := len2 (show ins.length = 2 from hil)
    have hn := hi.len
    simp only [List.length_cons, List.length_nil] at hn
    subst hn
    obtain ⟨bi, oi, rfl, hbi, hci⟩ := ri_lit hi (by omega)
    have c0 : w.cell? ⟨bi, oi, none⟩ = some (.int .i64 i0) := hci 0 _ rfl
    have c1 : w.cell? ⟨bi, oi + 1, none⟩ = some (.int .i64 i1) := hci 1 _ rfl
    have e0 := smp_nil hia (k := 0) (x := i0) rfl
    have e1 := smp_nil hia (k := 1) (x := i1) rfl
    obtain ⟨s0, rfl⟩ := len1 (show s.length = 1 from hsl)
    have hm := hs.len
    simp only [List.length_cons, List.length_nil] at hm
    obtain ⟨bs, os_, rfl, hbs, hcs0⟩ := ri_lit hs (by omega)
    have d0 : w.cell? ⟨bs, os_, none⟩ = some (.int .i64 s0) := hcs0 0 _ rfl
    have f0 := smp_nil hsa (k := 0) (x := s0) rfl
    exact (impl_step16 _ _ _ _ _ _ _ _ _ _ _ _ _ _ _ _ w c0 c1 d0 (by omega) ⟨e0.1, e0.2, e1.1, e1.2⟩ f0).mono fun e w' h => by simpa [M.nOut, M.nNext, M.i_] using h
  case inr.inr.inr.inr.inr.inr.inr.inr.inr.inr.inr.inr.inr.inr.inr.inr =>
    obtain ⟨i0, rfl⟩ := len1 (show ins.length = 1 from hil)
    have hn := hi.len
    simp only [List.length_cons, List.length_nil] at hn
    subst hn
    obtain ⟨bi, oi, rfl, hbi, hci⟩ := ri_lit hi (by omega)
    have c0 : w.cell? ⟨bi, oi, none⟩ = some (.int .i64 i0) := hci 0 _ rfl
    have e0 := smp_nil hia (k := 0) (x := i0) rfl
    have hsl2 : s.length = a2.toNat := hsl
    have hsr := h17 rfl
    obtain ⟨s0, ss, rfl⟩ := cons_of (xs := s) (by omega)
    have hm := hs.len
    simp only [List.length_cons] at hm hsl2
    obtain ⟨bs, os_, rfl, hbs, hcs0⟩ := ri_lit hs (by omega)
    have d0 : w.cell? ⟨bs, os_, none⟩ = some (.int .i64 s0) := hcs0 0 _ rfl
    have f0 := smp_nil hsa (k := 0) (x := s0) rfl
    exact (impl_step17 _ _ _ _ _ _ _ _ _ _ _ _ _ _ _ _ w c0 hs (by omega) hcs (hb17 rfl) e0 f0).mono fun e w' h => by simpa [M.nOut, M.nNext, M.i_] using h
theorem spec_l06Out (bn on_ : Nat) (a0 a1 a2 : Int) (xs : List Int) (At : Option Addr) (nt ct : Nat) (tb : List (List Int)) (Ai : Option Addr) (ni ci : Nat) (ins : List Int) (As : Option Addr) (ns cs : Nat) (s : List Int) (w : World) (ht : RS tS w w.heap.size (.slice At nt ct) tb) (htb : M.tabsOk tb = true) (hi : RI w w.heap.size Ai ni ins) (hs : RI w w.heap.size As ns s) (hcs : ns ≤ cs)
    (hok : M.nodeOk (a0, a1, a2, xs) nt = true) (hil : ins.length = M.insLen a0) (hia : ins.all M.smp = true) (hsl : s.length = M.stLen (a0, a1, a2, xs)) (hsa : s.all M.smp = true) (p0 : w.cell? ⟨bn, on_, none⟩ = some (.int .i64 a0)) (p1 : w.cell? ⟨bn, on_ + 1, none⟩ = some (.int .i64 a1)) :
    Calls Tryz.prog 193 #[.pointer (some ⟨bn, on_, none⟩), .slice At nt ct, .slice Ai ni ci, .slice As ns cs] w fun e w' => e = .returned (.int .i64 (M.nOut (a0, a1, a2, xs) tb ins s)) ∧ Below w.heap.size w w' := by
  obtain ⟨hk, h6, h17⟩ := M.nodeOk_start hok
  obtain ⟨hb5, hb10, hb11, hb13, hb17, -⟩ := M.node_a hok
  have hnt : tb.length = nt := ht.cap.1
  simp only at hk h6 h17
  rcases M.kind_cases hk with rfl | rfl | rfl | rfl | rfl | rfl | rfl | rfl | rfl | rfl | rfl | rfl | rfl | rfl | rfl | rfl | rfl
  case inl =>
    obtain ⟨i0, rfl⟩ := len1 (show ins.length = 1 from hil)
    have hn := hi.len
    simp only [List.length_cons, List.length_nil] at hn
    subst hn
    obtain ⟨bi, oi, rfl, hbi, hci⟩ := ri_lit hi (by omega)
    have c0 : w.cell? ⟨bi, oi, none⟩ = some (.int .i64 i0) := hci 0 _ rfl
    have e0 := smp_nil hia (k := 0) (x := i0) rfl
    exact (spec_out1 _ _ _ _ _ _ _ _ _ _ _ _ _ w c0 p0 p1).mono fun e w' h => by simpa [M.nOut, M.nNext, M.i_] using h
  case inr.inl =>
    obtain rfl := len0 (show ins.length = 0 from hil)
    have hn := hi.len
    simp only [List.length_nil] at hn
    subst hn
    exact (spec_out2 _ _ _ _ _ _ _ _ _ _ _ w  p0 p1).mono fun e w' h => by simpa [M.nOut, M.nNext, M.i_] using h
  case inr.inr.inl =>
    obtain ⟨i0, i1, rfl⟩ := len2 (show ins.length = 2 from hil)
    have hn := hi.len
    simp only [List.length_cons, List.length_nil] at hn
    subst hn
    obtain ⟨bi, oi, rfl, hbi, hci⟩ := ri_lit hi (by omega)
    have c0 : w.cell? ⟨bi, oi, none⟩ = some (.int .i64 i0) := hci 0 _ rfl
    have c1 : w.cell? ⟨bi, oi + 1, none⟩ = some (.int .i64 i1) := hci 1 _ rfl
    have e0 := smp_nil hia (k := 0) (x := i0) rfl
    have e1 := smp_nil hia (k := 1) (x := i1) rfl
    exact (spec_out3 _ _ _ _ _ _ _ _ _ _ _ _ _ _ w c0 c1 ⟨e0.1, e0.2, e1.1, e1.2⟩ p0 p1).mono fun e w' h => by simpa [M.nOut, M.nNext, M.i_] using h
  case inr.inr.inr.inl =>
    obtain ⟨i0, i1, rfl⟩ := len2 (show ins.length = 2 from hil)
    have hn := hi.len
    simp only [List.length_cons, List.length_nil] at hn
    subst hn
    obtain ⟨bi, oi, rfl, hbi, hci⟩ := ri_lit hi (by omega)
    have c0 : w.cell? ⟨bi, oi, none⟩ = some (.int .i64 i0) := hci 0 _ rfl
    have c1 : w.cell? ⟨bi, oi + 1, none⟩ = some (.int .i64 i1) := hci 1 _ rfl
    have e0 := smp_nil hia (k := 0) (x := i0) rfl
    have e1 := smp_nil hia (k := 1) (x := i1) rfl
    exact (spec_out4 _ _ _ _ _ _ _ _ _ _ _ _ _ _ w c0 c1 ⟨e0.1, e0.2, e1.1, e1.2⟩ p0 p1).mono fun e w' h => by simpa [M.nOut, M.nNext, M.i_] using h
  case inr.inr.inr.inr.inl =>
    obtain ⟨i0, rfl⟩ := len1 (show ins.length = 1 from hil)
    have hn := hi.len
    simp only [List.length_cons, List.length_nil] at hn
    subst hn
    obtain ⟨bi, oi, rfl, hbi, hci⟩ := ri_lit hi (by omega)
    have c0 : w.cell? ⟨bi, oi, none⟩ = some (.int .i64 i0) := hci 0 _ rfl
    have e0 := smp_nil hia (k := 0) (x := i0) rfl
    exact (spec_out5 _ _ _ _ _ _ _ _ _ _ _ _ _ w c0 (hb5 rfl) e0 p0 p1).mono fun e w' h => by simpa [M.nOut, M.nNext, M.i_] using h
  case inr.inr.inr.inr.inr.inl =>
    obtain ⟨i0, rfl⟩ := len1 (show ins.length = 1 from hil)
    have hn := hi.len
    simp only [List.length_cons, List.length_nil] at hn
    subst hn
    obtain ⟨bi, oi, rfl, hbi, hci⟩ := ri_lit hi (by omega)
    have c0 : w.cell? ⟨bi, oi, none⟩ = some (.int .i64 i0) := hci 0 _ rfl
    have e0 := smp_nil hia (k := 0) (x := i0) rfl
    have hsl2 : s.length = a1.toNat := hsl
    have hsr := h6 rfl
    obtain ⟨s0, ss, rfl⟩ := cons_of (xs := s) (by omega)
    have hm := hs.len
    simp only [List.length_cons] at hm hsl2
    obtain ⟨bs, os_, rfl, hbs, hcs0⟩ := ri_lit hs (by omega)
    have d0 : w.cell? ⟨bs, os_, none⟩ = some (.int .i64 s0) := hcs0 0 _ rfl
    have f0 := smp_nil hsa (k := 0) (x := s0) rfl
    exact (spec_out6 _ _ _ _ _ _ _ _ _ _ _ _ _ _ _ w c0 d0 (by omega) e0 f0 p0 p1).mono fun e w' h => by simpa [M.nOut, M.nNext, M.i_] using h
  case inr.inr.inr.inr.inr.inr.inl =>
    obtain ⟨i0, rfl⟩ := len1 (show ins.length = 1 from hil)
    have hn := hi.len
    simp only [List.length_cons, List.length_nil] at hn
    subst hn
    obtain ⟨bi, oi, rfl, hbi, hci⟩ := ri_lit hi (by omega)
    have c0 : w.cell? ⟨bi, oi, none⟩ = some (.int .i64 i0) := hci 0 _ rfl
    have e0 := smp_nil hia (k := 0) (x := i0) rfl
    obtain ⟨s0, rfl⟩ := len1 (show s.length = 1 from hsl)
    have hm := hs.len
    simp only [List.length_cons, List.length_nil] at hm
    obtain ⟨bs, os_, rfl, hbs, hcs0⟩ := ri_lit hs (by omega)
    have d0 : w.cell? ⟨bs, os_, none⟩ = some (.int .i64 s0) := hcs0 0 _ rfl
    have f0 := smp_nil hsa (k := 0) (x := s0) rfl
    exact (spec_out7 _ _ _ _ _ _ _ _ _ _ _ _ _ _ _ w c0 d0 (by omega) e0 f0 p0 p1).mono fun e w' h => by simpa [M.nOut, M.nNext, M.i_] using h
  case inr.inr.inr.inr.inr.inr.inr.inl =>
    obtain ⟨i0, rfl⟩ := len1 (show ins.length = 1 from hil)
    have hn := hi.len
    simp only [List.length_cons, List.length_nil] at hn
    subst hn
    obtain ⟨bi, oi, rfl, hbi, hci⟩ := ri_lit hi (by omega)
    have c0 : w.cell? ⟨bi, oi, none⟩ = some (.int .i64 i0) := hci 0 _ rfl
    have e0 := smp_nil hia (k := 0) (x := i0) rfl
    obtain ⟨s0, rfl⟩ := len1 (show s.length = 1 from hsl)
    have hm := hs.len
    simp only [List.length_cons, List.length_nil] at hm
    obtain ⟨bs, os_, rfl, hbs, hcs0⟩ := ri_lit hs (by omega)
    have d0 : w.cell? ⟨bs, os_, none⟩ = some (.int .i64 s0) := hcs0 0 _ rfl
    have f0 := smp_nil hsa (k := 0) (x := s0) rfl
    exact (spec_out8 _ _ _ _ _ _ _ _ _ _ _ _ _ _ _ w c0 d0 (by omega) e0 f0 p0 p1).mono fun e w' h => by simpa [M.nOut, M.nNext, M.i_] using h
  case inr.inr.inr.inr.inr.inr.inr.inr.inl =>
    obtain ⟨i0, i1, rfl⟩ := len2 (show ins.length = 2 from hil)
    have hn := hi.len
    simp only [List.length_cons, List.length_nil] at hn
    subst hn
    obtain ⟨bi, oi, rfl, hbi, hci⟩ := ri_lit hi (by omega)
    have c0 : w.cell? ⟨bi, oi, none⟩ = some (.int .i64 i0) := hci 0 _ rfl
    have c1 : w.cell? ⟨bi, oi + 1, none⟩ = some (.int .i64 i1) := hci 1 _ rfl
    have e0 := smp_nil hia (k := 0) (x := i0) rfl
    have e1 := smp_nil hia (k := 1) (x := i1) rfl
    exact (spec_out9 _ _ _ _ _ _ _ _ _ _ _ _ _ _ w c0 c1 ⟨e0.1, e0.2, e1.1, e1.2⟩ p0 p1).mono fun e w' h => by simpa [M.nOut, M.nNext, M.i_] using h
  case inr.inr.inr.inr.inr.inr.inr.inr.inr.inl =>
    obtain ⟨i0, rfl⟩ := len1 (show ins.length = 1 from hil)
    have hn := hi.len
    simp only [List.length_cons, List.length_nil] at hn
    subst hn
    obtain ⟨bi, oi, rfl, hbi, hci⟩ := ri_lit hi (by omega)
    have c0 : w.cell? ⟨bi, oi, none⟩ = some (.int .i64 i0) := hci 0 _ rfl
    have e0 := smp_nil hia (k := 0) (x := i0) rfl
    exact (spec_out10 _ _ _ _ _ _ _ _ _ _ _ _ _ w c0 (hb10 rfl) e0 p0 p1).mono fun e w' h => by simpa [M.nOut, M.nNext, M.i_] using h
  case inr.inr.inr.inr.inr.inr.inr.inr.inr.inr.inl =>
    obtain ⟨i0, rfl⟩ := len1 (show ins.length = 1 from hil)
    have hn := hi.len
    simp only [List.length_cons, List.length_nil] at hn
    subst hn
    obtain ⟨bi, oi, rfl, hbi, hci⟩ := ri_lit hi (by omega)
    have c0 : w.cell? ⟨bi, oi, none⟩ = some (.int .i64 i0) := hci 0 _ rfl
    have e0 := smp_nil hia (k := 0) (x := i0) rfl
    exact (spec_out11 _ _ _ _ _ _ _ _ _ _ _ _ _ w c0 (hb11 rfl) e0 p0 p1).mono fun e w' h => by simpa [M.nOut, M.nNext, M.i_] using h
  case inr.inr.inr.inr.inr.inr.inr.inr.inr.inr.inr.inl =>
    obtain ⟨i0, rfl⟩ := len1 (show ins.length = 1 from hil)
    have hn := hi.len
    simp only [List.length_cons, List.length_nil] at hn
    subst hn
    obtain ⟨bi, oi, rfl, hbi, hci⟩ := ri_lit hi (by omega)
    have c0 : w.cell? ⟨bi, oi, none⟩ = some (.int .i64 i0) := hci 0 _ rfl
    have e0 := smp_nil hia (k := 0) (x := i0) rfl
    obtain ⟨s0, rfl⟩ := len1 (show s.length = 1 from hsl)
    have hm := hs.len
    simp only [List.length_cons, List.length_nil] at hm
    obtain ⟨bs, os_, rfl, hbs, hcs0⟩ := ri_lit hs (by omega)
    have d0 : w.cell? ⟨bs, os_, none⟩ = some (.int .i64 s0) := hcs0 0 _ rfl
    have f0 := smp_nil hsa (k := 0) (x := s0) rfl
    exact (spec_out12 _ _ _ _ _ _ _ _ _ _ _ _ _ _ _ w c0 d0 (by omega) e0 f0 p0 p1).mono fun e w' h => by simpa [M.nOut, M.nNext, M.i_] using h
  case inr.inr.inr.inr.inr.inr.inr.inr.inr.inr.inr.inr.inl =>
    obtain ⟨i0, rfl⟩ := len1 (show ins.length = 1 from hil)
    have hn := hi.len
    simp only [List.length_cons, List.length_nil] at hn
    subst hn
    obtain ⟨bi, oi, rfl, hbi, hci⟩ := ri_lit hi (by omega)
    have c0 : w.cell? ⟨bi, oi, none⟩ = some (.int .i64 i0) := hci 0 _ rfl
    have e0 := smp_nil hia (k := 0) (x := i0) rfl
    have h13 := hb13 rfl
    obtain ⟨j, rfl⟩ : ∃ j : Nat, a1 = (j : Int) := ⟨a1.toNat, by omega⟩
    have hjn : j < nt := by omega
    obtain ⟨bt, ot, A1, c1, t, rfl, hbt, X, hct, hrt, -⟩ := src_cell ht (Lib.hid (fun x hx => by obtain ⟨k, hk⟩ := List.getElem?_of_mem hx; have := (M.tab_len htb hk).1; omega)) hjn
    obtain ⟨htl, -, ht4⟩ := M.tab_len htb X.out
    have hcel : M.cel tb j = t := by rw [M.cel, X.out]; rfl
    exact (spec_out13 _ _ _ _ _ _ _ _ _ _ _ _ _ _ _ _ _ _ _ w c0 ⟨rfl, by omega, by omega⟩ hct hrt htl p0 p1).mono fun e w' h => by simpa [M.nOut, M.nNext, M.i_, hcel] using h
  case inr.inr.inr.inr.inr.inr.inr.inr.inr.inr.inr.inr.inr.inl =>
    obtain rfl := len0 (show ins.length = 0 from hil)
    have hn := hi.len
    simp only [List.length_nil] at hn
    subst hn
    obtain ⟨s0, rfl⟩ := len1 (show s.length = 1 from hsl)
    have hm := hs.len
    simp only [List.length_cons, List.length_nil] at hm
    obtain ⟨bs, os_, rfl, hbs, hcs0⟩ := ri_lit hs (by omega)
    have d0 : w.cell? ⟨bs, os_, none⟩ = some (.int .i64 s0) := hcs0 0 _ rfl
    have f0 := smp_nil hsa (k := 0) (x := s0) rfl
    exact (spec_out14 _ _ _ _ _ _ _ _ _ _ _ _ _ w d0 (by omega) f0 p0 p1).mono fun e w' h => by simpa [M.nOut, M.nNext, M.i_] using h
  case inr.inr.inr.inr.inr.inr.inr.inr.inr.inr.inr.inr.inr.inr.inl =>
    obtain ⟨i0, i1, i2, rfl⟩ := len3 (show ins.length = 3 from hil)
    have hn := hi.len
    simp only [List.length_cons, List.length_nil] at hn
    subst hn
    obtain ⟨bi, oi, rfl, hbi, hci⟩ := ri_lit hi (by omega)
    have c0 : w.cell? ⟨bi, oi, none⟩ = some (.int .i64 i0) := hci 0 _ rfl
    have c1 : w.cell? ⟨bi, oi + 1, none⟩ = some (.int .i64 i1) := hci 1 _ rfl
    have c2 : w.cell? ⟨bi, oi + 2, none⟩ = some (.int .i64 i2) := hci 2 _ rfl
    have e0 := smp_nil hia (k := 0) (x := i0) rfl
    have e1 := smp_nil hia (k := 1) (x := i1) rfl
    have e2 := smp_nil hia (k := 2) (x := i2) rfl
    exact (spec_out15 _ _ _ _ _ _ _ _ _ _ _ _ _ _ _ w c0 c1 c2 ⟨e0.1, e0.2, e1.1, e1.2, e2.1, e2.2⟩ p0 p1).mono fun e w' h => by simpa [M.nOut, M.nNext, M.i_] using h
  case inr.inr.inr.inr.inr.inr.inr.inr.inr.inr.inr.inr.inr.inr.inr.inl =>
    obtain ⟨i0, i1, rfl⟩ := len2 (show ins.length = 2 from hil)
    have hn := hi.len
    simp only [List.length_cons, List.length_nil] at hn
    subst hn
    obtain ⟨bi, oi, rfl, hbi, hci⟩ := ri_lit hi (by omega)
    have c0 : w.cell? ⟨bi, oi, none⟩ = some (.int .i64 i0) := hci 0 _ rfl
    have c1 : w.cell? ⟨bi, oi + 1, none⟩ = some (.int .i64 i1) := hci 1 _ rfl
    have e0 := smp_nil hia (k := 0) (x := i0) rfl
    have e1 := smp_nil hia (k := 1) (x := i1) rfl
    obtain ⟨s0, rfl⟩ := len1 (show s.length = 1 from hsl)
    have hm := hs.len
    simp only [List.length_cons, List.length_nil] at hm
    obtain ⟨bs, os_, rfl, hbs, hcs0⟩ := ri_lit hs (by omega)
    have d0 : w.cell? ⟨bs, os_, none⟩ = some (.int .i64 s0) := hcs0 0 _ rfl
    have f0 := smp_nil hsa (k := 0) (x := s0) rfl
    exact (spec_out16 _ _ _ _ _ _ _ _ _ _ _ _ _ _ _ _ w c0 c1 d0 (by omega) ⟨e0.1, e0.2, e1.1, e1.2⟩ f0 p0 p1).mono fun e w' h => by simpa [M.nOut, M.nNext, M.i_] using h
  case inr.inr.inr.inr.inr.inr.inr.inr.inr.inr.inr.inr.inr.inr.inr.inr =>
    obtain ⟨i0, rfl⟩ := len1 (show ins.length = 1 from hil)
    have hn := hi.len
    simp only [List.length_cons, List.length_nil] at hn
    subst hn
    obtain ⟨bi, oi, rfl, hbi, hci⟩ := ri_lit hi (by omega)
    have c0 : w.cell? ⟨bi, oi, none⟩ = some (.int .i64 i0) := hci 0 _ rfl
    have e0 := smp_nil hia (k := 0) (x := i0) rfl
    have hsl2 : s.length = a2.toNat := hsl
    have hsr := h17 rfl
    obtain ⟨s0, ss, rfl⟩ := cons_of (xs := s) (by omega)
    have hm := hs.len
    simp only [List.length_cons] at hm hsl2
    obtain ⟨bs, os_, rfl, hbs, hcs0⟩ := ri_lit hs (by omega)
    have d0 : w.cell? ⟨bs, os_, none⟩ = some (.int .i64 s0) := hcs0 0 _ rfl
    have f0 := smp_nil hsa (k := 0) (x := s0) rfl
    exact (spec_out17 _ _ _ _ _ _ _ _ _ _ _ _ _ _ _ w c0 d0 (by omega) (hb17 rfl) e0 f0 p0 p1).mono fun e w' h => by simpa [M.nOut, M.nNext, M.i_] using h
theorem spec_l06Next (bn on_ : Nat) (a0 a1 a2 : Int) (xs : List Int) (At : Option Addr) (nt ct : Nat) (tb : List (List Int)) (Ai : Option Addr) (ni ci : Nat) (ins : List Int) (As : Option Addr) (ns cs : Nat) (s : List Int) (w : World) (ht : RS tS w w.heap.size (.slice At nt ct) tb) (htb : M.tabsOk tb = true) (hi : RI w w.heap.size Ai ni ins) (hs : RI w w.heap.size As ns s) (hcs : ns ≤ cs)
    (hok : M.nodeOk (a0, a1, a2, xs) nt = true) (hil : ins.length = M.insLen a0) (hia : ins.all M.smp = true) (hsl : s.length = M.stLen (a0, a1, a2, xs)) (hsa : s.all M.smp = true) (p0 : w.cell? ⟨bn, on_, none⟩ = some (.int .i64 a0)) :
    Calls Tryz.prog 195 #[.pointer (some ⟨bn, on_, none⟩), .slice Ai ni ci, .slice As ns cs, .int .i64 (M.nOut (a0, a1, a2, xs) tb ins s)] w (Ret1 2 w (M.nNext (a0, a1, a2, xs) ins s (M.nOut (a0, a1, a2, xs) tb ins s))) := by
  generalize M.nOut (a0, a1, a2, xs) tb ins s = out
  obtain ⟨hk, h6, h17⟩ := M.nodeOk_start hok
  obtain ⟨hb5, hb10, hb11, hb13, hb17, -⟩ := M.node_a hok
  have hnt : tb.length = nt := ht.cap.1
  simp only at hk h6 h17
  rcases M.kind_cases hk with rfl | rfl | rfl | rfl | rfl | rfl | rfl | rfl | rfl | rfl | rfl | rfl | rfl | rfl | rfl | rfl | rfl
  case inl =>
    exact (spec_next_pure _ _ _ _ _ _ w p0 (by simp)).mono fun e w' h => by simpa [M.nOut, M.nNext, M.i_] using h
  case inr.inl =>
    exact (spec_next_pure _ _ _ _ _ _ w p0 (by simp)).mono fun e w' h => by simpa [M.nOut, M.nNext, M.i_] using h
  case inr.inr.inl =>
    exact (spec_next_pure _ _ _ _ _ _ w p0 (by simp)).mono fun e w' h => by simpa [M.nOut, M.nNext, M.i_] using h
  case inr.inr.inr.inl =>
    exact (spec_next_pure _ _ _ _ _ _ w p0 (by simp)).mono fun e w' h => by simpa [M.nOut, M.nNext, M.i_] using h
  case inr.inr.inr.inr.inl =>
    exact (spec_next_pure _ _ _ _ _ _ w p0 (by simp)).mono fun e w' h => by simpa [M.nOut, M.nNext, M.i_] using h
  case inr.inr.inr.inr.inr.inl =>
    obtain ⟨i0, rfl⟩ := len1 (show ins.length = 1 from hil)
    have hn := hi.len
    simp only [List.length_cons, List.length_nil] at hn
    subst hn
    obtain ⟨bi, oi, rfl, hbi, hci⟩ := ri_lit hi (by omega)
    have c0 : w.cell? ⟨bi, oi, none⟩ = some (.int .i64 i0) := hci 0 _ rfl
    have e0 := smp_nil hia (k := 0) (x := i0) rfl
    have hsl2 : s.length = a1.toNat := hsl
    have hsr := h6 rfl
    obtain ⟨s0, ss, rfl⟩ := cons_of (xs := s) (by omega)
    have hm := hs.len
    simp only [List.length_cons] at hm hsl2
    obtain ⟨bs, os_, rfl, hbs, hcs0⟩ := ri_lit hs (by omega)
    have d0 : w.cell? ⟨bs, os_, none⟩ = some (.int .i64 s0) := hcs0 0 _ rfl
    have f0 := smp_nil hsa (k := 0) (x := s0) rfl
    exact (spec_next6 _ _ _ _ _ _ _ _ _ _ _ _ out w p0 c0 hs (by omega) hcs).mono fun e w' h => by simpa [M.nOut, M.nNext, M.i_] using h
  case inr.inr.inr.inr.inr.inr.inl =>
    obtain ⟨i0, rfl⟩ := len1 (show ins.length = 1 from hil)
    have hn := hi.len
    simp only [List.length_cons, List.length_nil] at hn
    subst hn
    obtain ⟨bi, oi, rfl, hbi, hci⟩ := ri_lit hi (by omega)
    have c0 : w.cell? ⟨bi, oi, none⟩ = some (.int .i64 i0) := hci 0 _ rfl
    have e0 := smp_nil hia (k := 0) (x := i0) rfl
    obtain ⟨s0, rfl⟩ := len1 (show s.length = 1 from hsl)
    have hm := hs.len
    simp only [List.length_cons, List.length_nil] at hm
    obtain ⟨bs, os_, rfl, hbs, hcs0⟩ := ri_lit hs (by omega)
    have d0 : w.cell? ⟨bs, os_, none⟩ = some (.int .i64 s0) := hcs0 0 _ rfl
    have f0 := smp_nil hsa (k := 0) (x := s0) rfl
    exact (spec_next7 _ _ _ (0 : Int) _ (0 : Int) out w p0).mono fun e w' h => by simpa [M.nOut, M.nNext, M.i_] using h
  case inr.inr.inr.inr.inr.inr.inr.inl =>
    obtain ⟨i0, rfl⟩ := len1 (show ins.length = 1 from hil)
    have hn := hi.len
    simp only [List.length_cons, List.length_nil] at hn
    subst hn
    obtain ⟨bi, oi, rfl, hbi, hci⟩ := ri_lit hi (by omega)
    have c0 : w.cell? ⟨bi, oi, none⟩ = some (.int .i64 i0) := hci 0 _ rfl
    have e0 := smp_nil hia (k := 0) (x := i0) rfl
    obtain ⟨s0, rfl⟩ := len1 (show s.length = 1 from hsl)
    have hm := hs.len
    simp only [List.length_cons, List.length_nil] at hm
    obtain ⟨bs, os_, rfl, hbs, hcs0⟩ := ri_lit hs (by omega)
    have d0 : w.cell? ⟨bs, os_, none⟩ = some (.int .i64 s0) := hcs0 0 _ rfl
    have f0 := smp_nil hsa (k := 0) (x := s0) rfl
    exact (spec_next8 _ _ _ _ _ _ _ (0 : Int) out w p0 c0).mono fun e w' h => by simpa [M.nOut, M.nNext, M.i_] using h
  case inr.inr.inr.inr.inr.inr.inr.inr.inl =>
    exact (spec_next_pure _ _ _ _ _ _ w p0 (by simp)).mono fun e w' h => by simpa [M.nOut, M.nNext, M.i_] using h
  case inr.inr.inr.inr.inr.inr.inr.inr.inr.inl =>
    exact (spec_next_pure _ _ _ _ _ _ w p0 (by simp)).mono fun e w' h => by simpa [M.nOut, M.nNext, M.i_] using h
  case inr.inr.inr.inr.inr.inr.inr.inr.inr.inr.inl =>
    exact (spec_next_pure _ _ _ _ _ _ w p0 (by simp)).mono fun e w' h => by simpa [M.nOut, M.nNext, M.i_] using h
  case inr.inr.inr.inr.inr.inr.inr.inr.inr.inr.inr.inl =>
    obtain ⟨i0, rfl⟩ := len1 (show ins.length = 1 from hil)
    have hn := hi.len
    simp only [List.length_cons, List.length_nil] at hn
    subst hn
    obtain ⟨bi, oi, rfl, hbi, hci⟩ := ri_lit hi (by omega)
    have c0 : w.cell? ⟨bi, oi, none⟩ = some (.int .i64 i0) := hci 0 _ rfl
    have e0 := smp_nil hia (k := 0) (x := i0) rfl
    obtain ⟨s0, rfl⟩ := len1 (show s.length = 1 from hsl)
    have hm := hs.len
    simp only [List.length_cons, List.length_nil] at hm
    obtain ⟨bs, os_, rfl, hbs, hcs0⟩ := ri_lit hs (by omega)
    have d0 : w.cell? ⟨bs, os_, none⟩ = some (.int .i64 s0) := hcs0 0 _ rfl
    have f0 := smp_nil hsa (k := 0) (x := s0) rfl
    exact (spec_next12 _ _ _ _ _ _ _ _ _ _ _ out w p0 c0 d0 (by omega)).mono fun e w' h => by simpa [M.nOut, M.nNext, M.i_] using h
  case inr.inr.inr.inr.inr.inr.inr.inr.inr.inr.inr.inr.inl =>
    exact (spec_next_pure _ _ _ _ _ _ w p0 (by simp)).mono fun e w' h => by simpa [M.nOut, M.nNext, M.i_] using h
  case inr.inr.inr.inr.inr.inr.inr.inr.inr.inr.inr.inr.inr.inl =>
    obtain rfl := len0 (show ins.length = 0 from hil)
    have hn := hi.len
    simp only [List.length_nil] at hn
    subst hn
    obtain ⟨s0, rfl⟩ := len1 (show s.length = 1 from hsl)
    have hm := hs.len
    simp only [List.length_cons, List.length_nil] at hm
    obtain ⟨bs, os_, rfl, hbs, hcs0⟩ := ri_lit hs (by omega)
    have d0 : w.cell? ⟨bs, os_, none⟩ = some (.int .i64 s0) := hcs0 0 _ rfl
    have f0 := smp_nil hsa (k := 0) (x := s0) rfl
    exact (spec_next14 _ _ _ (0 : Int) _ _ _ _ _ out w p0 d0 (by omega)).mono fun e w' h => by simpa [M.nOut, M.nNext, M.i_] using h
  case inr.inr.inr.inr.inr.inr.inr.inr.inr.inr.inr.inr.inr.inr.inl =>
    exact (spec_next_pure _ _ _ _ _ _ w p0 (by simp)).mono fun e w' h => by simpa [M.nOut, M.nNext, M.i_] using h
  case inr.inr.inr.inr.inr.inr.inr.inr.inr.inr.inr.inr.inr.inr.inr.inl =>
    obtain ⟨i0, i1, rfl⟩ := len2 (show ins.length = 2 from hil)
    have hn := hi.len
    simp only [List.length_cons, List.length_nil] at hn
    subst hn
    obtain ⟨bi, oi, rfl, hbi, hci⟩ := ri_lit hi (by omega)
    have c0 : w.cell? ⟨bi, oi, none⟩ = some (.int .i64 i0) := hci 0 _ rfl
    have c1 : w.cell? ⟨bi, oi + 1, none⟩ = some (.int .i64 i1) := hci 1 _ rfl
    have e0 := smp_nil hia (k := 0) (x := i0) rfl
    have e1 := smp_nil hia (k := 1) (x := i1) rfl
    obtain ⟨s0, rfl⟩ := len1 (show s.length = 1 from hsl)
    have hm := hs.len
    simp only [List.length_cons, List.length_nil] at hm
    obtain ⟨bs, os_, rfl, hbs, hcs0⟩ := ri_lit hs (by omega)
    have d0 : w.cell? ⟨bs, os_, none⟩ = some (.int .i64 s0) := hcs0 0 _ rfl
    have f0 := smp_nil hsa (k := 0) (x := s0) rfl
    exact (spec_next16 _ _ _ (0 : Int) _ (0 : Int) out w p0).mono fun e w' h => by simpa [M.nOut, M.nNext, M.i_] using h
  case inr.inr.inr.inr.inr.inr.inr.inr.inr.inr.inr.inr.inr.inr.inr.inr =>
    obtain ⟨i0, rfl⟩ := len1 (show ins.length = 1 from hil)
    have hn := hi.len
    simp only [List.length_cons, List.length_nil] at hn
    subst hn
    obtain ⟨bi, oi, rfl, hbi, hci⟩ := ri_lit hi (by omega)
    have c0 : w.cell? ⟨bi, oi, none⟩ = some (.int .i64 i0) := hci 0 _ rfl
    have e0 := smp_nil hia (k := 0) (x := i0) rfl
    have hsl2 : s.length = a2.toNat := hsl
    have hsr := h17 rfl
    obtain ⟨s0, ss, rfl⟩ := cons_of (xs := s) (by omega)
    have hm := hs.len
    simp only [List.length_cons] at hm hsl2
    obtain ⟨bs, os_, rfl, hbs, hcs0⟩ := ri_lit hs (by omega)
    have d0 : w.cell? ⟨bs, os_, none⟩ = some (.int .i64 s0) := hcs0 0 _ rfl
    have f0 := smp_nil hsa (k := 0) (x := s0) rfl
    exact (spec_next17 _ _ _ (0 : Int) _ _ _ _ _ _ out w p0 hs (by omega) hcs).mono fun e w' h => by simpa [M.nOut, M.nNext, M.i_] using h
end Go.Proofs.YtffhodocjjkkoaaGreat
namespace Go.Proofs.YtffhodocjjkkoaaGreat
open Go.RowKit Go.Sort
set_option maxHeartbeats 4000000
set_option linter.unusedVariables false
set_option linter.unusedSimpArgs false
/-- What is known of the nodes of a patch with one input, and of its order. -/
structure M.PF (ns : List Node) (tb : List (List Int)) (O : List Int) : Prop where
  tabs : M.tabsOk tb = true
  ok : ∀ (i : Nat) (x : Node), ns[i]? = some x → M.nodeOk x tb.length = true
  fr : ∀ (i : Nat) (x : Node), ns[i]? = some x → ∀ f ∈ x.2.2.2, 0 ≤ f ∧ f < ns.length
  inp : ∀ (i : Nat) (x : Node), ns[i]? = some x → x.1 = 1 → x.2.1 = 0
  top : M.Topo ns O
  len : ns.length ≤ 24
/-- The cells of a patch's nodes. -/
structure M.CO (ns : List Node) (cs : List (List Int)) : Prop where
  len : cs.length = ns.length
  at_ : ∀ (i : Nat) (x : Node), ns[i]? = some x → (M.cel cs i).length = M.stLen x ∧ (M.cel cs i).all M.smp = true
theorem M.node_at {ns : List Node} {i : Nat} {x : Node} (h : ns[i]? = some x) : M.node ns i = x := by rw [M.node, h]; rfl
theorem M.node_lt {ns : List Node} {i : Nat} (h : i < ns.length) : ns[i]? = some (M.node ns i) := by rw [M.node, List.getElem?_eq_getElem h]; rfl
theorem M.i_smp {xs : List Int} (h : xs.all M.smp = true) (k : Nat) : M.smp (M.i_ xs k) = true := by
  rw [M.i_]
  cases e : xs[k]? with
  | none => rfl
  | some x => exact List.all_eq_true.1 h x (List.mem_of_getElem? e)
theorem M.set_smp {xs : List Int} (h : xs.all M.smp = true) (k : Nat) {y : Int} (hy : M.smp y = true) : (xs.set k y).all M.smp = true := by
  rw [List.all_eq_true] at *
  intro z hz
  rcases List.mem_or_eq_of_mem_set hz with h1 | rfl
  · exact h z h1
  · exact hy
theorem M.insN_len {x : Node} {tb : Int} (h : M.nodeOk x tb = true) (fr vs : List Int) : (M.insN x fr vs).length = M.insLen x.1 := by
  obtain ⟨k, a, b, l⟩ := x
  rw [M.insN]
  split
  · rename_i h1
    rw [M.insLen, if_pos h1]; rfl
  · rename_i h1
    rw [List.length_map]
    exact M.node_len h h1
theorem M.insN_smp {x : Node} {fr vs : List Int} (hf : fr.all M.smp = true) (hv : vs.all M.smp = true) : (M.insN x fr vs).all M.smp = true := by
  rw [M.insN]
  split
  · simp only [List.all_cons, List.all_nil, Bool.and_true]
    exact M.i_smp hf _
  · rw [List.all_map, List.all_eq_true]
    intro f _
    exact M.i_smp hv _
theorem M.smp_shift {x : Int} (h : M.smp x = true) (n : Nat) : M.smp (x / 2 ^ n) = true := by
  obtain ⟨h1, h2⟩ := smp_bd h
  have hp0 : (0 : Int) < 2 ^ n := Int.pow_pos (by decide)
  have hp : (1 : Int) ≤ 2 ^ n := by omega
  refine M.inn_iff.2 ⟨?_, ?_⟩
  · rw [Int.le_ediv_iff_mul_le (by omega)]
    have : (-2147483648 : Int) * 2 ^ n ≤ (-2147483648 : Int) * 1 := Int.mul_le_mul_of_nonpos_left (by decide) hp
    omega
  · rcases Int.lt_or_le x 0 with h0 | h0
    · have := Int.ediv_neg_of_neg_of_pos h0 (show (0 : Int) < 2 ^ n by omega)
      omega
    · have := Int.ediv_le_self (2 ^ n) h0
      omega
theorem M.look_smp {t : List Int} (h : t.all M.smp = true) (x : Int) : M.smp (M.look t x) = true := M.i_smp h _
theorem M.noise_smp (s : Int) : M.smp (M.noise s) = true := by
  rw [M.noise]
  split <;> exact M.smp_wrap _
theorem M.cel_all {tb : List (List Int)} (h : M.tabsOk tb = true) (k : Nat) : (M.cel tb k).all M.smp = true := by
  rw [M.cel]
  cases e : tb[k]? with
  | none => rfl
  | some t => exact (M.tab_len h e).2.1
theorem M.smp_maxmin {a x : Int} (h : 0 ≤ a ∧ a ≤ 2147483647) : M.smp (max (-a) (min a x)) = true := by
  refine M.inn_iff.2 ?_
  omega
theorem M.nOut_smp {x : Node} {tb : List (List Int)} {ins s : List Int} {t : Int} (hok : M.nodeOk x t = true) (ht : M.tabsOk tb = true) (hi : ins.all M.smp = true) (hs : s.all M.smp = true) : M.smp (M.nOut x tb ins s) = true := by
  obtain ⟨k, a, b, l⟩ := x
  obtain ⟨hb5, hb10, hb11, hb13, hb17, hb2, hb12, hb14, hb1⟩ := M.node_a hok
  have e0 := M.i_smp hi 0
  have e1 := M.i_smp hi 1
  have e2 := M.i_smp hi 2
  have f0 := M.i_smp hs 0
  have g2 : k = 2 → M.smp a = true := fun h => M.inn_iff.2 (hb2 h)
  obtain ⟨hk, -, -⟩ := M.nodeOk_start hok
  simp only at hk
  rcases M.kind_cases hk with rfl | rfl | rfl | rfl | rfl | rfl | rfl | rfl | rfl | rfl | rfl | rfl | rfl | rfl | rfl | rfl | rfl
  · simpa [M.nOut] using e0
  · simpa [M.nOut] using g2 rfl
  · simpa [M.nOut] using M.smp_wrap _
  · simpa [M.nOut] using M.smp_wrap _
  · simpa [M.nOut] using M.smp_wrap _
  · simpa [M.nOut] using f0
  · simpa [M.nOut] using M.smp_wrap _
  · simpa [M.nOut] using M.smp_wrap _
  · simpa [M.nOut] using M.smp_wrap _
  · have := M.smp_shift e0 a.toNat
    simpa [M.nOut] using this
  · have := M.smp_maxmin (x := M.i_ ins 0) (hb11 rfl)
    simpa [M.nOut] using this
  · simpa [M.nOut] using f0
  · have := M.look_smp (M.cel_all ht a.toNat) (M.i_ ins 0)
    simpa [M.nOut] using this
  · simpa [M.nOut] using f0
  · have : M.nOut (15, a, b, l) tb ins s = if 0 ≤ M.i_ ins 0 then M.i_ ins 1 else M.i_ ins 2 := by simp [M.nOut]
    rw [this]
    split
    · exact e1
    · exact e2
  · have : M.nOut (16, a, b, l) tb ins s = if 0 < M.i_ ins 1 then M.i_ ins 0 else M.i_ s 0 := by simp [M.nOut]
    rw [this]
    split
    · exact e0
    · exact f0
  · simpa [M.nOut] using M.smp_wrap _
theorem M.nNext_ok {x : Node} {ins s : List Int} {t out : Int} (hok : M.nodeOk x t = true) (hl : s.length = M.stLen x) (hi : ins.all M.smp = true) (hs : s.all M.smp = true) (ho : M.smp out = true) : (M.nNext x ins s out).length = M.stLen x ∧ (M.nNext x ins s out).all M.smp = true := by
  obtain ⟨k, a, b, l⟩ := x
  obtain ⟨hk, h6, h17⟩ := M.nodeOk_start hok
  have e0 := M.i_smp hi 0
  have hd : ∀ y, M.smp y = true → (s.drop 1 ++ [y]).all M.smp = true := by
    intro y hy
    rw [List.all_append]
    simp only [List.all_cons, List.all_nil, Bool.and_true, Bool.and_eq_true]
    refine ⟨?_, hy⟩
    rw [List.all_eq_true] at hs ⊢
    exact fun z hz => hs z (List.mem_of_mem_drop hz)
  simp only at hk h6 h17
  rcases M.kind_cases hk with rfl | rfl | rfl | rfl | rfl | rfl | rfl | rfl | rfl | rfl | rfl | rfl | rfl | rfl | rfl | rfl | rfl
  case inr.inr.inr.inr.inr.inl =>
    have := h6 rfl
    simp only [M.stLen, if_true] at hl
    refine ⟨?_, by simpa [M.nNext] using hd _ e0⟩
    simp [M.nNext, M.stLen]
    omega
  case inr.inr.inr.inr.inr.inr.inr.inr.inr.inr.inr.inr.inr.inr.inr.inr =>
    have := h17 rfl
    have hl2 : s.length = b.toNat := by rw [hl]; simp [M.stLen]
    refine ⟨?_, by simpa [M.nNext] using hd _ ho⟩
    simp [M.nNext, M.stLen]
    omega
  all_goals
    refine ⟨by simp [M.nNext, M.stLen], ?_⟩
    first
      | (simp [M.nNext]; done)
      | (simpa [M.nNext] using ho)
      | (simpa [M.nNext] using e0)
      | (simpa [M.nNext] using M.smp_wrap _)
      | (simpa [M.nNext] using M.noise_smp _)
theorem M.start_ok {x : Node} {t : Int} (hok : M.nodeOk x t = true) : (M.start x).length = M.stLen x ∧ (M.start x).all M.smp = true := by
  obtain ⟨k, a, b, l⟩ := x
  obtain ⟨-, -, -, -, -, -, hb12, hb14, -⟩ := M.node_a hok
  rw [M.start]
  dsimp only
  split
  · rename_i h
    subst h
    have g : M.smp a = true := M.inn_iff.2 (hb12 rfl)
    exact ⟨by simp [M.stLen], by simpa using g⟩
  split
  · rename_i h
    subst h
    have g : M.smp a = true := M.inn_iff.2 (hb14 rfl)
    exact ⟨by simp [M.stLen], by simpa using g⟩
  · refine ⟨List.length_replicate, ?_⟩
    rw [List.all_eq_true]
    intro z hz
    rw [List.eq_of_mem_replicate hz]
    rfl
section
variable {ns : List Node} {tb : List (List Int)} {fr O : List Int}
theorem M.CO.set {cs : List (List Int)} (h : M.CO ns cs) {k : Nat} {y : List Int} (hy : ∀ x, ns[k]? = some x → y.length = M.stLen x ∧ y.all M.smp = true) : M.CO ns (cs.set k y) := by
  refine ⟨by rw [List.length_set]; exact h.len, fun i x hx => ?_⟩
  by_cases hk : k = i
  · subst hk
    rw [M.cel_set_eq (by rw [h.len]; exact (List.getElem?_eq_some_iff.1 hx).1)]
    exact hy x hx
  · rw [M.cel_set_ne hk]
    exact h.at_ i x hx
theorem M.CO.start (hp : M.PF ns tb O) : M.CO ns (ns.map M.start) := by
  refine ⟨List.length_map .., fun i x hx => ?_⟩
  have : M.cel (ns.map M.start) i = M.start x := by simp [M.cel, hx]
  rw [this]
  exact M.start_ok (hp.ok i x hx)
theorem M.PF.ord (hp : M.PF ns tb O) {t : Nat} (ht : t < O.length) : ∃ x, ns[M.ordI O t]? = some x ∧ M.node ns (M.ordI O t) = x ∧ M.i_ O t = (M.ordI O t : Nat) ∧ M.ordI O t < ns.length := by
  have hr := hp.top.rng t ht
  have hi : M.ordI O t < ns.length := by show (M.i_ O t).toNat < _; omega
  exact ⟨_, M.node_lt hi, rfl, by show _ = (((M.i_ O t).toNat : Nat) : Int); omega, hi⟩
theorem M.valN_smp (hp : M.PF ns tb O) (hf : fr.all M.smp = true) {cs : List (List Int)} (hc : M.CO ns cs) {v0 : List Int} (hv : v0.all M.smp = true) : ∀ t, t ≤ O.length → (M.valN ns tb fr O cs v0 t).all M.smp = true := by
  intro t
  induction t with
  | zero => exact fun _ => hv
  | succ t ih =>
    intro ht
    obtain ⟨x, hx, e, -, hi⟩ := hp.ord (t := t) (by omega)
    rw [M.valN, e]
    have hok := hp.ok _ _ hx
    exact M.set_smp (ih (by omega)) _ (M.nOut_smp hok hp.tabs (M.insN_smp hf (ih (by omega))) (hc.at_ _ _ hx).2)
theorem M.runN_ok (hp : M.PF ns tb O) (hf : fr.all M.smp = true) {c0 : List (List Int)} (hc : M.CO ns c0) {v0 : List Int} (hv : v0.all M.smp = true) : ∀ t, t ≤ O.length → (M.runN ns tb fr O v0 c0 t).1.all M.smp = true ∧ M.CO ns (M.runN ns tb fr O v0 c0 t).2 := by
  intro t
  induction t with
  | zero => exact fun _ => ⟨hv, hc⟩
  | succ t ih =>
    intro ht
    obtain ⟨x, hx, e, -, hi⟩ := hp.ord (t := t) (by omega)
    obtain ⟨i1, i2⟩ := ih (by omega)
    have hok := hp.ok _ _ hx
    have hcx := i2.at_ _ _ hx
    have ho := M.nOut_smp (tb := tb) hok hp.tabs (M.insN_smp (x := x) hf i1) hcx.2
    rw [M.runN, e]
    split
    · exact ⟨M.set_smp i1 _ (M.i_smp hcx.2 _), i2⟩
    · refine ⟨M.set_smp i1 _ ho, i2.set fun y hy => ?_⟩
      rw [hx] at hy
      injection hy with hy
      subst hy
      exact M.nNext_ok hok hcx.1 (M.insN_smp hf i1) hcx.2 ho
theorem M.delN_ok (hp : M.PF ns tb O) (hf : fr.all M.smp = true) {c1 : List (List Int)} (hc : M.CO ns c1) {vs : List Int} (hv : vs.all M.smp = true) : ∀ t, t ≤ ns.length → M.CO ns (M.delN ns fr vs c1 t) := by
  intro t
  induction t with
  | zero => exact fun _ => hc
  | succ t ih =>
    intro ht
    have hx := M.node_lt (ns := ns) (i := t) (by omega)
    have i2 := ih (by omega)
    have hcx := i2.at_ _ _ hx
    rw [M.delN]
    split
    · refine i2.set fun y hy => ?_
      rw [hx] at hy
      injection hy with hy
      subst hy
      exact M.nNext_ok (hp.ok _ _ hx) hcx.1 (M.insN_smp hf hv) hcx.2 rfl
    · exact i2
theorem M.vals_smp (hp : M.PF ns tb O) (hf : fr.all M.smp = true) {cs : List (List Int)} (hc : M.CO ns cs) : (M.vals ns tb fr O cs).all M.smp = true := by
  refine M.valN_smp hp hf hc ?_ _ (Nat.le_refl _)
  rw [List.all_eq_true]
  intro z hz
  rw [List.eq_of_mem_replicate hz]
  rfl
theorem M.vals_len (cs : List (List Int)) : (M.vals ns tb fr O cs).length = ns.length := by rw [M.vals, M.valN_len, List.length_replicate]
theorem M.next_ok (hp : M.PF ns tb O) (hf : fr.all M.smp = true) {cs : List (List Int)} (hc : M.CO ns cs) : M.CO ns (M.next_ ns tb fr O cs) := by
  refine ⟨by rw [M.next_, List.length_map, List.length_range], fun i x hx => ?_⟩
  have hi := (List.getElem?_eq_some_iff.1 hx).1
  have hn : M.cel (M.next_ ns tb fr O cs) i = M.nNext (M.node ns i) (M.insN (M.node ns i) fr (M.vals ns tb fr O cs)) (M.cel cs i) (M.i_ (M.vals ns tb fr O cs) i) := by simp [M.next_, M.cel, hi]
  rw [hn, M.node_at hx]
  have hv := M.vals_smp (fr := fr) hp hf hc
  exact M.nNext_ok (hp.ok _ _ hx) (hc.at_ _ _ hx).1 (M.insN_smp hf hv) (hc.at_ _ _ hx).2 (M.i_smp hv _)
end
/-- The cells behind t frames of a signal. -/
def M.celsN (ns : List Node) (tb : List (List Int)) (O xs : List Int) : Nat → List (List Int)
  | 0 => ns.map M.start
  | t + 1 => M.next_ ns tb [M.at_ xs (t : Int)] O (M.celsN ns tb O xs t)
/-- The values of all nodes in frame t. -/
def M.valsN (ns : List Node) (tb : List (List Int)) (O xs : List Int) (t : Nat) : List Int := M.vals ns tb [M.at_ xs (t : Int)] O (M.celsN ns tb O xs t)
/-- A patch with one input and one output, rendered. -/
def M.playO (ns : List Node) (tb : List (List Int)) (O xs : List Int) (o : Int) (n : Nat) : List Int := (List.range n).map fun t => M.i_ (M.valsN ns tb O xs t) o.toNat
def M.play (p : Patch) (xs : List Int) (n : Nat) : List Int := M.playO p.2.2.1 p.2.1 (M.ord p.2.2.1) xs (M.i_ p.2.2.2 0) n
theorem M.playO_len (ns : List Node) (tb : List (List Int)) (O xs : List Int) (o : Int) (n : Nat) : (M.playO ns tb O xs o n).length = n := by simp [M.playO]
theorem M.playO_snoc (ns : List Node) (tb : List (List Int)) (O xs : List Int) (o : Int) (k : Nat) : M.playO ns tb O xs o (k + 1) = M.playO ns tb O xs o k ++ [M.i_ (M.valsN ns tb O xs k) o.toNat] := by simp [M.playO, List.range_succ]
theorem M.at_smp {xs : List Int} (h : xs.all M.smp = true) (i : Int) : M.smp (M.at_ xs i) = true := by
  rw [M.at_]
  split
  · exact M.i_smp h _
  · rfl
section
variable {ns : List Node} {tb : List (List Int)} {O xs : List Int}
theorem M.one_smp (h : xs.all M.smp = true) (t : Int) : [M.at_ xs t].all M.smp = true := by
  simp only [List.all_cons, List.all_nil, Bool.and_true]
  exact M.at_smp h t
theorem M.celsN_ok (hp : M.PF ns tb O) (h : xs.all M.smp = true) : ∀ t, M.CO ns (M.celsN ns tb O xs t) := by
  intro t
  induction t with
  | zero => exact M.CO.start hp
  | succ t ih => exact M.next_ok hp (M.one_smp h _) ih
theorem M.valsN_smp (hp : M.PF ns tb O) (h : xs.all M.smp = true) (t : Nat) : (M.valsN ns tb O xs t).all M.smp = true := M.vals_smp hp (M.one_smp h _) (M.celsN_ok hp h t)
theorem M.playO_smp (hp : M.PF ns tb O) (h : xs.all M.smp = true) (o : Int) (n : Nat) : (M.playO ns tb O xs o n).all M.smp = true := by
  rw [M.playO, List.all_map, List.all_eq_true]
  intro t _
  exact M.i_smp (M.valsN_smp hp h t) _
end
theorem M.PF_of {p : Patch} (h : M.patchOk p = true) (h1 : p.1 = 1) : M.PF p.2.2.1 p.2.1 (M.ord p.2.2.1) := by
  rw [M.patchOk, Bool.and_eq_true, decide_eq_true_eq] at h
  obtain ⟨hf, ho⟩ := h
  rw [M.formed] at hf
  simp only [Bool.and_eq_true, decide_eq_true_eq] at hf
  obtain ⟨⟨⟨⟨⟨g0, g1⟩, g2⟩, g3⟩, g4⟩, g5⟩ := hf
  have key : ∀ i x, p.2.2.1[i]? = some x → M.nodeF p.2.1.length p.2.2.1.length p.1 x = true := fun i x hx => List.all_eq_true.1 g5 x (List.mem_of_getElem? hx)
  refine ⟨g1, fun i x hx => ?_, fun i x hx f hf => ?_, fun i x hx he => ?_, M.topo ho, g2⟩
  · have := key i x hx
    rw [M.nodeF, Bool.and_eq_true, Bool.and_eq_true] at this
    exact this.1.1
  · have := key i x hx
    rw [M.nodeF, Bool.and_eq_true, Bool.and_eq_true] at this
    have := M.inn_iff.1 (List.all_eq_true.1 this.1.2 f hf)
    omega
  · have := key i x hx
    rw [M.nodeF, Bool.and_eq_true, Bool.and_eq_true] at this
    have h2 := this.2
    have h3 := this.1.1
    obtain ⟨k, a, b, l⟩ := x
    simp only at he
    subst he
    have h4 := (M.node_a h3).2.2.2.2.2.2.2.2 rfl
    simp [h1] at h2
    show a = 0
    omega
theorem M.outs_of {p : Patch} (h : M.patchOk p = true) : ∀ o ∈ p.2.2.2, 0 ≤ o ∧ o < p.2.2.1.length := by
  intro o ho
  rw [M.patchOk, Bool.and_eq_true, M.formed] at h
  have h := h.1
  simp only [Bool.and_eq_true, decide_eq_true_eq] at h
  have := M.inn_iff.1 (List.all_eq_true.1 h.1.2 o ho)
  omega
end Go.Proofs.YtffhodocjjkkoaaGreat
namespace Go.Proofs.YtffhodocjjkkoaaGreat
open Go.RowKit Go.Sort
set_option maxHeartbeats 2000000
set_option maxRecDepth 100000
set_option linter.unusedVariables false
set_option linter.unusedSimpArgs false
theorem impl_clones (A : Option Addr) (n c : Nat) (xs : List (List Int)) (w : World) (hx : tSS.R w w.heap.size [.slice A n c] xs) (hn : hSS.sz xs ≤ 100000000) :
    Calls Tryz.prog 174 #[.slice A n c] w fun e w' => ∃ v, e = .returned v ∧ OS tS 24 w' (Iv w.heap.size w'.heap.size) v xs ∧ Below w.heap.size w w' := by
  have rx := sl_R.1 hx
  have hl := Lib.hid rx.cap.1
  have hq1 : xs.length + hS.szL xs = hSS.sz xs := rfl
  have hb1 : Hid (∀ x ∈ xs, x.length ≤ 1000000000) := Lib.hid (fun x hx => by
    obtain ⟨i, hi⟩ := List.getElem?_of_mem hx
    have := hS.szL_at hi
    rw [hS_sz] at this
    omega)
  have hnb : n ≤ 100000000 := by have := hl.out; omega
  have hxl : xs.length ≤ 100000000 := by omega
  clear hx hn hq1
  go_enter Tryz.func174, Tryz.ntmps174
  go_wp2_with fail
  go_loopw [3, 9] (fun v i wr => ∃ k : Nat, i = .int .i64 k ∧ k ≤ n ∧ OS tS 24 wr (Iv w.heap.size wr.heap.size) v (xs.take k) ∧ Below w.heap.size w wr) (fun _ i _ => n - (intOf i).toNat)
  case atStart => exact ⟨0, rfl, by omega, OS.made0 _ _ _, (Below.refl _ _).alloc (Nat.le_refl _) _⟩
  case round =>
    obtain ⟨k, rfl, hk, own, Bw⟩ := hrel
    by_cases hlt : k < n
    · obtain ⟨bb, o, A1, c1, x, rfl, hbb, X, hc, hri, hxl2⟩ := src_cell (rx.below Bw) hb1 hlt
      have hri2 := hri.more Bw.size
      have hx9 := hb1.out x (List.mem_of_getElem? X.out)
      have hpt := Lib.hid (M.take_at X.out)
      have hpl : (xs.take k).length ≤ 100000000 := by rw [List.length_take]; omega
      have hsb := Bw.size
      go_wp2_with fail
      refine (impl_clone _ _ _ _ _ hri2 (by omega)).mono ?_
      rintro e w1 ⟨v1, rfl, own1, bel1⟩
      obtain ⟨A4, c4, rfl, -⟩ := own1.shape
      have ow := own.below bel1 (Nat.le_refl _)
      have os2 := tS_O.2 (OI.os own1)
      have s2 := bel1.size
      go_wp2_with (at_builtin; refine wpList_pushS ei_S #[.slice A4 x.length c4] rfl _ _ rfl ow os2 (Iv.apart (Nat.le_refl _)) rfl rfl (by unfold maxLen; omega) (by omega) ?_; intro v3 w4 own4 ch4)
      go_roundw
      case rel =>
        refine ⟨k + 1, by go_num, by omega, ?_, (Bw.trans (bel1.mono hsb)).trans (ch4.toBelow (fun b hb => hb.1) (by omega))⟩
        rw [hpt.out]
        exact own4.wide (Iv.grow hsb s2 ch4.size)
      case measure => simp [intOf]; omega
    · obtain rfl : k = n := by omega
      go_wp2
      go_ret
      rw [List.take_of_length_le (by rw [hl.out]; exact Nat.le_refl _)] at own
      exact ⟨_, rfl, own, Bw⟩
end Go.Proofs.YtffhodocjjkkoaaGreat
namespace Go.Proofs.YtffhodocjjkkoaaGreat
open Go.RowKit Go.Sort
set_option maxHeartbeats 2000000
set_option maxRecDepth 100000
set_option linter.unusedVariables false
set_option linter.unusedSimpArgs false
theorem Chg.up {F G : Nat → Prop} {a b c : World} (h : Chg G a b) (k : Chg F b c) (hf : ∀ x, x < a.heap.size → F x → G x) : Chg G a c :=
  ⟨k.os.trans h.os, k.tape.trans h.tape, k.output.trans h.output, Nat.le_trans h.size k.size, fun i hi hn => (k.block i (Nat.lt_of_lt_of_le hi h.size) (fun hF => hn (hf i hi hF))).trans (h.block i hi hn)⟩
theorem Chg.upB {G : Nat → Prop} {a b c : World} (h : Chg G a b) (k : Below b.heap.size b c) : Chg G a c := h.up (Chg.of_below k (fun _ => False)) (fun _ _ h => h.elim)
theorem Chg.cell {F : Nat → Prop} {a b : World} (h : Chg F a b) {k j : Nat} (hk : k < a.heap.size) (hn : ¬ F k) : b.cell? ⟨k, j, none⟩ = a.cell? ⟨k, j, none⟩ := by
  exact World.cell?_of_block (h.block k hk hn)
theorem Chg.frozen {F : Nat → Prop} {a b : World} (h : Chg F a b) {k j : Nat} (hk : k < a.heap.size) (hn : ¬ F k) : b.frozen? ⟨k, j, none⟩ = a.frozen? ⟨k, j, none⟩ := by
  have hb := h.block k hk hn
  simp only [World.frozen?]
  rw [hb]
/-- A struct's box at g, one of whose fields (number f) grows in a loop that began at w0. -/
structure Gr (g f : Nat) (w0 w : World) (v : Value) : Prop where
  chg : Chg (fun b => b = g) w0 w
  cel : w.cell? ⟨g, f, none⟩ = some v
  oth : ∀ j, j ≠ f → w.cell? ⟨g, j, none⟩ = w0.cell? ⟨g, j, none⟩
  fro : ∀ j, w.frozen? ⟨g, j, none⟩ = w0.frozen? ⟨g, j, none⟩
theorem Gr.start {g f : Nat} {w : World} {v : Value} (h : w.cell? ⟨g, f, none⟩ = some v) : Gr g f w w v := ⟨Chg.refl _ _, h, fun _ _ => rfl, fun _ => rfl⟩
theorem Gr.below {g f : Nat} {w0 w w' : World} {v : Value} (h : Gr g f w0 w v) (hb : Below w.heap.size w w') (hg : g < w.heap.size) : Gr g f w0 w' v :=
  ⟨h.chg.upB hb, by rw [hb.cell (p := ⟨g, f, none⟩) hg]; exact h.cel, fun j hj => by rw [hb.cell (p := ⟨g, j, none⟩) hg]; exact h.oth j hj, fun j => by rw [hb.frozen (p := ⟨g, j, none⟩) hg]; exact h.fro j⟩
theorem Gr.row {g f : Nat} {w0 w w' : World} {v : Value} {F : Nat → Prop} (h : Gr g f w0 w v) (hc : Chg F w w') (hg : g < w.heap.size) (hF : ∀ b, F b → w0.heap.size ≤ b ∧ b ≠ g) : Gr g f w0 w' v :=
  ⟨h.chg.up hc (fun x hx hFx => by have := hF x hFx; omega), by rw [hc.cell hg (fun e => (hF g e).2 rfl)]; exact h.cel, fun j hj => by rw [hc.cell hg (fun e => (hF g e).2 rfl)]; exact h.oth j hj, fun j => by rw [hc.frozen hg (fun e => (hF g e).2 rfl)]; exact h.fro j⟩
theorem Gr.set {g f : Nat} {w0 w : World} {v : Value} (h : Gr g f w0 w v) (hz : w0.frozen? ⟨g, f, none⟩ = false) (u : Value) : Gr g f w0 (w.setCell ⟨g, f, none⟩ u) u := by
  have hfr : w.frozen? ⟨g, f, none⟩ = false := by rw [h.fro]; exact hz
  have hc := h.cel
  refine ⟨h.chg.trans (Chg.set w g f u rfl), by simp [go_sem, hc], fun j hj => ?_, fun j => ?_⟩
  · rw [← h.oth j hj]
    simp [go_sem, Ne.symm hj]
    try omega
  · rw [← h.fro j]
    simp [go_sem]
end Go.Proofs.YtffhodocjjkkoaaGreat
namespace Go.Proofs.YtffhodocjjkkoaaGreat
open Go.RowKit Go.Sort
set_option maxHeartbeats 2000000
set_option linter.unusedVariables false
set_option linter.unusedSimpArgs false
section
variable {F F' : Nat → Prop} {w w' : World} {A : Option Addr} {n g k c : Nat} {xs : List Int} {e : TypeId} {base : Nat} {v : Value} {cs : List (List Int)}
/-- A list that reads, not in blocks of F. -/
def RN (F : Nat → Prop) (w : World) (A : Option Addr) (n : Nat) (xs : List Int) : Prop := RI w w.heap.size A n xs ∧ ∀ ad, 0 < n → A = some ad → ¬ F ad.block
theorem RN.chg (h : RN F w A n xs) (hc : Chg F w w') : RN F w' A n xs := by
  refine ⟨⟨h.1.1, fun hn => ?_⟩, h.2⟩
  obtain ⟨ad, e, hb, hk⟩ := h.1.2 hn
  refine ⟨ad, e, Nat.lt_of_lt_of_le hb hc.size, fun j u hu => ?_⟩
  have h2 := h.2 ad hn e
  rw [World.cell?_of_block (hc.block (ad.add j).block (by rw [block_of_add]; exact hb) (by rw [block_of_add]; exact h2))]
  exact hk j u hu
theorem RN.sub (h : RN F w A n xs) (hf : ∀ k, F' k → F k) : RN F' w A n xs := ⟨h.1, fun ad hn e hF => h.2 ad hn e (hf _ hF)⟩
theorem RN.below (h : RN F w A n xs) (hb : Below w.heap.size w w') : RN F w' A n xs := h.chg (Chg.of_below hb F)
theorem RN.of_ri {B : Nat} (h : RI w B A n xs) (hB : B ≤ w.heap.size) (hF : ∀ k, F k → B ≤ k) : RN F w A n xs := by
  refine ⟨h.more hB, fun ad hn e hf => ?_⟩
  obtain ⟨ad', e', hb, _⟩ := h.2 hn
  rw [e] at e'
  injection e' with e'
  subst e'
  have := hF _ hf
  omega
theorem RN.of_oi {B : Nat} (h : OI e B w (.slice A n c) xs) (hF : ∀ k, F k → k < B) : RN F w A n xs := by
  have hl : xs.length = n := by
    rcases h.2 with ⟨h0, h1⟩ | ⟨g, cap, cur, h0, _⟩
    · simp only [Value.slice.injEq] at h0
      rw [h0.2.1]; exact h1
    · simp only [Value.slice.injEq] at h0
      exact h0.2.1.symm
  subst hl
  refine ⟨h.ri, fun ad hn e hf => ?_⟩
  obtain ⟨g, hA, hB, hg⟩ := h.form' hn
  rw [e] at hA
  injection hA with hA
  subst hA
  have := hF _ hf
  simp only at this
  omega
/-- What is read of a list, an element. -/
theorem RN.at (h : RN F w A n xs) {k : Nat} (hk : k < n) : ∃ b o x, A = some ⟨b, o, none⟩ ∧ b < w.heap.size ∧ ¬ F b ∧ xs[k]? = some x ∧ w.cell? ⟨b, o + k, none⟩ = some (.int .i64 x) := by
  obtain ⟨b, o, rfl, hb, hc⟩ := ri_lit h.1 (by omega)
  have hl : k < xs.length := by rw [h.1.len]; exact hk
  exact ⟨b, o, xs[k], rfl, hb, h.2 _ (by omega) rfl, List.getElem?_eq_getElem hl, hc k _ (List.getElem?_eq_getElem hl)⟩
theorem OI.chg {B : Nat} (h : OI e B w v xs) (hc : Chg F w w') (hn : ∀ k, v.ownBlock = some k → ¬ F k) : OI e B w' v xs := by
  refine ⟨h.1, ?_⟩
  rcases h.2 with h2 | ⟨g, cap, cur, rfl, hb, hg, rest⟩
  · exact .inl h2
  · exact .inr ⟨g, cap, cur, rfl, hb, by rw [hc.block g (Array.getElem?_eq_some_iff.1 hg).1 (hn g rfl)]; exact hg, rest⟩
/-- A row of lists: the row is the call's own; the lists lie not in blocks of F. -/
def CR (F : Nat → Prop) (e : TypeId) (base : Nat) (w : World) (v : Value) (cs : List (List Int)) : Prop :=
  ∃ us : List Value, w.ownsRow base e 1 v cs.length us ∧ ∀ (k : Nat) (x : List Int), cs[k]? = some x → ∃ A c, us[k]? = some (Value.slice A x.length c) ∧ x.length ≤ c ∧ RN F w A x.length x
theorem CR.form (h : CR F e base w v cs) (hn : 0 < cs.length) : ∃ g cap, v = .slice (some ⟨g, 0, none⟩) cs.length cap ∧ base ≤ g ∧ g < w.heap.size := by
  obtain ⟨us, h1, _⟩ := h
  exact World.ownsRow.form h1 hn
theorem CR.lenV {A : Option Addr} (h : CR F e base w (.slice A n c) cs) : n = cs.length := by
  obtain ⟨us, h1, _⟩ := h
  rcases h1.2 with ⟨h0, h2⟩ | ⟨g', cap, cur, h0, _⟩
  · simp only [Value.slice.injEq] at h0
    rw [h0.2.1, h2]
  · simp only [Value.slice.injEq] at h0
    exact h0.2.1
theorem CR.at (h : CR F e base w (.slice (some ⟨g, 0, none⟩) n c) cs) {k : Nat} (hk : k < n) : ∃ A' c' x, cs[k]? = some x ∧ x.length ≤ c' ∧ RN F w A' x.length x ∧ w.cell? ⟨g, k, none⟩ = some (.slice A' x.length c') ∧ w.frozen? ⟨g, k, none⟩ = false := by
  have hn := h.lenV
  subst hn
  obtain ⟨us, h1, h2⟩ := h
  obtain ⟨A', c', hu, hle, hr⟩ := h2 k _ (List.getElem?_eq_getElem hk)
  exact ⟨A', c', _, List.getElem?_eq_getElem hk, hle, hr, by rw [World.ownsRow.cellAt h1 k (by omega)]; exact hu, World.ownsRow.frozenAt h1 k⟩
theorem CR.set (h : CR F e base w (.slice (some ⟨g, 0, none⟩) n c) cs) (hg : F g) (k : Nat) {A' : Option Addr} {c' : Nat} {y : List Int} (hc : y.length ≤ c') (hr : RN F w A' y.length y) :
    CR F e base (w.setCell ⟨g, k, none⟩ (.slice A' y.length c')) (.slice (some ⟨g, 0, none⟩) n c) (cs.set k y) := by
  have hn := h.lenV
  subst hn
  obtain ⟨us, h1, h2⟩ := h
  have hch : Chg F w (w.setCell ⟨g, k, none⟩ (.slice A' y.length c')) := Chg.set w g k _ hg
  refine ⟨us.set k (.slice A' y.length c'), by rw [List.length_set]; exact (World.ownsRow.stored h1 k _).1, fun i x hx => ?_⟩
  by_cases hik : k = i
  · subst hik
    have hlt : k < cs.length := by have := (List.getElem?_eq_some_iff.1 hx).1; rwa [List.length_set] at this
    rw [List.getElem?_set_self hlt] at hx
    injection hx with hx
    subst hx
    have hus : us.length = cs.length := by have := h1.1; omega
    exact ⟨A', c', List.getElem?_set_self (by omega), hc, hr.chg hch⟩
  · rw [List.getElem?_set_ne hik] at hx
    obtain ⟨A2, c2, hu, hle, hr2⟩ := h2 i x hx
    exact ⟨A2, c2, by rw [List.getElem?_set_ne hik]; exact hu, hle, hr2.chg hch⟩
/-- Other blocks of F, and new ones, are written. -/
theorem CR.chg (h : CR F e base w v cs) (hc : Chg F' w w') (h1 : ∀ k, F' k → F k) (h2 : ∀ k, v.ownBlock = some k → ¬ F' k) : CR F e base w' v cs := by
  obtain ⟨us, g1, g2⟩ := h
  refine ⟨us, ⟨g1.1, ?_⟩, fun i x hx => ?_⟩
  · rcases g1.2 with hn | ⟨g, cap, cur, rfl, hb, hg, rest⟩
    · exact .inl hn
    · exact .inr ⟨g, cap, cur, rfl, hb, by rw [hc.block g (Array.getElem?_eq_some_iff.1 hg).1 (h2 g rfl)]; exact hg, rest⟩
  · obtain ⟨A2, c2, hu, hle, hr2⟩ := g2 i x hx
    exact ⟨A2, c2, hu, hle, hr2.chg (hc.wide h1)⟩
theorem CR.below (h : CR F e base w v cs) (hb : Below w.heap.size w w') : CR F e base w' v cs := h.chg (Chg.of_below hb (fun _ => False)) (fun _ h => h.elim) (fun _ _ h => h)
theorem RN.more (h : RN F w A n xs) (hF : ∀ k, F' k → F k ∨ w.heap.size ≤ k) : RN F' w A n xs := ⟨h.1, fun ad hn e hf => by
  obtain ⟨ad', e', hb, _⟩ := h.1.2 hn
  rw [e] at e'
  injection e' with e'
  subst e'
  rcases hF _ hf with h2 | h2
  · exact h.2 ad hn e h2
  · omega⟩
theorem CR.sub (h : CR F e base w v cs) (hF : ∀ k, F' k → F k) : CR F' e base w v cs := by
  obtain ⟨us, h1, h2⟩ := h
  refine ⟨us, h1, fun k x hx => ?_⟩
  obtain ⟨A, c, e1, e2, e3⟩ := h2 k x hx
  exact ⟨A, c, e1, e2, e3.sub hF⟩
theorem CR.more (h : CR F e base w v cs) (hF : ∀ k, F' k → F k ∨ w.heap.size ≤ k) : CR F' e base w v cs := by
  obtain ⟨us, h1, h2⟩ := h
  refine ⟨us, h1, fun k x hx => ?_⟩
  obtain ⟨A, c, e1, e2, e3⟩ := h2 k x hx
  exact ⟨A, c, e1, e2, e3.more hF⟩
/-- .. from rows of rows that the call owns. -/
theorem CR.of_os {G : Nat → Prop} (h : OS tS e w G v cs) (hF : ∀ k, F k → G k → v.ownBlock = some k) (hb : ∀ k, v.ownBlock = some k → base ≤ k) : CR F e base w v cs := by
  obtain ⟨css, Fs, h1, h2, h3, h4, h5, h6⟩ := h
  have hsing : ∀ k (hk : k < cs.length), ∃ A c, css[k]'(by omega) = [.slice A cs[k].length c] ∧ cs[k].length ≤ c ∧ RN F w A cs[k].length cs[k] := by
    intro k hk
    obtain ⟨u, hu, ho⟩ := h6 k hk (by omega)
    obtain ⟨A, c, rfl⟩ := ho.shape
    have hcap := ho.read.cap
    refine ⟨A, c, hu, hcap.2.1, ho.read.ri, fun ad hn he hf => ?_⟩
    subst he
    obtain ⟨css2, Fs2, k1, k2, k3, _⟩ := ho
    have hFs := k3 ad.block rfl
    have h7 := h4 k _ hFs
    exact h7.2 (hF _ hf h7.1)
  refine ⟨css.flatten, ⟨h1.1, ?_⟩, fun k x hx => ?_⟩
  · rcases h1.2 with hn | ⟨g, cap, cur, rfl, hb', rest⟩
    · exact .inl hn
    · exact .inr ⟨g, cap, cur, rfl, hb g rfl, rest⟩
  · have hk := (List.getElem?_eq_some_iff.1 hx).1
    have hx2 : cs[k]'hk = x := (List.getElem?_eq_some_iff.1 hx).2
    subst hx2
    obtain ⟨A, c, e1, e2, e3⟩ := hsing k hk
    refine ⟨A, c, ?_, e2, e3⟩
    have hs : ∀ c ∈ css, c.length = 1 := fun c hc => by
      obtain ⟨i, hi, rfl⟩ := List.getElem_of_mem hc
      obtain ⟨A', c', e1', _⟩ := hsing i (by omega)
      rw [e1']
      rfl
    have := flat2_at (s := 1) hs (k := k) (List.getElem?_eq_getElem (by omega)) 0 (by omega)
    rw [Nat.mul_one, Nat.add_zero] at this
    rw [this, e1]
    rfl
/-- A slice of lists that reads, not in blocks of F. -/
def RSN (F : Nat → Prop) (w : World) (v : Value) (cs : List (List Int)) : Prop :=
  ∃ (A : Option Addr) (c : Nat) (us : List Value), v = .slice A cs.length c ∧ cs.length ≤ c ∧ c ≤ maxLen ∧ us.length = cs.length ∧ Reads w w.heap.size 1 A cs.length us ∧ (∀ ad, 0 < cs.length → A = some ad → ¬ F ad.block) ∧
    ∀ (k : Nat) (x : List Int), cs[k]? = some x → ∃ A' c', us[k]? = some (Value.slice A' x.length c') ∧ x.length ≤ c' ∧ RN F w A' x.length x
theorem RSN.chg (h : RSN F w v cs) (hc : Chg F w w') : RSN F w' v cs := by
  obtain ⟨A, c, us, rfl, h1, h2, h3, h4, h5, h6⟩ := h
  refine ⟨A, c, us, rfl, h1, h2, h3, ⟨h4.1, fun hn => ?_⟩, h5, fun k x hx => ?_⟩
  · obtain ⟨ad, e, hb, hk⟩ := h4.2 hn
    refine ⟨ad, e, Nat.lt_of_lt_of_le hb hc.size, fun j u hu => ?_⟩
    have h2 := h5 ad hn e
    rw [World.cell?_of_block (hc.block (ad.add j).block (by rw [block_of_add]; exact hb) (by rw [block_of_add]; exact h2))]
    exact hk j u hu
  · obtain ⟨A', c', e1, e2, e3⟩ := h6 k x hx
    exact ⟨A', c', e1, e2, e3.chg hc⟩
theorem RSN.below (h : RSN F w v cs) (hb : Below w.heap.size w w') : RSN F w' v cs := h.chg (Chg.of_below hb F)
theorem RSN.at (h : RSN F w v cs) {k : Nat} (hk : k < cs.length) : ∃ b o c A' c' x, v = .slice (some ⟨b, o, none⟩) cs.length c ∧ b < w.heap.size ∧ ¬ F b ∧ cs[k]? = some x ∧ x.length ≤ c' ∧ RN F w A' x.length x ∧ w.cell? ⟨b, o + k, none⟩ = some (.slice A' x.length c') := by
  obtain ⟨A, c, us, rfl, h1, h2, h3, h4, h5, h6⟩ := h
  obtain ⟨ad, e, hb, hc⟩ := h4.2 (by omega)
  subst e
  obtain ⟨A', c', e1, e2, e3⟩ := h6 k _ (List.getElem?_eq_getElem hk)
  have h0 : 0 < us.length := by omega
  have hsp := spot_none (hc 0 _ (List.getElem?_eq_getElem h0))
  have hsp' : ad = ⟨ad.block, ad.off, none⟩ := by simpa [Addr.add] using hsp
  refine ⟨ad.block, ad.off, c, A', c', _, by rw [← hsp'], hb, h5 ad (by omega) rfl, List.getElem?_eq_getElem hk, e2, e3, ?_⟩
  have := hc k _ e1
  rwa [hsp', Addr.add_lit] at this
theorem RSN.of_cr {base : Nat} (h : CR F e base w v cs) (hF : ∀ k, v.ownBlock = some k → ¬ F k) : RSN F w v cs := by
  obtain ⟨us, h1, h2⟩ := h
  obtain ⟨A, c, rfl, hc, hm, hr⟩ := own_shape h1
  exact ⟨A, c, us, rfl, hc, hm, by have := h1.1; omega, hr, fun ad hn he => hF _ (by rw [he]; rfl), h2⟩
theorem RSN.shape (h : RSN F w v cs) : ∃ A c, v = .slice A cs.length c := by
  obtain ⟨A, c, us, rfl, _⟩ := h
  exact ⟨A, c, rfl⟩
end
end Go.Proofs.YtffhodocjjkkoaaGreat
/-
  A region that draws its order, more freely than in X50: loads and calls as there (each but the operations of T keeps the class of worlds D, and those of T wait for all loads), and behind the calls plain operations that may come in whatever order with what is left.
-/
namespace Go.Proofs.YtffhodocjjkkoaaGreat
open Go
section
variable {P : Program} {ops : Array Oper} {md : Region.Mode} {D : World → Prop}
inductive Tw where
  | rest
  | one (b : Nat) (t : Tw)
  | two (b : Nat) (t : Tw) (b' : Nat) (t' : Tw)
  | first (i : Nat) (t : Tw)
  | load (i : Nat) (t : Tw)
/-- All that is listed before an operation of T keeps D. -/
def anyD (P : Program) (md : Region.Mode) (ops : Array Oper) (D : World → Prop) (T : List Nat) (Q : Exit → Act → World → Prop) : Nat → Array Bool → Act → World → Prop
  | 0, listed, a, w => D w ∧ Region.ready md ops listed = [] ∧ Q .normal a w
  | f + 1, listed, a, w => D w ∧ Region.ready md ops listed ≠ [] ∧ ∀ i ∈ Region.ready md ops listed,
      (T.contains i = true → wpOp P ops Q i (wpAny P md ops Q f (listed.setIfInBounds i true)) a w) ∧ (T.contains i = false → wpOp P ops noX i (anyD P md ops D T Q f (listed.setIfInBounds i true)) a w)
theorem anyD_D {T : List Nat} {Q : Exit → Act → World → Prop} : ∀ {f : Nat} {listed : Array Bool} {a : Act} {w : World}, anyD P md ops D T Q f listed a w → D w
  | 0, _, _, _, h => h.1
  | _ + 1, _, _, _, h => h.1
theorem any_of_anyD {T : List Nat} {Q : Exit → Act → World → Prop} : ∀ (f : Nat) (listed : Array Bool) (a : Act) (w : World), anyD P md ops D T Q f listed a w → wpAny P md ops Q f listed a w := by
  intro f
  induction f with
  | zero => intro listed a w h; exact ⟨h.2.1, h.2.2⟩
  | succ f ih =>
    intro listed a w h
    refine ⟨fun h0 => absurd h0 h.2.1, fun i hi => ?_⟩
    cases hT : T.contains i with
    | true => exact (h.2.2 i hi).1 hT
    | false => exact wpOp_exit (wpOp_mono (fun a' w' h' => ih _ a' w' h') ((h.2.2 i hi).2 hT))
/-- A load may be taken first. -/
theorem anyD_load {T : List Nat} {Q : Exit → Act → World → Prop} {i : Nat} {oi : Oper} {v : Value} (hi : ops[i]? = some oi) (hsel : Region.noSelect ops = true)
    (hwait : ∀ t, T.contains t = true → reachB md ops ops.size t i = true) (hTi : T.contains i = false) :
    ∀ (f : Nat) (listed : Array Bool) (a : Act) (w : World), Closed md ops listed →
      (∀ j oj, ops[j]? = some oj → j ≠ i → listed.getD j true = false → (∀ e ∈ oj.after, Region.binds md e = true → e.on ≠ i) → oi.apart ops oj = true) →
      i ∈ Region.ready md ops listed → YieldsD P ops D oi v a → D w →
      anyD P md ops D T Q f (listed.setIfInBounds i true) (a.put oi.dst v) w → anyD P md ops D T Q (f + 1) listed a w := by
  have late : ∀ (listed : Array Bool), Closed md ops listed → listed.getD i true = false → ∀ j ∈ Region.ready md ops listed, T.contains j = false := by
    intro listed hcl hun j hj
    cases hT : T.contains j with
    | false => rfl
    | true =>
      obtain ⟨_, oj, hoj, hall⟩ := mem_ready.1 hj
      have := reach_listed hcl ops.size j i oj hoj hall (hwait j hT)
      rw [getD_both hun] at this
      cases this
  intro f
  induction f with
  | zero =>
    intro listed a w hcl _ hr hy hD H
    refine ⟨hD, fun h => (by rw [h] at hr; cases hr), fun j hj => ?_⟩
    have hTj := late listed hcl (mem_ready.1 hr).1 j hj
    refine ⟨fun h => (by rw [hTj] at h; cases h), fun _ => ?_⟩
    by_cases hji : j = i
    · subst hji
      exact hy.wpOp hi hD H
    · have := ready_mono hj hji
      rw [H.2.1] at this
      cases this
  | succ f ih =>
    intro listed a w hcl hfree hr hy hD H
    refine ⟨hD, fun h => (by rw [h] at hr; cases hr), fun j hj => ?_⟩
    have hTj := late listed hcl (mem_ready.1 hr).1 j hj
    refine ⟨fun h => (by rw [hTj] at h; cases h), fun _ => ?_⟩
    by_cases hji : j = i
    · subst hji
      exact hy.wpOp hi hD H
    obtain ⟨hjun, oj, hoj, hall⟩ := mem_ready.1 hj
    have hnot : ∀ e ∈ oj.after, Region.binds md e = true → e.on ≠ i := fun e he hb heq => by
      have h1 := hall e he hb
      rw [heq, getD_both (mem_ready.1 hr).1] at h1
      cases h1
    have h2 := wpOp_putD hoj (hfree j oj hoj hji hjun hnot) (fun cs b => Region.noSelect_spec hsel i oi cs b hi) (fun cs b => Region.noSelect_spec hsel j oj cs b hoj) hy ((H.2.2 j (ready_mono hj hji)).2 hTj)
    refine wpOp_mono (fun a' w' h3 => ?_) h2
    obtain ⟨h3, h4⟩ := h3
    refine ih (listed.setIfInBounds j true) a' w' (hcl.set hj) (fun k ok hk hki hun hno => hfree k ok hk hki ?_ hno) (ready_mono hr (Ne.symm hji)) h3 (anyD_D h4) ?_
    · by_cases hjk : j = k
      · subst hjk
        exact hjun
      · rwa [getD_set_ne true hjk] at hun
    · rw [Array.setIfInBounds_comm _ _ hji]
      exact h4
/-- An operation that needs no memory may be taken first. -/
theorem anyD_plain {T : List Nat} {Q : Exit → Act → World → Prop} (hQ : ∀ c a w, Q (.panic c) a w → False) {i : Nat} {oi : Oper} {v : Value} (hi : ops[i]? = some oi) (hsel : Region.noSelect ops = true) (hTi : T.contains i = false) :
    ∀ (f : Nat) (listed : Array Bool) (a : Act) (w : World),
      (∀ j oj, ops[j]? = some oj → j ≠ i → listed.getD j true = false → (∀ e ∈ oj.after, Region.binds md e = true → e.on ≠ i) → oi.apart ops oj = true) →
      i ∈ Region.ready md ops listed → Yields P ops oi v a →
      anyD P md ops D T Q f (listed.setIfInBounds i true) (a.put oi.dst v) w → anyD P md ops D T Q (f + 1) listed a w := by
  intro f
  induction f with
  | zero =>
    intro listed a w _ hr hy H
    refine ⟨H.1, fun h => (by rw [h] at hr; cases hr), fun j hj => ?_⟩
    by_cases hji : j = i
    · subst hji
      exact ⟨fun h => (by rw [hTi] at h; cases h), fun _ => hy.wpOp hi H⟩
    · have := ready_mono hj hji
      rw [H.2.1] at this
      cases this
  | succ f ih =>
    intro listed a w hfree hr hy H
    refine ⟨H.1, fun h => (by rw [h] at hr; cases hr), fun j hj => ?_⟩
    by_cases hji : j = i
    · subst hji
      exact ⟨fun h => (by rw [hTi] at h; cases h), fun _ => hy.wpOp hi H⟩
    obtain ⟨hjun, oj, hoj, hall⟩ := mem_ready.1 hj
    have hnot : ∀ e ∈ oj.after, Region.binds md e = true → e.on ≠ i := fun e he hb heq => by
      have h1 := hall e he hb
      rw [heq, getD_both (mem_ready.1 hr).1] at h1
      cases h1
    have hap := hfree j oj hoj hji hjun hnot
    have hfree2 : ∀ k ok, ops[k]? = some ok → k ≠ i → (listed.setIfInBounds j true).getD k true = false → (∀ e ∈ ok.after, Region.binds md e = true → e.on ≠ i) → oi.apart ops ok = true := fun k ok hk hki hun hno => hfree k ok hk hki (by
      by_cases hjk : j = k
      · subst hjk
        exact hjun
      · rwa [getD_set_ne true hjk] at hun) hno
    have si := fun cs b => Region.noSelect_spec hsel i oi cs b hi
    have sj := fun cs b => Region.noSelect_spec hsel j oj cs b hoj
    refine ⟨fun hTj => ?_, fun hTj => ?_⟩
    · have h2 := wpOp_put hoj hap si sj (fun c a w h => (hQ c _ w h).elim) hy ((H.2.2 j (ready_mono hj hji)).1 hTj)
      refine wpOp_mono (fun a' w' h3 => ?_) h2
      refine wpAny_first hi (Region.noSelect_spec hsel) (fun c a w h => (hQ c _ w h).elim) _ _ a' w' hfree2 (ready_mono hr (Ne.symm hji)) h3.1 ?_
      rw [Array.setIfInBounds_comm _ _ hji]
      exact h3.2
    · have h2 := wpOp_put (Q := noX) hoj hap si sj (fun c a w h => h.elim) hy ((H.2.2 j (ready_mono hj hji)).2 hTj)
      refine wpOp_mono (fun a' w' h3 => ?_) h2
      refine ih (listed.setIfInBounds j true) a' w' hfree2 (ready_mono hr (Ne.symm hji)) h3.1 ?_
      rw [Array.setIfInBounds_comm _ _ hji]
      exact h3.2
def headB (T R : List Nat) : Bool := match R with
  | [] => true
  | r :: _ => T.contains r
def treeW (md : Region.Mode) (ops : Array Oper) (T R : List Nat) : Nat → Tw → Array Bool → Bool
  | 0, .rest, listed => forcedB md ops R listed && headB T R
  | m + 1, .one b t, listed => decide (Region.ready md ops listed = [b]) && !T.contains b && treeW md ops T R m t (listed.setIfInBounds b true)
  | m + 1, .two b t b' t', listed => decide (Region.ready md ops listed = [b, b']) && !T.contains b && !T.contains b' && treeW md ops T R m t (listed.setIfInBounds b true) && treeW md ops T R m t' (listed.setIfInBounds b' true)
  | m + 1, .first i t, listed => (Region.ready md ops listed).contains i && Region.free md ops listed i && !T.contains i && ((ops[i]?).map plainB).getD false && treeW md ops T R m t (listed.setIfInBounds i true)
  | m + 1, .load i t, listed => (Region.ready md ops listed).contains i && Region.free md ops listed i && !T.contains i && T.all (fun t => reachB md ops ops.size t i) && ((ops[i]?).map plainB).getD false && treeW md ops T R m t (listed.setIfInBounds i true)
  | _, _, _ => false
/-- D is shown behind each; then the rest. -/
def seqW (P : Program) (l : List Oper) (D : World → Prop) (Q : Exit → Act → World → Prop) (lr : List Oper) : Tw → Act → World → Prop
  | .rest, a, w => wpList P l.toArray Q lr a w
  | .one b t, a, w => match l[b]? with
    | some o => wpList P l.toArray (fun x a' w' => x = .normal ∧ D w' ∧ seqW P l D Q lr t a' w') [o] a w
    | none => False
  | .two b t b' t', a, w => (match l[b]? with
    | some o => wpList P l.toArray (fun x a' w' => x = .normal ∧ D w' ∧ seqW P l D Q lr t a' w') [o] a w
    | none => False) ∧ (match l[b']? with
    | some o => wpList P l.toArray (fun x a' w' => x = .normal ∧ D w' ∧ seqW P l D Q lr t' a' w') [o] a w
    | none => False)
  | .first i t, a, w => match l[i]? with
    | some o => wpQuiet P l.toArray (fun _ => True) (fun a' => seqW P l D Q lr t a' w) [o] a
    | none => False
  | .load i t, a, w => match l[i]? with
    | some o => wpQuiet P l.toArray D (fun a' => seqW P l D Q lr t a' w) [o] a
    | none => False
theorem yields_of_quiet {l : List Oper} {i : Nat} {o : Oper} {a : Act} {K : Act → Prop} (hi : l[i]? = some o) (hp : plainB o = true) (h : wpQuiet P l.toArray (fun _ => True) K [o] a) : ∃ v, Yields P l.toArray o v a ∧ K (a.put o.dst v) := by
  have hi' : l.toArray[i]? = some o := by simpa using hi
  have hq : qOp P l.toArray (fun _ => True) i (wpQuiet P l.toArray (fun _ => True) K []) a := by unfold qOp; simp only [hi']; exact h
  obtain ⟨v, hy, hK⟩ := yieldsIn_of_qOp hi' hq
  refine ⟨v, ?_, hK⟩
  rcases hy with ⟨hw, h1⟩ | ⟨hw, rfl⟩
  · exact .inl ⟨hw, fun w => YieldsD.of_quiet hp h1 w trivial⟩
  · exact .inr ⟨hw, rfl⟩
theorem anyD_tree {l : List Oper} {T R : List Nat} {lr : List Oper} {Q : Exit → Act → World → Prop} (hsel : Region.noSelect l.toArray = true) (hQ : ∀ c a w, Q (.panic c) a w → False) (hlr : lr.map some = R.map (l.toArray[·]?)) :
    ∀ (m : Nat) (t : Tw) (listed : Array Bool) (a : Act) (w : World), Closed md l.toArray listed → treeW md l.toArray T R m t listed = true → D w → seqW P l D Q lr t a w → anyD P md l.toArray D T Q (m + R.length) listed a w := by
  intro m
  induction m with
  | zero =>
    intro t listed a w hc hB hD h
    cases t with
    | rest =>
      simp only [treeW, Bool.and_eq_true] at hB
      have h2 := any_of_forced R lr listed a w hlr hB.1 h
      rw [Nat.zero_add]
      cases R with
      | nil => exact ⟨hD, h2.1, h2.2⟩
      | cons r rs =>
        have hr := hB.1
        simp only [forcedB, Bool.and_eq_true, decide_eq_true_eq] at hr
        refine ⟨hD, by rw [hr.1]; simp, fun i hi => ⟨fun _ => h2.2 i hi, fun hT => ?_⟩⟩
        rw [hr.1] at hi
        obtain rfl : i = r := by simpa using hi
        have := hB.2
        simp only [headB] at this
        rw [this] at hT
        cases hT
    | one b t => simp [treeW] at hB
    | two b t b' t' => simp [treeW] at hB
    | first i t => simp [treeW] at hB
    | load i t => simp [treeW] at hB
  | succ m ih =>
    intro t listed a w hc hB hD h
    rw [show m + 1 + R.length = (m + R.length) + 1 by omega]
    cases t with
    | rest => simp [treeW] at hB
    | one b t =>
      simp only [treeW, Bool.and_eq_true, decide_eq_true_eq, Bool.not_eq_true'] at hB
      refine ⟨hD, by rw [hB.1.1]; simp, fun i hi => ?_⟩
      have hi0 := hi
      rw [hB.1.1] at hi
      obtain rfl : i = b := by simpa using hi
      exact ⟨fun hT => (by rw [hB.1.2] at hT; cases hT), fun _ => wpOp_mono (fun a' w' h' => ih t _ a' w' (hc.set hi0) hB.2 h'.1 h'.2) (step_of (K := fun a' w' => D w' ∧ seqW P l D Q lr t a' w') h)⟩
    | two b t b' t' =>
      simp only [treeW, Bool.and_eq_true, decide_eq_true_eq, Bool.not_eq_true'] at hB
      obtain ⟨⟨⟨⟨g1, g2⟩, g3⟩, g4⟩, g5⟩ := hB
      refine ⟨hD, by rw [g1]; simp, fun i hi => ?_⟩
      have hi0 := hi
      rw [g1] at hi
      have hi' : i = b ∨ i = b' := by simpa using hi
      rcases hi' with rfl | rfl
      · exact ⟨fun hT => (by rw [g2] at hT; cases hT), fun _ => wpOp_mono (fun a' w' h' => ih t _ a' w' (hc.set hi0) g4 h'.1 h'.2) (step_of (K := fun a' w' => D w' ∧ seqW P l D Q lr t a' w') h.1)⟩
      · exact ⟨fun hT => (by rw [g3] at hT; cases hT), fun _ => wpOp_mono (fun a' w' h' => ih t' _ a' w' (hc.set hi0) g5 h'.1 h'.2) (step_of (K := fun a' w' => D w' ∧ seqW P l D Q lr t' a' w') h.2)⟩
    | first i t =>
      simp only [treeW, Bool.and_eq_true, Bool.not_eq_true'] at hB
      obtain ⟨⟨⟨⟨g1, g2⟩, g3⟩, g4⟩, g5⟩ := hB
      cases ho : l[i]? with
      | none => simp [ho] at g4
      | some o =>
        have ho' : l.toArray[i]? = some o := by simpa using ho
        simp only [ho', Option.map_some, Option.getD_some] at g4
        simp only [seqW, ho] at h
        obtain ⟨v, hy, hK⟩ := yields_of_quiet ho g4 h
        exact anyD_plain hQ ho' hsel g3 _ listed a w (Region.free_spec ho' g2) (by simpa using g1) hy (ih t _ _ w (hc.set (by simpa using g1)) g5 hD hK)
    | load i t =>
      simp only [treeW, Bool.and_eq_true, Bool.not_eq_true'] at hB
      obtain ⟨⟨⟨⟨⟨g1, g2⟩, g3⟩, g6⟩, g4⟩, g5⟩ := hB
      cases ho : l[i]? with
      | none => simp [ho] at g4
      | some o =>
        have ho' : l.toArray[i]? = some o := by simpa using ho
        simp only [ho', Option.map_some, Option.getD_some] at g4
        simp only [seqW, ho] at h
        have hq : qOp P l.toArray D i (wpQuiet P l.toArray D (fun a' => seqW P l D Q lr t a' w) []) a := by unfold qOp; simp only [ho']; exact h
        obtain ⟨v, hy, hK⟩ := yieldsIn_of_qOp ho' hq
        have hy2 : YieldsD P l.toArray D o v a := by
          rcases hy with ⟨hw, h1⟩ | ⟨hw, rfl⟩
          · exact .inl ⟨hw, YieldsD.of_quiet g4 h1⟩
          · exact .inr ⟨hw, rfl⟩
        have g1' : i ∈ Region.ready md l.toArray listed := by simpa using g1
        exact anyD_load ho' hsel (fun t ht => List.all_eq_true.1 g6 t (by simpa using ht)) g3 _ listed a w hc (Region.free_spec ho' g2) g1' hy2 hD (ih t _ _ w (hc.set g1') g5 hD hK)
def loadsW (md : Region.Mode) (ops : Array Oper) (T R : List Nat) (m : Nat) (t : Tw) : List Nat → Array Bool → Bool
  | [], listed => treeW md ops T R m t listed
  | i :: is, listed => (Region.ready md ops listed).contains i && Region.free md ops listed i && loadsW md ops T R m t is (listed.setIfInBounds i true)
theorem anyD_loads {l : List Oper} {T R : List Nat} {lr : List Oper} {m : Nat} {t : Tw} {Q : Exit → Act → World → Prop} (hsel : Region.noSelect l.toArray = true) (hQ : ∀ c a w, Q (.panic c) a w → False) (hlr : lr.map some = R.map (l.toArray[·]?)) :
    ∀ (F : List Nat) (k : List Oper) (listed : Array Bool) (a : Act) (w : World), k.map some = F.map (l.toArray[·]?) → k.all plainB = true → Closed md l.toArray listed → loadsW md l.toArray T R m t F listed = true →
    (∀ i ∈ F, T.contains i = false ∧ ∀ t, T.contains t = true → reachB md l.toArray l.toArray.size t i = true) → D w → wpQuiet P l.toArray D (fun a' => seqW P l D Q lr t a' w) k a →
    anyD P md l.toArray D T Q (F.length + (m + R.length)) listed a w := by
  intro F
  induction F with
  | nil =>
    intro k listed a w hk _ hc hB _ hD h
    obtain rfl : k = [] := by cases k with | nil => rfl | cons x xs => simp at hk
    simp only [List.length_nil, Nat.zero_add]
    exact anyD_tree hsel hQ hlr m t listed a w hc hB hD h
  | cons i is ih =>
    intro k listed a w hk hp hc hB hW hD h
    cases k with
    | nil => simp at hk
    | cons o k =>
      simp only [List.map_cons, List.cons.injEq] at hk
      simp only [List.all_cons, Bool.and_eq_true] at hp
      simp only [loadsW, Bool.and_eq_true] at hB
      obtain ⟨⟨hr, hf⟩, hB2⟩ := hB
      have hr' : i ∈ Region.ready md l.toArray listed := by simpa using hr
      have hq : qOp P l.toArray D i (wpQuiet P l.toArray D (fun a' => seqW P l D Q lr t a' w) k) a := by unfold qOp; simp only [← hk.1]; exact h
      obtain ⟨v, hy, hK⟩ := yieldsIn_of_qOp hk.1.symm hq
      have hy2 : YieldsD P l.toArray D o v a := by
        rcases hy with ⟨hw, h1⟩ | ⟨hw, rfl⟩
        · exact .inl ⟨hw, YieldsD.of_quiet hp.1 h1⟩
        · exact .inr ⟨hw, rfl⟩
      obtain ⟨hTi, hwait⟩ := hW i (by simp)
      rw [List.length_cons, show is.length + 1 + (m + R.length) = (is.length + (m + R.length)) + 1 by omega]
      exact anyD_load hk.1.symm hsel hwait hTi _ listed a w hc (Region.free_spec hk.1.symm hf) hr' hy2 hD (ih k _ _ w hk.2 hp.2 (hc.set hr') hB2 (fun j hj => hW j (by simp [hj])) hD hK)
def planGoW (md : Region.Mode) (ops : Array Oper) (F : List Nat) (m : Nat) (t : Tw) (T R : List Nat) : List Nat → Array Bool → Bool
  | [], listed => loadsW md ops T R m t F listed
  | i :: is, listed => (Region.ready md ops listed).contains i && Region.free md ops listed i && !T.contains i && planGoW md ops F m t T R is (listed.setIfInBounds i true)
def planW (md : Region.Mode) (ops : Array Oper) (A F : List Nat) (m : Nat) (t : Tw) (T R : List Nat) : Bool :=
  Region.noSelect ops && decide (A.length + (F.length + (m + R.length)) = ops.size) && T.all (fun t => F.all fun i => reachB md ops ops.size t i) && F.all (fun i => !T.contains i) &&
    planGoW md ops F m t T R A (Array.replicate ops.size false)
theorem anyD_plan {l : List Oper} {T R : List Nat} {lr : List Oper} {m : Nat} {t : Tw} {Q : Exit → Act → World → Prop} (hsel : Region.noSelect l.toArray = true) (hQ : ∀ c a w, Q (.panic c) a w → False) (hlr : lr.map some = R.map (l.toArray[·]?)) {F : List Nat} {lf : List Oper} (hlf : lf.map some = F.map (l.toArray[·]?)) (hpf : lf.all plainB = true)
    (hW : ∀ i ∈ F, T.contains i = false ∧ ∀ t, T.contains t = true → reachB md l.toArray l.toArray.size t i = true) :
    ∀ (A : List Nat) (la : List Oper) (listed : Array Bool) (a : Act) (w : World), la.map some = A.map (l.toArray[·]?) → la.all plainB = true → Closed md l.toArray listed → planGoW md l.toArray F m t T R A listed = true →
    D w → wpQuiet P l.toArray (fun _ => True) (fun a' => wpQuiet P l.toArray D (fun a' => seqW P l D Q lr t a' w) lf a') la a → anyD P md l.toArray D T Q (A.length + (F.length + (m + R.length))) listed a w := by
  intro A
  induction A with
  | nil =>
    intro la listed a w hla _ hc hB hD h
    obtain rfl : la = [] := by cases la with | nil => rfl | cons x xs => simp at hla
    rw [List.length_nil, Nat.zero_add]
    exact anyD_loads hsel hQ hlr F lf listed a w hlf hpf hc hB hW hD h
  | cons i is ih =>
    intro la listed a w hla hp hc hB hD h
    cases la with
    | nil => simp at hla
    | cons o la =>
      simp only [List.map_cons, List.cons.injEq] at hla
      simp only [List.all_cons, Bool.and_eq_true] at hp
      simp only [planGoW, Bool.and_eq_true, Bool.not_eq_true'] at hB
      obtain ⟨⟨⟨hr, hf⟩, hTi⟩, hB2⟩ := hB
      have hr' : i ∈ Region.ready md l.toArray listed := by simpa using hr
      have hq : qOp P l.toArray (fun _ => True) i (wpQuiet P l.toArray (fun _ => True) (fun a' => wpQuiet P l.toArray D (fun a' => seqW P l D Q lr t a' w) lf a') la) a := by unfold qOp; simp only [← hla.1]; exact h
      obtain ⟨v, hy, hK⟩ := yieldsIn_of_qOp hla.1.symm hq
      rw [List.length_cons, show is.length + 1 + (F.length + (m + R.length)) = (is.length + (F.length + (m + R.length))) + 1 by omega]
      have hy2 : Yields P l.toArray o v a := by
        rcases hy with ⟨hw, h1⟩ | ⟨hw, rfl⟩
        · exact .inl ⟨hw, fun w => YieldsD.of_quiet hp.1 h1 w trivial⟩
        · exact .inr ⟨hw, rfl⟩
      exact anyD_plain hQ hla.1.symm hsel hTi _ listed a w (Region.free_spec hla.1.symm hf) hr' hy2 (ih la _ _ w hla.2 hp.2 (hc.set hr') hB2 hD hK)
/-- THE REGION: A are plain operations that need no memory; F plain ones, loads too, that all of T (what writes) wait for; t what the rest does first (D is shown behind each call or allocation), m steps; R what is left, in its one order. -/
theorem wp_region_planW {id : Nat} {Q : Exit → Act → World → Prop} {a : Act} {w : World} {l : List Oper} (A F : List Nat) (m : Nat) (t : Tw) (T R : List Nat) (hm : P.follows .mixedOrders = true)
    (hB : (planW .any l.toArray A F m t T R && (A ++ F ++ R).all (fun i => decide (i < l.length)) && (pickOps l A).all plainB && (pickOps l F).all plainB) = true) (hD : D { w with drawn := w.drawn + 1 })
    (h : wpQuiet P l.toArray (fun _ => True) (fun a' => wpQuiet P l.toArray D (fun a' => seqW P l D (fun x a w => x = .normal ∧ Q .normal a w) (pickOps l R) t a' { w with drawn := w.drawn + 1 }) (pickOps l F) a') (pickOps l A) a) :
    (Code.region id l.toArray true).wp P Q a w := by
  simp only [Bool.and_eq_true, List.all_append] at hB
  obtain ⟨⟨⟨hP, ⟨hA, hF⟩, hBB⟩, hpA⟩, hpF⟩ := hB
  simp only [planW, Bool.and_eq_true, decide_eq_true_eq] at hP
  obtain ⟨⟨⟨⟨hsel, hsz⟩, hre⟩, hFn⟩, hgo⟩ := hP
  refine wp_region_any hm ?_
  have hc : Closed .any l.toArray (Array.replicate l.toArray.size false) := fun j oj _ hl => (by rw [getD_replicate_false] at hl; cases hl)
  have h2 := anyD_plan (P := P) (md := .any) (D := D) (T := T) (Q := fun x a w => x = .normal ∧ Q .normal a w) hsel (fun c a w h => by cases h.1) (R := R) (m := m) (F := F) (pick_spec hBB) (pick_spec hF) hpF
    (fun i hi => ⟨by have := List.all_eq_true.1 hFn i hi; rw [Bool.not_eq_true'] at this; exact this, fun t ht => List.all_eq_true.1 (List.all_eq_true.1 hre t (by simpa using ht)) i hi⟩)
    A (pickOps l A) _ a _ (pick_spec hA) hpA hc hgo hD h
  rw [hsz] at h2
  exact wpAny_monoQ (fun x a w hx => by obtain ⟨rfl, h⟩ := hx; exact h) _ _ _ _ (any_of_anyD _ _ _ _ h2)
/-- .. at the class 'w, drawn, with blocks laid behind it'. -/
theorem wp_region_fresh2 {id : Nat} {Q : Exit → Act → World → Prop} {a : Act} {w : World} {l : List Oper} (A F : List Nat) (m : Nat) (t : Tw) (T R : List Nat) (hm : P.follows .mixedOrders = true)
    (hB : (planW .any l.toArray A F m t T R && (A ++ F ++ R).all (fun i => decide (i < l.length)) && (pickOps l A).all plainB && (pickOps l F).all plainB) = true)
    (h : wpQuiet P l.toArray (fun _ => True) (fun a' => wpQuiet P l.toArray (fun w' => ∃ p : Regrown, w' = Go.Sort.grow (redrawn w p.d) p.os) (fun a' => seqW P l (fun w' => ∃ p : Regrown, w' = Go.Sort.grow (redrawn w p.d) p.os) (fun x a w => x = .normal ∧ Q .normal a w) (pickOps l R) t a' w.drew) (pickOps l F) a') (pickOps l A) a) :
    (Code.region id l.toArray true).wp P Q a w :=
  wp_region_planW (D := fun w' => ∃ p : Regrown, w' = Go.Sort.grow (redrawn w p.d) p.os) A F m t T R hm hB ⟨⟨w.drawn + 1, #[]⟩, by rw [Go.Sort.grow_empty]; rfl⟩ h
variable {l : List Oper} {Q : Exit → Act → World → Prop} {lr : List Oper} {t t' : Tw} {b b' : Nat} {o o' : Oper} {a : Act} {w : World}
theorem seqT_one2 (h : l[b]? = some o) (k : wpList P l.toArray (fun x a' w' => x = .normal ∧ D w' ∧ seqW P l D Q lr t a' w') [o] a w) : seqW P l D Q lr (.one b t) a w := by
  unfold seqW
  rw [h]
  exact k
theorem seqT_two2 (h : l[b]? = some o) (h' : l[b']? = some o') (k : wpList P l.toArray (fun x a' w' => x = .normal ∧ D w' ∧ seqW P l D Q lr t a' w') [o] a w)
    (k' : wpList P l.toArray (fun x a' w' => x = .normal ∧ D w' ∧ seqW P l D Q lr t' a' w') [o'] a w) : seqW P l D Q lr (.two b t b' t') a w := by
  unfold seqW
  rw [h, h']
  exact ⟨k, k'⟩
theorem seqT_first2 (h : l[b]? = some o) (k : wpQuiet P l.toArray (fun _ => True) (fun a' => seqW P l D Q lr t a' w) [o] a) : seqW P l D Q lr (.first b t) a w := by
  unfold seqW
  rw [h]
  exact k
theorem seqT_rest2 (k : wpList P l.toArray Q lr a w) : seqW P l D Q lr .rest a w := k
end
end Go.Proofs.YtffhodocjjkkoaaGreat
namespace Go.Proofs.YtffhodocjjkkoaaGreat
open Go.RowKit Go.Sort
set_option maxHeartbeats 2000000
set_option maxRecDepth 100000
set_option linter.unusedVariables false
set_option linter.unusedSimpArgs false
theorem newbox4 (w : World) (z0 z1 z2 z3 : Value) (t : TypeId) : ∃ U, U = w.alloc (.cells #[z0, z1, z2, z3] t) ∧ Below w.heap.size w U ∧ U.heap.size = w.heap.size + 1 ∧ U.cell? ⟨w.heap.size, 0, none⟩ = some z0 ∧ U.cell? ⟨w.heap.size, 1, none⟩ = some z1 ∧ U.cell? ⟨w.heap.size, 2, none⟩ = some z2 ∧ U.cell? ⟨w.heap.size, 3, none⟩ = some z3 ∧ (∀ j, U.frozen? ⟨w.heap.size, j, none⟩ = false) :=
  ⟨_, rfl, (Below.refl _ _).alloc (Nat.le_refl _) _, by simp, by simp [go_sem], by simp [go_sem], by simp [go_sem], by simp [go_sem], fun j => by simp [go_sem]⟩
theorem newbox6 (w : World) (z0 z1 z2 z3 z4 z5 : Value) (t : TypeId) : ∃ U, U = w.alloc (.cells #[z0, z1, z2, z3, z4, z5] t) ∧ Below w.heap.size w U ∧ U.heap.size = w.heap.size + 1 ∧ U.cell? ⟨w.heap.size, 0, none⟩ = some z0 ∧ U.cell? ⟨w.heap.size, 1, none⟩ = some z1 ∧ U.cell? ⟨w.heap.size, 2, none⟩ = some z2 ∧ U.cell? ⟨w.heap.size, 3, none⟩ = some z3 ∧ U.cell? ⟨w.heap.size, 4, none⟩ = some z4 ∧ U.cell? ⟨w.heap.size, 5, none⟩ = some z5 ∧ (∀ j, U.frozen? ⟨w.heap.size, j, none⟩ = false) :=
  ⟨_, rfl, (Below.refl _ _).alloc (Nat.le_refl _) _, by simp, by simp [go_sem], by simp [go_sem], by simp [go_sem], by simp [go_sem], by simp [go_sem], by simp [go_sem], fun j => by simp [go_sem]⟩
theorem newbox1 (w : World) (z0 : Value) (t : TypeId) : ∃ U, U = w.alloc (.cells #[z0] t) ∧ Below w.heap.size w U ∧ U.heap.size = w.heap.size + 1 ∧ U.cell? ⟨w.heap.size, 0, none⟩ = some z0 ∧ (∀ j, U.frozen? ⟨w.heap.size, j, none⟩ = false) :=
  ⟨_, rfl, (Below.refl _ _).alloc (Nat.le_refl _) _, by simp, by simp [go_sem], fun j => by simp [go_sem]⟩
theorem newbox3 (w : World) (z0 z1 z2 : Value) (t : TypeId) : ∃ U, U = w.alloc (.cells #[z0, z1, z2] t) ∧ Below w.heap.size w U ∧ U.heap.size = w.heap.size + 1 ∧ U.cell? ⟨w.heap.size, 0, none⟩ = some z0 ∧ U.cell? ⟨w.heap.size, 1, none⟩ = some z1 ∧ U.cell? ⟨w.heap.size, 2, none⟩ = some z2 ∧ (∀ j, U.frozen? ⟨w.heap.size, j, none⟩ = false) :=
  ⟨_, rfl, (Below.refl _ _).alloc (Nat.le_refl _) _, by simp, by simp [go_sem], by simp [go_sem], by simp [go_sem], fun j => by simp [go_sem]⟩
theorem strip_cell {w : World} {B : Nat} {A : Option Addr} {n c : Nat} {ms : List Strip} (hr : RS tSt w B (.slice A n c) ms) (hb : hM.sz ms ≤ 100000000) {k : Nat} (hk : k < n) :
    ∃ (bb o : Nat) (s : ByteArray) (l : Int) (A1 : Option Addr) (n1 c1 : Nat) (us : List (Int × Int)), A = some ⟨bb, o, none⟩ ∧ bb < B ∧ Hid (ms[k]? = some (s, l, us)) ∧ w.cell? ⟨bb, o + k * 3, none⟩ = some (.string s) ∧ w.cell? ⟨bb, o + k * 3 + 1, none⟩ = some (.int .i64 l) ∧ w.cell? ⟨bb, o + k * 3 + 2, none⟩ = some (.slice A1 n1 c1) ∧ s.size ≤ maxLen ∧ RA sd 2 w B A1 n1 us ∧ n1 ≤ 100000000 := by
  obtain rfl : ms.length = n := hr.cap.1
  have hX := List.getElem?_eq_getElem hk
  obtain ⟨bb, o, c1, cs, hv, hab, -, hE, hc⟩ := hr.atX hX
  simp only [Value.slice.injEq] at hv
  obtain ⟨rfl, -, rfl⟩ := hv
  have hU := hSt.szL_at hX
  have hU2 : ms.length + hSt.szL ms ≤ 100000000 := hb
  generalize ms[k] = x at hX hE hU
  obtain ⟨s, l, us⟩ := x
  obtain ⟨A1, n1, c1, rfl, hs, hS⟩ := st_R.1 hE
  have hra : RA sd 2 w B A1 n1 us := (sl_R.1 hS).flat.1
  have hl : us.length = n1 := hra.len
  have hz : us.length ≤ hSt.sz (s, l, us) := by
    have e : hSt.sz (s, l, us) = s.size + (0 + (us.length + hSd.szL us)) := rfl
    omega
  have e0 : w.cell? ⟨bb, o + k * 3, none⟩ = some (.string s) := hc 0 _ rfl
  exact ⟨bb, o, s, l, A1, n1, c1, us, rfl, hab, Lib.hid hX, e0, hc 1 _ rfl, hc 2 _ rfl, hs, hra, by omega⟩
end Go.Proofs.YtffhodocjjkkoaaGreat
namespace Go.Proofs.YtffhodocjjkkoaaGreat
open Go.RowKit Go.Sort
set_option maxHeartbeats 2000000
set_option maxRecDepth 100000
set_option linter.unusedVariables false
set_option linter.unusedSimpArgs false
theorem M.insN_one {x : Node} (h : x.1 = 1) (fr vs : List Int) : M.insN x fr vs = [M.i_ fr x.2.1.toNat] := by rw [M.insN, if_pos h]
theorem M.insN_map {x : Node} (h : x.1 ≠ 1) (fr vs : List Int) : M.insN x fr vs = M.mapI x.2.2.2 vs := by rw [M.insN, if_neg h]; rfl
theorem impl_player_inputs (b : Nat) (Av : Option Addr) (nv cv : Nat) (vs : List Int) (a0 a1 a2 : Int) (A : Option Addr) (n c : Nat) (xs : List Int) (Af : Option Addr) (nf cf : Nat) (fr : List Int) (w : World)
    (p5 : w.cell? ⟨b, 5, none⟩ = some (.slice Av nv cv)) (hv : RI w w.heap.size Av nv vs) (hx : RI w w.heap.size A n xs) (hf : RI w w.heap.size Af nf fr) (hn : n ≤ 1000000000) (hnv : nv ≤ 1000000000) (hnf : nf ≤ 1000000000)
    (h1 : a0 = 1 → 0 ≤ a1 ∧ a1 < nf) (hr : Hid (∀ f ∈ xs, 0 ≤ f ∧ f < nv)) :
    Calls Tryz.prog 197 #[.pointer (some ⟨b, 0, none⟩), .agg #[.int .i64 a0, .int .i64 a1, .int .i64 a2, .slice A n c], .slice Af nf cf] w (Ret1 2 w (M.insN (a0, a1, a2, xs) fr vs)) := by
  have lb : b < w.heap.size := World.block_lt_of_cell? w _ p5
  obtain ⟨W, hW, B0, sW, q0, q1, q2, q3, qf⟩ := newbox4 w (.int .i64 a0) (.int .i64 a1) (.int .i64 a2) (.slice A n c) 171
  have p5' : W.cell? ⟨b, 5, none⟩ = some (.slice Av nv cv) := by rw [B0.cell (by show b < _; omega)]; exact p5
  have lW : w.heap.size < W.heap.size := by omega
  have HW := Lib.hid hW
  clear hW sW
  by_cases h : a0 = 1
  · have h1' := h1 h
    subst h
    obtain ⟨j, rfl⟩ : ∃ j : Nat, a1 = (j : Int) := ⟨a1.toNat, by omega⟩
    obtain ⟨bf, of, rfl, hbf, hcf⟩ := ri_lit hf (by omega)
    obtain ⟨_, y, e, _, Y, _⟩ := hf.at (k := j) (by omega)
    have cy : w.cell? ⟨bf, of + j, none⟩ = some (.int .i64 y) := hcf j y Y.out
    have cy' : W.cell? ⟨bf, of + j, none⟩ = some (.int .i64 y) := by rw [B0.cell (by show bf < _; omega)]; exact cy
    have hj0 : (0 : Int) ≤ (j : Int) := by omega
    have hjn : (j : Int) < (nf : Int) := by omega
    have E := Lib.hid (show M.insN (1, (j : Int), a2, xs) fr vs = [y] by rw [M.insN_one rfl]; show [M.i_ fr (j : Int).toNat] = _; rw [Int.toNat_natCast, i_get Y.out])
    have O1 := OI_lit W y
    have B1 : Below w.heap.size w (W.alloc (.cells #[.int .i64 y] 2)) := B0.alloc B0.size _
    rw [HW.out] at O1 B1
    have hz : (w.alloc (.cells #[.int .i64 1, .int .i64 (j : Int), .int .i64 a2, .slice A n c] 171)).heap.size = w.heap.size + 1 := by simp
    rw [hz] at O1
    clear hz
    clear h1 h1' hcf e hr hv hx hf
    go_enter Tryz.func197, Tryz.ntmps197
    go_wp2_with fail
    go_ret
    rw [E.out]
    exact ⟨_, rfl, O1.base (B' := w.heap.size) (by simp), B1⟩
  · have E := Lib.hid (show M.insN (a0, a1, a2, xs) fr vs = M.mapI xs vs from M.insN_map h fr vs)
    have hne : (a0 == 1) = false := by simpa using h
    have pq := cell_regrown p5'
    have pq3 := cell_regrown q3
    have D1 : Below W.heap.size W W.drew := below_drewN (Below.refl _ _) 1
    have hd0 : W.drew.heap.size = W.heap.size := rfl
    have B1 : Below w.heap.size w W.drew := below_drewN B0 1
    clear h1
    go_enter Tryz.func197, Tryz.ntmps197
    go_wp2_with fail
    rw [← HW.out]
    (refine wp_region_fresh [0, 2, 3, 4] [1, 5] 1 (.one 6 .rest) [7] (by kernel_rfl) (by kernel_rfl) ?_; simp only [pickOps]; simp only [List.filterMap, List.getElem?_cons_succ, List.getElem?_cons_zero]; (repeat (go_big_quiet_step (fail))); refine wpQuiet_nil ?_; (repeat (go_big_quiet_step (fail))); refine wpQuiet_nil ?_)
    refine seqT_one rfl ?_
    go_wp2_with fail
    refine (impl_mapped _ _ _ _ _ _ _ _ _ (hx.later B1) (hv.later B1) hn hnv hr).mono ?_
    rintro e w2 ⟨v4, rfl, own1, bel1⟩
    have B2 := bel_trans D1 bel1
    go_wp2_with fail
    refine ⟨regrown_of_below B2, seqT_rest ?_⟩
    go_wp2_with fail
    refine ⟨rfl, v4, by simp [results, Tryz.results197, go_sem], ?_⟩
    rw [E.out]
    exact ⟨_, rfl, own1.base (by have := B1.size; omega), bel_trans B1 bel1⟩
theorem impl_player_outputs (b : Nat) (Av : Option Addr) (nv cv : Nat) (vs : List Int) (A3 : Option Addr) (n3 c3 : Nat) (outs : List Int) (w : World)
    (p3 : w.cell? ⟨b, 3, none⟩ = some (.slice A3 n3 c3)) (p5 : w.cell? ⟨b, 5, none⟩ = some (.slice Av nv cv)) (hv : RI w w.heap.size Av nv vs) (hx : RI w w.heap.size A3 n3 outs) (hn : n3 ≤ 1000000000) (hnv : nv ≤ 1000000000) (hr : Hid (∀ f ∈ outs, 0 ≤ f ∧ f < nv)) :
    Calls Tryz.prog 177 #[.pointer (some ⟨b, 0, none⟩)] w (Ret1 2 w (M.mapI outs vs)) := by
  have pq := cell_regrown p5
  have pq3 := cell_regrown p3
  have D1 : Below w.heap.size w w.drew := below_drewN (Below.refl _ _) 1
  have hd0 : w.drew.heap.size = w.heap.size := rfl
  go_enter Tryz.func177, Tryz.ntmps177
  go_wp2_with fail
  (refine wp_region_fresh [0, 1, 2, 3, 5, 6, 7] [4, 8] 1 (.one 9 .rest) [10] (by kernel_rfl) (by kernel_rfl) ?_; simp only [pickOps]; simp only [List.filterMap, List.getElem?_cons_succ, List.getElem?_cons_zero]; (repeat (go_big_quiet_step (fail))); refine wpQuiet_nil ?_; (repeat (go_big_quiet_step (fail))); refine wpQuiet_nil ?_)
  refine seqT_one rfl ?_
  go_wp2_with fail
  refine (impl_mapped _ _ _ _ _ _ _ _ _ (hx.later D1) (hv.later D1) hn hnv hr).mono ?_
  rintro e w2 ⟨v4, rfl, own1, bel1⟩
  have B2 := bel_trans D1 bel1
  go_wp2_with fail
  refine ⟨regrown_of_below B2, seqT_rest ?_⟩
  go_wp2_with fail
  refine ⟨rfl, v4, by simp [results, Tryz.results177, go_sem], ?_⟩
  exact ⟨_, rfl, own1.base (by omega), bel_trans D1 bel1⟩
end Go.Proofs.YtffhodocjjkkoaaGreat
