import Derived.Test.YtckihflfjecpbaaW76
import Derived.Test.YtckihflfjecpbaaW71
import Derived.Test.YtckihflfjecpbaaW51
namespace Go.Proofs.Ytckihflfjecpbaa
open Go.RowKit
set_option maxHeartbeats 2000000
set_option maxRecDepth 100000
/-- A drawn list of points, all before 'a'. -/
def M.drawn (xs : List (Int × Int)) (a : Int) : Prop := (∀ p ∈ xs, 0 ≤ p.1 ∧ p.1 < a ∧ -65536 ≤ p.2 ∧ p.2 ≤ 65536) ∧ xs.Pairwise (fun p q => p.1 < q.1)
theorem M.drawn_nil (a : Int) : M.drawn [] a := ⟨by simp, by simp⟩
theorem M.drawn_step {xs : List (Int × Int)} {a v b : Int} (h : M.drawn xs a) (h0 : 0 ≤ a) (hv : -65536 ≤ v ∧ v ≤ 65536) (hb : a < b) : M.drawn (xs ++ [(a, v)]) b := by
  constructor
  · intro p hp
    rcases List.mem_append.1 hp with h1 | h1
    · have := h.1 p h1
      omega
    · simp only [List.mem_singleton] at h1
      subst h1
      simp only
      omega
  · rw [List.pairwise_append]
    refine ⟨h.2, by simp, fun p hp q hq => ?_⟩
    simp only [List.mem_singleton] at hq
    subst hq
    exact (h.1 p hp).2.1
theorem M.drawn_ok {xs : List (Int × Int)} {a : Int} (h : M.drawn xs a) (hl : 1 ≤ xs.length ∧ xs.length ≤ 24) (ha : a ≤ 100) : M.curveOk xs = true ∧ ∀ p ∈ xs, p.1 ≤ 100 := by
  refine ⟨(M.curve_iff xs).2 ⟨fun p hp => ?_, h.2, hl⟩, fun p hp => by have := h.1 p hp; omega⟩
  have := h.1 p hp
  rw [M.ptOk, Bool.and_eq_true, M.inn_iff, M.inn_iff]
  omega
/-- What the drawing of a curve gives back. -/
def DrewC (b lo : Nat) (A : Option Addr) (n c : Nat) (code : List UInt8) (K : Nat) (w : World) (e : Ending) (w' : World) : Prop :=
  ∃ A1 c1 xs, e = .returned (.agg #[.slice A1 (List.length xs) c1]) ∧ OA pt 34 2 w.heap.size w'.heap.size w' (.slice A1 xs.length c1) xs ∧ Hid (M.curveOk xs = true ∧ ∀ p ∈ xs, p.1 ≤ 100) ∧ Src w' b lo A n c code K ∧ Mid b (b + 1) w w'
section
variable {lo hi g o : Nat} {w w' : World}
theorem Mid.cellK {u : Option Value} (h : Mid lo hi w w') (hg : g < w.heap.size) (hd : g < lo ∨ hi ≤ g) (hc : w.cell? ⟨g, o, none⟩ = u) : w'.cell? ⟨g, o, none⟩ = u := by rw [World.cell?_of_block (h.block g hg hd)]; exact hc
theorem Mid.thenB' {a b c : World} {B : Nat} (h : Mid lo hi a b) (k : Below B b c) (hB : a.heap.size ≤ B) : Mid lo hi a c :=
  ⟨k.os.trans h.os, k.tape.trans h.tape, k.output.trans h.output, Nat.le_trans h.size k.size, fun i hi' hm => (k.block i (by omega)).trans (h.block i hi' hm)⟩
theorem Mid.frozK {u : Bool} (h : Mid lo hi w w') (hg : g < w.heap.size) (hd : g < lo ∨ hi ≤ g) (hc : w.frozen? ⟨g, o, none⟩ = u) : w'.frozen? ⟨g, o, none⟩ = u := by rw [World.frozen?_of_block (h.block g hg hd)]; exact hc
end
theorem spec_l00Min (a b : Int) (w : World) : Calls Try.prog 133 #[.int .i64 a, .int .i64 b] w fun e w' => e = .returned (.int .i64 (min a b)) ∧ w = w' := by
  by_cases h : a < b
  all_goals
    go_enter Try.func133, Try.ntmps133
    go_wp2
    go_ret
    exact ⟨ret_int (by omega), rfl⟩
/-- How the drawing of a curve stands: a result's box, the curve's box, its row. -/
structure DC (w : World) (b lo : Nat) (A : Option Addr) (n c : Nat) (code : List UInt8) (K : Nat) (xs : List (Int × Int)) (v : Value) (wr : World) : Prop where
  c0 : wr.cell? ⟨w.heap.size, 0, none⟩ = some (.slice none 0 0)
  f0 : wr.frozen? ⟨w.heap.size, 0, none⟩ = false
  c1 : wr.cell? ⟨w.heap.size + 1, 0, none⟩ = some v
  f1 : wr.frozen? ⟨w.heap.size + 1, 0, none⟩ = false
  own : OA pt 34 2 (w.heap.size + 1 + 1) wr.heap.size wr v xs
  src : Src wr b lo A n c code K
  mid : Mid b (b + 1) w wr
  sz : w.heap.size + 1 + 1 ≤ wr.heap.size
theorem DC.step {w wr w' : World} {b lo : Nat} {A : Option Addr} {n c : Nat} {code : List UInt8} {K K' : Nat} {xs : List (Int × Int)} {v : Value} (h : DC w b lo A n c code K xs v wr) (hb : b < w.heap.size) (hs : Src w' b lo A n c code K') (hm : Mid b (b + 1) wr w') : DC w b lo A n c code K' xs v w' :=
  have hz := h.sz
  ⟨hm.cellK (by omega) (.inr (by omega)) h.c0, hm.frozK (by omega) (.inr (by omega)) h.f0, hm.cellK (by omega) (.inr (by omega)) h.c1, hm.frozK (by omega) (.inr (by omega)) h.f1,
    (h.own.mid hm (.inr (by omega)) (Nat.le_refl _)).wide (Nat.le_refl _) hm.size, hs, h.mid.trans hm, Nat.le_trans hz hm.size⟩
theorem DC.more {w wr : World} {b lo : Nat} {A : Option Addr} {n c : Nat} {code : List UInt8} {K K' : Nat} {xs : List (Int × Int)} {v : Value} (h : DC w b lo A n c code K xs v wr) (hK : K ≤ K') : DC w b lo A n c code K' xs v wr :=
  ⟨h.c0, h.f0, h.c1, h.f1, h.own, h.src.more hK, h.mid, h.sz⟩
theorem spec_l25Draw (b lo : Nat) (A : Option Addr) (n c : Nat) (code : List UInt8) (K : Nat) (w : World) (h : Src w b lo A n c code K) (hK : K ≤ 1000000) :
    Calls Try.prog 88 #[.pointer (some ⟨b, 0, none⟩)] w (DrewC b lo A n c code (K + 6 + 6 * 7) w) := by
  have hbw := h.lt
  have d0 : DC w b lo A n c code K [] (.slice none 0 0) ((w.alloc (.cells #[.slice none 0 0] 30)).alloc (.cells #[.slice none 0 0] 30)) := by
    have hB : Below w.heap.size w ((w.alloc (.cells #[.slice none 0 0] 30)).alloc (.cells #[.slice none 0 0] 30)) := ((Below.refl _ _).alloc (Nat.le_refl _) _).alloc (by simp) _
    exact ⟨by simp [go_sem], by simp [go_sem], by simp [go_sem], by simp [go_sem], OA.nil _, h.below hB hbw, Mid.of_below hB _ _, by simp⟩
  go_enter Try.func88, Try.ntmps88
  go_wp2_with fail
  refine (src_pick b lo A n c code K 5 _ d0.src (by omega) (by omega)).mono ?_
  rintro e w1 ⟨a, rfl, ⟨a0, a1⟩, s1, m1⟩
  have d1 := d0.step hbw s1 m1
  clear d0 s1 m1
  go_wp2_with fail
  refine (src_pick b lo A n c code (K + 2) 200 _ d1.src (by omega) (by omega)).mono ?_
  rintro e w2 ⟨x, rfl, ⟨x0, x1⟩, s2, m2⟩
  have d2 := d1.step hbw s2 m2
  clear d1 s2 m2
  go_wp2_with fail
  refine (src_pick b lo A n c code (K + 4) 7 _ d2.src (by omega) (by omega)).mono ?_
  rintro e w3 ⟨k, rfl, ⟨k0, k1⟩, s3, m3⟩
  have d3 := d2.step hbw s3 m3
  clear d2 s3 m3
  obtain ⟨k, rfl⟩ : ∃ j : Nat, k = j := ⟨k.toNat, by omega⟩
  have hx : x ≤ 199 ∧ a ≤ 4 ∧ k ≤ 6 := by omega
  clear x1 a1 k1
  go_wp2_with fail
  go_loopw [4, 5, 6] (fun t u i wr => ∃ (j : Nat) (xs : List (Int × Int)) (v : Value) (a y : Int), i = .int .i64 j ∧ t = .int .i64 a ∧ u = .int .i64 y ∧ j ≤ 7 ∧ xs.length + j = 1 + k ∧ 0 ≤ a ∧ a ≤ 4 + 9 * (xs.length : Int) ∧ -65536 ≤ y ∧ y ≤ 65536 ∧ Hid (M.drawn xs a) ∧ DC w b lo A n c code (K + 6 + 6 * (7 - j)) xs v wr)
    (fun _ _ i _ => (intOf i).toNat)
  case atStart => exact ⟨k + 1, [], _, a, x - 100, by go_num, rfl, rfl, by omega, by simp; omega, by omega, by simp; omega, by omega, by omega, Lib.hid (M.drawn_nil a), d3.more (by omega)⟩
  case round =>
    obtain ⟨j, xs, v, a, y, rfl, rfl, rfl, hj, hl, ha0, ha1, hy0, hy1, hdr, D⟩ := hrel
    have hsz := D.sz
    have hc0 := D.c0
    have hf0 := D.f0
    have hc1 := D.c1
    have hf1 := D.f1
    obtain ⟨A1, c1, rfl, -⟩ := D.own.shape
    by_cases hlt : 0 < j
    · go_wp2_with (at_builtin; refine wpList_push ei_pt _ rfl _ _ rfl D.own.1 rfl rfl rfl (by simp [Value.oneCell']) (by unfold maxLen; omega) (by omega) (by omega) ?_; intro v4 w4 own4 gr4 bel4; obtain ⟨A5, c5, rfl, -⟩ := own_shape own4; have e0 : w4.cell? ⟨w.heap.size + 1, 0, none⟩ = some (.slice A1 xs.length c1) := (by rw [bel4.cell (by simp)]; exact hc1); have e1 : w4.frozen? ⟨w.heap.size + 1, 0, none⟩ = false := (by rw [bel4.frozen (by simp)]; exact hf1))
      have hF := D.own
      have D4 : DC w b lo A n c code (K + 6 + 6 * (7 - j)) (xs ++ [(a, y)]) (.slice A5 (xs.length + 1) c5) (w4.setCell ⟨w.heap.size + 1, 0, none⟩ (.slice A5 (xs.length + 1) c5)) := by
        have hB : Below (w.heap.size + 1 + 1) wr w4 := bel4
        have hs4 := bel4.size
        have hm : Mid (w.heap.size + 1) (w.heap.size + 1 + 1) w4 (w4.setCell ⟨w.heap.size + 1, 0, none⟩ (.slice A5 (xs.length + 1) c5)) := Mid.of_grown (grown_setCell w4 (w.heap.size + 1) 0 _) fun k hk => by injection hk with hk; omega
        refine ⟨?_, ?_, by simp [go_sem, e0], by simp [go_sem, e1], ?_, ?_, ?_, by simpa using Nat.le_trans hsz hs4⟩
        · exact hm.cellK (by omega) (.inl (by omega)) (by rw [hB.cell (by show w.heap.size < _; omega)]; exact hc0)
        · exact hm.frozK (by omega) (.inl (by omega)) (by rw [hB.frozen (by show w.heap.size < _; omega)]; exact hf0)
        · have o5 := (OA.push (enc := pt) (x := (a, y)) own4).mid hm (.inr (Nat.le_refl _)) (Nat.le_refl _)
          exact o5.wide (Nat.le_refl _) (by simp)
        · exact (D.src.below hB (by omega)).mid hm (by omega)
        · exact D.mid.thenB' (Below.setCell (show Below (w.heap.size + 1) wr w4 from hB.mono (Nat.le_succ _)) (Nat.le_refl _) _) (Nat.le_succ _)
      generalize w4.setCell ⟨w.heap.size + 1, 0, none⟩ (.slice A5 (xs.length + 1) c5) = U at D4 ⊢
      clear own4 gr4 bel4 e0 e1 hc0 hf0 hc1 hf1 D hF hsz
      clear w4
      generalize hys : xs ++ [(a, y)] = ys at D4
      have HYS := Lib.hid hys
      clear hys
      have hl5 : ys.length = xs.length + 1 := by rw [← HYS.out]; simp
      refine (src_pick b lo A n c code _ 9 _ D4.src (by omega) (by omega)).mono ?_
      rintro e w5 ⟨z, rfl, ⟨z0, z1⟩, s5, m5⟩
      have D5 := D4.step hbw s5 m5
      clear D4 s5 m5
      have z2 : z ≤ 8 := by omega
      clear z1
      go_wp2_with fail
      refine (src_pick b lo A n c code _ 4 _ D5.src (by omega) (by omega)).mono ?_
      rintro e w6 ⟨q, rfl, ⟨q0, q1⟩, s6, m6⟩
      have D6 := D5.step hbw s6 m6
      clear D5 s6 m6
      have hdr2 : ∀ v, -65536 ≤ v ∧ v ≤ 65536 → Hid (M.drawn ys (a + (1 + z))) := fun v hv => by
        rw [← HYS.out]; exact Lib.hid (M.drawn_step hdr.out ha0 ⟨hy0, hy1⟩ (by omega))
      have hdr3 := hdr2 0 (by omega)
      clear hdr2
      have q2 : q ≤ 3 := by omega
      clear q1
      by_cases e0 : q = 0
      · subst e0
        go_wp2_with fail
        refine (src_pick b lo A n c code _ 200 _ D6.src (by omega) (by omega)).mono ?_
        rintro e w7 ⟨v, rfl, ⟨v0, v1⟩, s7, m7⟩
        have D7 := D6.step hbw s7 m7
        have v2 : v ≤ 199 := by omega
        clear v1
        go_wp2
        go_roundw
        case rel => exact ⟨j - 1, ys, _, a + (1 + z), v - 100, by go_num, by go_num, rfl, by omega, by omega, by omega, by omega, by omega, by omega, hdr3, D7.more (by omega)⟩
        case measure => simp [intOf]; omega
      · have f0 : (q == 0) = false := by simpa using e0
        by_cases e1 : q = 1
        · subst e1
          have hg := D6.src.lt
          have s7 := D6.src.below ((Below.refl w6.heap.size w6).alloc (Nat.le_refl _) (.cells #[.int .i64 65536, .int .i64 (-65536), .int .i64 0] 2)) hg
          go_wp2_with fail
          refine (src_among b lo A n c code _ w6.heap.size 3 3 [65536, -65536, 0] _ s7 (by omega) rfl (by omega) (by omega) (by simp) ?_).mono ?_
          · intro i x hx
            rw [cell_of_row _ w6.heap.size i _ 2 (0, 0) (heap_alloc_new w6 _)]
            match i, hx with
            | 0, hx => simp at hx; subst hx; rfl
            | 1, hx => simp at hx; subst hx; rfl
            | 2, hx => simp at hx; subst hx; rfl
            | i + 3, hx => simp at hx
          · rintro e w7 ⟨v, rfl, hv, s8, m8⟩
            have D7 := (D6.step hbw s7 (Mid.of_below ((Below.refl _ _).alloc (Nat.le_refl _) _) _ _)).step hbw s8 m8
            have v2 : -65536 ≤ v ∧ v ≤ 65536 := by simp at hv; omega
            clear hv
            go_wp2
            go_roundw
            case rel => exact ⟨j - 1, ys, _, a + (1 + z), v, by go_num, by go_num, rfl, by omega, by omega, by omega, by omega, by omega, by omega, hdr3, D7.more (by omega)⟩
            case measure => simp [intOf]; omega
        · have f1 : (q == 1) = false := by simpa using e1
          by_cases e2 : q = 2
          · subst e2
            go_wp2_with fail
            refine (spec_l00Min _ _ _).mono ?_
            rintro e w' ⟨rfl, rfl⟩
            go_wp2
            go_roundw
            case rel => exact ⟨j - 1, ys, _, a + (1 + z), min 65536 (y + 2), by go_num, by go_num, rfl, by omega, by omega, by omega, by omega, by omega, by omega, hdr3, D6.more (by omega)⟩
            case measure => simp [intOf]; omega
          · have f2 : (q == 2) = false := by simpa using e2
            go_wp2
            go_roundw
            case rel => exact ⟨j - 1, ys, _, a + (1 + z), y, by go_num, by go_num, rfl, by omega, by omega, by omega, by omega, by omega, by omega, hdr3, D6.more (by omega)⟩
            case measure => simp [intOf]; omega
    · obtain rfl : j = 0 := by omega
      have hok := Lib.hid (M.drawn_ok hdr.out (by omega) (by omega))
      go_wp2
      refine bodyPost_ret (v := .agg #[.slice A1 xs.length c1]) (by simp [results, Try.results88, go_sem, hc0, hf0]) rfl ?_
      have hm : Mid w.heap.size (w.heap.size + 1) wr (wr.setCell ⟨w.heap.size, 0, none⟩ (.slice A1 xs.length c1)) := Mid.cell wr w.heap.size 0 _
      refine ⟨_, _, xs, rfl, (D.own.mid hm (.inr (by omega)) (Nat.le_refl _)).wide (by omega) hm.size, hok, (D.src.mid hm hbw).more (by omega), D.mid.thenB' ((Below.refl w.heap.size _).setCell (Nat.le_refl _) _) (Nat.le_refl _)⟩
end Go.Proofs.Ytckihflfjecpbaa
