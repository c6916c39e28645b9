import Derived.Test.YtecdendjlgohjaaDoorFnLinesG2
import Derived.Deep.RegionLaw
import Derived.Lib.SliceRun
import Derived.Test.YtecdendjlgohjaaDoorFnLinesG1
import Derived.Maps.AppendAt
import Derived.StillTailTactics
set_option linter.unusedVariables false
set_option linter.unusedSimpArgs false
namespace Go.Proofs.YtecdendjlgohjaaDoor
open Go.RowKit Go.Sort
set_option maxHeartbeats 400000
set_option maxRecDepth 100000
/-- What the reference has collected after k points. -/
def M.setTo (xs : List (Int × Int)) (p : Int × Int) (k : Nat) (dn : Bool) : List (Int × Int) :=
  if dn then (xs.take k).filter (fun q => decide (q.1 < p.1)) ++ [p] ++ (xs.take k).filter (fun q => decide (p.1 < q.1)) else (xs.take k).filter (fun q => decide (q.1 < p.1))
def M.setInv (xs : List (Int × Int)) (p : Int × Int) (k : Nat) (dn : Bool) : Prop :=
  (dn = true → 0 < k ∧ ∃ q, xs[k - 1]? = some q ∧ p.1 ≤ q.1) ∧ (dn = false → (xs.take k).filter (fun q => decide (p.1 < q.1)) = [])
theorem M.setTo_len (xs : List (Int × Int)) (p : Int × Int) (k : Nat) (dn : Bool) : (M.setTo xs p k dn).length ≤ 2 * xs.length + 1 := by
  unfold M.setTo
  have h1 := List.length_filter_le (fun q : Int × Int => decide (q.1 < p.1)) (xs.take k)
  have h2 := List.length_filter_le (fun q : Int × Int => decide (p.1 < q.1)) (xs.take k)
  have h3 : (xs.take k).length ≤ xs.length := by rw [List.length_take]; omega
  split
  · simp only [List.length_append, List.length_singleton]
    omega
  · omega
theorem M.setInv_zero (xs : List (Int × Int)) (p : Int × Int) : M.setInv xs p 0 false := ⟨by simp, by simp⟩
/-- A point before p. -/
theorem M.setP_low {xs : List (Int × Int)} {p q : Int × Int} {k : Nat} (hq : xs[k]? = some q) (h : q.1 < p.1) (hi : M.setInv xs p k false) : M.setInv xs p (k + 1) false ∧ M.setTo xs p (k + 1) false = M.setTo xs p k false ++ [q] := by
  refine ⟨⟨by simp, fun _ => ?_⟩, ?_⟩
  · rw [M.filter_at _ hq, hi.2 rfl, if_neg (by simp; omega)]
    rfl
  · simp only [M.setTo, Bool.false_eq_true, if_false]
    rw [M.filter_at _ hq, if_pos (by simpa using h)]
/-- The point at p's time. -/
theorem M.setP_same {xs : List (Int × Int)} {p q : Int × Int} {k : Nat} (hq : xs[k]? = some q) (h : q.1 = p.1) (hi : M.setInv xs p k false) : M.setInv xs p (k + 1) true ∧ M.setTo xs p (k + 1) true = M.setTo xs p k false ++ [p] := by
  refine ⟨⟨fun _ => ⟨by omega, q, by simpa using hq, by omega⟩, by simp⟩, ?_⟩
  simp only [M.setTo, Bool.false_eq_true, if_false, if_true]
  rw [M.filter_at _ hq, M.filter_at _ hq, hi.2 rfl, if_neg (by simp; omega), if_neg (by simp; omega)]
  simp
/-- The first point behind p. -/
theorem M.setP_high {xs : List (Int × Int)} {p q : Int × Int} {k : Nat} (hq : xs[k]? = some q) (h : p.1 < q.1) (hi : M.setInv xs p k false) : M.setInv xs p (k + 1) true ∧ M.setTo xs p (k + 1) true = M.setTo xs p k false ++ [p] ++ [q] := by
  refine ⟨⟨fun _ => ⟨by omega, q, by simpa using hq, by omega⟩, by simp⟩, ?_⟩
  simp only [M.setTo, Bool.false_eq_true, if_false, if_true]
  rw [M.filter_at _ hq, M.filter_at _ hq, hi.2 rfl, if_neg (by simp; omega), if_pos (by simpa using h)]
  simp
/-- A point further behind. -/
theorem M.setP_more {xs : List (Int × Int)} {p q : Int × Int} {k : Nat} (hok : M.curveOk xs = true) (hq : xs[k]? = some q) (hi : M.setInv xs p k true) : p.1 < q.1 ∧ M.setInv xs p (k + 1) true ∧ M.setTo xs p (k + 1) true = M.setTo xs p k true ++ [q] := by
  obtain ⟨hk, r, hr, hpr⟩ := hi.1 rfl
  have hlt : p.1 < q.1 := by have := M.curve_lt hok hk hr hq; omega
  refine ⟨hlt, ⟨fun _ => ⟨by omega, q, by simpa using hq, by omega⟩, by simp⟩, ?_⟩
  simp only [M.setTo, if_true]
  rw [M.filter_at _ hq, M.filter_at _ hq, if_neg (by simp; omega), if_pos (by simpa using hlt)]
  simp
theorem M.setP_end {xs : List (Int × Int)} {p : Int × Int} {dn : Bool} {n : Nat} (hn : xs.length = n) (hi : M.setInv xs p n dn) : (if dn then M.setTo xs p n dn else M.setTo xs p n dn ++ [p]) = M.setP xs p := by
  have ht : xs.take n = xs := List.take_of_length_le (by omega)
  cases dn
  · have := hi.2 rfl
    simp only [M.setTo, M.setP, ht, Bool.false_eq_true, if_false] at *
    rw [this]
  · simp only [M.setTo, M.setP, ht, if_true]
    simp
theorem OA.made0 {α : Type} {enc : α → List Value} {e : TypeId} {s : Nat} (w : World) : OA enc e s w.heap.size (w.alloc (.cells #[] e)).heap.size (w.alloc (.cells #[] e)) (.slice (some ⟨w.heap.size, 0, none⟩) 0 0) [] :=
  OX.of_own (World.ownsRow_made _ _ _ (Nat.le_refl _) (by simp [maxLen]) (by simp))
theorem spec_SetPoint (A : Option Addr) (n c : Nat) (xs : List (Int × Int)) (p0 p1 : Int) (w : World) (hx : RA pt 2 w w.heap.size A n xs) (hn : n ≤ 1000000000) :
    Calls Tryd.prog 28 #[.agg #[.slice A n c], .agg #[.int .i64 p0, .int .i64 p1]] w (RetC 52 w (M.setR xs (p0, p1))) := by
  have hl := Lib.hid hx.len
  have hb3 : Below w.heap.size w (((w.alloc (.cells #[.slice A n c] 29)).alloc (.cells #[.int .i64 p0, .int .i64 p1] 52)).alloc (.cells #[.slice none 0 0] 29)) := (((Below.refl _ _).alloc (Nat.le_refl _) _).alloc (by simp) _).alloc (by simp; omega) _
  have hx1 := hx.later hb3
  have hself : (((w.alloc (.cells #[.slice A n c] 29)).alloc (.cells #[.int .i64 p0, .int .i64 p1] 52)).alloc (.cells #[.slice none 0 0] 29)).cell? ⟨w.heap.size, 0, none⟩ = some (.slice A n c) := by simp [go_sem]
  cases hok : M.curveOk xs
  · have hr := Lib.hid (show M.setR xs (p0, p1) = ([], 1) by rw [M.setR, hok]; rfl)
    go_enter Tryd.func28, Tryd.ntmps28
    go_wp2_with (go_at_call 31; refine (spec_l25Ok _ _ _ _ _ _ hself hx1 hn).mono ?_; rw [hok]; rintro e w2 ⟨rfl, bel2⟩; have hq : w2.cell? ⟨w.heap.size + 1 + 1, 0, none⟩ = some (.slice none 0 0) := (by rw [bel2.cell (by simp)]; simp [go_sem]); have hf : w2.frozen? ⟨w.heap.size + 1 + 1, 0, none⟩ = false := (by rw [bel2.frozen (by simp)]; simp [go_sem]))
    refine bodyPost_ret (v := .tuple #[.agg #[.slice none 0 0], .int .i64 1]) (by simp [results, Tryd.results28, go_sem, hq, hf]) rfl ?_
    rw [hr.out]
    exact ⟨_, rfl, OA.nil _, (hb3.trans (bel2.mono hb3.size)).setCell (by simp; omega) _⟩
  · cases hp : M.ptOk (p0, p1)
    · have hr := Lib.hid (show M.setR xs (p0, p1) = ([], 2) by rw [M.setR, hok, hp]; rfl)
      go_enter Tryd.func28, Tryd.ntmps28
      go_wp2_with (first | (go_at_call 31; refine (spec_l25Ok _ _ _ _ _ _ hself hx1 hn).mono ?_; rw [hok]; rintro e w2 ⟨rfl, bel2⟩; have hq : w2.cell? ⟨w.heap.size + 1 + 1, 0, none⟩ = some (.slice none 0 0) := (by rw [bel2.cell (by simp)]; simp [go_sem]); have hf : w2.frozen? ⟨w.heap.size + 1 + 1, 0, none⟩ = false := (by rw [bel2.frozen (by simp)]; simp [go_sem]); have h0 : w2.cell? ⟨w.heap.size + 1, 0, none⟩ = some (.int .i64 p0) := (by rw [bel2.cell (by simp)]; simp [go_sem]); have h1 : w2.cell? ⟨w.heap.size + 1, 1, none⟩ = some (.int .i64 p1) := (by rw [bel2.cell (by simp)]; simp [go_sem])) | (go_at_call 58; refine (spec_l25Point _ _ (p0, p1) _ h0 h1).mono ?_; rw [hp]; rintro e w' ⟨rfl, rfl⟩))
      refine bodyPost_ret (v := .tuple #[.agg #[.slice none 0 0], .int .i64 2]) (by simp [results, Tryd.results28, go_sem, hq, hf]) rfl ?_
      rw [hr.out]
      exact ⟨_, rfl, OA.nil _, (hb3.trans (bel2.mono hb3.size)).setCell (by simp; omega) _⟩
    · have hok' := Lib.hid hok
      go_enter Tryd.func28, Tryd.ntmps28
      go_wp2_with (first | (go_at_call 31; refine (spec_l25Ok _ _ _ _ _ _ hself hx1 hn).mono ?_; rw [hok]; rintro e w2 ⟨rfl, bel2⟩; have hq : w2.cell? ⟨w.heap.size + 1 + 1, 0, none⟩ = some (.slice none 0 0) := (by rw [bel2.cell (by simp)]; simp [go_sem]); have hf : w2.frozen? ⟨w.heap.size + 1 + 1, 0, none⟩ = false := (by rw [bel2.frozen (by simp)]; simp [go_sem]); have h0 : w2.cell? ⟨w.heap.size + 1, 0, none⟩ = some (.int .i64 p0) := (by rw [bel2.cell (by simp)]; simp [go_sem]); have h1 : w2.cell? ⟨w.heap.size + 1, 1, none⟩ = some (.int .i64 p1) := (by rw [bel2.cell (by simp)]; simp [go_sem]); have h2 : w2.cell? ⟨w.heap.size, 0, none⟩ = some (.slice A n c) := (by rw [bel2.cell (by simp; omega)]; exact hself); have z2 : w.heap.size + 1 + 1 < w2.heap.size := (by have := bel2.size; simp at this; omega)) | (go_at_call 58; refine (spec_l25Point _ _ (p0, p1) _ h0 h1).mono ?_; rw [hp]; rintro e w' ⟨rfl, rfl⟩))
      have B2 := hb3.trans (bel2.mono hb3.size)
      clear bel2 hb3 hx1 hself hok
      go_loopw [6, 7, 8] (fun v d i wr => ∃ k : Nat, i = .int .i64 k ∧ k ≤ n ∧ (∃ dn, d = .bool dn ∧ Hid (M.setInv xs (p0, p1) k dn) ∧ OA pt 52 2 w2.heap.size wr.heap.size wr v (M.setTo xs (p0, p1) k dn)) ∧ Below w2.heap.size w2 wr) (fun _ _ i _ => n - (intOf i).toNat)
      case atStart => exact ⟨0, rfl, by omega, ⟨false, rfl, M.setInv_zero _ _, OA.made0 _⟩, (Below.refl _ _).alloc (Nat.le_refl _) _⟩
      case round =>
        obtain ⟨k, rfl, hk, ⟨dn, rfl, H, own⟩, hb⟩ := hrel
        obtain ⟨A4, c4, rfl, -⟩ := own.shape
        have hbb := B2.trans (hb.mono (by omega))
        have hsz := hb.size
        have y0 : w.heap.size < wr.heap.size := by omega
        have y1 : w.heap.size + 1 < wr.heap.size := by omega
        have y2 : w.heap.size + 1 + 1 < wr.heap.size := by omega
        have g0 : wr.cell? ⟨w.heap.size + 1, 0, none⟩ = some (.int .i64 p0) := by rw [hb.cell (by simp; omega)]; exact h0
        have g1 : wr.cell? ⟨w.heap.size + 1, 1, none⟩ = some (.int .i64 p1) := by rw [hb.cell (by simp; omega)]; exact h1
        have g2 : wr.cell? ⟨w.heap.size, 0, none⟩ = some (.slice A n c) := by rw [hb.cell (by simp; omega)]; exact h2
        have gq : wr.cell? ⟨w.heap.size + 1 + 1, 0, none⟩ = some (.slice none 0 0) := by rw [hb.cell (by simpa using z2)]; exact hq
        have gf : wr.frozen? ⟨w.heap.size + 1 + 1, 0, none⟩ = false := by rw [hb.frozen (by simpa using z2)]; exact hf
        by_cases hlt : k < n
        · obtain ⟨b, o, ⟨q0, q1⟩, rfl, hab, X, hc⟩ := (hx.below hbb).at pt_len (by decide) hlt
          have hc0 : wr.cell? ⟨b, o + k * 2, none⟩ = some (.int .i64 q0) := hc 0 _ rfl
          have hc1 : wr.cell? ⟨b, o + k * 2 + 1, none⟩ = some (.int .i64 q1) := hc 1 _ rfl
          clear hc
          have hcl : (M.setTo xs (p0, p1) k dn).length ≤ 3000000000 := by have := M.setTo_len xs (p0, p1) k dn; have := hl.out; omega
          have ownA := own.1.alloc (.cells #[.int .i64 q0, .int .i64 q1] 52)
          have hbA := hb.alloc hsz (.cells #[.int .i64 q0, .int .i64 q1] 52)
          have hneB := Lib.hid (show some wr.heap.size ≠ (Value.slice A4 (M.setTo xs (p0, p1) k dn).length c4).ownBlock from fun e => by have := (World.ownsRow.lt own.1 _ e.symm).2; omega)
          have hzA : (wr.alloc (.cells #[.int .i64 q0, .int .i64 q1] 52)).heap.size = wr.heap.size + 1 := by simp
          generalize hys : M.setTo xs (p0, p1) k dn = ys at *
          have hys' := Lib.hid hys
          clear hys own
          cases dn
          · rcases Int.lt_trichotomy q0 p0 with hq | hq | hq
            · have hne : (q0 != p0) = true := by simp; omega
              go_wp2_with (at_builtin; refine wpList_pushH ei_pt _ rfl _ _ rfl ownA rfl (wr.heap.size + 1) (by simp) rfl rfl (by simp [Value.oneCell']) (by unfold maxLen; omega) (by omega) (by simp; omega) ?_; intro v1 w1 own1 gr1 bel1; obtain ⟨A5, c5, rfl, -⟩ := own_shape own1)
              go_roundw
              case rel =>
                obtain ⟨i1, i2⟩ := M.setP_low X.out (p := (p0, p1)) hq H.out
                refine ⟨k + 1, by go_num, by omega, ⟨false, rfl, Lib.hid i1, ?_⟩, hbA.trans (bel1.mono (Nat.le_refl _))⟩
                rw [i2, hys'.out]
                exact OA.push (enc := pt) (x := (q0, q1)) own1
              case measure => simp [intOf]; omega
            · subst hq
              have hne : (q0 != q0) = false := by simp
              go_wp2_with (at_builtin; refine wpList_pushH ei_pt _ rfl _ _ rfl ownA rfl (wr.heap.size + 1) (by simp) rfl rfl (by simp [Value.oneCell']) (by unfold maxLen; omega) (by omega) (by simp; omega) ?_; intro v1 w1 own1 gr1 bel1; obtain ⟨A5, c5, rfl, -⟩ := own_shape own1; have e0 : w1.cell? ⟨w.heap.size + 1, 0, none⟩ = some (.int .i64 q0) := (by rw [bel1.cell (by simp; omega)]; simp [go_sem, *]); have e1 : w1.cell? ⟨wr.heap.size, 0, none⟩ = some (.int .i64 q0) := (gr1.cell (a := ⟨wr.heap.size, 0, none⟩) (by simp [go_sem]) hneB.out); have e2 : w1.cell? ⟨wr.heap.size, 1, none⟩ = some (.int .i64 q1) := (gr1.cell (a := ⟨wr.heap.size, 1, none⟩) (by simp [go_sem]) hneB.out))
              go_roundw
              case rel =>
                obtain ⟨i1, i2⟩ := M.setP_same X.out (p := (q0, p1)) rfl H.out
                refine ⟨k + 1, by go_num, by omega, ⟨true, rfl, Lib.hid i1, ?_⟩, hbA.trans (bel1.mono (Nat.le_refl _))⟩
                rw [i2, hys'.out]
                exact OA.push (enc := pt) (x := (q0, p1)) own1
              case measure => simp [intOf]; omega
            · have hne : (q0 != p0) = true := by simp; omega
              have tok1 : True := trivial
              go_wp2_with (first | (at_builtin; have _t := tok1; refine wpList_pushH ei_pt _ rfl _ _ rfl ownA rfl (wr.heap.size + 1) (by simp) rfl rfl (by simp [Value.oneCell']) (by unfold maxLen; omega) (by omega) (by simp; omega) ?_; intro v1 w1 own1 gr1 bel1; obtain ⟨A5, c5, rfl, -⟩ := own_shape own1; have e0 : w1.cell? ⟨w.heap.size + 1, 0, none⟩ = some (.int .i64 p0) := (by rw [bel1.cell (by simp; omega)]; simp [go_sem, *]); have e1 : w1.cell? ⟨wr.heap.size, 0, none⟩ = some (.int .i64 q0) := (gr1.cell (a := ⟨wr.heap.size, 0, none⟩) (by simp [go_sem]) hneB.out); have e2 : w1.cell? ⟨wr.heap.size, 1, none⟩ = some (.int .i64 q1) := (gr1.cell (a := ⟨wr.heap.size, 1, none⟩) (by simp [go_sem]) hneB.out); have own5 := OA.push (enc := pt) (x := (p0, p1)) own1; have hl5 : (ys ++ [(p0, p1)]).length ≤ 3000000001 := (by simp; omega); have s5 : w2.heap.size ≤ w1.heap.size := Nat.le_trans hbA.size bel1.size; clear tok1 _t) | (at_builtin; refine wpList_push ei_pt _ rfl _ _ rfl own5.1 rfl rfl rfl (by simp [Value.oneCell']) (by unfold maxLen; omega) (by omega) (by omega) ?_; intro v2 w2' own2 gr1 bel2; obtain ⟨A6, c6, rfl, -⟩ := own_shape own2))
              go_roundw
              case rel =>
                obtain ⟨i1, i2⟩ := M.setP_high X.out (p := (p0, p1)) hq H.out
                refine ⟨k + 1, by go_num, by omega, ⟨true, rfl, Lib.hid i1, ?_⟩, (hbA.trans (bel1.mono (Nat.le_refl _))).trans (bel2.mono (Nat.le_refl _))⟩
                rw [i2, hys'.out]
                have h9 := OA.push (enc := pt) (x := (q0, q1)) own2
                rw [List.length_append] at h9
                exact h9
              case measure => simp [intOf]; omega
          · have hq := (M.setP_more hok'.out X.out (p := (p0, p1)) H.out).1
            have hne : (q0 != p0) = true := by simp; simp at hq; omega
            have hq2 : p0 < q0 := hq
            clear hq
            go_wp2_with (at_builtin; refine wpList_pushH ei_pt _ rfl _ _ rfl ownA rfl (wr.heap.size + 1) (by simp) rfl rfl (by simp [Value.oneCell']) (by unfold maxLen; omega) (by omega) (by simp; omega) ?_; intro v1 w1 own1 gr1 bel1; obtain ⟨A5, c5, rfl, -⟩ := own_shape own1)
            go_roundw
            case rel =>
              obtain ⟨-, i1, i2⟩ := M.setP_more hok'.out X.out (p := (p0, p1)) H.out
              refine ⟨k + 1, by go_num, by omega, ⟨true, rfl, Lib.hid i1, ?_⟩, hbA.trans (bel1.mono (Nat.le_refl _))⟩
              rw [i2, hys'.out]
              exact OA.push (enc := pt) (x := (q0, q1)) own1
            case measure => simp [intOf]; omega
        · obtain rfl : n = k := by omega
          have hE := Lib.hid (M.setP_end hl.out H.out)
          have hcl : (M.setTo xs (p0, p1) n dn).length ≤ 3000000000 := by have := M.setTo_len xs (p0, p1) n dn; have := hl.out; omega
          generalize hys : M.setTo xs (p0, p1) n dn = ys at *
          clear hys
          have hP := Lib.hid (show M.setR xs (p0, p1) = if (M.setP xs (p0, p1)).length ≤ 24 then (M.setP xs (p0, p1), 0) else ([], 5) by
            rw [M.setR, hok'.out, hp]
            simp)
          cases dn
          · have hE2 := Lib.hid (show ys ++ [(p0, p1)] = M.setP xs (p0, p1) from hE.out)
            by_cases hlen : 24 < ys.length + 1
            · go_wp2_with (at_builtin; refine wpList_push ei_pt _ rfl _ _ rfl own.1 rfl rfl rfl (by simp [Value.oneCell']) (by unfold maxLen; omega) (by omega) (by omega) ?_; intro v1 w1 own1 gr1 bel1; obtain ⟨A5, c5, rfl, -⟩ := own_shape own1; have kq : w1.cell? ⟨w.heap.size + 1 + 1, 0, none⟩ = some (.slice none 0 0) := (by rw [bel1.cell (by simpa using z2)]; exact gq); have kf : w1.frozen? ⟨w.heap.size + 1 + 1, 0, none⟩ = false := (by rw [bel1.frozen (by simpa using z2)]; exact gf))
              refine bodyPost_ret (v := .tuple #[.agg #[.slice none 0 0], .int .i64 5]) (by simp [results, Tryd.results28, go_sem, kq, kf]) rfl ?_
              rw [hP.out, if_neg (by rw [← hE2.out]; simp; omega)]
              exact ⟨_, rfl, OA.nil _, (hbb.trans (bel1.mono (by omega))).setCell (by simp; omega) _⟩
            · go_wp2_with (at_builtin; refine wpList_push ei_pt _ rfl _ _ rfl own.1 rfl rfl rfl (by simp [Value.oneCell']) (by unfold maxLen; omega) (by omega) (by omega) ?_; intro v1 w1 own1 gr1 bel1; obtain ⟨A5, c5, rfl, -⟩ := own_shape own1; have kq : w1.cell? ⟨w.heap.size + 1 + 1, 0, none⟩ = some (.slice none 0 0) := (by rw [bel1.cell (by simpa using z2)]; exact gq); have kf : w1.frozen? ⟨w.heap.size + 1 + 1, 0, none⟩ = false := (by rw [bel1.frozen (by simpa using z2)]; exact gf))
              refine bodyPost_ret (v := .tuple #[.agg #[.slice A5 (ys.length + 1) c5], .int .i64 0]) (by simp [results, Tryd.results28, go_sem, kq, kf]) rfl ?_
              rw [hP.out, if_pos (by rw [← hE2.out]; simp; omega), ← hE2.out]
              have o5 := OA.push (enc := pt) (x := (p0, p1)) own1
              exact ⟨_, rfl, (o5.mid (Mid.cell w1 (w.heap.size + 1 + 1) 0 (.slice A5 (ys.length + 1) c5)) (.inr (by omega)) (Nat.le_refl _)).wide (by omega) (by simp), (hbb.trans (bel1.mono (by omega))).setCell (by simp; omega) _⟩
          · have hE2 := Lib.hid (show ys = M.setP xs (p0, p1) from hE.out)
            by_cases hlen : 24 < ys.length
            · go_wp2
              refine bodyPost_ret (v := .tuple #[.agg #[.slice none 0 0], .int .i64 5]) (by simp [results, Tryd.results28, go_sem, gq, gf]) rfl ?_
              rw [hP.out, if_neg (by rw [← hE2.out]; omega)]
              exact ⟨_, rfl, OA.nil _, hbb.setCell (by simp; omega) _⟩
            · go_wp2
              refine bodyPost_ret (v := .tuple #[.agg #[.slice A4 ys.length c4], .int .i64 0]) (by simp [results, Tryd.results28, go_sem, gq, gf]) rfl ?_
              rw [hP.out, if_pos (by rw [← hE2.out]; omega), ← hE2.out]
              exact ⟨_, rfl, (own.mid (Mid.cell wr (w.heap.size + 1 + 1) 0 (.slice A4 ys.length c4)) (.inr (by omega)) (Nat.le_refl _)).wide (by omega) (by simp), hbb.setCell (by simp; omega) _⟩
end Go.Proofs.YtecdendjlgohjaaDoor
namespace Go.Proofs.YtecdendjlgohjaaDoor
open Go.RowKit
set_option maxHeartbeats 400000
set_option maxRecDepth 100000
section
variable {base s n cap g : Nat} {e : TypeId} {cs : List Value} {w : World}
end
section
variable {α : Type} {enc : α → List Value} {s : Nat}
theorem flat_take (henc : ∀ x, (enc x).length = s) (xs : List α) (k : Nat) : (xs.flatMap enc).take (k * s) = (xs.take k).flatMap enc := by
  induction xs generalizing k with
  | nil => simp
  | cons y ys ih =>
    cases k with
    | zero => simp
    | succ k => rw [List.take_succ_cons, List.flatMap_cons, List.flatMap_cons, ← ih, Nat.succ_mul, Nat.add_comm, List.take_append, henc, List.take_of_length_le (by rw [henc]; omega)]; congr 2; omega
theorem flat_drop (henc : ∀ x, (enc x).length = s) (xs : List α) (k : Nat) : (xs.flatMap enc).drop (k * s) = (xs.drop k).flatMap enc := by
  induction xs generalizing k with
  | nil => simp
  | cons y ys ih =>
    cases k with
    | zero => simp
    | succ k => rw [List.drop_succ_cons, List.flatMap_cons, ← ih, Nat.succ_mul, Nat.add_comm, List.drop_append, henc, List.drop_of_length_le (by rw [henc]; omega), List.nil_append]; congr 1; omega
end
theorem RA.reads {α : Type} {enc : α → List Value} {s : Nat} {w : World} {B n : Nat} {A : Option Addr} {xs : List α} (h : RA enc s w B A n xs) : Reads w B s A n (xs.flatMap enc) := h.2
end Go.Proofs.YtecdendjlgohjaaDoor
namespace Go.Proofs.YtecdendjlgohjaaDoor
open Go.RowKit
set_option maxHeartbeats 400000
set_option maxRecDepth 100000
theorem RA.cut {α : Type} {enc : α → List Value} {s B n c k : Nat} {w : World} {A : Option Addr} {xs : List α} (henc : ∀ x, (enc x).length = s) (h : RA enc s w B A n xs) (hk : k ≤ n) (hc : n ≤ c) :
    RA enc s w B (if c = k then A else A.map (·.add (k * s))) (n - k) (xs.drop k) := by
  refine ⟨by rw [List.length_drop, h.1], ?_⟩
  rw [← flat_drop henc]
  exact Reads.cut h.2 hk hc
theorem RA.head {α : Type} {enc : α → List Value} {s B n k : Nat} {w : World} {A : Option Addr} {xs : List α} (henc : ∀ x, (enc x).length = s) (h : RA enc s w B A n xs) (hk : k ≤ n) : RA enc s w B A k (xs.take k) := by
  refine ⟨by rw [List.length_take, h.1]; omega, by rw [flat_len henc, List.length_take, h.1, Nat.min_eq_left hk], fun h0 => ?_⟩
  obtain ⟨ad, e, hb, hc⟩ := h.2.2 (by omega)
  refine ⟨ad, e, hb, fun j u hu => hc j u ?_⟩
  rw [← flat_take henc, List.getElem?_take] at hu
  split at hu
  · exact hu
  · simp at hu
end Go.Proofs.YtecdendjlgohjaaDoor
namespace Go.Proofs.YtecdendjlgohjaaDoor
open Go.RowKit
set_option maxHeartbeats 400000
set_option maxRecDepth 100000
end Go.Proofs.YtecdendjlgohjaaDoor
namespace Go.Proofs.YtecdendjlgohjaaDoor
open Go.RowKit Go.Sort
set_option maxHeartbeats 4000000
set_option maxRecDepth 100000
/-- The points that a list of words spells. -/
def M.ptsOf (ws : List (List UInt8)) : List (Int × Int) := ws.filterMap M.ptS
theorem M.pts_next {ws : List (List UInt8)} {k : Nat} {x : List UInt8} {p : Int × Int} (h : ws[k]? = some x) (hp : M.ptS x = some p) : M.ptsOf (ws.take (k + 1)) = M.ptsOf (ws.take k) ++ [p] := by
  rw [M.ptsOf, M.take_at h, List.filterMap_append]
  simp [M.ptsOf, hp]
theorem M.pts_le (ws : List (List UInt8)) (k : Nat) : (M.ptsOf (ws.take k)).length ≤ k := by
  have h1 := List.length_filterMap_le M.ptS (ws.take k)
  rw [List.length_take] at h1
  have : (M.ptsOf (ws.take k)).length = ((ws.take k).filterMap M.ptS).length := rfl
  omega
theorem M.splitBy_le (c : UInt8) : ∀ (l x : List UInt8), x ∈ M.splitBy c l → x.length ≤ l.length
  | [], x, h => by
    rw [M.splitBy, List.mem_singleton] at h
    rw [h]; exact Nat.le_refl _
  | b :: l, x, h => by
    have hne := M.splitBy_ne c l
    rw [M.splitBy] at h
    have ih := M.splitBy_le c l
    cases hx : M.splitBy c l with
    | nil => exact absurd hx hne
    | cons a r =>
      rw [hx] at h ih
      split at h
      · rcases List.mem_cons.1 h with rfl | h
        · simp
        · have := ih x h; rw [List.length_cons]; omega
      · rcases List.mem_cons.1 h with rfl | h
        · have := ih a (by simp); simp only [List.headD_cons, List.length_cons]; omega
        · have := ih x (List.mem_cons_of_mem _ h); rw [List.length_cons]; omega
theorem M.words_len {L x : List UInt8} (h : x ∈ M.wordsOf L) : x.length ≤ L.length := M.splitBy_le 32 L x (List.mem_filter.1 h).1
theorem M.cut_le (x : List UInt8) : (Lib.cut x [61]).1.length ≤ x.length ∧ (Lib.cut x [61]).2.1.length ≤ x.length := by
  unfold Lib.cut
  split
  · simp only [List.length_take, List.length_drop]; omega
  · simp
theorem M.numB_mk (l : List UInt8) : M.numB ⟨l.toArray⟩ = M.num l := by simp [M.numB]
theorem M.readI_no {L x : List UInt8} (V : List (Int × Int) → Bool) (h : x ∈ M.wordsOf L) (hx : M.ptS x = none) : M.readI V L = none := by
  unfold M.readI
  rw [if_neg]
  intro hc
  have := List.all_eq_true.1 hc.1 x h
  rw [hx] at this
  cases this
/-- What impl.ReadCurve hands back. -/
def RetRC (w : World) (r : Option (List (Int × Int))) (en : Ending) (w' : World) : Prop :=
  ∃ v, en = .returned (.tuple #[.agg #[v], .bool r.isSome]) ∧ OA pt 52 2 w.heap.size w'.heap.size w' v (r.getD []) ∧ Below w.heap.size w w'
theorem impl_ReadCurve (s : ByteArray) (w : World) (hs : s.size ≤ 100000000) (hL : LAD w) :
    Calls Tryd.prog 18 #[.string s] w (RetRC w (M.readI M.curveOk s.data.toList)) := by
  obtain ⟨W1, hW1⟩ : ∃ W1, W1 = (w.alloc (.cells #[.slice none 0 0] 29)).alloc (.cells #[.slice none 0 0] 29) := ⟨_, rfl⟩
  have B1 : Below w.heap.size w W1 := by rw [hW1]; exact ((Below.refl _ _).alloc (Nat.le_refl _) _).alloc (by simp) _
  have z1 : W1.heap.size = w.heap.size + 2 := by rw [hW1]; simp
  have r0 : W1.cell? ⟨w.heap.size, 0, none⟩ = some (.slice none 0 0) := by rw [hW1]; simp [go_sem]
  have r1 : W1.cell? ⟨w.heap.size + 1, 0, none⟩ = some (.slice none 0 0) := by rw [hW1]; simp [go_sem]
  have f0 : W1.frozen? ⟨w.heap.size, 0, none⟩ = false := by rw [hW1]; simp [go_sem]
  have f1 : W1.frozen? ⟨w.heap.size + 1, 0, none⟩ = false := by rw [hW1]; simp [go_sem]
  have HW1 := Lib.hid hW1
  have Z1 := Lib.hid z1
  have hS := Lib.hid (impl_SplitWords s W1 (by omega) (hL.on B1))
  clear hW1 z1
  go_enter Tryd.func18, Tryd.ntmps18
  go_wp2_with fail
  rw [← HW1.out]
  refine hS.out.mono ?_
  rintro e W3 ⟨vw, rfl, ownw, b3⟩
  obtain ⟨ws, hws⟩ : ∃ ws, ws = M.wordsOf s.data.toList := ⟨_, rfl⟩
  rw [← hws] at ownw
  have HWS := Lib.hid hws
  obtain ⟨A, c, rfl, -, -, hrd⟩ := own_shape ownw
  have B3 := bel_trans B1 b3
  have s3 : w.heap.size + 2 ≤ W3.heap.size := by have := b3.size; have := Z1.out; omega
  have R0 : W3.cell? ⟨w.heap.size, 0, none⟩ = some (.slice none 0 0) := by rw [b3.cell (by simp [Z1.out])]; exact r0
  have R1 : W3.cell? ⟨w.heap.size + 1, 0, none⟩ = some (.slice none 0 0) := by rw [b3.cell (by simp [Z1.out])]; exact r1
  have F0 : W3.frozen? ⟨w.heap.size, 0, none⟩ = false := by rw [b3.frozen (by simp [Z1.out])]; exact f0
  have F1 : W3.frozen? ⟨w.heap.size + 1, 0, none⟩ = false := by rw [b3.frozen (by simp [Z1.out])]; exact f1
  have hwl : ws.length ≤ s.size + 1 := by
    have h1 := List.length_filter_le (fun w : List UInt8 => !w.isEmpty) (M.splitBy 32 s.data.toList)
    have h2 : (M.splitBy 32 s.data.toList).length = Lib.countB s ⟨#[32]⟩ + 1 := by
      rw [← M.pieces, List.length_map]
      exact Lib.splitB_all ⟨#[32]⟩ (Nat.le_refl 1) 0 _ s rfl
    have h3 := Lib.countB_le ⟨#[32]⟩ (Nat.le_refl 1) s.size s (Nat.le_refl _)
    have h4 : ws.length = ((M.splitBy 32 s.data.toList).filter (fun w => !w.isEmpty)).length := by rw [hws]; rfl
    omega
  have HL := Lib.hid hL
  have NB := Lib.hid (show ∀ ad : Addr, A = some ad → ad.block ≠ w.heap.size + 1 from fun ad h => by
    subst h
    have h1 := ownw.lt ad.block
    rcases ownw.2 with ⟨h2, -⟩ | ⟨g, cap, cur, h2, h3, -⟩
    · cases h2
    · simp only [Value.slice.injEq, Option.some.injEq] at h2
      rw [h2.1]
      have := Z1.out
      show g ≠ _
      omega)
  clear hws ownw b3 r0 r1 f0 f1 B1 hS hL
  generalize hN : ws.length = N at hrd hwl ⊢
  go_wp2_with fail
  go_loopw [18] (fun i wr => ∃ (k : Nat) (v : Value), i = .int .i64 k ∧ k ≤ N ∧ wr.cell? ⟨w.heap.size + 1, 0, none⟩ = some v ∧ wr.ownsRow W3.heap.size 52 2 v (M.ptsOf (ws.take k)).length ((M.ptsOf (ws.take k)).flatMap pt) ∧ Hid (∀ j x, j < k → ws[j]? = some x → (M.ptS x).isSome = true) ∧
      Hid (∀ p : Addr, p.block < W3.heap.size → p.block ≠ w.heap.size + 1 → wr.cell? p = W3.cell? p) ∧ Hid (∀ p : Addr, p.block < W3.heap.size → wr.frozen? p = W3.frozen? p) ∧ W3.heap.size ≤ wr.heap.size ∧ Below w.heap.size w wr) (fun i _ => N - (intOf i).toNat)
  case atStart => exact ⟨0, _, rfl, by omega, R1, World.ownsRow_nil _ _ _ _, Lib.hid (by omega), Lib.hid (fun _ _ _ => rfl), Lib.hid (fun _ _ => rfl), Nat.le_refl _, B3⟩
  case round =>
    obtain ⟨k, v, rfl, hk, hv, own, HP, KC, KF, hsz, hb⟩ := hrel
    by_cases hlt : k < N
    · have X := Lib.hid (List.getElem?_eq_getElem (l := ws) (i := k) (by omega))
      generalize ws[k]'(by omega) = x at X
      obtain ⟨ad, rfl, hab, hcell⟩ := hrd.2 (by omega)
      have hcx : wr.cell? (ad.add k) = some (.string ⟨x.toArray⟩) := by
        rw [KC.out (ad.add k) (by rw [block_of_add]; exact hab) (by rw [block_of_add]; exact NB.out ad rfl)]
        exact hcell k _ (by simp [M.strs, X.out])
      have hLr : LAD wr := HL.out.on hb
      obtain ⟨m, hm⟩ := hLr.2.1
      have hxs : x.length ≤ s.size := by
        have h1 := M.words_len (L := s.data.toList) (x := x) (by rw [← HWS.out]; exact List.mem_of_getElem? X.out)
        rw [← Lib.size_eq] at h1
        exact h1
      have hcl := M.cut_le x
      have hpt := M.ptI_eq x
      have hC := Tryd.strings_Cut ⟨x.toArray⟩ ⟨#[61]⟩ m wr (by rw [show (⟨x.toArray⟩ : ByteArray).size = x.length by simp [ByteArray.size]]; omega) hm
      rw [show (⟨x.toArray⟩ : ByteArray).data.toList = x by simp, show (⟨#[61]⟩ : ByteArray).data.toList = [61] from rfl] at hC
      unfold M.ptI at hpt
      obtain ⟨⟨a, b, t⟩, hcut⟩ : ∃ r, Lib.cut x [61] = r := ⟨_, rfl⟩
      rw [hcut] at hcl hpt hC
      have HCU := Lib.hid hC
      have HPT := Lib.hid hpt
      have da : ∀ u, Below w.heap.size w u → Calls Tryd.prog 48 #[.string ⟨a.toArray⟩] u fun e w' => e = .returned (.tuple #[.int .i64 ((M.num a).getD 0), .bool (M.num a).isSome]) ∧ Below u.heap.size u w' := fun u hu => by
        have := impl_ReadDecimal ⟨a.toArray⟩ (by rw [show (⟨a.toArray⟩ : ByteArray).size = a.length by simp [ByteArray.size]]; have := hcl.1; simp at this; omega) u (HL.out.on hu)
        rwa [M.numB_mk] at this
      have db : ∀ u, Below w.heap.size w u → Calls Tryd.prog 48 #[.string ⟨b.toArray⟩] u fun e w' => e = .returned (.tuple #[.int .i64 ((M.num b).getD 0), .bool (M.num b).isSome]) ∧ Below u.heap.size u w' := fun u hu => by
        have := impl_ReadDecimal ⟨b.toArray⟩ (by rw [show (⟨b.toArray⟩ : ByteArray).size = b.length by simp [ByteArray.size]]; have := hcl.2; simp at this; omega) u (HL.out.on hu)
        rwa [M.numB_mk] at this
      have DA := Lib.hid da
      have DB := Lib.hid db
      clear da db hC hpt hcl hm hcut hLr hcell
      have R0r : wr.cell? ⟨w.heap.size, 0, none⟩ = some (.slice none 0 0) := by rw [KC.out _ (by show w.heap.size < _; omega) (by show w.heap.size ≠ _; omega)]; exact R0
      have F0r : wr.frozen? ⟨w.heap.size, 0, none⟩ = false := by rw [KF.out _ (by show w.heap.size < _; omega)]; exact F0
      have F1r : wr.frozen? ⟨w.heap.size + 1, 0, none⟩ = false := by rw [KF.out _ (by show w.heap.size + 1 < _; omega)]; exact F1
      cases ha : M.num a with
      | none =>
        cases hbn : M.num b with
        | none =>
          rw [ha] at DA; rw [hbn] at DB
          have NO := Lib.hid (M.readI_no M.curveOk (by rw [← HWS.out]; exact List.mem_of_getElem? X.out) (show M.ptS x = none by rw [← HPT.out, ha, hbn]; rfl))
          clear ha hbn
          go_wp2_with (first | (go_at_call 47; refine HCU.out.mono ?_; rintro e w4 ⟨rfl, nn, rfl⟩; have B4 : Below w.heap.size w (wr.drewN nn) := below_drewN hb nn; have D4 : Below wr.heap.size wr (wr.drewN nn) := below_drewN (Below.refl _ _) nn) | (go_at_call 48; with_reducible refine (DA.out _ B4).mono ?_; rintro e u1 ⟨rfl, d1⟩; have B5 := bel_trans B4 d1; have D5 := bel_trans D4 d1) | (go_at_call 48; with_reducible refine (DB.out _ B5).mono ?_; rintro e u2 ⟨rfl, d2⟩; have B6 := bel_trans B5 d2; have D6 := bel_trans D5 d2; have rR : u2.cell? ⟨w.heap.size, 0, none⟩ = some (.slice none 0 0) := (by rw [D6.cell (by show w.heap.size < _; omega)]; exact R0r); have fR : u2.frozen? ⟨w.heap.size, 0, none⟩ = false := (by rw [D6.frozen (by show w.heap.size < _; omega)]; exact F0r)))
          refine bodyPost_ret (v := .tuple #[.agg #[.slice none 0 0], .bool false]) (by simp [results, Tryd.results18, go_sem, rR, fR]) rfl ?_
          rw [NO.out]
          exact ⟨_, rfl, OA.nil _, B6.setCell (Nat.le_refl _) _⟩
        | some yb =>
          rw [ha] at DA; rw [hbn] at DB
          have NO := Lib.hid (M.readI_no M.curveOk (by rw [← HWS.out]; exact List.mem_of_getElem? X.out) (show M.ptS x = none by rw [← HPT.out, ha, hbn]; rfl))
          clear ha hbn
          go_wp2_with (first | (go_at_call 47; refine HCU.out.mono ?_; rintro e w4 ⟨rfl, nn, rfl⟩; have B4 : Below w.heap.size w (wr.drewN nn) := below_drewN hb nn; have D4 : Below wr.heap.size wr (wr.drewN nn) := below_drewN (Below.refl _ _) nn) | (go_at_call 48; with_reducible refine (DA.out _ B4).mono ?_; rintro e u1 ⟨rfl, d1⟩; have B5 := bel_trans B4 d1; have D5 := bel_trans D4 d1) | (go_at_call 48; with_reducible refine (DB.out _ B5).mono ?_; rintro e u2 ⟨rfl, d2⟩; have B6 := bel_trans B5 d2; have D6 := bel_trans D5 d2; have rR : u2.cell? ⟨w.heap.size, 0, none⟩ = some (.slice none 0 0) := (by rw [D6.cell (by show w.heap.size < _; omega)]; exact R0r); have fR : u2.frozen? ⟨w.heap.size, 0, none⟩ = false := (by rw [D6.frozen (by show w.heap.size < _; omega)]; exact F0r)))
          refine bodyPost_ret (v := .tuple #[.agg #[.slice none 0 0], .bool false]) (by simp [results, Tryd.results18, go_sem, rR, fR]) rfl ?_
          rw [NO.out]
          exact ⟨_, rfl, OA.nil _, B6.setCell (Nat.le_refl _) _⟩
      | some xa =>
        cases hbn : M.num b with
        | none =>
          rw [ha] at DA; rw [hbn] at DB
          have NO := Lib.hid (M.readI_no M.curveOk (by rw [← HWS.out]; exact List.mem_of_getElem? X.out) (show M.ptS x = none by rw [← HPT.out, ha, hbn]; rfl))
          clear ha hbn
          go_wp2_with (first | (go_at_call 47; refine HCU.out.mono ?_; rintro e w4 ⟨rfl, nn, rfl⟩; have B4 : Below w.heap.size w (wr.drewN nn) := below_drewN hb nn; have D4 : Below wr.heap.size wr (wr.drewN nn) := below_drewN (Below.refl _ _) nn) | (go_at_call 48; with_reducible refine (DA.out _ B4).mono ?_; rintro e u1 ⟨rfl, d1⟩; have B5 := bel_trans B4 d1; have D5 := bel_trans D4 d1) | (go_at_call 48; with_reducible refine (DB.out _ B5).mono ?_; rintro e u2 ⟨rfl, d2⟩; have B6 := bel_trans B5 d2; have D6 := bel_trans D5 d2; have rR : u2.cell? ⟨w.heap.size, 0, none⟩ = some (.slice none 0 0) := (by rw [D6.cell (by show w.heap.size < _; omega)]; exact R0r); have fR : u2.frozen? ⟨w.heap.size, 0, none⟩ = false := (by rw [D6.frozen (by show w.heap.size < _; omega)]; exact F0r)))
          refine bodyPost_ret (v := .tuple #[.agg #[.slice none 0 0], .bool false]) (by simp [results, Tryd.results18, go_sem, rR, fR]) rfl ?_
          rw [NO.out]
          exact ⟨_, rfl, OA.nil _, B6.setCell (Nat.le_refl _) _⟩
        | some yb =>
          rw [ha] at DA; rw [hbn] at DB
          have HS := Lib.hid (show M.ptS x = some (xa, yb) by rw [← HPT.out, ha, hbn]; rfl)
          have HP2 := Lib.hid (M.pts_next X.out HS.out)
          have hpl := M.pts_le ws k
          obtain ⟨A4, c4, rfl, -, -, -⟩ := own_shape own
          clear ha hbn
          go_wp2_with (first | (go_at_call 47; refine HCU.out.mono ?_; rintro e w4 ⟨rfl, nn, rfl⟩; have B4 : Below w.heap.size w (wr.drewN nn) := below_drewN hb nn; have D4 : Below wr.heap.size wr (wr.drewN nn) := below_drewN (Below.refl _ _) nn) | (go_at_call 48; with_reducible refine (DA.out _ B4).mono ?_; rintro e u1 ⟨rfl, d1⟩; have B5 := bel_trans B4 d1; have D5 := bel_trans D4 d1) | (go_at_call 48; with_reducible refine (DB.out _ B5).mono ?_; rintro e u2 ⟨rfl, d2⟩; have B6 := bel_trans B5 d2; have D6 := bel_trans D5 d2; have rR : u2.cell? ⟨w.heap.size, 0, none⟩ = some (.slice none 0 0) := (by rw [D6.cell (by show w.heap.size < _; omega)]; exact R0r); have fR : u2.frozen? ⟨w.heap.size, 0, none⟩ = false := (by rw [D6.frozen (by show w.heap.size < _; omega)]; exact F0r); have own4 := own_below own D6; have hv4 : u2.cell? ⟨w.heap.size + 1, 0, none⟩ = some (.slice A4 (M.ptsOf (ws.take k)).length c4) := (by rw [D6.cell (by show w.heap.size + 1 < _; omega)]; exact hv); have f14 : u2.frozen? ⟨w.heap.size + 1, 0, none⟩ = false := (by rw [D6.frozen (by show w.heap.size + 1 < _; omega)]; exact F1r)) | (at_builtin; refine wpList_push ei_pt _ rfl _ _ rfl own4 rfl rfl rfl (by simp [Value.oneCell']) (by unfold maxLen; omega) (by omega) (by have := D6.size; omega) ?_; intro v1 w1 own1 gr1 bel1; obtain ⟨A5, c5, rfl, -⟩ := own_shape own1; have e0 : w1.cell? ⟨w.heap.size + 1, 0, none⟩ = some (.slice A4 (M.ptsOf (ws.take k)).length c4) := (by rw [bel1.cell (by show w.heap.size + 1 < _; omega)]; exact hv4); have e1 : w1.frozen? ⟨w.heap.size + 1, 0, none⟩ = false := (by rw [bel1.frozen (by show w.heap.size + 1 < _; omega)]; exact f14)))
          go_roundw
          case rel =>
            have s6 := D6.size
            have s7 := bel1.size
            refine ⟨k + 1, .slice A5 ((M.ptsOf (ws.take k)).length + 1) c5, by go_num, by omega, by simp [go_sem, e0, e1], ?_, Lib.hid (fun j x' hj hx' => ?_), Lib.hid (fun p h1 h2 => ?_), Lib.hid (fun p h1 => ?_), by simp; omega, ?_⟩
            · rw [HP2.out, List.length_append, List.flatMap_append]
              exact World.ownsRow.kept own1 (grown_setCell w1 (w.heap.size + 1) 0 _) (.inr (fun e => by have := (own1.lt _ e).1; omega))
            · rcases Nat.lt_or_ge j k with h3 | h3
              · exact HP.out j x' h3 hx'
              · obtain rfl : j = k := by omega
                rw [X.out] at hx'
                rw [← Option.some.inj hx', HS.out]; rfl
            · rw [World.cell?_setCell_far _ _ _ _ (fun e => h2 e.symm), bel1.cell h1, D6.cell (by omega), KC.out p h1 h2]
            · rw [World.frozen?_setCell, bel1.frozen h1, D6.frozen (by omega), KF.out p h1]
            · exact (B6.trans (bel1.mono (by omega))).setCell (by simp) _
          case measure => simp [intOf]; omega
    · have hkN : k = N := by omega
      have htk : ws.take k = ws := List.take_of_length_le (by omega)
      rw [htk] at own
      have hall : ws.all (fun w => (M.ptS w).isSome) = true := by
        rw [List.all_eq_true]
        intro x hx
        obtain ⟨j, hj, rfl⟩ := List.mem_iff_getElem.1 hx
        exact HP.out j _ (by omega) (List.getElem?_eq_getElem hj)
      have hpl : (M.ptsOf ws).length ≤ N := by have := M.pts_le ws k; rw [htk] at this; omega
      obtain ⟨pts, hpts⟩ : ∃ pts, pts = M.ptsOf ws := ⟨_, rfl⟩
      rw [← hpts] at own hpl
      have hRI : M.readI M.curveOk s.data.toList = if M.curveOk pts = true ∧ M.cvText pts = s.data.toList then some pts else none := by
        unfold M.readI
        rw [← HWS.out, hpts]
        show (if _ ∧ M.curveOk (M.ptsOf ws) = true ∧ M.cvText (M.ptsOf ws) = _ then some (M.ptsOf ws) else none) = _
        rw [hall]
        simp
      have HRI := Lib.hid hRI
      obtain ⟨A4, c4, rfl, -, -, hrd4⟩ := own_shape own
      have ra : RA pt 2 wr wr.heap.size A4 pts.length pts := ⟨rfl, hrd4⟩
      have R0r : wr.cell? ⟨w.heap.size, 0, none⟩ = some (.slice none 0 0) := by rw [KC.out _ (by show w.heap.size < _; omega) (by show w.heap.size ≠ _; omega)]; exact R0
      have F0r : wr.frozen? ⟨w.heap.size, 0, none⟩ = false := by rw [KF.out _ (by show w.heap.size < _; omega)]; exact F0
      have hI := impl_isCurve A4 pts.length c4 pts wr ra (by omega)
      have hT : ∀ u, Below wr.heap.size wr u → Calls Tryd.prog 10 #[.agg #[.slice A4 pts.length c4]] u fun e w' => e = .returned (.string ⟨(M.curveText pts).toArray⟩) ∧ Below u.heap.size u w' := fun u hu => impl_CurveText A4 pts.length c4 pts u (ra.later hu) (by omega) (HL.out.on (bel_trans hb hu)).1
      have HT := Lib.hid hT
      clear hT hrd4 ra hRI hall htk hpts hkN
      cases hok : M.curveOk pts with
      | false =>
        have NO := Lib.hid (show M.readI M.curveOk s.data.toList = none by rw [HRI.out, hok, if_neg (by simp)])
        rw [hok] at hI
        have HI := Lib.hid hI
        clear hok hI
        go_wp2_with (go_at_call 34; refine HI.out.mono ?_; rintro e u1 ⟨rfl, d1⟩; have B5 := bel_trans hb d1; have rR : u1.cell? ⟨w.heap.size, 0, none⟩ = some (.slice none 0 0) := (by rw [d1.cell (by show w.heap.size < _; omega)]; exact R0r); have fR : u1.frozen? ⟨w.heap.size, 0, none⟩ = false := (by rw [d1.frozen (by show w.heap.size < _; omega)]; exact F0r))
        refine bodyPost_ret (v := .tuple #[.agg #[.slice none 0 0], .bool false]) (by simp [results, Tryd.results18, go_sem, rR, fR]) rfl ?_
        rw [NO.out]
        exact ⟨_, rfl, OA.nil _, B5.setCell (Nat.le_refl _) _⟩
      | true =>
        rw [hok] at hI
        have HI := Lib.hid hI
        have HTX := Lib.hid (show M.curveText pts = M.cvText pts by rw [M.curveText, if_pos hok])
        by_cases ht : M.cvText pts = s.data.toList
        · have YES := Lib.hid (show M.readI M.curveOk s.data.toList = some pts by rw [HRI.out, if_pos ⟨hok, ht⟩])
          have e1 : (M.cvText pts == s.toList) = true := by rw [ByteArray.toList_eq, ht]; exact beq_self_eq_true _
          have e2 : M.cvText pts = s.toList := by rw [ByteArray.toList_eq, ht]
          clear hok hI ht
          go_wp2_with (first | (go_at_call 34; refine HI.out.mono ?_; rintro e u1 ⟨rfl, d1⟩; have B5 := bel_trans hb d1; have v5 : u1.cell? ⟨w.heap.size + 1, 0, none⟩ = some (.slice A4 pts.length c4) := (by rw [d1.cell (by show w.heap.size + 1 < _; omega)]; exact hv)) | (go_at_call 10; refine (HT.out _ d1).mono ?_; rw [HTX.out]; rintro e u2 ⟨rfl, d2⟩; have D6 := bel_trans d1 d2; have B6 := bel_trans B5 d2; have v6 : u2.cell? ⟨w.heap.size + 1, 0, none⟩ = some (.slice A4 pts.length c4) := (by rw [D6.cell (by show w.heap.size + 1 < _; omega)]; exact hv); have rR : u2.cell? ⟨w.heap.size, 0, none⟩ = some (.slice none 0 0) := (by rw [D6.cell (by show w.heap.size < _; omega)]; exact R0r); have fR : u2.frozen? ⟨w.heap.size, 0, none⟩ = false := (by rw [D6.frozen (by show w.heap.size < _; omega)]; exact F0r)))
          refine bodyPost_ret (v := .tuple #[.agg #[.slice A4 pts.length c4], .bool true]) (by simp [results, Tryd.results18, go_sem, rR, fR]) rfl ?_
          rw [YES.out]
          have own6 := own_below own D6
          refine ⟨_, rfl, ?_, B6.setCell (Nat.le_refl _) _⟩
          have own7 := World.ownsRow.kept own6 (grown_setCell u2 w.heap.size 0 (.slice A4 pts.length c4)) (.inr (fun e => by have := (own6.lt _ e).1; omega))
          exact (OX.of_own own7).wide (by omega) (Nat.le_refl _)
        · have NO := Lib.hid (show M.readI M.curveOk s.data.toList = none by rw [HRI.out, if_neg (fun h => ht h.2)])
          have e1 : (M.cvText pts == s.toList) = false := by rw [ByteArray.toList_eq, beq_eq_false_iff_ne]; exact ht
          have e2 : ¬ M.cvText pts = s.toList := by rw [ByteArray.toList_eq]; exact ht
          clear hok hI ht
          go_wp2_with (first | (go_at_call 34; refine HI.out.mono ?_; rintro e u1 ⟨rfl, d1⟩; have B5 := bel_trans hb d1; have v5 : u1.cell? ⟨w.heap.size + 1, 0, none⟩ = some (.slice A4 pts.length c4) := (by rw [d1.cell (by show w.heap.size + 1 < _; omega)]; exact hv)) | (go_at_call 10; refine (HT.out _ d1).mono ?_; rw [HTX.out]; rintro e u2 ⟨rfl, d2⟩; have D6 := bel_trans d1 d2; have B6 := bel_trans B5 d2; have rR : u2.cell? ⟨w.heap.size, 0, none⟩ = some (.slice none 0 0) := (by rw [D6.cell (by show w.heap.size < _; omega)]; exact R0r); have fR : u2.frozen? ⟨w.heap.size, 0, none⟩ = false := (by rw [D6.frozen (by show w.heap.size < _; omega)]; exact F0r)))
          refine bodyPost_ret (v := .tuple #[.agg #[.slice none 0 0], .bool false]) (by simp [results, Tryd.results18, go_sem, rR, fR]) rfl ?_
          rw [NO.out]
          exact ⟨_, rfl, OA.nil _, B6.setCell (Nat.le_refl _) _⟩
end Go.Proofs.YtecdendjlgohjaaDoor
namespace Go.Proofs.YtecdendjlgohjaaDoor
open Go.RowKit Go.Sort
set_option maxHeartbeats 4000000
set_option maxRecDepth 100000
theorem M.size_mk (l : List UInt8) : (⟨l.toArray⟩ : ByteArray).size = l.length := by simp [ByteArray.size]
end Go.Proofs.YtecdendjlgohjaaDoor
namespace Go.Proofs.YtecdendjlgohjaaDoor
open Go.RowKit

/-- Only blocks of F, and new ones, have turned. -/
structure Chg (F : Nat → Prop) (w w' : World) : Prop where
  os : w'.os = w.os
  tape : w'.tape = w.tape
  output : w'.output = w.output
  size : w.heap.size ≤ w'.heap.size
  block : ∀ k, k < w.heap.size → ¬ F k → w'.heap[k]? = w.heap[k]?
section
variable {F F' : Nat → Prop} {a b c w w' : World} {lo hi B : Nat}
theorem Chg.refl (F : Nat → Prop) (w : World) : Chg F w w := ⟨rfl, rfl, rfl, Nat.le_refl _, fun _ _ _ => rfl⟩
theorem Chg.trans (h : Chg F a b) (k : Chg F b c) : Chg F a c :=
  ⟨k.os.trans h.os, k.tape.trans h.tape, k.output.trans h.output, Nat.le_trans h.size k.size, fun i hi hm => (k.block i (Nat.lt_of_lt_of_le hi h.size) hm).trans (h.block i hi hm)⟩
theorem Chg.wide (h : Chg F a b) (hf : ∀ k, F k → F' k) : Chg F' a b := ⟨h.os, h.tape, h.output, h.size, fun k hk hn => h.block k hk fun hF => hn (hf k hF)⟩
theorem Chg.of_below (h : Below a.heap.size a b) (F : Nat → Prop) : Chg F a b := ⟨h.os, h.tape, h.output, h.size, fun k hk _ => h.block k hk⟩
theorem Chg.of_grown {row : Option Nat} (h : a.grownBy b row) (hr : ∀ k, row = some k → F k) : Chg F a b :=
  ⟨h.os, h.tape, h.output, h.size, fun k hk hn => h.block k hk fun e => hn (hr k e.symm)⟩
theorem Chg.toBelow (h : Chg F a b) (hF : ∀ k, F k → B ≤ k) (hB : B ≤ a.heap.size) : Below B a b := ⟨h.os, h.tape, h.output, h.size, fun k hk => h.block k (by omega) fun hk' => by have := hF k hk'; omega⟩
theorem Chg.set (w : World) (g o : Nat) (u : Value) (hF : F g) : Chg F w (w.setCell ⟨g, o, none⟩ u) := Chg.of_grown (grown_setCell w g o u) fun k hk => by injection hk with hk; rw [← hk]; exact hF
end

/-- Rows of cells, s each. -/
theorem flat2_at {s : Nat} {css : List (List Value)} (hs : ∀ c ∈ css, c.length = s) {k : Nat} {c : List Value} (hk : css[k]? = some c) (j : Nat) (hj : j < s) : css.flatten[k * s + j]? = c[j]? := by
  induction css generalizing k with
  | nil => simp at hk
  | cons y ys ih =>
    have hy := hs y (by simp)
    cases k with
    | zero =>
      simp only [List.getElem?_cons_zero, Option.some.injEq] at hk
      subst hk
      rw [List.flatten_cons, Nat.zero_mul, Nat.zero_add, List.getElem?_append_left (by omega)]
    | succ k =>
      simp only [List.getElem?_cons_succ] at hk
      rw [List.flatten_cons, List.getElem?_append_right (by rw [hy, Nat.succ_mul]; omega), hy, ← ih (fun c hc => hs c (by simp [hc])) hk]
      congr 1
      rw [Nat.succ_mul]
      omega
theorem flat2_len {s : Nat} {css : List (List Value)} (hs : ∀ c ∈ css, c.length = s) : css.flatten.length = css.length * s := by
  induction css with
  | nil => simp
  | cons y ys ih => rw [List.flatten_cons, List.length_append, hs y (by simp), ih (fun c hc => hs c (by simp [hc])), List.length_cons, Nat.succ_mul, Nat.add_comm]
theorem flat2_set {s : Nat} {css : List (List Value)} (hs : ∀ c ∈ css, c.length = s) {k j : Nat} {c : List Value} {u : Value} (hk : css[k]? = some c) (hj : j < s) : css.flatten.set (k * s + j) u = (css.set k (c.set j u)).flatten := by
  induction css generalizing k with
  | nil => simp at hk
  | cons y ys ih =>
    have hy := hs y (by simp)
    cases k with
    | zero =>
      simp only [List.getElem?_cons_zero, Option.some.injEq] at hk
      subst hk
      rw [List.flatten_cons, Nat.zero_mul, Nat.zero_add, List.set_append_left _ _ (by omega), List.set_cons_zero, List.flatten_cons]
    | succ k =>
      simp only [List.getElem?_cons_succ] at hk
      rw [List.flatten_cons, List.set_append_right _ _ (by rw [hy, Nat.succ_mul]; omega), hy, List.set_cons_succ, List.flatten_cons, ← ih (fun c hc => hs c (by simp [hc])) hk]
      congr 2
      rw [Nat.succ_mul]
      omega

/-- How a plain type lies in cells: what reads as x (R), and what the call owns, in blocks of F (O). -/
structure Ty (α : Type) where
  s : Nat
  pos : 0 < s
  zero : α
  R : World → Nat → List Value → α → Prop
  O : World → (Nat → Prop) → List Value → α → Prop
  rlen : ∀ {w B cs x}, R w B cs x → cs.length = s
  keep : ∀ {w w' B cs x}, (∀ p : Addr, p.block < B → w'.cell? p = w.cell? p) → R w B cs x → R w' B cs x
  more : ∀ {w B B' cs x}, B ≤ B' → R w B cs x → R w B' cs x
  read : ∀ {w F cs x}, O w F cs x → R w w.heap.size cs x
  okeep : ∀ {w w' F cs x}, (∀ b, F b → w'.heap[b]? = w.heap[b]?) → O w F cs x → O w' F cs x
  owide : ∀ {w F F' cs x}, (∀ b, F b → F' b) → O w F cs x → O w F' cs x
  ocells : ∀ {w F cs x}, O w F cs x → ∀ u ∈ cs, u.oneCell' = true
  oreal : ∀ {w F cs x}, O w F cs x → O w (fun b => F b ∧ b < w.heap.size) cs x

/-- A type whose cells are the value itself. -/
def Ty.flat {α : Type} (s : Nat) (pos : 0 < s) (zero : α) (enc : α → List Value) (henc : ∀ x, (enc x).length = s) (h1 : ∀ x, ∀ u ∈ enc x, u.oneCell' = true) : Ty α where
  s := s
  pos := pos
  zero := zero
  R _ _ cs x := cs = enc x
  O _ _ cs x := cs = enc x
  rlen h := by rw [h]; exact henc _
  keep _ h := h
  more _ h := h
  read h := h
  okeep _ h := h
  owide _ h := h
  ocells h := by rw [h]; exact h1 _
  oreal h := h
def tI : Ty Int := Ty.flat 1 (by decide) 0 (fun x => [.int .i64 x]) (fun _ => rfl) (by simp [Value.oneCell'])
/-- Two types side by side: a struct. -/
def Ty.prod {α β : Type} (a : Ty α) (b : Ty β) : Ty (α × β) where
  s := a.s + b.s
  pos := Nat.add_pos_left a.pos _
  zero := (a.zero, b.zero)
  R w B cs x := ∃ c1 c2, cs = c1 ++ c2 ∧ a.R w B c1 x.1 ∧ b.R w B c2 x.2
  O w F cs x := ∃ c1 c2 F1 F2, cs = c1 ++ c2 ∧ a.O w F1 c1 x.1 ∧ b.O w F2 c2 x.2 ∧ (∀ k, F1 k → F k) ∧ (∀ k, F2 k → F k) ∧ (∀ k, F1 k → ¬ F2 k)
  rlen := by rintro w B cs x ⟨c1, c2, rfl, h1, h2⟩; rw [List.length_append, a.rlen h1, b.rlen h2]
  keep := by rintro w w' B cs x hk ⟨c1, c2, rfl, h1, h2⟩; exact ⟨c1, c2, rfl, a.keep hk h1, b.keep hk h2⟩
  more := by rintro w B B' cs x hk ⟨c1, c2, rfl, h1, h2⟩; exact ⟨c1, c2, rfl, a.more hk h1, b.more hk h2⟩
  read := by rintro w F cs x ⟨c1, c2, F1, F2, rfl, h1, h2, _⟩; exact ⟨c1, c2, rfl, a.read h1, b.read h2⟩
  okeep := by rintro w w' F cs x hk ⟨c1, c2, F1, F2, rfl, h1, h2, f1, f2, f3⟩; exact ⟨c1, c2, F1, F2, rfl, a.okeep (fun b hb => hk b (f1 b hb)) h1, b.okeep (fun b hb => hk b (f2 b hb)) h2, f1, f2, f3⟩
  owide := by rintro w F F' cs x hk ⟨c1, c2, F1, F2, rfl, h1, h2, f1, f2, f3⟩; exact ⟨c1, c2, F1, F2, rfl, h1, h2, fun k h => hk k (f1 k h), fun k h => hk k (f2 k h), f3⟩
  ocells := by
    rintro w F cs x ⟨c1, c2, F1, F2, rfl, h1, h2, _⟩ u hu
    rcases List.mem_append.1 hu with h | h
    · exact a.ocells h1 u h
    · exact b.ocells h2 u h
  oreal := by
    rintro w F cs x ⟨c1, c2, F1, F2, rfl, h1, h2, f1, f2, f3⟩
    exact ⟨c1, c2, _, _, rfl, a.oreal h1, b.oreal h2, fun k h => ⟨f1 k h.1, h.2⟩, fun k h => ⟨f2 k h.1, h.2⟩, fun k h h' => f3 k h.1 h'.1⟩

section
variable {α : Type} (t : Ty α)
/-- A slice that reads as a list. -/
def RS (w : World) (B : Nat) (v : Value) (xs : List α) : Prop :=
  ∃ (A : Option Addr) (c : Nat) (css : List (List Value)), v = .slice A xs.length c ∧ xs.length ≤ c ∧ c ≤ maxLen ∧ css.length = xs.length ∧ Reads w B t.s A xs.length css.flatten ∧ ∀ k (h : k < xs.length) (h' : k < css.length), t.R w B css[k] xs[k]
/-- The call's own slice: a row of its own, each element in blocks of its own. -/
def OS (e : TypeId) (w : World) (F : Nat → Prop) (v : Value) (xs : List α) : Prop :=
  ∃ (css : List (List Value)) (Fs : Nat → Nat → Prop), w.ownsRow 0 e t.s v xs.length css.flatten ∧ css.length = xs.length ∧ (∀ g, v.ownBlock = some g → F g) ∧ (∀ k b, Fs k b → F b ∧ v.ownBlock ≠ some b) ∧
    (∀ j k b, j ≠ k → Fs j b → ¬ Fs k b) ∧ ∀ k (h : k < xs.length) (h' : k < css.length), t.O w (Fs k) css[k] xs[k]
end
section
variable {α : Type} {t : Ty α} {e : TypeId} {w w' : World} {F F' : Nat → Prop} {B B' : Nat} {v : Value} {xs : List α}
theorem RS.keep (hk : ∀ p : Addr, p.block < B → w'.cell? p = w.cell? p) (h : RS t w B v xs) : RS t w' B v xs := by
  obtain ⟨A, c, css, hv, h1, h2, h3, h4, h5⟩ := h
  exact ⟨A, c, css, hv, h1, h2, h3, h4.keep hk, fun k h h' => t.keep hk (h5 k h h')⟩
theorem RS.more (hB : B ≤ B') (h : RS t w B v xs) : RS t w B' v xs := by
  obtain ⟨A, c, css, hv, h1, h2, h3, h4, h5⟩ := h
  exact ⟨A, c, css, hv, h1, h2, h3, h4.more hB, fun k h h' => t.more hB (h5 k h h')⟩
theorem OS.read (h : OS t e w F v xs) : RS t w w.heap.size v xs := by
  obtain ⟨css, Fs, h1, h2, _, _, _, h6⟩ := h
  obtain ⟨A, c, rfl, hc, hm, hr⟩ := own_shape h1
  exact ⟨A, c, css, rfl, hc, hm, h2, hr, fun k h h' => t.read (h6 k h h')⟩
theorem OS.keep (hk : ∀ b, F b → w'.heap[b]? = w.heap[b]?) (h : OS t e w F v xs) : OS t e w' F v xs := by
  obtain ⟨css, Fs, h1, h2, h3, h4, h5, h6⟩ := h
  refine ⟨css, Fs, ⟨h1.1, ?_⟩, h2, h3, h4, h5, fun k h h' => t.okeep (fun b hb => hk b (h4 k b hb).1) (h6 k h h')⟩
  rcases h1.2 with hn | ⟨g, cap, cur, rfl, hb, hg, rest⟩
  · exact .inl hn
  · exact .inr ⟨g, cap, cur, rfl, hb, by rw [hk g (h3 g rfl)]; exact hg, rest⟩
theorem OS.wide (hF : ∀ b, F b → F' b) (h : OS t e w F v xs) : OS t e w F' v xs := by
  obtain ⟨css, Fs, h1, h2, h3, h4, h5, h6⟩ := h
  exact ⟨css, Fs, h1, h2, fun g hg => hF g (h3 g hg), fun k b hb => ⟨hF b (h4 k b hb).1, (h4 k b hb).2⟩, h5, h6⟩
theorem RS.cap {A : Option Addr} {n c : Nat} (h : RS t w B (.slice A n c) xs) : xs.length = n ∧ n ≤ c ∧ c ≤ maxLen := by
  obtain ⟨A', c', css, hv, h1, h2, _⟩ := h
  simp only [Value.slice.injEq] at hv
  obtain ⟨rfl, rfl, rfl⟩ := hv
  exact ⟨rfl, h1, h2⟩
theorem RS.shape (h : RS t w B v xs) : ∃ A c, v = .slice A xs.length c := by
  obtain ⟨A, c, css, hv, _⟩ := h
  exact ⟨A, c, hv⟩
theorem OS.shape (h : OS t e w F v xs) : ∃ A c, v = .slice A xs.length c := RS.shape h.read
/-- The k-th element's cells. -/
theorem RS.at (h : RS t w B v xs) {k : Nat} (hk : k < xs.length) : ∃ b o c cs, v = .slice (some ⟨b, o, none⟩) xs.length c ∧ b < B ∧ cs.length = t.s ∧ t.R w B cs xs[k] ∧ ∀ j u, cs[j]? = some u → w.cell? ⟨b, o + k * t.s + j, none⟩ = some u := by
  obtain ⟨A, c, css, rfl, h1, h2, h3, h4, h5⟩ := h
  obtain ⟨ad, rfl, hb, hc⟩ := h4.2 (by omega)
  have hs : ∀ c ∈ css, c.length = t.s := fun c hc => by
    obtain ⟨i, hi, rfl⟩ := List.getElem_of_mem hc
    exact t.rlen (h5 i (by omega) hi)
  have h0 : 0 < css.flatten.length := by
    rw [flat2_len hs]
    exact Nat.mul_pos (by omega) t.pos
  have hsp := spot_none (hc 0 _ (List.getElem?_eq_getElem h0))
  have hsp' : ad = ⟨ad.block, ad.off, none⟩ := by simpa [Addr.add] using hsp
  have hr := h5 k hk (by omega)
  refine ⟨ad.block, ad.off, c, css[k]'(by omega), by rw [← hsp'], hb, t.rlen hr, hr, fun j u hu => ?_⟩
  have hj : j < t.s := by rw [← t.rlen hr]; exact (List.getElem?_eq_some_iff.1 hu).1
  have := hc (k * t.s + j) u (by rw [flat2_at hs (List.getElem?_eq_getElem (by omega)) j hj]; exact hu)
  rw [hsp', Addr.add_lit, ← Nat.add_assoc] at this
  exact this
end

/-- A slice as a type of one cell. -/
def Ty.sl {α : Type} (t : Ty α) (e : TypeId) : Ty (List α) where
  s := 1
  pos := Nat.one_pos
  zero := []
  R w B cs x := ∃ v, cs = [v] ∧ RS t w B v x
  O w F cs x := ∃ v, cs = [v] ∧ OS t e w F v x
  rlen := by rintro w B cs x ⟨v, rfl, _⟩; rfl
  keep := by rintro w w' B cs x hk ⟨v, rfl, h⟩; exact ⟨v, rfl, h.keep hk⟩
  more := by rintro w B B' cs x hk ⟨v, rfl, h⟩; exact ⟨v, rfl, h.more hk⟩
  read := by rintro w F cs x ⟨v, rfl, h⟩; exact ⟨v, rfl, h.read⟩
  okeep := by rintro w w' F cs x hk ⟨v, rfl, h⟩; exact ⟨v, rfl, h.keep hk⟩
  owide := by rintro w F F' cs x hk ⟨v, rfl, h⟩; exact ⟨v, rfl, h.wide hk⟩
  ocells := by
    rintro w F cs x ⟨v, rfl, h⟩ u hu
    obtain ⟨A, c, hv⟩ := h.shape
    simp only [List.mem_singleton] at hu
    subst hu hv
    rfl
  oreal := by
    rintro w F cs x ⟨v, rfl, css, Fs, h1, h2, h3, h4, h5, h6⟩
    exact ⟨v, rfl, css, _, h1, h2, fun g hg => ⟨h3 g hg, (h1.lt g hg).2⟩, fun k b hb => ⟨⟨(h4 k b hb.1).1, hb.2⟩, (h4 k b hb.1).2⟩, fun j k b hne h h' => h5 j k b hne h.1 h'.1, fun k h h' => t.oreal (h6 k h h')⟩

section
variable {α : Type} {t : Ty α} {e : TypeId} {w w' : World} {F F' : Nat → Prop} {B B' lo hi : Nat} {v : Value} {xs : List α}
/-- Blocks from lo on and below hi. -/
def Iv (lo hi : Nat) : Nat → Prop := fun k => lo ≤ k ∧ k < hi
theorem Iv.mono {lo hi lo' hi' : Nat} (h1 : lo' ≤ lo) (h2 : hi ≤ hi') : ∀ b, Iv lo hi b → Iv lo' hi' b := fun b ⟨h, h'⟩ => ⟨Nat.le_trans h1 h, Nat.lt_of_lt_of_le h' h2⟩
theorem RS.later (h : RS t w w.heap.size v xs) (hb : Below w.heap.size w w') : RS t w' w'.heap.size v xs := (h.keep fun _ hp => hb.cell hp).more hb.size
theorem RS.below (h : RS t w B v xs) (hb : Below B w w') : RS t w' B v xs := h.keep fun _ hp => hb.cell hp
theorem OS.below (h : OS t e w (Iv lo hi) v xs) (hb : Below B w w') (hB : hi ≤ B) : OS t e w' (Iv lo hi) v xs := h.keep fun b hF => hb.block b (Nat.lt_of_lt_of_le hF.2 hB)
theorem OS.mid {l r : Nat} (h : OS t e w (Iv lo hi) v xs) (hm : Mid l r w w') (hd : hi ≤ l ∨ r ≤ lo) (hs : hi ≤ w.heap.size) : OS t e w' (Iv lo hi) v xs :=
  h.keep fun b ⟨h1, h2⟩ => hm.block b (by omega) (by omega)
theorem OS.iv {lo' hi' : Nat} (h : OS t e w (Iv lo hi) v xs) (h1 : lo' ≤ lo) (h2 : hi ≤ hi') : OS t e w (Iv lo' hi') v xs := h.wide (Iv.mono h1 h2)
theorem OS.nil (t : Ty α) (e : TypeId) (w : World) (F : Nat → Prop) : OS t e w F (.slice none 0 0) [] :=
  ⟨[], fun _ _ => False, World.ownsRow_nil _ _ _ _, rfl, by simp [Value.ownBlock], fun _ _ h => h.elim, fun _ _ _ _ h => h.elim, fun k h => by simp at h⟩
theorem RS.nil (t : Ty α) (w : World) (B : Nat) : RS t w B (.slice none 0 0) [] := ⟨none, 0, [], rfl, Nat.le_refl _, by simp [maxLen], rfl, Reads.none_, fun k h => by simp at h⟩
/-- All of an own slice but its k-th element. -/
def OH (t : Ty α) (e : TypeId) (w : World) (F : Nat → Prop) (v : Value) (xs : List α) (css : List (List Value)) (Fs : Nat → Nat → Prop) (k : Nat) : Prop :=
  w.ownsRow 0 e t.s v xs.length css.flatten ∧ css.length = xs.length ∧ (∀ c ∈ css, c.length = t.s) ∧ (∀ g, v.ownBlock = some g → F g) ∧ (∀ k b, Fs k b → F b ∧ v.ownBlock ≠ some b) ∧
    (∀ j k b, j ≠ k → Fs j b → ¬ Fs k b) ∧ ∀ i (h : i < xs.length) (h' : i < css.length), i ≠ k → t.O w (Fs i) css[i] xs[i]
variable {css : List (List Value)} {Fs : Nat → Nat → Prop} {k : Nat}
theorem OH.form {A : Option Addr} {m c : Nat} (h : OH t e w F (.slice A m c) xs css Fs k) (hk : k < xs.length) : ∃ g, A = some ⟨g, 0, none⟩ ∧ F g ∧ ¬ Fs k g ∧ g < w.heap.size ∧ m = xs.length := by
  obtain ⟨h1, h2, h3, h4, h5, h6, h7⟩ := h
  rcases h1.2 with ⟨h0, _⟩ | ⟨g, cap, cur, h0, hg1, hg2, _⟩
  · simp only [Value.slice.injEq] at h0
    omega
  · simp only [Value.slice.injEq] at h0
    obtain ⟨rfl, rfl, rfl⟩ := h0
    exact ⟨g, rfl, h4 g rfl, fun hf => (h5 k g hf).2 rfl, (Array.getElem?_eq_some_iff.1 hg2).1, rfl⟩
theorem OH.cell {g m c : Nat} (h : OH t e w F (.slice (some ⟨g, 0, none⟩) m c) xs css Fs k) {cs : List Value} (hcs : css[k]? = some cs) {j : Nat} {u : Value} (hj : cs[j]? = some u) :
    w.cell? ⟨g, k * t.s + j, none⟩ = some u ∧ w.frozen? ⟨g, k * t.s + j, none⟩ = false := by
  obtain ⟨h1, h2, h3, _⟩ := h
  have hk : k < css.length := (List.getElem?_eq_some_iff.1 hcs).1
  have hm : m = xs.length := by
    rcases h1.2 with ⟨h0, _⟩ | ⟨g', cap, cur, h0, _⟩
    · simp at h0
    · simp only [Value.slice.injEq] at h0
      exact h0.2.1
  subst hm
  have hl : cs.length = t.s := h3 cs (List.mem_of_getElem? hcs)
  have hjs : j < t.s := by rw [← hl]; exact (List.getElem?_eq_some_iff.1 hj).1
  have hf := flat2_at h3 hcs j hjs
  rw [hj] at hf
  have hlt := (List.getElem?_eq_some_iff.1 hf).1
  exact ⟨by rw [World.ownsRow.cellAt h1 _ (by rw [← h1.1]; exact hlt)]; exact hf, World.ownsRow.frozenAt h1 _⟩
/-- A cell of the k-th element is written. -/
theorem OH.set {g m c : Nat} (h : OH t e w F (.slice (some ⟨g, 0, none⟩) m c) xs css Fs k) {cs : List Value} (hcs : css[k]? = some cs) (j : Nat) (hj : j < t.s) (u : Value) :
    OH t e (w.setCell ⟨g, k * t.s + j, none⟩ u) F (.slice (some ⟨g, 0, none⟩) m c) xs (css.set k (cs.set j u)) Fs k ∧ (css.set k (cs.set j u))[k]? = some (cs.set j u) := by
  obtain ⟨h1, h2, h3, h4, h5, h6, h7⟩ := h
  have hk : k < css.length := (List.getElem?_eq_some_iff.1 hcs).1
  have hm : m = xs.length := by
    rcases h1.2 with ⟨h0, _⟩ | ⟨g', cap, cur, h0, _⟩
    · simp at h0
    · simp only [Value.slice.injEq] at h0
      exact h0.2.1
  subst hm
  have hl : cs.length = t.s := h3 cs (List.mem_of_getElem? hcs)
  have hst := (World.ownsRow.stored h1 (k * t.s + j) u).1
  rw [flat2_set h3 hcs hj] at hst
  refine ⟨⟨hst, by rw [List.length_set]; exact h2, fun c hc => ?_, h4, h5, h6, fun i hi hi' hne => ?_⟩, by simp [hk]⟩
  · rcases List.mem_or_eq_of_mem_set hc with hc | rfl
    · exact h3 c hc
    · rw [List.length_set]; exact hl
  · rw [List.getElem_set_ne (fun e => hne e.symm)]
    refine t.okeep (fun b hb => ?_) (h7 i hi (by rw [List.length_set] at hi'; exact hi') hne)
    exact heap_setCell_other w ⟨g, k * t.s + j, none⟩ b u (fun e => (h5 i b hb).2 (by rw [e]; rfl))
theorem OH.keep (h : OH t e w F v xs css Fs k) (hk : ∀ b, F b → w'.heap[b]? = w.heap[b]?) : OH t e w' F v xs css Fs k := by
  obtain ⟨h1, h2, h3, h4, h5, h6, h7⟩ := h
  refine ⟨⟨h1.1, ?_⟩, h2, h3, h4, h5, h6, fun i hi hi' hne => t.okeep (fun b hb => hk b (h5 i b hb).1) (h7 i hi hi' hne)⟩
  rcases h1.2 with hn | ⟨g, cap, cur, rfl, hb, hg, rest⟩
  · exact .inl hn
  · exact .inr ⟨g, cap, cur, rfl, hb, by rw [hk g (h4 g rfl)]; exact hg, rest⟩
theorem OS.lt (h : OS t e w F v xs) : ∀ g, v.ownBlock = some g → F g ∧ g < w.heap.size := by
  obtain ⟨css, Fs, h1, _, h3, _⟩ := h
  exact fun g hg => ⟨h3 g hg, (h1.lt g hg).2⟩
end
section
variable {α : Type} {t : Ty α} {P : Program} {T e : TypeId} {z : Value} {bytes : Nat}
end
end Go.Proofs.YtecdendjlgohjaaDoor
namespace Go.Proofs.YtecdendjlgohjaaDoor
open Go.RowKit
section
variable {α : Type} (t : Ty α) {w w' : World} {B lo hi lo' hi' l r : Nat} {cs : List Value} {x : α} {F F' : Nat → Prop}
theorem Ty.below (h : t.R w B cs x) (hb : Below B w w') : t.R w' B cs x := t.keep (fun _ hp => hb.cell hp) h
theorem Ty.later (h : t.R w w.heap.size cs x) (hb : Below w.heap.size w w') : t.R w' w'.heap.size cs x := t.more hb.size (t.below h hb)
end
section
variable {w w' : World} {B lo hi n c : Nat} {A : Option Addr} {v : Value} {e : TypeId}
/-- Flat elements. -/
theorem RS.flat {α : Type} {s : Nat} {pos : 0 < s} {zero : α} {enc : α → List Value} {henc : ∀ x, (enc x).length = s} {h1 : ∀ x, ∀ u ∈ enc x, u.oneCell' = true} {xs : List α}
    (h : RS (Ty.flat s pos zero enc henc h1) w B (.slice A n c) xs) : RA enc s w B A n xs ∧ n ≤ c ∧ c ≤ maxLen := by
  obtain ⟨A', c', css, hv, h1', h2, h3, h4, h5⟩ := h
  simp only [Value.slice.injEq] at hv
  obtain ⟨rfl, rfl, rfl⟩ := hv
  refine ⟨⟨rfl, ?_⟩, h1', h2⟩
  have e0 : css = xs.map enc := by
    apply List.ext_getElem (by simp [h3])
    intro i hi hi'
    rw [List.getElem_map]
    exact h5 i (by omega) hi
  rw [List.flatMap_def, ← e0]
  exact h4
theorem RS.of_flat {α : Type} {s : Nat} {pos : 0 < s} {zero : α} {enc : α → List Value} {henc : ∀ x, (enc x).length = s} {h1 : ∀ x, ∀ u ∈ enc x, u.oneCell' = true} {xs : List α}
    (h : RA enc s w B A n xs) (hc : n ≤ c) (hm : c ≤ maxLen) : RS (Ty.flat s pos zero enc henc h1) w B (.slice A n c) xs := by
  obtain ⟨rfl, h2⟩ := h
  rw [List.flatMap_def] at h2
  exact ⟨A, c, xs.map enc, rfl, hc, hm, by simp, h2, fun k hk hk' => by
    show (xs.map enc)[k] = enc xs[k]
    rw [List.getElem_map]⟩
theorem OS.flat {α : Type} {s : Nat} {pos : 0 < s} {zero : α} {enc : α → List Value} {henc : ∀ x, (enc x).length = s} {h1 : ∀ x, ∀ u ∈ enc x, u.oneCell' = true} {xs : List α}
    (h : OS (Ty.flat s pos zero enc henc h1) e w (Iv lo hi) v xs) : OA enc e s lo hi w v xs := by
  obtain ⟨css, Fs, g1, g2, g3, _, _, g6⟩ := h
  have e0 : css = xs.map enc := by
    apply List.ext_getElem (by simp [g2])
    intro i hi hi'
    rw [List.getElem_map]
    exact g6 i (by omega) hi
  subst e0
  refine ⟨⟨by rw [List.flatMap_def]; exact g1.1, ?_⟩, fun k hk => (g3 k hk).2⟩
  rcases g1.2 with hn | ⟨g, cap, cur, rfl, hb, rest⟩
  · exact .inl hn
  · rw [List.flatMap_def]
    exact .inr ⟨g, cap, cur, rfl, (g3 g rfl).1, rest⟩
theorem OS.of_flat {α : Type} {s : Nat} {pos : 0 < s} {zero : α} {enc : α → List Value} {henc : ∀ x, (enc x).length = s} {h1 : ∀ x, ∀ u ∈ enc x, u.oneCell' = true} {xs : List α}
    (h : OA enc e s lo hi w v xs) : OS (Ty.flat s pos zero enc henc h1) e w (Iv lo hi) v xs := by
  refine ⟨xs.map enc, fun _ _ => False, ?_, by simp, fun g hg => ⟨(h.1.lt g hg).1, h.2 g hg⟩, fun _ _ h => h.elim, fun _ _ _ _ h => h.elim, fun k hk hk' => ?_⟩
  · rw [← List.flatMap_def]
    exact own_base h.1 (Nat.zero_le _)
  · show (xs.map enc)[k] = enc xs[k]
    rw [List.getElem_map]
theorem flat_ints (xs : List Int) : xs.flatMap (fun x : Int => [Value.int .i64 x]) = xs.map (.int .i64) := by
  induction xs with
  | nil => rfl
  | cons y ys ih => rw [List.flatMap_cons, ih]; rfl
theorem OS.of_oi {xs : List Int} (h : OI e lo w v xs) (hh : ∀ k, v.ownBlock = some k → k < hi) : OS tI e w (Iv lo hi) v xs :=
  OS.of_flat ⟨by rw [flat_ints]; exact h, hh⟩
theorem OI.os {xs : List Int} (h : OI e lo w v xs) : OS tI e w (Iv lo w.heap.size) v xs := OS.of_oi h fun k hk => (World.ownsRow.lt h k hk).2
end
/-- All ints of a list bounded .. what a harness counts: its measure of size, its marks. -/
structure Hs (α : Type) where
  sz : α → Nat
  mark : Int → α → α
  cnt : α → Nat
def hI : Hs Int := ⟨fun _ => 0, fun k _ => k, fun _ => 1⟩
section
variable {α β : Type}
def Hs.mkL (h : Hs α) : Int → List α → List α
  | _, [] => []
  | k, x :: xs => h.mark k x :: h.mkL (k + h.cnt x) xs
def Hs.cntL (h : Hs α) : List α → Nat
  | [] => 0
  | x :: xs => h.cnt x + h.cntL xs
def Hs.szL (h : Hs α) : List α → Nat
  | [] => 0
  | x :: xs => h.sz x + h.szL xs
def Hs.sl (h : Hs α) : Hs (List α) := ⟨fun xs => xs.length + h.szL xs, h.mkL, h.cntL⟩
def Hs.prod (a : Hs α) (b : Hs β) : Hs (α × β) := ⟨fun x => a.sz x.1 + b.sz x.2, fun k x => (a.mark k x.1, b.mark (k + a.cnt x.1) x.2), fun x => a.cnt x.1 + b.cnt x.2⟩
end
end Go.Proofs.YtecdendjlgohjaaDoor
namespace Go.Proofs.YtecdendjlgohjaaDoor
open Go.RowKit
set_option maxHeartbeats 400000
set_option maxRecDepth 100000
/-! []int64 -/
abbrev hS : Hs (List Int) := hI.sl
end Go.Proofs.YtecdendjlgohjaaDoor
namespace Go.Proofs.YtecdendjlgohjaaDoor
open Go.RowKit
set_option maxHeartbeats 400000
set_option maxRecDepth 100000
/-! Curve -/
abbrev hPt : Hs (Int × Int) := hI.prod hI
abbrev hC : Hs (List (Int × Int)) := hPt.sl
end Go.Proofs.YtecdendjlgohjaaDoor
namespace Go.Proofs.YtecdendjlgohjaaDoor
open Go.RowKit
theorem M.curve_nil : M.curveOk [] = false := rfl
end Go.Proofs.YtecdendjlgohjaaDoor
namespace Go.Proofs.YtecdendjlgohjaaDoor
open Go.RowKit
set_option maxHeartbeats 400000
theorem M.curve_iff (xs : List (Int × Int)) : M.curveOk xs = true ↔ (∀ p ∈ xs, M.ptOk p = true) ∧ xs.Pairwise (fun p q => p.1 < q.1) ∧ 1 ≤ xs.length ∧ xs.length ≤ 24 := by
  constructor
  · intro h
    have hl := M.curve_len h
    refine ⟨fun p hp => ?_, ?_, hl⟩
    · obtain ⟨i, hi, rfl⟩ := List.getElem_of_mem hp
      have h1 := M.curve_step h hi
      rw [M.stepOk, Bool.and_eq_true, List.getElem?_eq_getElem hi] at h1
      exact h1.1
    · rw [List.pairwise_iff_getElem]
      have key : ∀ d i (hi : i < xs.length) (hj : i + d + 1 < xs.length), (xs[i]).1 < (xs[i + d + 1]).1 := by
        intro d
        induction d with
        | zero => intro i hi hj; exact M.curve_lt h (k := i + 1) (by omega) (by simp [hi]) (List.getElem?_eq_getElem hj)
        | succ d ih =>
          intro i hi hj
          have h1 := ih i hi (by omega)
          have h2 := M.curve_lt h (k := i + d + 1 + 1) (by omega) (by rw [Nat.add_sub_cancel]; exact List.getElem?_eq_getElem (by omega)) (List.getElem?_eq_getElem (i := i + d + 1 + 1) (by omega))
          have e : i + (d + 1) + 1 = i + d + 1 + 1 := by omega
          simp only [e]
          omega
      intro i j hi hj hij
      have := key (j - i - 1) i hi (by omega)
      have e : i + (j - i - 1) + 1 = j := by omega
      simpa only [e] using this
  · rintro ⟨h1, h2, h3, h4⟩
    rw [M.curveOk, Bool.and_eq_true, M.inn_iff, List.all_eq_true]
    refine ⟨fun k hk => ?_, by omega⟩
    have hk := List.mem_range.1 hk
    rw [M.stepOk, Bool.and_eq_true, List.getElem?_eq_getElem hk]
    refine ⟨h1 _ (List.getElem_mem hk), ?_⟩
    rw [M.after, Bool.or_eq_true]
    by_cases h0 : k = 0
    · left; simp [h0]
    · right
      rw [List.getElem?_eq_getElem hk, List.getElem?_eq_getElem (by omega)]
      have := List.pairwise_iff_getElem.1 h2 (k - 1) k (by omega) hk (by omega)
      simpa using this
/-- From b on nothing before it counts. -/
theorem M.atGo_back (a : List (Int × Int)) (b : Int × Int) (bs : List (Int × Int)) (t : Int) (ha : ∀ q ∈ a, ¬ t < q.1) (hb : ¬ t < b.1) : ∀ p, M.atGo p (a ++ b :: bs) t = M.atGo b bs t := by
  induction a with
  | nil => intro p; rw [List.nil_append, M.atGo, if_neg hb]
  | cons x a ih =>
    intro p
    rw [List.cons_append, M.atGo, if_neg (ha x (by simp))]
    exact ih (fun q hq => ha q (by simp [hq])) x
theorem M.atC_back (a : List (Int × Int)) (b : Int × Int) (bs : List (Int × Int)) (t : Int) (ha : ∀ q ∈ a, ¬ t < q.1) (hb : ¬ t < b.1) : M.atC (a ++ b :: bs) t = M.atGo b bs t := by
  cases a with
  | nil => rw [List.nil_append, M.atC, if_neg hb]
  | cons x a =>
    rw [List.cons_append, M.atC, if_neg (ha x (by simp))]
    exact M.atGo_back a b bs t (fun q hq => ha q (by simp [hq])) hb x
end Go.Proofs.YtecdendjlgohjaaDoor
namespace Go.Proofs.YtecdendjlgohjaaDoor
open Go.RowKit
set_option maxHeartbeats 1000000
set_option maxRecDepth 100000
end Go.Proofs.YtecdendjlgohjaaDoor
namespace Go.Proofs.YtecdendjlgohjaaDoor
open Go.RowKit
set_option maxHeartbeats 2000000
set_option maxRecDepth 100000
/-- A curve's value at a sample, and the code. -/
def M.valR (xs : List (Int × Int)) (t : Int) : Int × Int := if M.curveOk xs then (if M.inn t 0 4000 then (M.atC xs t, 0) else (0, 2)) else (0, 1)
theorem impl_ValueAt (A : Option Addr) (n c : Nat) (xs : List (Int × Int)) (t : Int) (w : World) (hx : RA pt 2 w w.heap.size A n xs) (hn : n ≤ 1000000000) :
    Calls Tryd.prog 26 #[.agg #[.slice A n c], .int .i64 t] w fun e w' => e = .returned (.tuple #[.int .i64 (M.valR xs t).1, .int .i64 (M.valR xs t).2]) ∧ Below w.heap.size w w' := by
  obtain ⟨W, hW⟩ : ∃ W, W = w.alloc (.cells #[.slice A n c] 29) := ⟨_, rfl⟩
  have B0 : Below w.heap.size w W := by rw [hW]; exact (Below.refl _ _).alloc (Nat.le_refl _) _
  have hself : W.cell? ⟨w.heap.size, 0, none⟩ = some (.slice A n c) := by rw [hW]; simp [go_sem]
  have lx : w.heap.size < W.heap.size := by rw [hW]; simp
  have hx2 := hx.later B0
  have HW := Lib.hid hW
  clear hW
  cases hok : M.curveOk xs
  · have R := Lib.hid (show M.valR xs t = (0, 1) by rw [M.valR, hok]; rfl)
    have HM := Lib.hid hok
    clear hok
    go_enter Tryd.func26, Tryd.ntmps26
    go_wp2_with fail
    rw [← HW.out]
    go_wp2_with (go_at_call 34; refine (impl_isCurve _ _ _ _ _ hx2 hn).mono ?_; rw [HM.out]; rintro e w2 ⟨rfl, bel2⟩)
    go_ret2
    exact ⟨by rw [R.out]; rfl, bel_trans B0 bel2⟩
  · cases hi : M.inn t 0 4000
    · have R := Lib.hid (show M.valR xs t = (0, 2) by rw [M.valR, hok, hi]; rfl)
      have HM := Lib.hid hok
      have HI := Lib.hid hi
      clear hok hi
      go_enter Tryd.func26, Tryd.ntmps26
      go_wp2_with fail
      rw [← HW.out]
      go_wp2_with (first | (go_at_call 34; refine (impl_isCurve _ _ _ _ _ hx2 hn).mono ?_; rw [HM.out]; rintro e w2 ⟨rfl, bel2⟩; have hs2 : w2.cell? ⟨w.heap.size, 0, none⟩ = some (.slice A n c) := (by rw [bel2.cell lx]; exact hself)) | (go_at_call 54; refine (impl_isCount _ _).mono ?_; rw [HI.out]; rintro e w' ⟨rfl, rfl⟩))
      go_ret2
      exact ⟨by rw [R.out]; rfl, bel_trans B0 bel2⟩
    · have R := Lib.hid (show M.valR xs t = (M.atC xs t, 0) by rw [M.valR, hok, hi]; rfl)
      have ht : 0 ≤ t ∧ t ≤ 1000000 := by have := M.inn_iff.1 hi; omega
      have HM := Lib.hid hok
      have HI := Lib.hid hi
      clear hok hi
      go_enter Tryd.func26, Tryd.ntmps26
      go_wp2_with fail
      rw [← HW.out]
      go_wp2_with (first | (go_at_call 34; refine (impl_isCurve _ _ _ _ _ hx2 hn).mono ?_; rw [HM.out]; rintro e w2 ⟨rfl, bel2⟩; have hs2 : w2.cell? ⟨w.heap.size, 0, none⟩ = some (.slice A n c) := (by rw [bel2.cell lx]; exact hself)) | (go_at_call 54; refine (impl_isCount _ _).mono ?_; rw [HI.out]; rintro e w' ⟨rfl, rfl⟩) | (go_at_call 56; refine (impl_valueAt _ _ _ _ _ _ (hx2.later bel2) HM.out ht).mono ?_; rintro e w3 ⟨rfl, bel3⟩))
      go_ret2
      exact ⟨by rw [R.out]; rfl, bel_trans (bel_trans B0 bel2) bel3⟩
end Go.Proofs.YtecdendjlgohjaaDoor
namespace Go.Proofs.YtecdendjlgohjaaDoor
open Go.RowKit
set_option maxHeartbeats 2000000
set_option maxRecDepth 100000
theorem spec_SameCurve (A A' : Option Addr) (n c n' c' : Nat) (xs ys : List (Int × Int)) (w : World) (hx : RA pt 2 w w.heap.size A n xs) (hy : RA pt 2 w w.heap.size A' n' ys) (hn : n ≤ 1000000000) (hn' : n' ≤ 1000000000) :
    Calls Tryd.prog 25 #[.agg #[.slice A n c], .agg #[.slice A' n' c']] w fun e w' => e = .returned (.bool (decide (xs = ys))) ∧ Below w.heap.size w w' := by
  have hl := hx.len
  have hl' := hy.len
  have HL := Lib.hid hl
  have HL' := Lib.hid hl'
  obtain ⟨W, hW⟩ : ∃ W, W = (w.alloc (.cells #[.slice A n c] 29)).alloc (.cells #[.slice A' n' c'] 29) := ⟨_, rfl⟩
  have B0 : Below w.heap.size w W := by rw [hW]; exact ((Below.refl _ _).alloc (Nat.le_refl _) _).alloc (by simp) _
  have s0 : W.cell? ⟨w.heap.size, 0, none⟩ = some (.slice A n c) := by rw [hW]; simp [go_sem]
  have s1 : W.cell? ⟨w.heap.size + 1, 0, none⟩ = some (.slice A' n' c') := by rw [hW]; simp [go_sem]
  have lx : w.heap.size + 1 < W.heap.size := by rw [hW]; simp
  have HW := Lib.hid hW
  clear hW hl hl'
  by_cases hlen : n = n'
  · subst hlen
    go_enter Tryd.func25, Tryd.ntmps25
    go_wp2
    rw [← HW.out]
    go_loopw [5] (fun i wr => ∃ k : Nat, i = .int .i64 k ∧ k ≤ n ∧ xs.take k = ys.take k ∧ Below W.heap.size W wr) (fun i _ => n - (intOf i).toNat)
    case atStart => exact ⟨0, rfl, by omega, rfl, Below.refl _ _⟩
    case round =>
      obtain ⟨k, rfl, hk, hE, Bw⟩ := hrel
      have HE := Lib.hid hE
      have BW := bel_trans B0 Bw
      have t0 : wr.cell? ⟨w.heap.size, 0, none⟩ = some (.slice A n c) := by rw [Bw.cell (show (⟨w.heap.size, 0, none⟩ : Addr).block < _ by show w.heap.size < W.heap.size; omega)]; exact s0
      have t1 : wr.cell? ⟨w.heap.size + 1, 0, none⟩ = some (.slice A' n c') := by rw [Bw.cell (show (⟨w.heap.size + 1, 0, none⟩ : Addr).block < _ from lx)]; exact s1
      clear hE
      by_cases hlt : k < n
      · obtain ⟨b, o, ⟨p0, p1⟩, rfl, hab, X, hc⟩ := (hx.below BW).at pt_len (by decide) hlt
        obtain ⟨b', o', ⟨q0, q1⟩, rfl, hab', Y, hd⟩ := (hy.below BW).at pt_len (by decide) hlt
        have f0 : wr.cell? ⟨b, o + k * 2, none⟩ = some (.int .i64 p0) := hc 0 _ rfl
        have f1 : wr.cell? ⟨b, o + k * 2 + 1, none⟩ = some (.int .i64 p1) := hc 1 _ rfl
        have g0 : wr.cell? ⟨b', o' + k * 2, none⟩ = some (.int .i64 q0) := hd 0 _ rfl
        have g1 : wr.cell? ⟨b', o' + k * 2 + 1, none⟩ = some (.int .i64 q1) := hd 1 _ rfl
        have hkn : (k : Int) < (n : Int) := by omega
        clear hc hd
        by_cases he : p0 = q0 ∧ p1 = q1
        · obtain ⟨rfl, rfl⟩ := he
          go_wp2
          refine wp_region_still_lit (by kernel_rfl) (by kernel_rfl) ?_
          iterate 11 still_step
          refine wpStill_nil ?_
          go_wp2
          go_roundw
          case rel => exact ⟨k + 1, by go_num, by omega, by rw [M.take_at X.out, M.take_at Y.out, HE.out], Bw.drew⟩
          case measure => simp [intOf]; omega
        · have hne := Lib.hid (show decide (xs = ys) = false by
            simp only [decide_eq_false_iff_not]
            intro h
            subst h
            have := X.out.symm.trans Y.out
            simp only [Option.some.injEq, Prod.mk.injEq] at this
            exact he this)
          by_cases h0 : p0 = q0
          · have h1 : ¬ p1 = q1 := fun h => he ⟨h0, h⟩
            clear he
            go_wp2
            refine wp_region_still_lit (by kernel_rfl) (by kernel_rfl) ?_
            iterate 11 still_step
            refine wpStill_nil ?_
            go_wp2
            go_ret
            exact ⟨ret_bool hne.out.symm, bel_trans B0 Bw.drew⟩
          · clear he
            go_wp2
            refine wp_region_still_lit (by kernel_rfl) (by kernel_rfl) ?_
            iterate 11 still_step
            refine wpStill_nil ?_
            go_wp2
            go_ret
            exact ⟨ret_bool hne.out.symm, bel_trans B0 Bw.drew⟩
      · obtain rfl : k = n := by omega
        have heq := Lib.hid (show decide (xs = ys) = true by
          simp only [decide_eq_true_eq]
          have := HE.out
          rwa [List.take_of_length_le (by rw [HL.out]; exact Nat.le_refl _), List.take_of_length_le (by rw [HL'.out]; exact Nat.le_refl _)] at this)
        go_wp2
        go_ret
        exact ⟨ret_bool heq.out.symm, BW⟩
  · have hne := Lib.hid (show decide (xs = ys) = false by
      simp only [decide_eq_false_iff_not]
      intro h
      subst h
      exact hlen (HL.out.symm.trans HL'.out))
    have hnn : ¬ (n : Int) = (n' : Int) := by omega
    go_enter Tryd.func25, Tryd.ntmps25
    go_wp2
    go_ret
    exact ⟨ret_bool hne.out.symm, by rw [← HW.out]; exact B0⟩
end Go.Proofs.YtecdendjlgohjaaDoor
namespace Go.Proofs.YtecdendjlgohjaaDoor
open Go.RowKit
set_option maxHeartbeats 2000000
set_option maxRecDepth 100000
end Go.Proofs.YtecdendjlgohjaaDoor
namespace Go.Proofs.YtecdendjlgohjaaDoor
open Go.RowKit
set_option maxHeartbeats 1000000
set_option maxRecDepth 100000
section
variable {α : Type} {t : Ty α} {e : TypeId} {w : World} {B : Nat} {F : Nat → Prop} {v : Value} {xs : List α}
theorem sl_R : (t.sl e).R w B [v] xs ↔ RS t w B v xs := ⟨fun ⟨v, h, h'⟩ => by injection h with h; rw [h]; exact h', fun h => ⟨_, rfl, h⟩⟩
end
end Go.Proofs.YtecdendjlgohjaaDoor
namespace Go.Proofs.YtecdendjlgohjaaDoor
open Go.RowKit
end Go.Proofs.YtecdendjlgohjaaDoor
namespace Go.Proofs.YtecdendjlgohjaaDoor
open Go.RowKit
set_option maxHeartbeats 1000000
set_option maxRecDepth 100000
/-- A byte. -/
def tU8 : Ty UInt8 := Ty.flat 1 (by decide) 0 (fun x => [.int .u8 (x.toNat : Int)]) (fun _ => rfl) (by simp [Value.oneCell'])
/-- An object that draws numbers out of code bytes: it lies in block b, the bytes in blocks below lo; at most K of them are drawn. -/
structure SrcP (w : World) (b lo : Nat) (A : Option Addr) (n c : Nat) (code : List UInt8) (K : Nat) (a z : Int) : Prop where
  c0 : w.cell? ⟨b, 0, none⟩ = some (.slice A n c)
  c1 : w.cell? ⟨b, 1, none⟩ = some (.int .i64 a)
  c2 : w.cell? ⟨b, 2, none⟩ = some (.int .u64 z)
  f1 : w.frozen? ⟨b, 1, none⟩ = false
  f2 : w.frozen? ⟨b, 2, none⟩ = false
  rd : RS tU8 w lo (.slice A n c) code
  ha : 0 ≤ a
  hK : a ≤ K
  hb : lo ≤ b
def Src (w : World) (b lo : Nat) (A : Option Addr) (n c : Nat) (code : List UInt8) (K : Nat) : Prop := ∃ a z, SrcP w b lo A n c code K a z
/-- What a drawing gives back: a number, and the object in its new state. -/
def Drew (b lo : Nat) (A : Option Addr) (n c : Nat) (code : List UInt8) (K : Nat) (P : Int → Prop) (w : World) (e : Ending) (w' : World) : Prop :=
  ∃ v, e = .returned (.int .i64 v) ∧ P v ∧ Src w' b lo A n c code K ∧ Mid b (b + 1) w w'
section
variable {w w' : World} {b lo n c K K' : Nat} {A : Option Addr} {code : List UInt8}
theorem Src.lt (h : Src w b lo A n c code K) : b < w.heap.size := by
  obtain ⟨a, z, h⟩ := h
  exact World.block_lt_of_cell? w _ h.c0
theorem Src.keep (h : Src w b lo A n c code K) (hk : ∀ k, k < b + 1 → w'.heap[k]? = w.heap[k]?) : Src w' b lo A n c code K := by
  obtain ⟨a, z, h⟩ := h
  have hb := hk b (by omega)
  refine ⟨a, z, ?_, ?_, ?_, ?_, ?_, h.rd.keep fun p hp => World.cell?_of_block (hk p.block (by have := h.hb; omega)), h.ha, h.hK, h.hb⟩
  · rw [World.cell?_of_block hb]; exact h.c0
  · rw [World.cell?_of_block hb]; exact h.c1
  · rw [World.cell?_of_block hb]; exact h.c2
  · rw [World.frozen?_of_block hb]; exact h.f1
  · rw [World.frozen?_of_block hb]; exact h.f2
theorem Src.below {B : Nat} (h : Src w b lo A n c code K) (hb : Below B w w') (hB : b < B) : Src w' b lo A n c code K := h.keep fun k hk => hb.block k (by omega)
theorem Src.mid {l r : Nat} (h : Src w b lo A n c code K) (hm : Mid l r w w') (hd : b < l) : Src w' b lo A n c code K := by
  have hlt := h.lt
  exact h.keep fun k hk => hm.block k (by omega) (.inl (by omega))
theorem Src.more (h : Src w b lo A n c code K) (hK : K ≤ K') : Src w b lo A n c code K' := by
  obtain ⟨a, z, h⟩ := h
  exact ⟨a, z, h.c0, h.c1, h.c2, h.f1, h.f2, h.rd, h.ha, by have := h.hK; omega, h.hb⟩
end
theorem SrcP.step {w : World} {b lo n c K K' : Nat} {A : Option Addr} {code : List UInt8} {a z : Int} (h : SrcP w b lo A n c code K a z) (m m' : Nat) (a' z' : Int) (ha : 0 ≤ a') (hK : a' ≤ K') :
    SrcP ((((w.drewN m).setCell ⟨b, 1, none⟩ (.int .i64 a')).setCell ⟨b, 2, none⟩ (.int .u64 z')).drewN m') b lo A n c code K' a' z' ∧ Mid b (b + 1) w ((((w.drewN m).setCell ⟨b, 1, none⟩ (.int .i64 a')).setCell ⟨b, 2, none⟩ (.int .u64 z')).drewN m') := by
  obtain ⟨h0, h1, h2, g1, g2, hr, _, _, hb⟩ := h
  have m0 : Mid b (b + 1) w (w.drewN m) := ⟨rfl, rfl, rfl, Nat.le_refl _, fun _ _ _ => rfl⟩
  have m1 : Mid b (b + 1) (w.drewN m) ((w.drewN m).setCell ⟨b, 1, none⟩ (.int .i64 a')) := Mid.of_grown (grown_setCell _ b 1 _) fun k hk => by injection hk with hk; omega
  have m2 : Mid b (b + 1) ((w.drewN m).setCell ⟨b, 1, none⟩ (.int .i64 a')) (((w.drewN m).setCell ⟨b, 1, none⟩ (.int .i64 a')).setCell ⟨b, 2, none⟩ (.int .u64 z')) := Mid.of_grown (grown_setCell _ b 2 _) fun k hk => by injection hk with hk; omega
  have m3 : Mid b (b + 1) (((w.drewN m).setCell ⟨b, 1, none⟩ (.int .i64 a')).setCell ⟨b, 2, none⟩ (.int .u64 z')) ((((w.drewN m).setCell ⟨b, 1, none⟩ (.int .i64 a')).setCell ⟨b, 2, none⟩ (.int .u64 z')).drewN m') := ⟨rfl, rfl, rfl, Nat.le_refl _, fun _ _ _ => rfl⟩
  have M := ((m0.trans m1).trans m2).trans m3
  refine ⟨⟨?_, ?_, ?_, ?_, ?_, hr.keep fun p hp => World.cell?_of_block (M.block p.block ?_ (.inl (by omega))), ha, hK, hb⟩, M⟩
  · simp [go_sem, *]
  · simp [go_sem, *]
  · simp [go_sem, *]
  · simp [go_sem, *]
  · simp [go_sem, *]
  · have := World.block_lt_of_cell? w _ h0
    simp only at this
    omega
theorem byte_low (n : Int) : 0 ≤ wrap64 (bits BinOp.and IntKind.u64 n 255) ∧ wrap64 (bits BinOp.and IntKind.u64 n 255) ≤ 255 := by
  have hx : ((BitVec.ofInt 64 n &&& BitVec.ofInt 64 255).toNat : Int) ≤ 255 := by
    rw [BitVec.toNat_and, show (BitVec.ofInt 64 255).toNat = 2 ^ 8 - 1 from by decide, Nat.and_two_pow_sub_one_eq_mod]
    omega
  have h2 : bits BinOp.and IntKind.u64 n 255 = ((BitVec.ofInt 64 n &&& BitVec.ofInt 64 255).toNat : Int) := by
    show IntKind.u64.wrap ((BitVec.ofInt 64 n &&& BitVec.ofInt 64 255).toNat : Int) = _
    rw [IntKind.wrap_u64]
    omega
  rw [h2]
  unfold wrap64
  omega
theorem src_next (b lo : Nat) (A : Option Addr) (n c : Nat) (code : List UInt8) (K : Nat) (w : World) (h : Src w b lo A n c code K) (hK : K ≤ 1000000000000) :
    Calls Tryd.prog 83 #[.pointer (some ⟨b, 0, none⟩)] w (Drew b lo A n c code (K + 1) (fun v => 0 ≤ v ∧ v ≤ 255) w) := by
  obtain ⟨a, z, hP⟩ := h
  obtain ⟨hc0, hc1, hc2, hf1, hf2, hr, ha, haK, hlo⟩ := hP
  have HP := Lib.hid (SrcP.mk hc0 hc1 hc2 hf1 hf2 hr ha haK hlo)
  obtain rfl : code.length = n := hr.cap.1
  have hl : code.length ≤ 9223372036854775807 := by have h1 := hr.cap.2; unfold maxLen at h1; omega
  have hbw : b < w.heap.size := World.block_lt_of_cell? w _ hc0
  by_cases hlt : a < code.length
  · obtain ⟨k, rfl⟩ : ∃ k : Nat, a = k := ⟨a.toNat, by omega⟩
    obtain ⟨bb, o, c1, cs, hv, hab, -, hE, hc⟩ := hr.at (k := k) (by omega)
    simp only [Value.slice.injEq] at hv
    obtain ⟨rfl, -, rfl⟩ := hv
    generalize code[k]'(by omega) = x at hE
    obtain rfl : cs = [.int .u8 (x.toNat : Int)] := hE
    have hx : w.cell? ⟨bb, o + k * 1, none⟩ = some (.int .u8 (x.toNat : Int)) := hc 0 _ rfl
    have hx2 : (0 : Int) ≤ (x.toNat : Int) := by omega
    have hx3 : (x.toNat : Int) ≤ 255 := by have := x.toNat_lt; omega
    rw [Nat.mul_one] at hx
    clear hc
    have hlt' : (k : Int) < (code.length : Int) := hlt
    go_enter Tryd.func83, Tryd.ntmps83
    go_wp2
    go_quiet (fail)
    go_wp2
    go_quiet (fail)
    go_wp2
    go_quiet (fail)
    go_wp2
    go_ret
    exact ⟨_, rfl, ⟨by omega, by omega⟩, ⟨_, _, (HP.out.step _ _ ((k : Int) + 1) _ (by omega) (by omega)).1⟩, (HP.out.step _ _ ((k : Int) + 1) _ (by omega) (K' := K + 1) (by omega)).2⟩
  · have hgt : (code.length : Int) ≤ a := by omega
    have hdl : decide (a < (code.length : Int)) = false := by simp; omega
    have hd2 : decide (a + 1 ≤ (code.length : Int)) = false := by simp; omega
    go_enter Tryd.func83, Tryd.ntmps83
    go_wp2
    go_quiet (fail)
    go_wp2
    go_quiet (fail)
    go_wp2
    go_ret
    exact ⟨_, rfl, byte_low _, ⟨_, _, (HP.out.step _ _ (a + 1) _ (by omega) (by omega)).1⟩, (HP.out.step _ _ (a + 1) _ (by omega) (K' := K + 1) (by omega)).2⟩
theorem src_pick (b lo : Nat) (A : Option Addr) (n c : Nat) (code : List UInt8) (K : Nat) (m : Int) (w : World) (h : Src w b lo A n c code K) (hK : K ≤ 100000000000) (hm : m ≤ 65536) :
    Calls Tryd.prog 53 #[.pointer (some ⟨b, 0, none⟩), .int .i64 m] w (Drew b lo A n c code (K + 2) (fun v => 0 ≤ v ∧ (v < m ∨ v = 0)) w) := by
  by_cases h1 : m ≤ 1
  · go_enter Tryd.func53, Tryd.ntmps53
    go_wp2
    go_ret
    exact ⟨0, rfl, ⟨by omega, .inr rfl⟩, h.more (by omega), Mid.refl _ _ _⟩
  · by_cases h2 : 200 < m
    · go_enter Tryd.func53, Tryd.ntmps53
      go_wp2_with fail
      refine (src_next b lo A n c code K w h (by omega)).mono ?_
      rintro e w1 ⟨x, rfl, ⟨x0, x1⟩, s1, m1⟩
      go_wp2_with fail
      refine (src_next b lo A n c code (K + 1) w1 s1 (by omega)).mono ?_
      rintro e w2 ⟨y, rfl, ⟨y0, y1⟩, s2, m2⟩
      go_wp2
      go_ret
      exact ⟨_, rfl, ⟨Int.emod_nonneg _ (by omega), .inl (Int.emod_lt_of_pos _ (by omega))⟩, s2, m1.trans m2⟩
    · go_enter Tryd.func53, Tryd.ntmps53
      go_wp2_with fail
      refine (src_next b lo A n c code K w h (by omega)).mono ?_
      rintro e w1 ⟨x, rfl, ⟨x0, x1⟩, s1, m1⟩
      go_wp2
      go_ret
      exact ⟨_, rfl, ⟨Int.emod_nonneg _ (by omega), .inl (Int.emod_lt_of_pos _ (by omega))⟩, s1.more (by omega), m1⟩
theorem spec_l00From (A : Option Addr) (n c : Nat) (code : List UInt8) (w : World) (hr : RS tU8 w w.heap.size (.slice A n c) code) :
    Calls Tryd.prog 51 #[.slice A n c] w fun e w' => ∃ b, e = .returned (.pointer (some ⟨b, 0, none⟩)) ∧ b = w.heap.size ∧ Src w' b w.heap.size A n c code 0 ∧ Below w.heap.size w w' ∧ w'.heap.size = w.heap.size + 1 := by
  have hs : (w.alloc (.cells #[.slice A n c, .int .i64 0, .int .u64 0] 133)).heap.size = w.heap.size + 1 := by simp
  have hs' := Lib.hid hs
  have hb : Below w.heap.size w (w.alloc (.cells #[.slice A n c, .int .i64 0, .int .u64 0] 133)) := (Below.refl _ _).alloc (Nat.le_refl _) _
  clear hs
  go_enter Tryd.func51, Tryd.ntmps51
  go_wp2
  go_ret
  exact ⟨_, rfl, rfl, ⟨0, 0, by simp [go_sem], by simp [go_sem], by simp [go_sem], by simp [go_sem], by simp [go_sem], hr.keep fun p hp => hb.cell hp, by omega, by omega, Nat.le_refl _⟩, hb, hs'.out⟩
end Go.Proofs.YtecdendjlgohjaaDoor
namespace Go.Proofs.YtecdendjlgohjaaDoor
open Go.RowKit
set_option maxHeartbeats 1000000
set_option maxRecDepth 100000
theorem src_among (b lo : Nat) (A : Option Addr) (n c : Nat) (code : List UInt8) (K : Nat) (g m d : Nat) (xs : List Int) (w : World) (h : Src w b lo A n c code K) (hK : K ≤ 100000000000) (hl : xs.length = m) (hm : 0 < m ∧ m ≤ 60000) (hg : g ≠ b) (hgw : g < w.heap.size)
    (hc : ∀ j x, xs[j]? = some x → w.cell? ⟨g, j, none⟩ = some (.int .i64 x)) :
    Calls Tryd.prog 81 #[.pointer (some ⟨b, 0, none⟩), .slice (some ⟨g, 0, none⟩) m d] w (Drew b lo A n c code (K + 2) (fun v => v ∈ xs) w) := by
  have HC := Lib.hid hc
  have HL := Lib.hid hl
  clear hc hl
  go_enter Tryd.func81, Tryd.ntmps81
  go_wp2_with fail
  refine (src_pick b lo A n c code K m w h hK (by omega)).mono ?_
  rintro e w1 ⟨v, rfl, ⟨v0, v1⟩, s1, m1⟩
  obtain ⟨k, rfl⟩ : ∃ k : Nat, v = k := ⟨v.toNat, by omega⟩
  have hk : k < m := by omega
  have hk2 : (k : Int) < (m : Int) := by omega
  have hX := Lib.hid (List.getElem?_eq_getElem (l := xs) (i := k) (by rw [HL.out]; exact hk))
  generalize xs[k]'(by rw [HL.out]; exact hk) = x at hX
  have hx : w1.cell? ⟨g, k, none⟩ = some (.int .i64 x) := by
    rw [World.cell?_of_block (m1.block g hgw (by omega))]
    exact HC.out k x hX.out
  go_wp2
  go_ret
  exact ⟨x, rfl, List.mem_of_getElem? hX.out, s1, m1⟩
end Go.Proofs.YtecdendjlgohjaaDoor
namespace Go.Proofs.YtecdendjlgohjaaDoor
open Go.RowKit
set_option maxHeartbeats 400000
end Go.Proofs.YtecdendjlgohjaaDoor
namespace Go.Proofs.YtecdendjlgohjaaDoor
open Go.RowKit
set_option maxHeartbeats 1000000
set_option maxRecDepth 100000
theorem OS.made0 {α : Type} (t : Ty α) (e : TypeId) (w : World) : OS t e (w.alloc (.cells #[] e)) (Iv w.heap.size (w.alloc (.cells #[] e)).heap.size) (.slice (some ⟨w.heap.size, 0, none⟩) 0 0) [] :=
  ⟨[], fun _ _ => False, World.ownsRow_made _ _ _ (Nat.zero_le _) (by simp [maxLen]) (by simp), rfl, fun g hg => by simp only [Value.ownBlock, Option.some.injEq] at hg; subst hg; exact ⟨Nat.le_refl _, by simp⟩, fun _ _ h => h.elim, fun _ _ _ _ h => h.elim, fun k h => by simp at h⟩
theorem Iv.apart {a b c d : Nat} (h : b ≤ c) : ∀ k, Iv a b k → ¬ Iv c d k := fun k h1 h2 => by have := h1.2; have := h2.1; omega
theorem Iv.grow {a b c d : Nat} (h1 : a ≤ b) (h2 : b ≤ c) (h3 : c ≤ d) : ∀ k, (Iv a b k ∨ Iv b c k ∨ c < k ∧ k < d) → Iv a d k := by
  intro k h
  unfold Iv at *
  omega
end Go.Proofs.YtecdendjlgohjaaDoor
namespace Go.Proofs.YtecdendjlgohjaaDoor
open Go.RowKit
set_option maxHeartbeats 2000000
set_option maxRecDepth 100000
/-- A drawn list of points, all before 'a'. -/
def M.drawn (xs : List (Int × Int)) (a : Int) : Prop := (∀ p ∈ xs, 0 ≤ p.1 ∧ p.1 < a ∧ -65536 ≤ p.2 ∧ p.2 ≤ 65536) ∧ xs.Pairwise (fun p q => p.1 < q.1)
theorem M.drawn_nil (a : Int) : M.drawn [] a := ⟨by simp, by simp⟩
theorem M.drawn_step {xs : List (Int × Int)} {a v b : Int} (h : M.drawn xs a) (h0 : 0 ≤ a) (hv : -65536 ≤ v ∧ v ≤ 65536) (hb : a < b) : M.drawn (xs ++ [(a, v)]) b := by
  constructor
  · intro p hp
    rcases List.mem_append.1 hp with h1 | h1
    · have := h.1 p h1
      omega
    · simp only [List.mem_singleton] at h1
      subst h1
      simp only
      omega
  · rw [List.pairwise_append]
    refine ⟨h.2, by simp, fun p hp q hq => ?_⟩
    simp only [List.mem_singleton] at hq
    subst hq
    exact (h.1 p hp).2.1
theorem M.drawn_ok {xs : List (Int × Int)} {a : Int} (h : M.drawn xs a) (hl : 1 ≤ xs.length ∧ xs.length ≤ 24) (ha : a ≤ 100) : M.curveOk xs = true ∧ ∀ p ∈ xs, p.1 ≤ 100 := by
  refine ⟨(M.curve_iff xs).2 ⟨fun p hp => ?_, h.2, hl⟩, fun p hp => by have := h.1 p hp; omega⟩
  have := h.1 p hp
  rw [M.ptOk, Bool.and_eq_true, M.inn_iff, M.inn_iff]
  omega
/-- What the drawing of a curve gives back. -/
def DrewC (b lo : Nat) (A : Option Addr) (n c : Nat) (code : List UInt8) (K : Nat) (w : World) (e : Ending) (w' : World) : Prop :=
  ∃ A1 c1 xs, e = .returned (.agg #[.slice A1 (List.length xs) c1]) ∧ OA pt 52 2 w.heap.size w'.heap.size w' (.slice A1 xs.length c1) xs ∧ Hid (M.curveOk xs = true ∧ ∀ p ∈ xs, p.1 ≤ 100) ∧ Src w' b lo A n c code K ∧ Mid b (b + 1) w w'
section
variable {lo hi g o : Nat} {w w' : World}
theorem Mid.cellK {u : Option Value} (h : Mid lo hi w w') (hg : g < w.heap.size) (hd : g < lo ∨ hi ≤ g) (hc : w.cell? ⟨g, o, none⟩ = u) : w'.cell? ⟨g, o, none⟩ = u := by rw [World.cell?_of_block (h.block g hg hd)]; exact hc
theorem Mid.thenB' {a b c : World} {B : Nat} (h : Mid lo hi a b) (k : Below B b c) (hB : a.heap.size ≤ B) : Mid lo hi a c :=
  ⟨k.os.trans h.os, k.tape.trans h.tape, k.output.trans h.output, Nat.le_trans h.size k.size, fun i hi' hm => (k.block i (by omega)).trans (h.block i hi' hm)⟩
theorem Mid.frozK {u : Bool} (h : Mid lo hi w w') (hg : g < w.heap.size) (hd : g < lo ∨ hi ≤ g) (hc : w.frozen? ⟨g, o, none⟩ = u) : w'.frozen? ⟨g, o, none⟩ = u := by rw [World.frozen?_of_block (h.block g hg hd)]; exact hc
end
theorem spec_l00Min (a b : Int) (w : World) : Calls Tryd.prog 82 #[.int .i64 a, .int .i64 b] w fun e w' => e = .returned (.int .i64 (min a b)) ∧ w = w' := by
  by_cases h : a < b
  all_goals
    go_enter Tryd.func82, Tryd.ntmps82
    go_wp2
    go_ret
    exact ⟨ret_int (by omega), rfl⟩
/-- How the drawing of a curve stands: a result's box, the curve's box, its row. -/
structure DC (w : World) (b lo : Nat) (A : Option Addr) (n c : Nat) (code : List UInt8) (K : Nat) (xs : List (Int × Int)) (v : Value) (wr : World) : Prop where
  c0 : wr.cell? ⟨w.heap.size, 0, none⟩ = some (.slice none 0 0)
  f0 : wr.frozen? ⟨w.heap.size, 0, none⟩ = false
  c1 : wr.cell? ⟨w.heap.size + 1, 0, none⟩ = some v
  f1 : wr.frozen? ⟨w.heap.size + 1, 0, none⟩ = false
  own : OA pt 52 2 (w.heap.size + 1 + 1) wr.heap.size wr v xs
  src : Src wr b lo A n c code K
  mid : Mid b (b + 1) w wr
  sz : w.heap.size + 1 + 1 ≤ wr.heap.size
theorem DC.step {w wr w' : World} {b lo : Nat} {A : Option Addr} {n c : Nat} {code : List UInt8} {K K' : Nat} {xs : List (Int × Int)} {v : Value} (h : DC w b lo A n c code K xs v wr) (hb : b < w.heap.size) (hs : Src w' b lo A n c code K') (hm : Mid b (b + 1) wr w') : DC w b lo A n c code K' xs v w' :=
  have hz := h.sz
  ⟨hm.cellK (by omega) (.inr (by omega)) h.c0, hm.frozK (by omega) (.inr (by omega)) h.f0, hm.cellK (by omega) (.inr (by omega)) h.c1, hm.frozK (by omega) (.inr (by omega)) h.f1,
    (h.own.mid hm (.inr (by omega)) (Nat.le_refl _)).wide (Nat.le_refl _) hm.size, hs, h.mid.trans hm, Nat.le_trans hz hm.size⟩
theorem DC.more {w wr : World} {b lo : Nat} {A : Option Addr} {n c : Nat} {code : List UInt8} {K K' : Nat} {xs : List (Int × Int)} {v : Value} (h : DC w b lo A n c code K xs v wr) (hK : K ≤ K') : DC w b lo A n c code K' xs v wr :=
  ⟨h.c0, h.f0, h.c1, h.f1, h.own, h.src.more hK, h.mid, h.sz⟩
theorem spec_l25Draw (b lo : Nat) (A : Option Addr) (n c : Nat) (code : List UInt8) (K : Nat) (w : World) (h : Src w b lo A n c code K) (hK : K ≤ 1000000) :
    Calls Tryd.prog 52 #[.pointer (some ⟨b, 0, none⟩)] w (DrewC b lo A n c code (K + 6 + 6 * 7) w) := by
  have hbw := h.lt
  have d0 : DC w b lo A n c code K [] (.slice none 0 0) ((w.alloc (.cells #[.slice none 0 0] 29)).alloc (.cells #[.slice none 0 0] 29)) := by
    have hB : Below w.heap.size w ((w.alloc (.cells #[.slice none 0 0] 29)).alloc (.cells #[.slice none 0 0] 29)) := ((Below.refl _ _).alloc (Nat.le_refl _) _).alloc (by simp) _
    exact ⟨by simp [go_sem], by simp [go_sem], by simp [go_sem], by simp [go_sem], OA.nil _, h.below hB hbw, Mid.of_below hB _ _, by simp⟩
  go_enter Tryd.func52, Tryd.ntmps52
  go_wp2_with fail
  refine (src_pick b lo A n c code K 5 _ d0.src (by omega) (by omega)).mono ?_
  rintro e w1 ⟨a, rfl, ⟨a0, a1⟩, s1, m1⟩
  have d1 := d0.step hbw s1 m1
  clear d0 s1 m1
  go_wp2_with fail
  refine (src_pick b lo A n c code (K + 2) 200 _ d1.src (by omega) (by omega)).mono ?_
  rintro e w2 ⟨x, rfl, ⟨x0, x1⟩, s2, m2⟩
  have d2 := d1.step hbw s2 m2
  clear d1 s2 m2
  go_wp2_with fail
  refine (src_pick b lo A n c code (K + 4) 7 _ d2.src (by omega) (by omega)).mono ?_
  rintro e w3 ⟨k, rfl, ⟨k0, k1⟩, s3, m3⟩
  have d3 := d2.step hbw s3 m3
  clear d2 s3 m3
  obtain ⟨k, rfl⟩ : ∃ j : Nat, k = j := ⟨k.toNat, by omega⟩
  have hx : x ≤ 199 ∧ a ≤ 4 ∧ k ≤ 6 := by omega
  clear x1 a1 k1
  go_wp2_with fail
  go_loopw [4, 5, 6] (fun t u i wr => ∃ (j : Nat) (xs : List (Int × Int)) (v : Value) (a y : Int), i = .int .i64 j ∧ t = .int .i64 a ∧ u = .int .i64 y ∧ j ≤ 7 ∧ xs.length + j = 1 + k ∧ 0 ≤ a ∧ a ≤ 4 + 9 * (xs.length : Int) ∧ -65536 ≤ y ∧ y ≤ 65536 ∧ Hid (M.drawn xs a) ∧ DC w b lo A n c code (K + 6 + 6 * (7 - j)) xs v wr)
    (fun _ _ i _ => (intOf i).toNat)
  case atStart => exact ⟨k + 1, [], _, a, x - 100, by go_num, rfl, rfl, by omega, by simp; omega, by omega, by simp; omega, by omega, by omega, Lib.hid (M.drawn_nil a), d3.more (by omega)⟩
  case round =>
    obtain ⟨j, xs, v, a, y, rfl, rfl, rfl, hj, hl, ha0, ha1, hy0, hy1, hdr, D⟩ := hrel
    have hsz := D.sz
    have hc0 := D.c0
    have hf0 := D.f0
    have hc1 := D.c1
    have hf1 := D.f1
    obtain ⟨A1, c1, rfl, -⟩ := D.own.shape
    by_cases hlt : 0 < j
    · go_wp2_with (at_builtin; refine wpList_push ei_pt _ rfl _ _ rfl D.own.1 rfl rfl rfl (by simp [Value.oneCell']) (by unfold maxLen; omega) (by omega) (by omega) ?_; intro v4 w4 own4 gr4 bel4; obtain ⟨A5, c5, rfl, -⟩ := own_shape own4; have e0 : w4.cell? ⟨w.heap.size + 1, 0, none⟩ = some (.slice A1 xs.length c1) := (by rw [bel4.cell (by simp)]; exact hc1); have e1 : w4.frozen? ⟨w.heap.size + 1, 0, none⟩ = false := (by rw [bel4.frozen (by simp)]; exact hf1))
      have hF := D.own
      have D4 : DC w b lo A n c code (K + 6 + 6 * (7 - j)) (xs ++ [(a, y)]) (.slice A5 (xs.length + 1) c5) (w4.setCell ⟨w.heap.size + 1, 0, none⟩ (.slice A5 (xs.length + 1) c5)) := by
        have hB : Below (w.heap.size + 1 + 1) wr w4 := bel4
        have hs4 := bel4.size
        have hm : Mid (w.heap.size + 1) (w.heap.size + 1 + 1) w4 (w4.setCell ⟨w.heap.size + 1, 0, none⟩ (.slice A5 (xs.length + 1) c5)) := Mid.of_grown (grown_setCell w4 (w.heap.size + 1) 0 _) fun k hk => by injection hk with hk; omega
        refine ⟨?_, ?_, by simp [go_sem, e0], by simp [go_sem, e1], ?_, ?_, ?_, by simpa using Nat.le_trans hsz hs4⟩
        · exact hm.cellK (by omega) (.inl (by omega)) (by rw [hB.cell (by show w.heap.size < _; omega)]; exact hc0)
        · exact hm.frozK (by omega) (.inl (by omega)) (by rw [hB.frozen (by show w.heap.size < _; omega)]; exact hf0)
        · have o5 := (OA.push (enc := pt) (x := (a, y)) own4).mid hm (.inr (Nat.le_refl _)) (Nat.le_refl _)
          exact o5.wide (Nat.le_refl _) (by simp)
        · exact (D.src.below hB (by omega)).mid hm (by omega)
        · exact D.mid.thenB' (Below.setCell (show Below (w.heap.size + 1) wr w4 from hB.mono (Nat.le_succ _)) (Nat.le_refl _) _) (Nat.le_succ _)
      generalize w4.setCell ⟨w.heap.size + 1, 0, none⟩ (.slice A5 (xs.length + 1) c5) = U at D4 ⊢
      clear own4 gr4 bel4 e0 e1 hc0 hf0 hc1 hf1 D hF hsz
      clear w4
      generalize hys : xs ++ [(a, y)] = ys at D4
      have HYS := Lib.hid hys
      clear hys
      have hl5 : ys.length = xs.length + 1 := by rw [← HYS.out]; simp
      refine (src_pick b lo A n c code _ 9 _ D4.src (by omega) (by omega)).mono ?_
      rintro e w5 ⟨z, rfl, ⟨z0, z1⟩, s5, m5⟩
      have D5 := D4.step hbw s5 m5
      clear D4 s5 m5
      have z2 : z ≤ 8 := by omega
      clear z1
      go_wp2_with fail
      refine (src_pick b lo A n c code _ 4 _ D5.src (by omega) (by omega)).mono ?_
      rintro e w6 ⟨q, rfl, ⟨q0, q1⟩, s6, m6⟩
      have D6 := D5.step hbw s6 m6
      clear D5 s6 m6
      have hdr2 : ∀ v, -65536 ≤ v ∧ v ≤ 65536 → Hid (M.drawn ys (a + (1 + z))) := fun v hv => by
        rw [← HYS.out]; exact Lib.hid (M.drawn_step hdr.out ha0 ⟨hy0, hy1⟩ (by omega))
      have hdr3 := hdr2 0 (by omega)
      clear hdr2
      have q2 : q ≤ 3 := by omega
      clear q1
      by_cases e0 : q = 0
      · subst e0
        go_wp2_with fail
        refine (src_pick b lo A n c code _ 200 _ D6.src (by omega) (by omega)).mono ?_
        rintro e w7 ⟨v, rfl, ⟨v0, v1⟩, s7, m7⟩
        have D7 := D6.step hbw s7 m7
        have v2 : v ≤ 199 := by omega
        clear v1
        go_wp2
        go_roundw
        case rel => exact ⟨j - 1, ys, _, a + (1 + z), v - 100, by go_num, by go_num, rfl, by omega, by omega, by omega, by omega, by omega, by omega, hdr3, D7.more (by omega)⟩
        case measure => simp [intOf]; omega
      · have f0 : (q == 0) = false := by simpa using e0
        by_cases e1 : q = 1
        · subst e1
          have hg := D6.src.lt
          have s7 := D6.src.below ((Below.refl w6.heap.size w6).alloc (Nat.le_refl _) (.cells #[.int .i64 65536, .int .i64 (-65536), .int .i64 0] 2)) hg
          go_wp2_with fail
          refine (src_among b lo A n c code _ w6.heap.size 3 3 [65536, -65536, 0] _ s7 (by omega) rfl (by omega) (by omega) (by simp) ?_).mono ?_
          · intro i x hx
            rw [cell_of_row _ w6.heap.size i _ 2 (0, 0) (heap_alloc_new w6 _)]
            match i, hx with
            | 0, hx => simp at hx; subst hx; rfl
            | 1, hx => simp at hx; subst hx; rfl
            | 2, hx => simp at hx; subst hx; rfl
            | i + 3, hx => simp at hx
          · rintro e w7 ⟨v, rfl, hv, s8, m8⟩
            have D7 := (D6.step hbw s7 (Mid.of_below ((Below.refl _ _).alloc (Nat.le_refl _) _) _ _)).step hbw s8 m8
            have v2 : -65536 ≤ v ∧ v ≤ 65536 := by simp at hv; omega
            clear hv
            go_wp2
            go_roundw
            case rel => exact ⟨j - 1, ys, _, a + (1 + z), v, by go_num, by go_num, rfl, by omega, by omega, by omega, by omega, by omega, by omega, hdr3, D7.more (by omega)⟩
            case measure => simp [intOf]; omega
        · have f1 : (q == 1) = false := by simpa using e1
          by_cases e2 : q = 2
          · subst e2
            go_wp2_with fail
            refine (spec_l00Min _ _ _).mono ?_
            rintro e w' ⟨rfl, rfl⟩
            go_wp2
            go_roundw
            case rel => exact ⟨j - 1, ys, _, a + (1 + z), min 65536 (y + 2), by go_num, by go_num, rfl, by omega, by omega, by omega, by omega, by omega, by omega, hdr3, D6.more (by omega)⟩
            case measure => simp [intOf]; omega
          · have f2 : (q == 2) = false := by simpa using e2
            go_wp2
            go_roundw
            case rel => exact ⟨j - 1, ys, _, a + (1 + z), y, by go_num, by go_num, rfl, by omega, by omega, by omega, by omega, by omega, by omega, hdr3, D6.more (by omega)⟩
            case measure => simp [intOf]; omega
    · obtain rfl : j = 0 := by omega
      have hok := Lib.hid (M.drawn_ok hdr.out (by omega) (by omega))
      go_wp2
      refine bodyPost_ret (v := .agg #[.slice A1 xs.length c1]) (by simp [results, Tryd.results52, go_sem, hc0, hf0]) rfl ?_
      have hm : Mid w.heap.size (w.heap.size + 1) wr (wr.setCell ⟨w.heap.size, 0, none⟩ (.slice A1 xs.length c1)) := Mid.cell wr w.heap.size 0 _
      refine ⟨_, _, xs, rfl, (D.own.mid hm (.inr (by omega)) (Nat.le_refl _)).wide (by omega) hm.size, hok, (D.src.mid hm hbw).more (by omega), D.mid.thenB' ((Below.refl w.heap.size _).setCell (Nat.le_refl _) _) (Nat.le_refl _)⟩
end Go.Proofs.YtecdendjlgohjaaDoor
namespace Go.Proofs.YtecdendjlgohjaaDoor
open Go.RowKit
set_option maxHeartbeats 400000
end Go.Proofs.YtecdendjlgohjaaDoor
namespace Go.Proofs.YtecdendjlgohjaaDoor
open Go.RowKit
set_option maxHeartbeats 400000
set_option maxRecDepth 100000
end Go.Proofs.YtecdendjlgohjaaDoor
namespace Go.Proofs.YtecdendjlgohjaaDoor
open Go.RowKit
set_option maxHeartbeats 2000000
set_option maxRecDepth 100000
/-- How the drawing of a signal stands. -/
structure DL (w : World) (b lo : Nat) (A : Option Addr) (n c : Nat) (code : List UInt8) (K : Nat) (xs : List Int) (v : Value) (wr : World) : Prop where
  own : OS tI 2 wr (Iv w.heap.size wr.heap.size) v xs
  src : Src wr b lo A n c code K
  mid : Mid b (b + 1) w wr
  sz : w.heap.size + 1 ≤ wr.heap.size
theorem DL.step {w wr w' : World} {b lo : Nat} {A : Option Addr} {n c : Nat} {code : List UInt8} {K K' : Nat} {xs : List Int} {v : Value} (h : DL w b lo A n c code K xs v wr) (hb : b < w.heap.size) (hs : Src w' b lo A n c code K') (hm : Mid b (b + 1) wr w') : DL w b lo A n c code K' xs v w' :=
  have hz := h.sz
  ⟨(h.own.mid hm (.inr (by omega)) (Nat.le_refl _)).iv (Nat.le_refl _) hm.size, hs, h.mid.trans hm, Nat.le_trans hz hm.size⟩
theorem DL.more {w wr : World} {b lo : Nat} {A : Option Addr} {n c : Nat} {code : List UInt8} {K K' : Nat} {xs : List Int} {v : Value} (h : DL w b lo A n c code K xs v wr) (hK : K ≤ K') : DL w b lo A n c code K' xs v wr :=
  ⟨h.own, h.src.more hK, h.mid, h.sz⟩
end Go.Proofs.YtecdendjlgohjaaDoor
namespace Go.Proofs.YtecdendjlgohjaaDoor
open Go.RowKit
set_option maxHeartbeats 2000000
set_option maxRecDepth 100000
theorem laws_v8Long (A A' : Option Addr) (n c n' c' : Nat) (w : World) :
    Calls Tryd.prog 21 #[.slice A n c, .slice A' n' c'] w fun e w' => e = .returned (.bool (decide (1048576 < n) || decide (1048576 < n'))) ∧ w = w' := by
  by_cases h1 : 1048576 < n
  · go_enter Tryd.func21, Tryd.ntmps21
    go_wp2
    go_ret
    exact ⟨ret_bool (by simp [h1]), rfl⟩
  · go_enter Tryd.func21, Tryd.ntmps21
    go_wp2
    go_ret
    exact ⟨ret_bool (by rw [Bool.eq_iff_iff]; simp; try omega), rfl⟩
def CurL (w : World) (e : Ending) (w' : World) : Prop :=
  ∃ A1 c1 xs, e = .returned (.agg #[.slice A1 (List.length xs) c1]) ∧ RA pt 2 w' w'.heap.size A1 xs.length xs ∧ Hid (M.curveOk xs = true ∧ ∀ p ∈ xs, p.1 ≤ 100) ∧ xs.length ≤ 24 ∧ xs.length ≤ c1 ∧ c1 ≤ maxLen ∧ Below w.heap.size w w'
theorem OA.cap {α : Type} {enc : α → List Value} {e : TypeId} {s lo hi n c : Nat} {w : World} {A : Option Addr} {xs : List α} (h : OA enc e s lo hi w (.slice A n c) xs) : n ≤ c ∧ c ≤ maxLen := by
  obtain ⟨A', c', hv, h1, h2, _⟩ := own_shape h.1
  simp only [Value.slice.injEq] at hv
  obtain ⟨rfl, rfl, rfl⟩ := hv
  exact ⟨h1, h2⟩
theorem spec_E8Curve (A : Option Addr) (n c : Nat) (code : List UInt8) (w : World) (hr : RS tU8 w w.heap.size (.slice A n c) code) :
    Calls Tryd.prog 22 #[.slice A n c] w (CurL w) := by
  obtain ⟨W, hW⟩ : ∃ W, W = w.alloc (.cells #[.slice none 0 0] 29) := ⟨_, rfl⟩
  have B0 : Below w.heap.size w W := by rw [hW]; exact (Below.refl _ _).alloc (Nat.le_refl _) _
  have z0 : w.heap.size + 1 ≤ W.heap.size := by rw [hW]; simp
  have q0 : W.cell? ⟨w.heap.size, 0, none⟩ = some (.slice none 0 0) := by rw [hW]; simp [go_sem]
  have f0 : W.frozen? ⟨w.heap.size, 0, none⟩ = false := by rw [hW]; simp [go_sem]
  have HW := Lib.hid hW
  clear hW
  have hr0 := hr.later B0
  go_enter Tryd.func22, Tryd.ntmps22
  go_wp2_with fail
  rw [← HW.out]
  refine (spec_l00From A n c code W hr0).mono ?_
  rintro e w1 ⟨b, rfl, hb, s1, b1, z1⟩
  have hbl : w.heap.size + 1 ≤ b := by omega
  have lt1 : b + 1 ≤ w1.heap.size := by omega
  have hb' := Lib.hid hb
  clear z1 hb
  go_wp2_with fail
  refine (spec_l25Draw _ _ A n c code 0 w1 s1 (by omega)).mono ?_
  rintro e w2 ⟨A1, c1, xs, rfl, o2, hok, s2, m2⟩
  have lt2 := m2.size
  have q2 : w2.cell? ⟨w.heap.size, 0, none⟩ = some (.slice none 0 0) := by rw [World.cell?_of_block (m2.block w.heap.size (by omega) (.inl (by omega))), b1.cell (by show w.heap.size < _; omega)]; exact q0
  have f2 : w2.frozen? ⟨w.heap.size, 0, none⟩ = false := by rw [World.frozen?_of_block (m2.block w.heap.size (by omega) (.inl (by omega))), b1.frozen (by show w.heap.size < _; omega)]; exact f0
  go_wp2
  refine bodyPost_ret (v := .agg #[.slice A1 xs.length c1]) (by simp [results, Tryd.results22, go_sem, q2, f2]) rfl ?_
  have hm : Mid w.heap.size (w.heap.size + 1) w2 (w2.setCell ⟨w.heap.size, 0, none⟩ (.slice A1 xs.length c1)) := Mid.cell w2 w.heap.size 0 _
  have o3 := o2.mid hm (.inr (by omega)) (Nat.le_refl _)
  have hb1 := hb'.out
  refine ⟨A1, c1, xs, rfl, o3.ra, hok, (M.curve_len hok.out.1).2, o3.cap.1, o3.cap.2, ?_⟩
  exact ((B0.trans (b1.mono B0.size)).trans ((m2.toBelow (by omega)).mono (by omega))).setCell (Nat.le_refl _) _
end Go.Proofs.YtecdendjlgohjaaDoor
