import Derived.Test.YtckihflfjecpbaaW30
namespace Go.Proofs.Ytckihflfjecpbaa
open Go.RowKit Go.Sort
set_option maxHeartbeats 400000
set_option maxRecDepth 100000
/-- What the reference has collected after k points. -/
def M.setTo (xs : List (Int × Int)) (p : Int × Int) (k : Nat) (dn : Bool) : List (Int × Int) :=
  if dn then (xs.take k).filter (fun q => decide (q.1 < p.1)) ++ [p] ++ (xs.take k).filter (fun q => decide (p.1 < q.1)) else (xs.take k).filter (fun q => decide (q.1 < p.1))
def M.setInv (xs : List (Int × Int)) (p : Int × Int) (k : Nat) (dn : Bool) : Prop :=
  (dn = true → 0 < k ∧ ∃ q, xs[k - 1]? = some q ∧ p.1 ≤ q.1) ∧ (dn = false → (xs.take k).filter (fun q => decide (p.1 < q.1)) = [])
theorem M.setTo_len (xs : List (Int × Int)) (p : Int × Int) (k : Nat) (dn : Bool) : (M.setTo xs p k dn).length ≤ 2 * xs.length + 1 := by
  unfold M.setTo
  have h1 := List.length_filter_le (fun q : Int × Int => decide (q.1 < p.1)) (xs.take k)
  have h2 := List.length_filter_le (fun q : Int × Int => decide (p.1 < q.1)) (xs.take k)
  have h3 : (xs.take k).length ≤ xs.length := by rw [List.length_take]; omega
  split
  · simp only [List.length_append, List.length_singleton]
    omega
  · omega
theorem M.setInv_zero (xs : List (Int × Int)) (p : Int × Int) : M.setInv xs p 0 false := ⟨by simp, by simp⟩
/-- A point before p. -/
theorem M.setP_low {xs : List (Int × Int)} {p q : Int × Int} {k : Nat} (hq : xs[k]? = some q) (h : q.1 < p.1) (hi : M.setInv xs p k false) : M.setInv xs p (k + 1) false ∧ M.setTo xs p (k + 1) false = M.setTo xs p k false ++ [q] := by
  refine ⟨⟨by simp, fun _ => ?_⟩, ?_⟩
  · rw [M.filter_at _ hq, hi.2 rfl, if_neg (by simp; omega)]
    rfl
  · simp only [M.setTo, Bool.false_eq_true, if_false]
    rw [M.filter_at _ hq, if_pos (by simpa using h)]
/-- The point at p's time. -/
theorem M.setP_same {xs : List (Int × Int)} {p q : Int × Int} {k : Nat} (hq : xs[k]? = some q) (h : q.1 = p.1) (hi : M.setInv xs p k false) : M.setInv xs p (k + 1) true ∧ M.setTo xs p (k + 1) true = M.setTo xs p k false ++ [p] := by
  refine ⟨⟨fun _ => ⟨by omega, q, by simpa using hq, by omega⟩, by simp⟩, ?_⟩
  simp only [M.setTo, Bool.false_eq_true, if_false, if_true]
  rw [M.filter_at _ hq, M.filter_at _ hq, hi.2 rfl, if_neg (by simp; omega), if_neg (by simp; omega)]
  simp
/-- The first point behind p. -/
theorem M.setP_high {xs : List (Int × Int)} {p q : Int × Int} {k : Nat} (hq : xs[k]? = some q) (h : p.1 < q.1) (hi : M.setInv xs p k false) : M.setInv xs p (k + 1) true ∧ M.setTo xs p (k + 1) true = M.setTo xs p k false ++ [p] ++ [q] := by
  refine ⟨⟨fun _ => ⟨by omega, q, by simpa using hq, by omega⟩, by simp⟩, ?_⟩
  simp only [M.setTo, Bool.false_eq_true, if_false, if_true]
  rw [M.filter_at _ hq, M.filter_at _ hq, hi.2 rfl, if_neg (by simp; omega), if_pos (by simpa using h)]
  simp
/-- A point further behind. -/
theorem M.setP_more {xs : List (Int × Int)} {p q : Int × Int} {k : Nat} (hok : M.curveOk xs = true) (hq : xs[k]? = some q) (hi : M.setInv xs p k true) : p.1 < q.1 ∧ M.setInv xs p (k + 1) true ∧ M.setTo xs p (k + 1) true = M.setTo xs p k true ++ [q] := by
  obtain ⟨hk, r, hr, hpr⟩ := hi.1 rfl
  have hlt : p.1 < q.1 := by have := M.curve_lt hok hk hr hq; omega
  refine ⟨hlt, ⟨fun _ => ⟨by omega, q, by simpa using hq, by omega⟩, by simp⟩, ?_⟩
  simp only [M.setTo, if_true]
  rw [M.filter_at _ hq, M.filter_at _ hq, if_neg (by simp; omega), if_pos (by simpa using hlt)]
  simp
theorem M.setP_end {xs : List (Int × Int)} {p : Int × Int} {dn : Bool} {n : Nat} (hn : xs.length = n) (hi : M.setInv xs p n dn) : (if dn then M.setTo xs p n dn else M.setTo xs p n dn ++ [p]) = M.setP xs p := by
  have ht : xs.take n = xs := List.take_of_length_le (by omega)
  cases dn
  · have := hi.2 rfl
    simp only [M.setTo, M.setP, ht, Bool.false_eq_true, if_false] at *
    rw [this]
  · simp only [M.setTo, M.setP, ht, if_true]
    simp
theorem OA.made0 {α : Type} {enc : α → List Value} {e : TypeId} {s : Nat} (w : World) : OA enc e s w.heap.size (w.alloc (.cells #[] e)).heap.size (w.alloc (.cells #[] e)) (.slice (some ⟨w.heap.size, 0, none⟩) 0 0) [] :=
  OX.of_own (World.ownsRow_made _ _ _ (Nat.le_refl _) (by simp [maxLen]) (by simp))
theorem spec_SetPoint (A : Option Addr) (n c : Nat) (xs : List (Int × Int)) (p0 p1 : Int) (w : World) (hx : RA pt 2 w w.heap.size A n xs) (hn : n ≤ 1000000000) :
    Calls Try.prog 18 #[.agg #[.slice A n c], .agg #[.int .i64 p0, .int .i64 p1]] w (RetC 34 w (M.setR xs (p0, p1))) := by
  have hl := Lib.hid hx.len
  have hb3 : Below w.heap.size w (((w.alloc (.cells #[.slice A n c] 30)).alloc (.cells #[.int .i64 p0, .int .i64 p1] 34)).alloc (.cells #[.slice none 0 0] 30)) := (((Below.refl _ _).alloc (Nat.le_refl _) _).alloc (by simp) _).alloc (by simp; omega) _
  have hx1 := hx.later hb3
  have hself : (((w.alloc (.cells #[.slice A n c] 30)).alloc (.cells #[.int .i64 p0, .int .i64 p1] 34)).alloc (.cells #[.slice none 0 0] 30)).cell? ⟨w.heap.size, 0, none⟩ = some (.slice A n c) := by simp [go_sem]
  cases hok : M.curveOk xs
  · have hr := Lib.hid (show M.setR xs (p0, p1) = ([], 1) by rw [M.setR, hok]; rfl)
    go_enter Try.func18, Try.ntmps18
    go_wp2_with (go_at_call 71; refine (spec_l25Ok _ _ _ _ _ _ hself hx1 hn).mono ?_; rw [hok]; rintro e w2 ⟨rfl, bel2⟩; have hq : w2.cell? ⟨w.heap.size + 1 + 1, 0, none⟩ = some (.slice none 0 0) := (by rw [bel2.cell (by simp)]; simp [go_sem]); have hf : w2.frozen? ⟨w.heap.size + 1 + 1, 0, none⟩ = false := (by rw [bel2.frozen (by simp)]; simp [go_sem]))
    refine bodyPost_ret (v := .tuple #[.agg #[.slice none 0 0], .int .i64 1]) (by simp [results, Try.results18, go_sem, hq, hf]) rfl ?_
    rw [hr.out]
    exact ⟨_, rfl, OA.nil _, (hb3.trans (bel2.mono hb3.size)).setCell (by simp; omega) _⟩
  · cases hp : M.ptOk (p0, p1)
    · have hr := Lib.hid (show M.setR xs (p0, p1) = ([], 2) by rw [M.setR, hok, hp]; rfl)
      go_enter Try.func18, Try.ntmps18
      go_wp2_with (first | (go_at_call 71; refine (spec_l25Ok _ _ _ _ _ _ hself hx1 hn).mono ?_; rw [hok]; rintro e w2 ⟨rfl, bel2⟩; have hq : w2.cell? ⟨w.heap.size + 1 + 1, 0, none⟩ = some (.slice none 0 0) := (by rw [bel2.cell (by simp)]; simp [go_sem]); have hf : w2.frozen? ⟨w.heap.size + 1 + 1, 0, none⟩ = false := (by rw [bel2.frozen (by simp)]; simp [go_sem]); have h0 : w2.cell? ⟨w.heap.size + 1, 0, none⟩ = some (.int .i64 p0) := (by rw [bel2.cell (by simp)]; simp [go_sem]); have h1 : w2.cell? ⟨w.heap.size + 1, 1, none⟩ = some (.int .i64 p1) := (by rw [bel2.cell (by simp)]; simp [go_sem])) | (go_at_call 72; refine (spec_l25Point _ _ (p0, p1) _ h0 h1).mono ?_; rw [hp]; rintro e w' ⟨rfl, rfl⟩))
      refine bodyPost_ret (v := .tuple #[.agg #[.slice none 0 0], .int .i64 2]) (by simp [results, Try.results18, go_sem, hq, hf]) rfl ?_
      rw [hr.out]
      exact ⟨_, rfl, OA.nil _, (hb3.trans (bel2.mono hb3.size)).setCell (by simp; omega) _⟩
    · have hok' := Lib.hid hok
      go_enter Try.func18, Try.ntmps18
      go_wp2_with (first | (go_at_call 71; refine (spec_l25Ok _ _ _ _ _ _ hself hx1 hn).mono ?_; rw [hok]; rintro e w2 ⟨rfl, bel2⟩; have hq : w2.cell? ⟨w.heap.size + 1 + 1, 0, none⟩ = some (.slice none 0 0) := (by rw [bel2.cell (by simp)]; simp [go_sem]); have hf : w2.frozen? ⟨w.heap.size + 1 + 1, 0, none⟩ = false := (by rw [bel2.frozen (by simp)]; simp [go_sem]); have h0 : w2.cell? ⟨w.heap.size + 1, 0, none⟩ = some (.int .i64 p0) := (by rw [bel2.cell (by simp)]; simp [go_sem]); have h1 : w2.cell? ⟨w.heap.size + 1, 1, none⟩ = some (.int .i64 p1) := (by rw [bel2.cell (by simp)]; simp [go_sem]); have h2 : w2.cell? ⟨w.heap.size, 0, none⟩ = some (.slice A n c) := (by rw [bel2.cell (by simp; omega)]; exact hself); have z2 : w.heap.size + 1 + 1 < w2.heap.size := (by have := bel2.size; simp at this; omega)) | (go_at_call 72; refine (spec_l25Point _ _ (p0, p1) _ h0 h1).mono ?_; rw [hp]; rintro e w' ⟨rfl, rfl⟩))
      have B2 := hb3.trans (bel2.mono hb3.size)
      clear bel2 hb3 hx1 hself hok
      go_loopw [6, 7, 8] (fun v d i wr => ∃ k : Nat, i = .int .i64 k ∧ k ≤ n ∧ (∃ dn, d = .bool dn ∧ Hid (M.setInv xs (p0, p1) k dn) ∧ OA pt 34 2 w2.heap.size wr.heap.size wr v (M.setTo xs (p0, p1) k dn)) ∧ Below w2.heap.size w2 wr) (fun _ _ i _ => n - (intOf i).toNat)
      case atStart => exact ⟨0, rfl, by omega, ⟨false, rfl, M.setInv_zero _ _, OA.made0 _⟩, (Below.refl _ _).alloc (Nat.le_refl _) _⟩
      case round =>
        obtain ⟨k, rfl, hk, ⟨dn, rfl, H, own⟩, hb⟩ := hrel
        obtain ⟨A4, c4, rfl, -⟩ := own.shape
        have hbb := B2.trans (hb.mono (by omega))
        have hsz := hb.size
        have y0 : w.heap.size < wr.heap.size := by omega
        have y1 : w.heap.size + 1 < wr.heap.size := by omega
        have y2 : w.heap.size + 1 + 1 < wr.heap.size := by omega
        have g0 : wr.cell? ⟨w.heap.size + 1, 0, none⟩ = some (.int .i64 p0) := by rw [hb.cell (by simp; omega)]; exact h0
        have g1 : wr.cell? ⟨w.heap.size + 1, 1, none⟩ = some (.int .i64 p1) := by rw [hb.cell (by simp; omega)]; exact h1
        have g2 : wr.cell? ⟨w.heap.size, 0, none⟩ = some (.slice A n c) := by rw [hb.cell (by simp; omega)]; exact h2
        have gq : wr.cell? ⟨w.heap.size + 1 + 1, 0, none⟩ = some (.slice none 0 0) := by rw [hb.cell (by simpa using z2)]; exact hq
        have gf : wr.frozen? ⟨w.heap.size + 1 + 1, 0, none⟩ = false := by rw [hb.frozen (by simpa using z2)]; exact hf
        by_cases hlt : k < n
        · obtain ⟨b, o, ⟨q0, q1⟩, rfl, hab, X, hc⟩ := (hx.below hbb).at pt_len (by decide) hlt
          have hc0 : wr.cell? ⟨b, o + k * 2, none⟩ = some (.int .i64 q0) := hc 0 _ rfl
          have hc1 : wr.cell? ⟨b, o + k * 2 + 1, none⟩ = some (.int .i64 q1) := hc 1 _ rfl
          clear hc
          have hcl : (M.setTo xs (p0, p1) k dn).length ≤ 3000000000 := by have := M.setTo_len xs (p0, p1) k dn; have := hl.out; omega
          have ownA := own.1.alloc (.cells #[.int .i64 q0, .int .i64 q1] 34)
          have hbA := hb.alloc hsz (.cells #[.int .i64 q0, .int .i64 q1] 34)
          have hneB := Lib.hid (show some wr.heap.size ≠ (Value.slice A4 (M.setTo xs (p0, p1) k dn).length c4).ownBlock from fun e => by have := (World.ownsRow.lt own.1 _ e.symm).2; omega)
          have hzA : (wr.alloc (.cells #[.int .i64 q0, .int .i64 q1] 34)).heap.size = wr.heap.size + 1 := by simp
          generalize hys : M.setTo xs (p0, p1) k dn = ys at *
          have hys' := Lib.hid hys
          clear hys own
          cases dn
          · rcases Int.lt_trichotomy q0 p0 with hq | hq | hq
            · have hne : (q0 != p0) = true := by simp; omega
              go_wp2_with (at_builtin; refine wpList_pushH ei_pt _ rfl _ _ rfl ownA rfl (wr.heap.size + 1) (by simp) rfl rfl (by simp [Value.oneCell']) (by unfold maxLen; omega) (by omega) (by simp; omega) ?_; intro v1 w1 own1 gr1 bel1; obtain ⟨A5, c5, rfl, -⟩ := own_shape own1)
              go_roundw
              case rel =>
                obtain ⟨i1, i2⟩ := M.setP_low X.out (p := (p0, p1)) hq H.out
                refine ⟨k + 1, by go_num, by omega, ⟨false, rfl, Lib.hid i1, ?_⟩, hbA.trans (bel1.mono (Nat.le_refl _))⟩
                rw [i2, hys'.out]
                exact OA.push (enc := pt) (x := (q0, q1)) own1
              case measure => simp [intOf]; omega
            · subst hq
              have hne : (q0 != q0) = false := by simp
              go_wp2_with (at_builtin; refine wpList_pushH ei_pt _ rfl _ _ rfl ownA rfl (wr.heap.size + 1) (by simp) rfl rfl (by simp [Value.oneCell']) (by unfold maxLen; omega) (by omega) (by simp; omega) ?_; intro v1 w1 own1 gr1 bel1; obtain ⟨A5, c5, rfl, -⟩ := own_shape own1; have e0 : w1.cell? ⟨w.heap.size + 1, 0, none⟩ = some (.int .i64 q0) := (by rw [bel1.cell (by simp; omega)]; simp [go_sem, *]); have e1 : w1.cell? ⟨wr.heap.size, 0, none⟩ = some (.int .i64 q0) := (gr1.cell (a := ⟨wr.heap.size, 0, none⟩) (by simp [go_sem]) hneB.out); have e2 : w1.cell? ⟨wr.heap.size, 1, none⟩ = some (.int .i64 q1) := (gr1.cell (a := ⟨wr.heap.size, 1, none⟩) (by simp [go_sem]) hneB.out))
              go_roundw
              case rel =>
                obtain ⟨i1, i2⟩ := M.setP_same X.out (p := (q0, p1)) rfl H.out
                refine ⟨k + 1, by go_num, by omega, ⟨true, rfl, Lib.hid i1, ?_⟩, hbA.trans (bel1.mono (Nat.le_refl _))⟩
                rw [i2, hys'.out]
                exact OA.push (enc := pt) (x := (q0, p1)) own1
              case measure => simp [intOf]; omega
            · have hne : (q0 != p0) = true := by simp; omega
              have tok1 : True := trivial
              go_wp2_with (first | (at_builtin; have _t := tok1; refine wpList_pushH ei_pt _ rfl _ _ rfl ownA rfl (wr.heap.size + 1) (by simp) rfl rfl (by simp [Value.oneCell']) (by unfold maxLen; omega) (by omega) (by simp; omega) ?_; intro v1 w1 own1 gr1 bel1; obtain ⟨A5, c5, rfl, -⟩ := own_shape own1; have e0 : w1.cell? ⟨w.heap.size + 1, 0, none⟩ = some (.int .i64 p0) := (by rw [bel1.cell (by simp; omega)]; simp [go_sem, *]); have e1 : w1.cell? ⟨wr.heap.size, 0, none⟩ = some (.int .i64 q0) := (gr1.cell (a := ⟨wr.heap.size, 0, none⟩) (by simp [go_sem]) hneB.out); have e2 : w1.cell? ⟨wr.heap.size, 1, none⟩ = some (.int .i64 q1) := (gr1.cell (a := ⟨wr.heap.size, 1, none⟩) (by simp [go_sem]) hneB.out); have own5 := OA.push (enc := pt) (x := (p0, p1)) own1; have hl5 : (ys ++ [(p0, p1)]).length ≤ 3000000001 := (by simp; omega); have s5 : w2.heap.size ≤ w1.heap.size := Nat.le_trans hbA.size bel1.size; clear tok1 _t) | (at_builtin; refine wpList_push ei_pt _ rfl _ _ rfl own5.1 rfl rfl rfl (by simp [Value.oneCell']) (by unfold maxLen; omega) (by omega) (by omega) ?_; intro v2 w2' own2 gr1 bel2; obtain ⟨A6, c6, rfl, -⟩ := own_shape own2))
              go_roundw
              case rel =>
                obtain ⟨i1, i2⟩ := M.setP_high X.out (p := (p0, p1)) hq H.out
                refine ⟨k + 1, by go_num, by omega, ⟨true, rfl, Lib.hid i1, ?_⟩, (hbA.trans (bel1.mono (Nat.le_refl _))).trans (bel2.mono (Nat.le_refl _))⟩
                rw [i2, hys'.out]
                have h9 := OA.push (enc := pt) (x := (q0, q1)) own2
                rw [List.length_append] at h9
                exact h9
              case measure => simp [intOf]; omega
          · have hq := (M.setP_more hok'.out X.out (p := (p0, p1)) H.out).1
            have hne : (q0 != p0) = true := by simp; simp at hq; omega
            have hq2 : p0 < q0 := hq
            clear hq
            go_wp2_with (at_builtin; refine wpList_pushH ei_pt _ rfl _ _ rfl ownA rfl (wr.heap.size + 1) (by simp) rfl rfl (by simp [Value.oneCell']) (by unfold maxLen; omega) (by omega) (by simp; omega) ?_; intro v1 w1 own1 gr1 bel1; obtain ⟨A5, c5, rfl, -⟩ := own_shape own1)
            go_roundw
            case rel =>
              obtain ⟨-, i1, i2⟩ := M.setP_more hok'.out X.out (p := (p0, p1)) H.out
              refine ⟨k + 1, by go_num, by omega, ⟨true, rfl, Lib.hid i1, ?_⟩, hbA.trans (bel1.mono (Nat.le_refl _))⟩
              rw [i2, hys'.out]
              exact OA.push (enc := pt) (x := (q0, q1)) own1
            case measure => simp [intOf]; omega
        · obtain rfl : n = k := by omega
          have hE := Lib.hid (M.setP_end hl.out H.out)
          have hcl : (M.setTo xs (p0, p1) n dn).length ≤ 3000000000 := by have := M.setTo_len xs (p0, p1) n dn; have := hl.out; omega
          generalize hys : M.setTo xs (p0, p1) n dn = ys at *
          clear hys
          have hP := Lib.hid (show M.setR xs (p0, p1) = if (M.setP xs (p0, p1)).length ≤ 24 then (M.setP xs (p0, p1), 0) else ([], 5) by
            rw [M.setR, hok'.out, hp]
            simp)
          cases dn
          · have hE2 := Lib.hid (show ys ++ [(p0, p1)] = M.setP xs (p0, p1) from hE.out)
            by_cases hlen : 24 < ys.length + 1
            · go_wp2_with (at_builtin; refine wpList_push ei_pt _ rfl _ _ rfl own.1 rfl rfl rfl (by simp [Value.oneCell']) (by unfold maxLen; omega) (by omega) (by omega) ?_; intro v1 w1 own1 gr1 bel1; obtain ⟨A5, c5, rfl, -⟩ := own_shape own1; have kq : w1.cell? ⟨w.heap.size + 1 + 1, 0, none⟩ = some (.slice none 0 0) := (by rw [bel1.cell (by simpa using z2)]; exact gq); have kf : w1.frozen? ⟨w.heap.size + 1 + 1, 0, none⟩ = false := (by rw [bel1.frozen (by simpa using z2)]; exact gf))
              refine bodyPost_ret (v := .tuple #[.agg #[.slice none 0 0], .int .i64 5]) (by simp [results, Try.results18, go_sem, kq, kf]) rfl ?_
              rw [hP.out, if_neg (by rw [← hE2.out]; simp; omega)]
              exact ⟨_, rfl, OA.nil _, (hbb.trans (bel1.mono (by omega))).setCell (by simp; omega) _⟩
            · go_wp2_with (at_builtin; refine wpList_push ei_pt _ rfl _ _ rfl own.1 rfl rfl rfl (by simp [Value.oneCell']) (by unfold maxLen; omega) (by omega) (by omega) ?_; intro v1 w1 own1 gr1 bel1; obtain ⟨A5, c5, rfl, -⟩ := own_shape own1; have kq : w1.cell? ⟨w.heap.size + 1 + 1, 0, none⟩ = some (.slice none 0 0) := (by rw [bel1.cell (by simpa using z2)]; exact gq); have kf : w1.frozen? ⟨w.heap.size + 1 + 1, 0, none⟩ = false := (by rw [bel1.frozen (by simpa using z2)]; exact gf))
              refine bodyPost_ret (v := .tuple #[.agg #[.slice A5 (ys.length + 1) c5], .int .i64 0]) (by simp [results, Try.results18, go_sem, kq, kf]) rfl ?_
              rw [hP.out, if_pos (by rw [← hE2.out]; simp; omega), ← hE2.out]
              have o5 := OA.push (enc := pt) (x := (p0, p1)) own1
              exact ⟨_, rfl, (o5.mid (Mid.cell w1 (w.heap.size + 1 + 1) 0 (.slice A5 (ys.length + 1) c5)) (.inr (by omega)) (Nat.le_refl _)).wide (by omega) (by simp), (hbb.trans (bel1.mono (by omega))).setCell (by simp; omega) _⟩
          · have hE2 := Lib.hid (show ys = M.setP xs (p0, p1) from hE.out)
            by_cases hlen : 24 < ys.length
            · go_wp2
              refine bodyPost_ret (v := .tuple #[.agg #[.slice none 0 0], .int .i64 5]) (by simp [results, Try.results18, go_sem, gq, gf]) rfl ?_
              rw [hP.out, if_neg (by rw [← hE2.out]; omega)]
              exact ⟨_, rfl, OA.nil _, hbb.setCell (by simp; omega) _⟩
            · go_wp2
              refine bodyPost_ret (v := .tuple #[.agg #[.slice A4 ys.length c4], .int .i64 0]) (by simp [results, Try.results18, go_sem, gq, gf]) rfl ?_
              rw [hP.out, if_pos (by rw [← hE2.out]; omega), ← hE2.out]
              exact ⟨_, rfl, (own.mid (Mid.cell wr (w.heap.size + 1 + 1) 0 (.slice A4 ys.length c4)) (.inr (by omega)) (Nat.le_refl _)).wide (by omega) (by simp), hbb.setCell (by simp; omega) _⟩
end Go.Proofs.Ytckihflfjecpbaa
