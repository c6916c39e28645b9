import Derived.Test.YtckihflfjecpbaaW29
namespace Go.Proofs.Ytckihflfjecpbaa
open Go.RowKit Go.Sort
set_option maxHeartbeats 400000
set_option maxRecDepth 100000
/-- As wpList_push, the new block's number in the walk's spelling. -/
theorem wpList_pushH {P : Program} {t e : TypeId} {z : Value} {size bytes : Nat} (hE : EI P t e z size bytes) {w : World} {ops : Array Oper} {rest : List Oper} {o : Oper} {a : Act} {Q : Exit → Act → World → Prop} (us : Array Value)
    (hgd : o.guard = none) (s x : Operand) (ho : o.op = .call { callee := .builtin .append, args := #[s, x], argTypes := #[t, t] })
    {B : Nat} {v : Value} {n : Nat} {xs : List Value} (hown : w.ownsRow B e size v n xs) (hs : a.eval s = v) (H : Nat) (hH : w.heap.size = H)
    (hx : a.eval x = .slice (some ⟨H, 0, none⟩) 1 1) (hus : us.size = size) (h1 : ∀ u ∈ us.toList, u.oneCell' = true)
    (hn : n + 1 ≤ maxLen) (hbytes : (n + 1) * bytes ≤ 140737488355328) (hbase : B ≤ w.heap.size)
    (K : ∀ v' w', w'.ownsRow B e size v' (n + 1) (xs ++ us.toList) → w.grownBy w' v.ownBlock → Below B w w' → wpList P ops Q rest (a.put o.dst v') w') :
    wpList P ops Q (o :: rest) a (w.alloc (.cells us e)) := by
  subst hH
  exact wpList_push hE us hgd s x ho hown hs hx hus h1 hn hbytes hbase K
/-- What a function of a curve and a code gives back. -/
def RetC (e : TypeId) (w : World) (r : List (Int × Int) × Int) (en : Ending) (w' : World) : Prop :=
  ∃ v, en = .returned (.tuple #[.agg #[v], .int .i64 r.2]) ∧ OA pt e 2 w.heap.size w'.heap.size w' v r.1 ∧ Below w.heap.size w w'
def M.setP (xs : List (Int × Int)) (p : Int × Int) : List (Int × Int) := xs.filter (fun q => decide (q.1 < p.1)) ++ p :: xs.filter (fun q => decide (p.1 < q.1))
def M.setR (xs : List (Int × Int)) (p : Int × Int) : List (Int × Int) × Int :=
  if M.curveOk xs then (if M.ptOk p then (if (M.setP xs p).length ≤ 24 then (M.setP xs p, 0) else ([], 5)) else ([], 2)) else ([], 1)
theorem M.filter_at {xs : List (Int × Int)} {k : Nat} {x : Int × Int} (f : Int × Int → Bool) (hx : xs[k]? = some x) : (xs.take (k + 1)).filter f = (xs.take k).filter f ++ (if f x then [x] else []) := by
  rw [M.take_at hx, List.filter_append]
  congr 1
  cases h : f x <;> simp [h]
theorem impl_SetPoint (A : Option Addr) (n c : Nat) (xs : List (Int × Int)) (p0 p1 : Int) (w : World) (hx : RA pt 2 w w.heap.size A n xs) (hn : n ≤ 1000000000) :
    Calls Try.prog 21 #[.agg #[.slice A n c], .agg #[.int .i64 p0, .int .i64 p1]] w (RetC 34 w (M.setR xs (p0, p1))) := by
  have hl := Lib.hid hx.len
  have hb3 : Below w.heap.size w (((w.alloc (.cells #[.slice A n c] 30)).alloc (.cells #[.int .i64 p0, .int .i64 p1] 34)).alloc (.cells #[.slice none 0 0] 30)) := (((Below.refl _ _).alloc (Nat.le_refl _) _).alloc (by simp) _).alloc (by simp; omega) _
  have hx1 := hx.later hb3
  cases hok : M.curveOk xs
  · have hr := Lib.hid (show M.setR xs (p0, p1) = ([], 1) by rw [M.setR, hok]; rfl)
    go_enter Try.func21, Try.ntmps21
    go_wp2_with (go_at_call 74; refine (impl_isCurve _ _ _ _ _ hx1 hn).mono ?_; rw [hok]; rintro e w2 ⟨rfl, bel2⟩; have hq : w2.cell? ⟨w.heap.size + 1 + 1, 0, none⟩ = some (.slice none 0 0) := (by rw [bel2.cell (by simp)]; simp [go_sem]); have hf : w2.frozen? ⟨w.heap.size + 1 + 1, 0, none⟩ = false := (by rw [bel2.frozen (by simp)]; simp [go_sem]))
    refine bodyPost_ret (v := .tuple #[.agg #[.slice none 0 0], .int .i64 1]) (by simp [results, Try.results21, go_sem, hq, hf]) rfl ?_
    rw [hr.out]
    exact ⟨_, rfl, OA.nil _, (hb3.trans (bel2.mono hb3.size)).setCell (by simp; omega) _⟩
  · cases hp : M.ptOk (p0, p1)
    · have hr := Lib.hid (show M.setR xs (p0, p1) = ([], 2) by rw [M.setR, hok, hp]; rfl)
      go_enter Try.func21, Try.ntmps21
      go_wp2_with (first | (go_at_call 74; refine (impl_isCurve _ _ _ _ _ hx1 hn).mono ?_; rw [hok]; rintro e w2 ⟨rfl, bel2⟩; have hq : w2.cell? ⟨w.heap.size + 1 + 1, 0, none⟩ = some (.slice none 0 0) := (by rw [bel2.cell (by simp)]; simp [go_sem]); have hf : w2.frozen? ⟨w.heap.size + 1 + 1, 0, none⟩ = false := (by rw [bel2.frozen (by simp)]; simp [go_sem]); have h0 : w2.cell? ⟨w.heap.size + 1, 0, none⟩ = some (.int .i64 p0) := (by rw [bel2.cell (by simp)]; simp [go_sem]); have h1 : w2.cell? ⟨w.heap.size + 1, 1, none⟩ = some (.int .i64 p1) := (by rw [bel2.cell (by simp)]; simp [go_sem]); have hs2 : w.heap.size + 1 + 1 + 1 ≤ w2.heap.size := (by have := bel2.size; simpa using this)) | (go_at_call 75; refine (impl_isPoint _ _ _).mono ?_; rw [hp]; rintro e w3 ⟨rfl, bel3⟩; have hq3 : w3.cell? ⟨w.heap.size + 1 + 1, 0, none⟩ = some (.slice none 0 0) := (by rw [bel3.cell (by simp; omega)]; exact hq); have hf3 : w3.frozen? ⟨w.heap.size + 1 + 1, 0, none⟩ = false := (by rw [bel3.frozen (by simp; omega)]; exact hf)))
      refine bodyPost_ret (v := .tuple #[.agg #[.slice none 0 0], .int .i64 2]) (by simp [results, Try.results21, go_sem, hq3, hf3]) rfl ?_
      rw [hr.out]
      exact ⟨_, rfl, OA.nil _, (bel_trans (hb3.trans (bel2.mono hb3.size)) bel3).setCell (by simp; omega) _⟩
    · go_enter Try.func21, Try.ntmps21
      go_wp2_with (first | (go_at_call 74; refine (impl_isCurve _ _ _ _ _ hx1 hn).mono ?_; rw [hok]; rintro e w2 ⟨rfl, bel2⟩; have hq : w2.cell? ⟨w.heap.size + 1 + 1, 0, none⟩ = some (.slice none 0 0) := (by rw [bel2.cell (by simp)]; simp [go_sem]); have hf : w2.frozen? ⟨w.heap.size + 1 + 1, 0, none⟩ = false := (by rw [bel2.frozen (by simp)]; simp [go_sem]); have h0 : w2.cell? ⟨w.heap.size + 1, 0, none⟩ = some (.int .i64 p0) := (by rw [bel2.cell (by simp)]; simp [go_sem]); have h1 : w2.cell? ⟨w.heap.size + 1, 1, none⟩ = some (.int .i64 p1) := (by rw [bel2.cell (by simp)]; simp [go_sem]); have hs2 : w.heap.size + 1 + 1 + 1 ≤ w2.heap.size := (by have := bel2.size; simpa using this)) | (go_at_call 75; refine (impl_isPoint _ _ _).mono ?_; rw [hp]; rintro e w3 ⟨rfl, bel3⟩; have hq3 : w3.cell? ⟨w.heap.size + 1 + 1, 0, none⟩ = some (.slice none 0 0) := (by rw [bel3.cell (by simp; omega)]; exact hq); have hf3 : w3.frozen? ⟨w.heap.size + 1 + 1, 0, none⟩ = false := (by rw [bel3.frozen (by simp; omega)]; exact hf); have h03 : w3.cell? ⟨w.heap.size + 1, 0, none⟩ = some (.int .i64 p0) := (by rw [bel3.cell (by simp; omega)]; exact h0); have h13 : w3.cell? ⟨w.heap.size + 1, 1, none⟩ = some (.int .i64 p1) := (by rw [bel3.cell (by simp; omega)]; exact h1); have hv3 : w3.cell? ⟨w.heap.size, 0, none⟩ = some (.slice A n c) := (by rw [bel3.cell (by simp; omega), bel2.cell (by simp; omega)]; simp [go_sem]); have z0 : w.heap.size < w3.heap.size := (by have := bel3.size; omega); have z1 : w.heap.size + 1 < w3.heap.size := (by have := bel3.size; omega); have z2 : w.heap.size + 1 + 1 < w3.heap.size := (by have := bel3.size; omega)))
      have B3 := bel_trans (hb3.trans (bel2.mono hb3.size)) bel3
      clear hq hf h0 h1 bel2 hb3 hx1
      go_loopw [23] (fun i wr => ∃ k : Nat, i = .int .i64 k ∧ k ≤ n ∧ (∃ v, wr.cell? ⟨w3.heap.size, 0, none⟩ = some v ∧ OA pt 34 2 (w3.heap.size + 1) wr.heap.size wr v ((xs.take k).filter (fun q => decide (q.1 < p0)))) ∧ wr.frozen? ⟨w3.heap.size, 0, none⟩ = false ∧ w3.heap.size + 1 ≤ wr.heap.size ∧ Below w3.heap.size w3 wr) (fun i _ => n - (intOf i).toNat)
      case atStart => exact ⟨0, rfl, by omega, ⟨_, by simp [go_sem], OA.nil _⟩, by simp [go_sem], by simp, (Below.refl _ _).alloc (Nat.le_refl _) _⟩
      case round =>
        obtain ⟨k, rfl, hk, ⟨v, hv, own⟩, hfv, hsz, hb⟩ := hrel
        obtain ⟨A4, c4, rfl, -⟩ := own.shape
        have hbb := B3.trans (hb.mono (by omega))
        have y0 : w.heap.size < wr.heap.size := by omega
        have y1 : w.heap.size + 1 < wr.heap.size := by omega
        have y2 : w.heap.size + 1 + 1 < wr.heap.size := by omega
        have y3 : w3.heap.size < wr.heap.size := by omega
        have g0 : wr.cell? ⟨w.heap.size + 1, 0, none⟩ = some (.int .i64 p0) := by rw [hb.cell (by simpa using z1)]; exact h03
        have g1 : wr.cell? ⟨w.heap.size + 1, 1, none⟩ = some (.int .i64 p1) := by rw [hb.cell (by simpa using z1)]; exact h13
        have gv : wr.cell? ⟨w.heap.size, 0, none⟩ = some (.slice A n c) := by rw [hb.cell (by simpa using z0)]; exact hv3
        have gq : wr.cell? ⟨w.heap.size + 1 + 1, 0, none⟩ = some (.slice none 0 0) := by rw [hb.cell (by simpa using z2)]; exact hq3
        have gf : wr.frozen? ⟨w.heap.size + 1 + 1, 0, none⟩ = false := by rw [hb.frozen (by simpa using z2)]; exact hf3
        by_cases hlt : k < n
        · obtain ⟨b, o, ⟨q0, q1⟩, rfl, hab, X, hc⟩ := (hx.below hbb).at pt_len (by decide) hlt
          have hc0 : wr.cell? ⟨b, o + k * 2, none⟩ = some (.int .i64 q0) := hc 0 _ rfl
          have hc1 : wr.cell? ⟨b, o + k * 2 + 1, none⟩ = some (.int .i64 q1) := hc 1 _ rfl
          clear hc
          have hF := Lib.hid (M.filter_at (fun q => decide (q.1 < p0)) X.out)
          by_cases hq : q0 < p0
          · have hcl : ((xs.take k).filter (fun q => decide (q.1 < p0))).length ≤ 1000000000 := Nat.le_trans (List.length_filter_le _ _) (by rw [List.length_take]; omega)
            have ownA := own.1.alloc (.cells #[.int .i64 q0, .int .i64 q1] 34)
            go_wp2_with (at_builtin; (refine wpList_pushH ei_pt _ rfl _ _ rfl ownA rfl (wr.heap.size + 1) (by simp) rfl rfl (by simp [Value.oneCell']) (by unfold maxLen; omega) (by omega) (by simp; omega) ?_; intro v1 w1 own1 gr1 bel1; obtain ⟨A5, c5, rfl, -⟩ := own_shape own1; have e0 : w1.cell? ⟨w3.heap.size, 0, none⟩ = some (.slice A4 ((xs.take k).filter (fun q => decide (q.1 < p0))).length c4) := (by rw [bel1.cell (by simp)]; simp [go_sem, *]); have e1 : w1.frozen? ⟨w3.heap.size, 0, none⟩ = false := (by rw [bel1.frozen (by simp)]; simp [go_sem, *])))
            go_roundw
            case rel =>
              have o5 := (OA.push (enc := pt) (x := (q0, q1)) own1).mid (Mid.cell w1 w3.heap.size 0 (.slice A5 (((xs.take k).filter (fun q => decide (q.1 < p0))).length + 1) c5)) (.inr (Nat.le_refl _)) (Nat.le_refl _)
              refine ⟨k + 1, by go_num, by omega, ⟨.slice A5 (((xs.take k).filter (fun q => decide (q.1 < p0))).length + 1) c5, by simp [go_sem, *], ?_⟩, by simp [go_sem, *], by have := bel1.size; simp at this ⊢; omega, ((hb.alloc (by omega) _).trans (bel1.mono (by omega))).setCell (Nat.le_refl _) _⟩
              rw [hF.out, if_pos (by simpa using hq)]
              exact o5.wide (Nat.le_refl _) (by simp)
            case measure => simp [intOf]; omega
          · go_wp2
            go_roundw
            case rel =>
              refine ⟨k + 1, by go_num, by omega, ⟨.slice A4 ((xs.take k).filter (fun q => decide (q.1 < p0))).length c4, by simp [go_sem, *], ?_⟩, by simp [go_sem, *], by simp; omega, hb.alloc (by omega) _⟩
              rw [hF.out, if_neg (by simpa using hq), List.append_nil]
              exact (own.below ((Below.refl _ _).alloc (Nat.le_refl _) _) (Nat.le_refl _)).wide (Nat.le_refl _) (by simp)
            case measure => simp [intOf]; omega
        · obtain rfl : n = k := by omega
          rw [List.take_of_length_le (by rw [hl.out]; omega)] at hv own
          have hcl : (xs.filter (fun q => decide (q.1 < p0))).length ≤ 1000000000 := Nat.le_trans (List.length_filter_le _ _) (by rw [hl.out]; omega)
          go_wp2_with (at_builtin; refine wpList_push ei_pt _ rfl _ _ rfl own.1 rfl rfl rfl (by simp [Value.oneCell']) (by unfold maxLen; omega) (by omega) (by omega) ?_; intro v1 w1 own1 gr1 bel1; obtain ⟨A5, c5, rfl, -⟩ := own_shape own1; have e0 : w1.cell? ⟨w3.heap.size, 0, none⟩ = some (.slice A4 (xs.filter (fun q => decide (q.1 < p0))).length c4) := (by rw [bel1.cell (by simp)]; exact hv); have e1 : w1.frozen? ⟨w3.heap.size, 0, none⟩ = false := (by rw [bel1.frozen (by simp)]; exact hfv); have e2 : w1.cell? ⟨w.heap.size, 0, none⟩ = some (.slice A n c) := (by rw [bel1.cell (by simp; omega)]; exact gv))
          have o5 := ((OA.push (enc := pt) (x := (p0, p1)) own1).mid (Mid.cell w1 w3.heap.size 0 (.slice A5 ((xs.filter (fun q => decide (q.1 < p0))).length + 1) c5)) (.inr (Nat.le_refl _)) (Nat.le_refl _)).wide (Nat.le_refl _) (show w1.heap.size ≤ (w1.setCell ⟨w3.heap.size, 0, none⟩ (.slice A5 ((xs.filter (fun q => decide (q.1 < p0))).length + 1) c5)).heap.size by simp)
          have hb5 : Below w3.heap.size w3 (w1.setCell ⟨w3.heap.size, 0, none⟩ (.slice A5 ((xs.filter (fun q => decide (q.1 < p0))).length + 1) c5)) := (hb.trans (bel1.mono (by omega))).setCell (Nat.le_refl _) _
          have s5 : w3.heap.size < w1.heap.size := by have := bel1.size; omega
          clear own own1 hv hfv g0 g1 gv gq gf y0 y1 y2 y3
          go_loopw [48] (fun i wr => ∃ k : Nat, i = .int .i64 k ∧ k ≤ n ∧ (∃ v, wr.cell? ⟨w3.heap.size, 0, none⟩ = some v ∧ OA pt 34 2 (w3.heap.size + 1) wr.heap.size wr v (xs.filter (fun q => decide (q.1 < p0)) ++ [(p0, p1)] ++ (xs.take k).filter (fun q => decide (p0 < q.1)))) ∧ wr.frozen? ⟨w3.heap.size, 0, none⟩ = false ∧ w3.heap.size + 1 ≤ wr.heap.size ∧ Below w3.heap.size w3 wr) (fun i _ => n - (intOf i).toNat)
          case atStart => exact ⟨0, rfl, by omega, ⟨.slice A5 ((xs.filter (fun q => decide (q.1 < p0))).length + 1) c5, by simp [go_sem, *], by simpa using o5⟩, by simp [go_sem, *], by simp; omega, hb5⟩
          case round =>
            clear hb hsz e0 e1 e2 gr1 bel1 o5 hb5 s5
            clear w1
            obtain ⟨k, rfl, hk, ⟨v, hv, own⟩, hfv, hsz, hb⟩ := hrel
            obtain ⟨A4, c4, rfl, -⟩ := own.shape
            have hbb := B3.trans (hb.mono (by omega))
            have y0 : w.heap.size < wr.heap.size := by omega
            have y1 : w.heap.size + 1 < wr.heap.size := by omega
            have y2 : w.heap.size + 1 + 1 < wr.heap.size := by omega
            have y3 : w3.heap.size < wr.heap.size := by omega
            have g0 : wr.cell? ⟨w.heap.size + 1, 0, none⟩ = some (.int .i64 p0) := by rw [hb.cell (by simpa using z1)]; exact h03
            have gq : wr.cell? ⟨w.heap.size + 1 + 1, 0, none⟩ = some (.slice none 0 0) := by rw [hb.cell (by simpa using z2)]; exact hq3
            have gf : wr.frozen? ⟨w.heap.size + 1 + 1, 0, none⟩ = false := by rw [hb.frozen (by simpa using z2)]; exact hf3
            by_cases hlt : k < n
            · obtain ⟨b, o, ⟨q0, q1⟩, rfl, hab, X, hc⟩ := (hx.below hbb).at pt_len (by decide) hlt
              have hc0 : wr.cell? ⟨b, o + k * 2, none⟩ = some (.int .i64 q0) := hc 0 _ rfl
              have hc1 : wr.cell? ⟨b, o + k * 2 + 1, none⟩ = some (.int .i64 q1) := hc 1 _ rfl
              clear hc
              have hF := Lib.hid (M.filter_at (fun q => decide (p0 < q.1)) X.out)
              by_cases hq : p0 < q0
              · have hcl : (xs.filter (fun q => decide (q.1 < p0)) ++ [(p0, p1)] ++ (xs.take k).filter (fun q => decide (p0 < q.1))).length ≤ 3000000000 := by
                  have := List.length_filter_le (fun q : Int × Int => decide (q.1 < p0)) xs
                  have := List.length_filter_le (fun q : Int × Int => decide (p0 < q.1)) (xs.take k)
                  have := hl.out
                  rw [List.length_take] at *
                  simp only [List.length_append, List.length_singleton]
                  omega
                have ownA := own.1.alloc (.cells #[.int .i64 q0, .int .i64 q1] 34)
                generalize hys : xs.filter (fun q => decide (q.1 < p0)) ++ [(p0, p1)] ++ (xs.take k).filter (fun q => decide (p0 < q.1)) = ys at *
                have hys' := Lib.hid hys
                clear hys
                go_wp2_with (at_builtin; refine wpList_pushH ei_pt _ rfl _ _ rfl ownA rfl (wr.heap.size + 1) (by simp) rfl rfl (by simp [Value.oneCell']) (by unfold maxLen; omega) (by omega) (by simp; omega) ?_; intro v1 w1 own1 gr1 bel1; obtain ⟨A5, c5, rfl, -⟩ := own_shape own1; have e0 : w1.cell? ⟨w3.heap.size, 0, none⟩ = some (.slice A4 ys.length c4) := (by rw [bel1.cell (by simp)]; simp [go_sem, *]); have e1 : w1.frozen? ⟨w3.heap.size, 0, none⟩ = false := (by rw [bel1.frozen (by simp)]; simp [go_sem, *]))
                go_roundw
                case rel =>
                  have o5 := (OA.push (enc := pt) (x := (q0, q1)) own1).mid (Mid.cell w1 w3.heap.size 0 (.slice A5 (ys.length + 1) c5)) (.inr (Nat.le_refl _)) (Nat.le_refl _)
                  refine ⟨k + 1, by go_num, by omega, ⟨.slice A5 (ys.length + 1) c5, by simp [go_sem, *], ?_⟩, by simp [go_sem, *], by have := bel1.size; simp at this ⊢; omega, ((hb.alloc (by omega) _).trans (bel1.mono (by omega))).setCell (Nat.le_refl _) _⟩
                  rw [hF.out, if_pos (by simpa using hq), ← List.append_assoc, hys'.out]
                  exact o5.wide (Nat.le_refl _) (by simp)
                case measure => simp [intOf]; omega
              · have hv' := Lib.hid (show (wr.alloc (.cells #[.int .i64 q0, .int .i64 q1] 34)).cell? ⟨w3.heap.size, 0, none⟩ = some _ by rw [World.cell?_alloc_lt _ _ _ (by simpa using y3)]; exact hv)
                go_wp2
                go_roundw
                case rel =>
                  refine ⟨k + 1, by go_num, by omega, ⟨_, hv'.out, ?_⟩, by simp [go_sem, *], by simp; omega, hb.alloc (by omega) _⟩
                  rw [hF.out, if_neg (by simpa using hq), List.append_nil]
                  exact (own.below ((Below.refl _ _).alloc (Nat.le_refl _) _) (Nat.le_refl _)).wide (Nat.le_refl _) (by simp)
                case measure => simp [intOf]; omega
            · obtain rfl : n = k := by omega
              rw [List.take_of_length_le (by rw [hl.out]; omega)] at hv own
              have hP := Lib.hid (show M.setR xs (p0, p1) = if (xs.filter (fun q => decide (q.1 < p0)) ++ [(p0, p1)] ++ xs.filter (fun q => decide (p0 < q.1))).length ≤ 24 then (xs.filter (fun q => decide (q.1 < p0)) ++ [(p0, p1)] ++ xs.filter (fun q => decide (p0 < q.1)), 0) else ([], 5) by
                rw [M.setR, hok, hp, M.setP]
                simp)
              generalize xs.filter (fun q => decide (q.1 < p0)) ++ [(p0, p1)] ++ xs.filter (fun q => decide (p0 < q.1)) = ys at *
              by_cases hlen : 24 < ys.length
              · go_wp2
                refine bodyPost_ret (v := .tuple #[.agg #[.slice none 0 0], .int .i64 5]) (by simp [results, Try.results21, go_sem, gq, gf]) rfl ?_
                rw [hP.out, if_neg (by omega)]
                exact ⟨_, rfl, OA.nil _, hbb.setCell (by simp; omega) _⟩
              · go_wp2
                refine bodyPost_ret (v := .tuple #[.agg #[.slice A4 ys.length c4], .int .i64 0]) (by simp [results, Try.results21, go_sem, gq, gf]) rfl ?_
                rw [hP.out, if_pos (by omega)]
                exact ⟨_, rfl, (own.mid (Mid.cell wr (w.heap.size + 1 + 1) 0 (.slice A4 ys.length c4)) (.inr (by omega)) (Nat.le_refl _)).wide (by omega) (by simp), hbb.setCell (by simp; omega) _⟩
end Go.Proofs.Ytckihflfjecpbaa
