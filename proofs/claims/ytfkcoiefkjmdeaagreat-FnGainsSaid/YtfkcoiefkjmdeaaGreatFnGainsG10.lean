import Derived.Test.YtfkcoiefkjmdeaaGreatFnGainsG9
import Derived.Deep.QuietTactic
import Derived.RegionTactic
import Derived.Test.YtfkcoiefkjmdeaaGreatFnGainsG3
import Derived.Test.YtfkcoiefkjmdeaaGreatFnGainsG8
set_option linter.unusedVariables false
set_option linter.unusedSimpArgs false
namespace Go.Proofs.YtfkcoiefkjmdeaaGreat
open Go.RowKit Go.Sort
set_option maxHeartbeats 1000000
set_option maxRecDepth 100000
set_option linter.unusedVariables false
set_option linter.unusedSimpArgs false
theorem RI.tail1 {w : World} {B b o n c : Nat} {s0 : Int} {ss : List Int} (h : RI w B (some ⟨b, o, none⟩) n (s0 :: ss)) (hc : n ≤ c) : RI w B (if c = 1 then some ⟨b, o, none⟩ else some ⟨b, o + 1, none⟩) (n - 1) ss := by
  have hl := h.len
  simp only [List.length_cons] at hl
  have h2 := Reads.cut (k := 1) (cap := c) h (by omega) hc
  unfold RI
  simpa [Addr.add_lit] using h2
section
variable {P : Program} {t e : TypeId} {z : Value} {bytes : Nat}
/-- 'append(out, x)' whose element's cell lies in whatever block. -/
theorem wpList_push1_at (hE : EI P t e z 1 bytes) {w : World} {ops : Array Oper} {rest : List Oper} {o : Oper} {a : Act} {Q : Exit → Act → World → Prop} {u : Value}
    (hgd : o.guard = none) (s x : Operand) (ho : o.op = .call { callee := .builtin .append, args := #[s, x], argTypes := #[t, t] })
    {B : Nat} {v : Value} {n g : Nat} {xs : List Value} (hown : w.ownsRow B e 1 v n xs) (hs : a.eval s = v)
    (hx : a.eval x = .slice (some ⟨g, 0, none⟩) 1 1) (hg : w.cell? ⟨g, 0, none⟩ = some u) (h1 : u.oneCell' = true)
    (hn : n + 1 ≤ maxLen) (hbytes : (n + 1) * bytes ≤ 140737488355328) (hbase : B ≤ w.heap.size)
    (K : ∀ v' w', w'.ownsRow B e 1 v' (n + 1) (xs ++ [u]) → w.grownBy w' v.ownBlock → Below B w w' → wpList P ops Q rest (a.put o.dst v') w') :
    wpList P ops Q (o :: rest) a w := by
  obtain ⟨ht, hinfo, hzs, hsz⟩ := hE
  obtain ⟨i0, hi, hz0, hz1, hz2⟩ := info_parts hinfo
  refine wpList_append_own _ hgd s x t ho B e i0 z 1 bytes ht hi hz0 hz1 hz2 hzs hsz v n xs hs hown ⟨g, 0, none⟩ 1 1 [u] hx rfl ?_ (by simpa using h1) hn hbytes hbase ?_
  · intro j w hj
    match j, hj with
    | 0, hj => simp at hj; subst hj; simpa [Addr.add] using hg
  · intro v' w' h2 h3 _
    exact K v' w' h2 h3 ((Below.refl _ _).grown h3 hbase fun k hk => (hown.lt k hk).1)
end
theorem impl_step6 (a1 a2 : Int) (A : Option Addr) (n c : Nat) (T : Value) (bi oi ci bs os_ ns cs : Nat) (i0 s0 : Int) (ss : List Int) (w : World) (c0 : w.cell? ⟨bi, oi, none⟩ = some (.int .i64 i0)) (hs : RI w w.heap.size (some ⟨bs, os_, none⟩) ns (s0 :: ss)) (hns : ns ≤ 16) (hcs : ns ≤ cs) :
    Calls Tryz.prog 142 #[.agg #[.int .i64 6, .int .i64 a1, .int .i64 a2, .slice A n c], T, .slice (some ⟨bi, oi, none⟩) 1 ci, .slice (some ⟨bs, os_, none⟩) ns cs] w fun e w' => ∃ v, e = .returned (.tuple #[.int .i64 s0, v]) ∧ OI 2 w.heap.size w' v (ss ++ [i0]) ∧ Below w.heap.size w w' := by
  obtain ⟨W, hW⟩ : ∃ W, W = w.alloc (.cells #[.int .i64 6, .int .i64 a1, .int .i64 a2, .slice A n c] 122) := ⟨_, rfl⟩
  have B0 : Below w.heap.size w W := by rw [hW]; exact (Below.refl _ _).alloc (Nat.le_refl _) _
  have HW := Lib.hid hW
  have hl := hs.len
  simp only [List.length_cons] at hl
  obtain ⟨bs', os', e, hbs, hcc⟩ := ri_lit hs (by omega)
  simp only [Option.some.injEq, Addr.mk.injEq] at e
  obtain ⟨rfl, rfl, -⟩ := e
  have d0 : w.cell? ⟨bs, os_, none⟩ = some (.int .i64 s0) := hcc 0 s0 rfl
  have lb : bi < w.heap.size := World.block_lt_of_cell? w _ c0
  clear hcc
  have c0' : W.cell? ⟨bi, oi, none⟩ = some (.int .i64 i0) := by rw [B0.cell lb]; exact c0
  have d0' : W.cell? ⟨bs, os_, none⟩ = some (.int .i64 s0) := by rw [B0.cell hbs]; exact d0
  have cc0 := cell_regrown c0'
  have dd0 := cell_regrown d0'
  clear hW
  go_enter Tryz.func142, Tryz.ntmps142
  go_wp2_with fail
  rw [← HW.out]
  have D1 : Below W.heap.size W W.drew := below_drewN (Below.refl _ _) 1
  have ht := (hs.tail1 hcs).later B0
  have lW : w.heap.size ≤ W.heap.size := B0.size
  clear hs c0 d0 c0' d0'
  obtain ⟨A9, ht0, e9⟩ : ∃ A9, RI W W.heap.size A9 (ns - 1) ss ∧ ((cs = 1 ∧ A9 = some ⟨bs, os_, none⟩) ∨ (¬ cs = 1 ∧ A9 = some ⟨bs, os_ + 1, none⟩)) := by
    by_cases h : cs = 1
    · rw [if_pos h] at ht
      exact ⟨_, ht, .inl ⟨h, rfl⟩⟩
    · rw [if_neg h] at ht
      exact ⟨_, ht, .inr ⟨h, rfl⟩⟩
  rcases e9 with ⟨h1, rfl⟩ | ⟨h1, rfl⟩
  all_goals
    have ht := ht0.later D1
    (refine wp_region_fresh [0, 1, 3, 4, 6, 7] [2, 8] 3 (.two 5 (.one 9 (.one 10 .rest)) 9 (.one 5 (.one 10 .rest))) [11, 12] (by kernel_rfl) (by kernel_rfl) ?_; simp only [pickOps]; simp only [List.filterMap, List.getElem?_cons_succ, List.getElem?_cons_zero]; (repeat (go_big_quiet_step (fail))); refine wpQuiet_nil ?_; (repeat (go_big_quiet_step (fail))); refine wpQuiet_nil ?_)
    refine seqT_two rfl rfl ?_ ?_
    · go_wp2_with fail
      refine (impl_clone _ _ _ _ _ ht (by omega)).mono ?_
      rintro e w1 ⟨v1, rfl, own1, bel1⟩
      have B1 : Below W.heap.size W w1 := D1.trans bel1
      go_wp2_with fail
      refine ⟨regrown_of_below B1, seqT_one rfl ?_⟩
      go_wp2_with fail
      refine ⟨regrown_of_below (B1.alloc B1.size _), seqT_one rfl ?_⟩
      go_wp2_with (at_builtin; refine wpList_push1 ei_i64 rfl _ _ rfl own1 rfl rfl rfl (by unfold maxLen; omega) (by omega) B1.size ?_; intro v2 w2 own2 gr2 bel2)
      refine ⟨regrown_of_below (B1.trans bel2), seqT_rest ?_⟩
      go_wp2
      go_ret2
      exact ⟨_, rfl, (OI.push own2).base lW, B0.trans ((B1.trans bel2).mono lW)⟩
    · have B1 : Below W.heap.size W (W.alloc (.cells #[.int .i64 i0] 2)).drew := below_drewN ((Below.refl _ _).alloc (Nat.le_refl _) _) 1
      have ht2 : RI (W.alloc (.cells #[.int .i64 i0] 2)).drew (W.alloc (.cells #[.int .i64 i0] 2)).drew.heap.size _ (ns - 1) ss := ht0.later B1
      have hg1 : (W.alloc (.cells #[.int .i64 i0] 2)).drew.cell? ⟨W.heap.size, 0, none⟩ = some (.int .i64 i0) := cell_alloc1 _ _ _
      have hz1 : (W.alloc (.cells #[.int .i64 i0] 2)).drew.heap.size = W.heap.size + 1 := by show (W.alloc (.cells #[.int .i64 i0] 2)).heap.size = _; simp
      go_wp2_with fail
      refine ⟨regrown_of_below B1, seqT_one rfl ?_⟩
      go_wp2_with fail
      generalize (W.alloc (.cells #[.int .i64 i0] 2)).drew = V at B1 ht2 hg1 hz1 ⊢
      refine (impl_clone _ _ _ _ _ ht2 (by omega)).mono ?_
      rintro e w1 ⟨v1, rfl, own1, bel1⟩
      have B2 := bel_trans B1 bel1
      have hg2 : w1.cell? ⟨W.heap.size, 0, none⟩ = some (.int .i64 i0) := by rw [bel1.cell (by show W.heap.size < V.heap.size; omega)]; exact hg1
      go_wp2_with fail
      refine ⟨regrown_of_below B2, seqT_one rfl ?_⟩
      go_wp2_with (at_builtin; refine wpList_push1_at ei_i64 rfl _ _ rfl own1 rfl rfl hg2 rfl (by unfold maxLen; omega) (by omega) bel1.size ?_; intro v2 w2 own2 gr2 bel2)
      have B3 : Below W.heap.size W w2 := B2.trans (bel2.mono (by omega))
      refine ⟨regrown_of_below B3, seqT_rest ?_⟩
      go_wp2
      go_ret2
      exact ⟨_, rfl, (OI.push own2).base (by omega), B0.trans (B3.mono (by omega))⟩
theorem impl_step7 (a1 a2 : Int) (A : Option Addr) (n c : Nat) (T : Value) (bi oi ci : Nat) (i0 : Int) (bs os_ ns cs : Nat) (s0 : Int) (w : World) (c0 : w.cell? ⟨bi, oi, none⟩ = some (.int .i64 i0)) (d0 : w.cell? ⟨bs, os_, none⟩ = some (.int .i64 s0)) (hns : 1 ≤ ns) (hi : -2147483648 ≤ i0 ∧ i0 ≤ 2147483647) (hsb : -2147483648 ≤ s0 ∧ s0 ≤ 2147483647) :
    Calls Tryz.prog 142 #[.agg #[.int .i64 7, .int .i64 a1, .int .i64 a2, .slice A n c], T, .slice (some ⟨bi, oi, none⟩) 1 ci, .slice (some ⟨bs, os_, none⟩) ns cs] w fun e w' => ∃ v, e = .returned (.tuple #[.int .i64 (wrap32 (s0 + i0)), v]) ∧ OI 2 w.heap.size w' v ([wrap32 (s0 + i0)]) ∧ Below w.heap.size w w' := by
  obtain ⟨W, hW⟩ : ∃ W, W = w.alloc (.cells #[.int .i64 7, .int .i64 a1, .int .i64 a2, .slice A n c] 122) := ⟨_, rfl⟩
  have B0 : Below w.heap.size w W := by rw [hW]; exact (Below.refl _ _).alloc (Nat.le_refl _) _
  have lW : w.heap.size ≤ W.heap.size := B0.size
  have lb : bi < w.heap.size := World.block_lt_of_cell? w _ c0
  have hbs : bs < w.heap.size := World.block_lt_of_cell? w _ d0
  have c0' : W.cell? ⟨bi, oi, none⟩ = some (.int .i64 i0) := by rw [B0.cell lb]; exact c0
  have d0' : W.cell? ⟨bs, os_, none⟩ = some (.int .i64 s0) := by rw [B0.cell hbs]; exact d0
  have p1' : W.cell? ⟨w.heap.size, 1, none⟩ = some (.int .i64 a1) := by rw [hW]; simp [go_sem]
  have HW := Lib.hid hW
  clear hW
  have O1 := OI_lit W (wrap32 (s0 + i0))
  go_enter Tryz.func142, Tryz.ntmps142
  go_wp2_with fail
  rw [← HW.out]
  go_quiet (exact quiet_left (impl_Wrap _ _))
  have hw3 : wrap32 (wrap64 (s0 + i0)) = wrap32 (s0 + i0) := M.wrap32_64 _
  go_wp2
  go_ret2
  exact ⟨_, rfl, O1.base lW, below_drewN (B0.alloc lW _) _⟩
theorem impl_step8 (a1 a2 : Int) (A : Option Addr) (n c : Nat) (T : Value) (bi oi ci : Nat) (i0 : Int) (bs os_ ns cs : Nat) (s0 : Int) (w : World) (c0 : w.cell? ⟨bi, oi, none⟩ = some (.int .i64 i0)) (d0 : w.cell? ⟨bs, os_, none⟩ = some (.int .i64 s0)) (hns : 1 ≤ ns) (hi : -2147483648 ≤ i0 ∧ i0 ≤ 2147483647) (hsb : -2147483648 ≤ s0 ∧ s0 ≤ 2147483647) :
    Calls Tryz.prog 142 #[.agg #[.int .i64 8, .int .i64 a1, .int .i64 a2, .slice A n c], T, .slice (some ⟨bi, oi, none⟩) 1 ci, .slice (some ⟨bs, os_, none⟩) ns cs] w fun e w' => ∃ v, e = .returned (.tuple #[.int .i64 (wrap32 (i0 - s0)), v]) ∧ OI 2 w.heap.size w' v ([i0]) ∧ Below w.heap.size w w' := by
  obtain ⟨W, hW⟩ : ∃ W, W = w.alloc (.cells #[.int .i64 8, .int .i64 a1, .int .i64 a2, .slice A n c] 122) := ⟨_, rfl⟩
  have B0 : Below w.heap.size w W := by rw [hW]; exact (Below.refl _ _).alloc (Nat.le_refl _) _
  have lW : w.heap.size ≤ W.heap.size := B0.size
  have lb : bi < w.heap.size := World.block_lt_of_cell? w _ c0
  have hbs : bs < w.heap.size := World.block_lt_of_cell? w _ d0
  have c0' : W.cell? ⟨bi, oi, none⟩ = some (.int .i64 i0) := by rw [B0.cell lb]; exact c0
  have d0' : W.cell? ⟨bs, os_, none⟩ = some (.int .i64 s0) := by rw [B0.cell hbs]; exact d0
  have p1' : W.cell? ⟨w.heap.size, 1, none⟩ = some (.int .i64 a1) := by rw [hW]; simp [go_sem]
  have HW := Lib.hid hW
  have cc0 := cell_regrown c0'
  have dd0 := cell_regrown d0'
  clear hW c0 d0 c0' d0'
  have O1 := OI_lit W i0
  have hw3 : wrap32 (wrap64 (i0 - s0)) = wrap32 (i0 - s0) := M.wrap32_64 _
  have D1 : Below W.heap.size W W.drew := below_drewN (Below.refl _ _) 1
  have B1 : Below W.heap.size W (W.alloc (.cells #[.int .i64 i0] 2)).drew := below_drewN ((Below.refl _ _).alloc (Nat.le_refl _) _) 1
  go_enter Tryz.func142, Tryz.ntmps142
  go_wp2_with fail
  rw [← HW.out]
  (refine wp_region_fresh [0, 1, 3, 4, 8, 9] [2, 5, 6, 10] 3 (.two 7 (.two 11 (.one 12 .rest) 12 (.one 11 .rest)) 11 (.one 7 (.one 12 .rest))) [13] (by kernel_rfl) (by kernel_rfl) ?_; simp only [pickOps]; simp only [List.filterMap, List.getElem?_cons_succ, List.getElem?_cons_zero]; (repeat (go_big_quiet_step (fail))); refine wpQuiet_nil ?_; (repeat (go_big_quiet_step (fail))); refine wpQuiet_nil ?_)
  refine seqT_two rfl rfl ?_ ?_
  · go_wp2_with (go_at_call 58; refine (impl_Wrap _ _).mono ?_; rintro e w' ⟨rfl, rfl⟩)
    refine ⟨regrown_of_below D1, seqT_two rfl rfl ?_ ?_⟩
    · go_wp2_with fail
      refine ⟨regrown_of_below B1, seqT_one rfl ?_⟩
      go_wp2_with fail
      refine ⟨regrown_of_below B1, seqT_rest ?_⟩
      go_wp2
      go_ret2
      exact ⟨_, rfl, O1.base lW, B0.trans (B1.mono lW)⟩
    · go_wp2_with fail
      refine ⟨regrown_of_below D1, seqT_one rfl ?_⟩
      go_wp2_with fail
      refine ⟨regrown_of_below B1, seqT_rest ?_⟩
      go_wp2
      go_ret2
      exact ⟨_, rfl, O1.base lW, B0.trans (B1.mono lW)⟩
  · go_wp2_with fail
    refine ⟨regrown_of_below B1, seqT_one rfl ?_⟩
    go_wp2_with (go_at_call 58; refine (impl_Wrap _ _).mono ?_; rintro e w' ⟨rfl, rfl⟩)
    refine ⟨regrown_of_below B1, seqT_one rfl ?_⟩
    go_wp2_with fail
    refine ⟨regrown_of_below B1, seqT_rest ?_⟩
    go_wp2
    go_ret2
    exact ⟨_, rfl, O1.base lW, B0.trans (B1.mono lW)⟩
theorem impl_step12 (a1 a2 : Int) (A : Option Addr) (n c : Nat) (T : Value) (bi oi ci : Nat) (i0 : Int) (bs os_ ns cs : Nat) (s0 : Int) (w : World) (c0 : w.cell? ⟨bi, oi, none⟩ = some (.int .i64 i0)) (d0 : w.cell? ⟨bs, os_, none⟩ = some (.int .i64 s0)) (hns : 1 ≤ ns) (hi : -2147483648 ≤ i0 ∧ i0 ≤ 2147483647) (hsb : -2147483648 ≤ s0 ∧ s0 ≤ 2147483647) :
    Calls Tryz.prog 142 #[.agg #[.int .i64 12, .int .i64 a1, .int .i64 a2, .slice A n c], T, .slice (some ⟨bi, oi, none⟩) 1 ci, .slice (some ⟨bs, os_, none⟩) ns cs] w fun e w' => ∃ v, e = .returned (.tuple #[.int .i64 (s0), v]) ∧ OI 2 w.heap.size w' v ([wrap32 (s0 + i0)]) ∧ Below w.heap.size w w' := by
  obtain ⟨W, hW⟩ : ∃ W, W = w.alloc (.cells #[.int .i64 12, .int .i64 a1, .int .i64 a2, .slice A n c] 122) := ⟨_, rfl⟩
  have B0 : Below w.heap.size w W := by rw [hW]; exact (Below.refl _ _).alloc (Nat.le_refl _) _
  have lW : w.heap.size ≤ W.heap.size := B0.size
  have lb : bi < w.heap.size := World.block_lt_of_cell? w _ c0
  have hbs : bs < w.heap.size := World.block_lt_of_cell? w _ d0
  have c0' : W.cell? ⟨bi, oi, none⟩ = some (.int .i64 i0) := by rw [B0.cell lb]; exact c0
  have d0' : W.cell? ⟨bs, os_, none⟩ = some (.int .i64 s0) := by rw [B0.cell hbs]; exact d0
  have p1' : W.cell? ⟨w.heap.size, 1, none⟩ = some (.int .i64 a1) := by rw [hW]; simp [go_sem]
  have HW := Lib.hid hW
  have cc0 := cell_regrown c0'
  have dd0 := cell_regrown d0'
  clear hW c0 d0 c0' d0'
  have O1 := OI_lit W (wrap32 (s0 + i0))
  have hw3 : wrap32 (wrap64 (s0 + i0)) = wrap32 (s0 + i0) := M.wrap32_64 _
  have D1 : Below W.heap.size W W.drew := below_drewN (Below.refl _ _) 1
  have B1 : Below W.heap.size W (W.alloc (.cells #[.int .i64 (wrap32 (s0 + i0))] 2)).drew := below_drewN ((Below.refl _ _).alloc (Nat.le_refl _) _) 1
  go_enter Tryz.func142, Tryz.ntmps142
  go_wp2_with fail
  rw [← HW.out]
  (refine wp_region_fresh [0, 1, 3, 4, 6, 7] [2, 5, 8, 9] 3 (.one 10 (.two 11 (.one 12 .rest) 12 (.one 11 .rest))) [13] (by kernel_rfl) (by kernel_rfl) ?_; simp only [pickOps]; simp only [List.filterMap, List.getElem?_cons_succ, List.getElem?_cons_zero]; (repeat (go_big_quiet_step (fail))); refine wpQuiet_nil ?_; (repeat (go_big_quiet_step (fail))); refine wpQuiet_nil ?_)
  refine seqT_one rfl ?_
  go_wp2_with (go_at_call 58; refine (impl_Wrap _ _).mono ?_; rintro e w' ⟨rfl, rfl⟩)
  refine ⟨regrown_of_below D1, seqT_two rfl rfl ?_ ?_⟩
  · go_wp2_with fail
    refine ⟨regrown_of_below B1, seqT_one rfl ?_⟩
    go_wp2_with fail
    refine ⟨regrown_of_below B1, seqT_rest ?_⟩
    go_wp2
    go_ret2
    exact ⟨_, rfl, O1.base lW, B0.trans (B1.mono lW)⟩
  · go_wp2_with fail
    refine ⟨regrown_of_below D1, seqT_one rfl ?_⟩
    go_wp2_with fail
    refine ⟨regrown_of_below B1, seqT_rest ?_⟩
    go_wp2
    go_ret2
    exact ⟨_, rfl, O1.base lW, B0.trans (B1.mono lW)⟩
theorem impl_step14 (a1 a2 : Int) (A : Option Addr) (n c : Nat) (T : Value) (Ai : Option Addr) (ci : Nat) (bs os_ ns cs : Nat) (s0 : Int) (w : World) (d0 : w.cell? ⟨bs, os_, none⟩ = some (.int .i64 s0)) (hns : 1 ≤ ns) (hsb : -2147483648 ≤ s0 ∧ s0 ≤ 2147483647) :
    Calls Tryz.prog 142 #[.agg #[.int .i64 14, .int .i64 a1, .int .i64 a2, .slice A n c], T, .slice Ai 0 ci, .slice (some ⟨bs, os_, none⟩) ns cs] w fun e w' => ∃ v, e = .returned (.tuple #[.int .i64 (s0), v]) ∧ OI 2 w.heap.size w' v ([M.noise s0]) ∧ Below w.heap.size w w' := by
  obtain ⟨W, hW⟩ : ∃ W, W = w.alloc (.cells #[.int .i64 14, .int .i64 a1, .int .i64 a2, .slice A n c] 122) := ⟨_, rfl⟩
  have B0 : Below w.heap.size w W := by rw [hW]; exact (Below.refl _ _).alloc (Nat.le_refl _) _
  have lW : w.heap.size ≤ W.heap.size := B0.size
  have hbs : bs < w.heap.size := World.block_lt_of_cell? w _ d0
  have d0' : W.cell? ⟨bs, os_, none⟩ = some (.int .i64 s0) := by rw [B0.cell hbs]; exact d0
  have p1' : W.cell? ⟨w.heap.size, 1, none⟩ = some (.int .i64 a1) := by rw [hW]; simp [go_sem]
  have HW := Lib.hid hW
  have dd0 := cell_regrown d0'
  clear hW d0 d0'
  have O1 := OI_lit W (M.noise s0)
  have D1 : Below W.heap.size W W.drew := below_drewN (Below.refl _ _) 1
  have B1 : Below W.heap.size W (W.alloc (.cells #[.int .i64 (M.noise s0)] 2)).drew := below_drewN ((Below.refl _ _).alloc (Nat.le_refl _) _) 1
  go_enter Tryz.func142, Tryz.ntmps142
  go_wp2_with fail
  rw [← HW.out]
  (refine wp_region_fresh [0, 1, 3, 4] [2, 5] 3 (.one 6 (.two 7 (.one 8 .rest) 8 (.one 7 .rest))) [9] (by kernel_rfl) (by kernel_rfl) ?_; simp only [pickOps]; simp only [List.filterMap, List.getElem?_cons_succ, List.getElem?_cons_zero]; (repeat (go_big_quiet_step (fail))); refine wpQuiet_nil ?_; (repeat (go_big_quiet_step (fail))); refine wpQuiet_nil ?_)
  refine seqT_one rfl ?_
  go_wp2_with (go_at_call 149; refine (impl_noise _ _).mono ?_; rintro e w' ⟨rfl, rfl⟩)
  refine ⟨regrown_of_below D1, seqT_two rfl rfl ?_ ?_⟩
  · go_wp2_with fail
    refine ⟨regrown_of_below B1, seqT_one rfl ?_⟩
    go_wp2_with fail
    refine ⟨regrown_of_below B1, seqT_rest ?_⟩
    go_wp2
    go_ret2
    exact ⟨_, rfl, O1.base lW, B0.trans (B1.mono lW)⟩
  · go_wp2_with fail
    refine ⟨regrown_of_below D1, seqT_one rfl ?_⟩
    go_wp2_with fail
    refine ⟨regrown_of_below B1, seqT_rest ?_⟩
    go_wp2
    go_ret2
    exact ⟨_, rfl, O1.base lW, B0.trans (B1.mono lW)⟩
theorem impl_step16 (a1 a2 : Int) (A : Option Addr) (n c : Nat) (T : Value) (bi oi ci : Nat) (i0 i1 : Int) (bs os_ ns cs : Nat) (s0 : Int) (w : World) (c0 : w.cell? ⟨bi, oi, none⟩ = some (.int .i64 i0)) (c1 : w.cell? ⟨bi, oi + 1, none⟩ = some (.int .i64 i1)) (d0 : w.cell? ⟨bs, os_, none⟩ = some (.int .i64 s0)) (hns : 1 ≤ ns) (hi : -2147483648 ≤ i0 ∧ i0 ≤ 2147483647 ∧ -2147483648 ≤ i1 ∧ i1 ≤ 2147483647) (hsb : -2147483648 ≤ s0 ∧ s0 ≤ 2147483647) :
    Calls Tryz.prog 142 #[.agg #[.int .i64 16, .int .i64 a1, .int .i64 a2, .slice A n c], T, .slice (some ⟨bi, oi, none⟩) 2 ci, .slice (some ⟨bs, os_, none⟩) ns cs] w fun e w' => ∃ v, e = .returned (.tuple #[.int .i64 (if 0 < i1 then i0 else s0), v]) ∧ OI 2 w.heap.size w' v ([if 0 < i1 then i0 else s0]) ∧ Below w.heap.size w w' := by
  obtain ⟨W, hW⟩ : ∃ W, W = w.alloc (.cells #[.int .i64 16, .int .i64 a1, .int .i64 a2, .slice A n c] 122) := ⟨_, rfl⟩
  have B0 : Below w.heap.size w W := by rw [hW]; exact (Below.refl _ _).alloc (Nat.le_refl _) _
  have lW : w.heap.size ≤ W.heap.size := B0.size
  have lb : bi < w.heap.size := World.block_lt_of_cell? w _ c0
  have hbs : bs < w.heap.size := World.block_lt_of_cell? w _ d0
  have c0' : W.cell? ⟨bi, oi, none⟩ = some (.int .i64 i0) := by rw [B0.cell lb]; exact c0
  have c1' : W.cell? ⟨bi, oi + 1, none⟩ = some (.int .i64 i1) := by rw [B0.cell lb]; exact c1
  have d0' : W.cell? ⟨bs, os_, none⟩ = some (.int .i64 s0) := by rw [B0.cell hbs]; exact d0
  have p1' : W.cell? ⟨w.heap.size, 1, none⟩ = some (.int .i64 a1) := by rw [hW]; simp [go_sem]
  have HW := Lib.hid hW
  by_cases h : 0 < i1
  · have R := Lib.hid (show (if 0 < i1 then i0 else s0) = i0 from if_pos h)
    have O1 := OI_lit W (i0)
    have B1 : Below w.heap.size w (W.alloc (.cells #[.int .i64 i0] 2)) := B0.alloc lW _
    rw [R.out]
    rw [HW.out] at O1 B1
    have hz : (w.alloc (.cells #[.int .i64 16, .int .i64 a1, .int .i64 a2, .slice A n c] 122)).heap.size = w.heap.size + 1 := by simp
    rw [hz] at O1
    clear hW c0' c1' d0' p1' HW B0 lW W
    go_enter Tryz.func142, Tryz.ntmps142
    go_wp2
    go_ret2
    exact ⟨_, rfl, O1.base (by omega), B1⟩
  · have R := Lib.hid (show (if 0 < i1 then i0 else s0) = s0 from if_neg h)
    have O1 := OI_lit W (s0)
    have B1 : Below w.heap.size w (W.alloc (.cells #[.int .i64 s0] 2)) := B0.alloc lW _
    rw [R.out]
    rw [HW.out] at O1 B1
    have hz : (w.alloc (.cells #[.int .i64 16, .int .i64 a1, .int .i64 a2, .slice A n c] 122)).heap.size = w.heap.size + 1 := by simp
    rw [hz] at O1
    clear hW c0' c1' d0' p1' HW B0 lW W
    go_enter Tryz.func142, Tryz.ntmps142
    go_wp2
    go_ret2
    exact ⟨_, rfl, O1.base (by omega), B1⟩
theorem impl_step17 (a1 a2 : Int) (A : Option Addr) (n c : Nat) (T : Value) (bi oi ci : Nat) (i0 : Int) (bs os_ ns cs : Nat) (s0 : Int) (ss : List Int) (w : World) (c0 : w.cell? ⟨bi, oi, none⟩ = some (.int .i64 i0)) (hs : RI w w.heap.size (some ⟨bs, os_, none⟩) ns (s0 :: ss)) (hns : ns ≤ 16) (hcs : ns ≤ cs) (ha : -2147483648 ≤ a1 ∧ a1 ≤ 2147483647) (hi : -2147483648 ≤ i0 ∧ i0 ≤ 2147483647) (hsb : -2147483648 ≤ s0 ∧ s0 ≤ 2147483647) :
    Calls Tryz.prog 142 #[.agg #[.int .i64 17, .int .i64 a1, .int .i64 a2, .slice A n c], T, .slice (some ⟨bi, oi, none⟩) 1 ci, .slice (some ⟨bs, os_, none⟩) ns cs] w fun e w' => ∃ v, e = .returned (.tuple #[.int .i64 (wrap32 (i0 + a1 * s0)), v]) ∧ OI 2 w.heap.size w' v (ss ++ [wrap32 (i0 + a1 * s0)]) ∧ Below w.heap.size w w' := by
  obtain ⟨W, hW⟩ : ∃ W, W = w.alloc (.cells #[.int .i64 17, .int .i64 a1, .int .i64 a2, .slice A n c] 122) := ⟨_, rfl⟩
  have B0 : Below w.heap.size w W := by rw [hW]; exact (Below.refl _ _).alloc (Nat.le_refl _) _
  have lW : w.heap.size ≤ W.heap.size := B0.size
  have lb : bi < w.heap.size := World.block_lt_of_cell? w _ c0
  have hl := hs.len
  simp only [List.length_cons] at hl
  obtain ⟨bs', os', e, hbs, hcc⟩ := ri_lit hs (by omega)
  simp only [Option.some.injEq, Addr.mk.injEq] at e
  obtain ⟨rfl, rfl, -⟩ := e
  have d0 : w.cell? ⟨bs, os_, none⟩ = some (.int .i64 s0) := hcc 0 s0 rfl
  clear hcc
  have c0' : W.cell? ⟨bi, oi, none⟩ = some (.int .i64 i0) := by rw [B0.cell lb]; exact c0
  have d0' : W.cell? ⟨bs, os_, none⟩ = some (.int .i64 s0) := by rw [B0.cell hbs]; exact d0
  have p1' : W.cell? ⟨w.heap.size, 1, none⟩ = some (.int .i64 a1) := by rw [hW]; simp [go_sem]
  have HW := Lib.hid hW
  have hm : -4611686018427387904 ≤ a1 * s0 ∧ a1 * s0 ≤ 4611686018427387904 := M.wrap64_mul_bd _ _ ha hsb
  have hw3 : wrap64 (a1 * s0) = a1 * s0 := M.wrap64_in _ (by omega)
  have hw4 : wrap64 (i0 + a1 * s0) = i0 + a1 * s0 := M.wrap64_in _ (by omega)
  have ht0 := (hs.tail1 hcs).later B0
  clear hW hs
  obtain ⟨A9, ht0, e9⟩ : ∃ A9, RI W W.heap.size A9 (ns - 1) ss ∧ ((cs = 1 ∧ A9 = some ⟨bs, os_, none⟩) ∨ (¬ cs = 1 ∧ A9 = some ⟨bs, os_ + 1, none⟩)) := by
    by_cases h : cs = 1
    · rw [if_pos h] at ht0
      exact ⟨_, ht0, .inl ⟨h, rfl⟩⟩
    · rw [if_neg h] at ht0
      exact ⟨_, ht0, .inr ⟨h, rfl⟩⟩
  rcases e9 with ⟨h1, rfl⟩ | ⟨h1, rfl⟩
  all_goals
    go_enter Tryz.func142, Tryz.ntmps142
    go_wp2_with fail
    rw [← HW.out]
    go_quiet (exact quiet_left (impl_Wrap _ _))
    have D2 := fun m => below_drewN (Below.refl W.heap.size W) m
    have ht2 := fun m => ht0.later (D2 m)
    clear c0 d0 c0' d0' p1' HW
    go_wp2_with fail
    refine (impl_clone _ _ _ _ _ (ht2 _) (by omega)).mono ?_
    rintro e w1 ⟨v1, rfl, own1, bel1⟩
    have B1 : Below W.heap.size W w1 := (D2 _).trans bel1
    go_wp2_with (at_builtin; refine wpList_push1 ei_i64 rfl _ _ rfl own1 rfl rfl rfl (by unfold maxLen; omega) (by omega) B1.size ?_; intro v2 w2 own2 gr2 bel2)
    go_ret2
    exact ⟨_, rfl, (OI.push own2).base lW, B0.trans ((B1.trans bel2).mono lW)⟩
theorem impl_step_pure (k a1 a2 : Int) (A : Option Addr) (n c : Nat) (T I S : Value) (out : Int) (w : World) (hk : k = 1 ∨ k = 2 ∨ k = 3 ∨ k = 4 ∨ k = 5 ∨ k = 9 ∨ k = 10 ∨ k = 11 ∨ k = 13 ∨ k = 15)
    (hO : ∀ W, Below w.heap.size w W → Calls Tryz.prog 150 #[.agg #[.int .i64 k, .int .i64 a1, .int .i64 a2, .slice A n c], T, I] W fun e w' => e = .returned (.int .i64 out) ∧ Below W.heap.size W w') :
    Calls Tryz.prog 142 #[.agg #[.int .i64 k, .int .i64 a1, .int .i64 a2, .slice A n c], T, I, S] w fun e w' => ∃ v, e = .returned (.tuple #[.int .i64 out, v]) ∧ OI 2 w.heap.size w' v [] ∧ Below w.heap.size w w' := by
  obtain ⟨W, hW⟩ : ∃ W, W = w.alloc (.cells #[.int .i64 k, .int .i64 a1, .int .i64 a2, .slice A n c] 122) := ⟨_, rfl⟩
  have B0 : Below w.heap.size w W := by rw [hW]; exact (Below.refl _ _).alloc (Nat.le_refl _) _
  have HW := Lib.hid hW
  have hO2 := hO W B0
  clear hW hO
  rcases hk with rfl | rfl | rfl | rfl | rfl | rfl | rfl | rfl | rfl | rfl
  all_goals
    go_enter Tryz.func142, Tryz.ntmps142
    go_wp2_with fail
    rw [← HW.out]
    refine hO2.mono ?_
    rintro e w1 ⟨rfl, bel1⟩
    go_wp2_with (go_at_call 57; refine (impl_zeros _ _ (by omega) (by omega)).mono ?_; rintro e w2 ⟨v2, rfl, own2, bel2⟩)
    go_ret2
    exact ⟨_, rfl, own2.base (by have := B0.size; have := bel1.size; omega), bel_trans B0 (bel_trans bel1 bel2)⟩
end Go.Proofs.YtfkcoiefkjmdeaaGreat
namespace Go.Proofs.YtfkcoiefkjmdeaaGreat
open Go.RowKit Go.Sort
set_option maxHeartbeats 2000000
set_option maxRecDepth 100000
set_option linter.unusedVariables false
set_option linter.unusedSimpArgs false
theorem M.node_a {a0 a1 a2 : Int} {xs : List Int} {tb : Int} (h : M.nodeOk (a0, a1, a2, xs) tb = true) :
    (a0 = 5 → -2147483648 ≤ a1 ∧ a1 ≤ 2147483647) ∧ (a0 = 10 → 0 ≤ a1 ∧ a1 ≤ 31) ∧ (a0 = 11 → 0 ≤ a1 ∧ a1 ≤ 2147483647) ∧ (a0 = 13 → 0 ≤ a1 ∧ a1 ≤ 3 ∧ a1 < tb) ∧ (a0 = 17 → -2147483648 ≤ a1 ∧ a1 ≤ 2147483647) ∧ (a0 = 2 → -2147483648 ≤ a1 ∧ a1 ≤ 2147483647) ∧ (a0 = 12 → -2147483648 ≤ a1 ∧ a1 ≤ 2147483647) ∧ (a0 = 14 → -2147483648 ≤ a1 ∧ a1 ≤ 2147483647) ∧ (a0 = 1 → 0 ≤ a1 ∧ a1 ≤ 3) := by
  rw [M.nodeOk] at h
  simp only [Bool.and_eq_true] at h
  have hA := h.2.1.1.1.1
  have hL := h.2.2
  refine ⟨?_, ?_, ?_, ?_, ?_, ?_, ?_, ?_, ?_⟩ <;> rintro rfl <;> simp [M.aI, M.kd, M.kds, M.inn] at hA hL <;> omega
theorem M.node_len {a0 a1 a2 : Int} {xs : List Int} {tb : Int} (h : M.nodeOk (a0, a1, a2, xs) tb = true) : a0 ≠ 1 → xs.length = M.insLen a0 := by
  obtain ⟨hk, -, -⟩ := M.nodeOk_start h
  rw [M.nodeOk] at h
  simp only [Bool.and_eq_true] at h
  have hL := h.2.1.2
  simp only at hk
  rcases M.kind_cases hk with rfl | rfl | rfl | rfl | rfl | rfl | rfl | rfl | rfl | rfl | rfl | rfl | rfl | rfl | rfl | rfl | rfl
  all_goals
    simp [M.kd, M.kds, M.insLen, M.ar, M.ars] at hL ⊢
    try omega
theorem M.tab_len {ts : List (List Int)} (h : M.tabsOk ts = true) {k : Nat} {t : List Int} (ht : ts[k]? = some t) : (1 ≤ t.length ∧ t.length ≤ 16) ∧ t.all M.smp = true ∧ ts.length ≤ 4 := by
  rw [M.tabsOk, Bool.and_eq_true] at h
  have h2 := List.all_eq_true.1 h.1 t (List.mem_of_getElem? ht)
  rw [M.tabOk, Bool.and_eq_true] at h2
  refine ⟨?_, h2.2, of_decide_eq_true h.2⟩
  have := h2.1
  simp at this
  omega
theorem smp_bd {x : Int} (h : M.smp x = true) : -2147483648 ≤ x ∧ x ≤ 2147483647 := M.inn_iff.1 h
theorem smp_nil {xs : List Int} (h : xs.all M.smp = true) {k : Nat} {x : Int} (hx : xs[k]? = some x) : -2147483648 ≤ x ∧ x ≤ 2147483647 := smp_bd (List.all_eq_true.1 h x (List.mem_of_getElem? hx))
theorem cons_of {xs : List Int} (h : 1 ≤ xs.length) : ∃ a zs, xs = a :: zs := by
  match xs, h with
  | a :: zs, _ => exact ⟨a, zs, rfl⟩
theorem impl_step (a0 a1 a2 : Int) (A : Option Addr) (n c : Nat) (xs : List Int) (At : Option Addr) (nt ct : Nat) (tb : List (List Int)) (Ai : Option Addr) (ni ci : Nat) (ins : List Int) (As : Option Addr) (ns cs : Nat) (s : List Int) (w : World) (ht : RS tS w w.heap.size (.slice At nt ct) tb) (htb : M.tabsOk tb = true) (hi : RI w w.heap.size Ai ni ins) (hs : RI w w.heap.size As ns s) (hcs : ns ≤ cs)
    (hok : M.nodeOk (a0, a1, a2, xs) nt = true) (hil : ins.length = M.insLen a0) (hia : ins.all M.smp = true) (hsl : s.length = M.stLen (a0, a1, a2, xs)) (hsa : s.all M.smp = true) :
    Calls Tryz.prog 142 #[.agg #[.int .i64 a0, .int .i64 a1, .int .i64 a2, .slice A n c], .slice At nt ct, .slice Ai ni ci, .slice As ns cs] w fun e w' => ∃ v, e = .returned (.tuple #[.int .i64 (M.nOut (a0, a1, a2, xs) tb ins s), v]) ∧ OI 2 w.heap.size w' v (M.nNext (a0, a1, a2, xs) ins s (M.nOut (a0, a1, a2, xs) tb ins s)) ∧ Below w.heap.size w w' := by
  obtain ⟨hk, h6, h17⟩ := M.nodeOk_start hok
  obtain ⟨hb5, hb10, hb11, hb13, hb17, -⟩ := M.node_a hok
  have hnt : tb.length = nt := ht.cap.1
  simp only at hk h6 h17
  rcases M.kind_cases hk with rfl | rfl | rfl | rfl | rfl | rfl | rfl | rfl | rfl | rfl | rfl | rfl | rfl | rfl | rfl | rfl | rfl
  case inl =>
    obtain ⟨i0, rfl⟩ := len1 (show ins.length = 1 from hil)
    have hn := hi.len
    simp only [List.length_cons, List.length_nil] at hn
    subst hn
    obtain ⟨bi, oi, rfl, hbi, hci⟩ := ri_lit hi (by omega)
    have c0 : w.cell? ⟨bi, oi, none⟩ = some (.int .i64 i0) := hci 0 _ rfl
    have e0 := smp_nil hia (k := 0) (x := i0) rfl
    exact (impl_step_pure _ _ _ _ _ _ _ _ _ _ w (by simp) (fun W hB => impl_out1 _ _ _ _ _ _ _ _ _ _ _ _ W (by rw [hB.cell hbi]; exact c0))).mono fun e w' h => by simpa [M.nOut, M.nNext, M.i_] using h
  case inr.inl =>
    obtain rfl := len0 (show ins.length = 0 from hil)
    have hn := hi.len
    simp only [List.length_nil] at hn
    subst hn
    exact (impl_step_pure _ _ _ _ _ _ _ _ _ _ w (by simp) (fun W hB => impl_out2 _ _ _ _ _ _ _ _ _ _ W)).mono fun e w' h => by simpa [M.nOut, M.nNext, M.i_] using h
  case inr.inr.inl =>
    obtain ⟨i0, i1, rfl⟩ := len2 (show ins.length = 2 from hil)
    have hn := hi.len
    simp only [List.length_cons, List.length_nil] at hn
    subst hn
    obtain ⟨bi, oi, rfl, hbi, hci⟩ := ri_lit hi (by omega)
    have c0 : w.cell? ⟨bi, oi, none⟩ = some (.int .i64 i0) := hci 0 _ rfl
    have c1 : w.cell? ⟨bi, oi + 1, none⟩ = some (.int .i64 i1) := hci 1 _ rfl
    have e0 := smp_nil hia (k := 0) (x := i0) rfl
    have e1 := smp_nil hia (k := 1) (x := i1) rfl
    exact (impl_step_pure _ _ _ _ _ _ _ _ _ _ w (by simp) (fun W hB => impl_out3 _ _ _ _ _ _ _ _ _ _  _ _ _ W (by rw [hB.cell hbi]; exact c0) (by rw [hB.cell hbi]; exact c1) ⟨e0.1, e0.2, e1.1, e1.2⟩)).mono fun e w' h => by simpa [M.nOut, M.nNext, M.i_] using h
  case inr.inr.inr.inl =>
    obtain ⟨i0, i1, rfl⟩ := len2 (show ins.length = 2 from hil)
    have hn := hi.len
    simp only [List.length_cons, List.length_nil] at hn
    subst hn
    obtain ⟨bi, oi, rfl, hbi, hci⟩ := ri_lit hi (by omega)
    have c0 : w.cell? ⟨bi, oi, none⟩ = some (.int .i64 i0) := hci 0 _ rfl
    have c1 : w.cell? ⟨bi, oi + 1, none⟩ = some (.int .i64 i1) := hci 1 _ rfl
    have e0 := smp_nil hia (k := 0) (x := i0) rfl
    have e1 := smp_nil hia (k := 1) (x := i1) rfl
    exact (impl_step_pure _ _ _ _ _ _ _ _ _ _ w (by simp) (fun W hB => impl_out4 _ _ _ _ _ _ _ _ _ _  _ _ _ W (by rw [hB.cell hbi]; exact c0) (by rw [hB.cell hbi]; exact c1) ⟨e0.1, e0.2, e1.1, e1.2⟩)).mono fun e w' h => by simpa [M.nOut, M.nNext, M.i_] using h
  case inr.inr.inr.inr.inl =>
    obtain ⟨i0, rfl⟩ := len1 (show ins.length = 1 from hil)
    have hn := hi.len
    simp only [List.length_cons, List.length_nil] at hn
    subst hn
    obtain ⟨bi, oi, rfl, hbi, hci⟩ := ri_lit hi (by omega)
    have c0 : w.cell? ⟨bi, oi, none⟩ = some (.int .i64 i0) := hci 0 _ rfl
    have e0 := smp_nil hia (k := 0) (x := i0) rfl
    exact (impl_step_pure _ _ _ _ _ _ _ _ _ _ w (by simp) (fun W hB => impl_out5 _ _ _ _ _ _ _ _ _ _ _ _ W (by rw [hB.cell hbi]; exact c0) (hb5 rfl) e0)).mono fun e w' h => by simpa [M.nOut, M.nNext, M.i_] using h
  case inr.inr.inr.inr.inr.inl =>
    obtain ⟨i0, rfl⟩ := len1 (show ins.length = 1 from hil)
    have hn := hi.len
    simp only [List.length_cons, List.length_nil] at hn
    subst hn
    obtain ⟨bi, oi, rfl, hbi, hci⟩ := ri_lit hi (by omega)
    have c0 : w.cell? ⟨bi, oi, none⟩ = some (.int .i64 i0) := hci 0 _ rfl
    have e0 := smp_nil hia (k := 0) (x := i0) rfl
    have hsl2 : s.length = a1.toNat := hsl
    have hsr := h6 rfl
    obtain ⟨s0, ss, rfl⟩ := cons_of (xs := s) (by omega)
    have hm := hs.len
    simp only [List.length_cons] at hm hsl2
    obtain ⟨bs, os_, rfl, hbs, hcs0⟩ := ri_lit hs (by omega)
    have d0 : w.cell? ⟨bs, os_, none⟩ = some (.int .i64 s0) := hcs0 0 _ rfl
    have f0 := smp_nil hsa (k := 0) (x := s0) rfl
    exact (impl_step6 _ _ _ _ _ _ _ _ _ _ _ _ _ _ _ _ w c0 hs (by omega) hcs).mono fun e w' h => by simpa [M.nOut, M.nNext, M.i_] using h
  case inr.inr.inr.inr.inr.inr.inl =>
    obtain ⟨i0, rfl⟩ := len1 (show ins.length = 1 from hil)
    have hn := hi.len
    simp only [List.length_cons, List.length_nil] at hn
    subst hn
    obtain ⟨bi, oi, rfl, hbi, hci⟩ := ri_lit hi (by omega)
    have c0 : w.cell? ⟨bi, oi, none⟩ = some (.int .i64 i0) := hci 0 _ rfl
    have e0 := smp_nil hia (k := 0) (x := i0) rfl
    obtain ⟨s0, rfl⟩ := len1 (show s.length = 1 from hsl)
    have hm := hs.len
    simp only [List.length_cons, List.length_nil] at hm
    obtain ⟨bs, os_, rfl, hbs, hcs0⟩ := ri_lit hs (by omega)
    have d0 : w.cell? ⟨bs, os_, none⟩ = some (.int .i64 s0) := hcs0 0 _ rfl
    have f0 := smp_nil hsa (k := 0) (x := s0) rfl
    exact (impl_step7 _ _ _ _ _ _ _ _ _ _ _ _ _ _ _ w c0 d0 (by omega) e0 f0).mono fun e w' h => by simpa [M.nOut, M.nNext, M.i_] using h
  case inr.inr.inr.inr.inr.inr.inr.inl =>
    obtain ⟨i0, rfl⟩ := len1 (show ins.length = 1 from hil)
    have hn := hi.len
    simp only [List.length_cons, List.length_nil] at hn
    subst hn
    obtain ⟨bi, oi, rfl, hbi, hci⟩ := ri_lit hi (by omega)
    have c0 : w.cell? ⟨bi, oi, none⟩ = some (.int .i64 i0) := hci 0 _ rfl
    have e0 := smp_nil hia (k := 0) (x := i0) rfl
    obtain ⟨s0, rfl⟩ := len1 (show s.length = 1 from hsl)
    have hm := hs.len
    simp only [List.length_cons, List.length_nil] at hm
    obtain ⟨bs, os_, rfl, hbs, hcs0⟩ := ri_lit hs (by omega)
    have d0 : w.cell? ⟨bs, os_, none⟩ = some (.int .i64 s0) := hcs0 0 _ rfl
    have f0 := smp_nil hsa (k := 0) (x := s0) rfl
    exact (impl_step8 _ _ _ _ _ _ _ _ _ _ _ _ _ _ _ w c0 d0 (by omega) e0 f0).mono fun e w' h => by simpa [M.nOut, M.nNext, M.i_] using h
  case inr.inr.inr.inr.inr.inr.inr.inr.inl =>
    obtain ⟨i0, i1, rfl⟩ := len2 (show ins.length = 2 from hil)
    have hn := hi.len
    simp only [List.length_cons, List.length_nil] at hn
    subst hn
    obtain ⟨bi, oi, rfl, hbi, hci⟩ := ri_lit hi (by omega)
    have c0 : w.cell? ⟨bi, oi, none⟩ = some (.int .i64 i0) := hci 0 _ rfl
    have c1 : w.cell? ⟨bi, oi + 1, none⟩ = some (.int .i64 i1) := hci 1 _ rfl
    have e0 := smp_nil hia (k := 0) (x := i0) rfl
    have e1 := smp_nil hia (k := 1) (x := i1) rfl
    exact (impl_step_pure _ _ _ _ _ _ _ _ _ _ w (by simp) (fun W hB => impl_out9 _ _ _ _ _ _ _ _ _ _  _ _ _ W (by rw [hB.cell hbi]; exact c0) (by rw [hB.cell hbi]; exact c1) ⟨e0.1, e0.2, e1.1, e1.2⟩)).mono fun e w' h => by simpa [M.nOut, M.nNext, M.i_] using h
  case inr.inr.inr.inr.inr.inr.inr.inr.inr.inl =>
    obtain ⟨i0, rfl⟩ := len1 (show ins.length = 1 from hil)
    have hn := hi.len
    simp only [List.length_cons, List.length_nil] at hn
    subst hn
    obtain ⟨bi, oi, rfl, hbi, hci⟩ := ri_lit hi (by omega)
    have c0 : w.cell? ⟨bi, oi, none⟩ = some (.int .i64 i0) := hci 0 _ rfl
    have e0 := smp_nil hia (k := 0) (x := i0) rfl
    exact (impl_step_pure _ _ _ _ _ _ _ _ _ _ w (by simp) (fun W hB => impl_out10 _ _ _ _ _ _ _ _ _ _ _ _ W (by rw [hB.cell hbi]; exact c0) (hb10 rfl) e0)).mono fun e w' h => by simpa [M.nOut, M.nNext, M.i_] using h
  case inr.inr.inr.inr.inr.inr.inr.inr.inr.inr.inl =>
    obtain ⟨i0, rfl⟩ := len1 (show ins.length = 1 from hil)
    have hn := hi.len
    simp only [List.length_cons, List.length_nil] at hn
    subst hn
    obtain ⟨bi, oi, rfl, hbi, hci⟩ := ri_lit hi (by omega)
    have c0 : w.cell? ⟨bi, oi, none⟩ = some (.int .i64 i0) := hci 0 _ rfl
    have e0 := smp_nil hia (k := 0) (x := i0) rfl
    exact (impl_step_pure _ _ _ _ _ _ _ _ _ _ w (by simp) (fun W hB => impl_out11 _ _ _ _ _ _ _ _ _ _ _ _ W (by rw [hB.cell hbi]; exact c0) (hb11 rfl) e0)).mono fun e w' h => by simpa [M.nOut, M.nNext, M.i_] using h
  case inr.inr.inr.inr.inr.inr.inr.inr.inr.inr.inr.inl =>
    obtain ⟨i0, rfl⟩ := len1 (show ins.length = 1 from hil)
    have hn := hi.len
    simp only [List.length_cons, List.length_nil] at hn
    subst hn
    obtain ⟨bi, oi, rfl, hbi, hci⟩ := ri_lit hi (by omega)
    have c0 : w.cell? ⟨bi, oi, none⟩ = some (.int .i64 i0) := hci 0 _ rfl
    have e0 := smp_nil hia (k := 0) (x := i0) rfl
    obtain ⟨s0, rfl⟩ := len1 (show s.length = 1 from hsl)
    have hm := hs.len
    simp only [List.length_cons, List.length_nil] at hm
    obtain ⟨bs, os_, rfl, hbs, hcs0⟩ := ri_lit hs (by omega)
    have d0 : w.cell? ⟨bs, os_, none⟩ = some (.int .i64 s0) := hcs0 0 _ rfl
    have f0 := smp_nil hsa (k := 0) (x := s0) rfl
    exact (impl_step12 _ _ _ _ _ _ _ _ _ _ _ _ _ _ _ w c0 d0 (by omega) e0 f0).mono fun e w' h => by simpa [M.nOut, M.nNext, M.i_] using h
  case inr.inr.inr.inr.inr.inr.inr.inr.inr.inr.inr.inr.inl =>
    obtain ⟨i0, rfl⟩ := len1 (show ins.length = 1 from hil)
    have hn := hi.len
    simp only [List.length_cons, List.length_nil] at hn
    subst hn
    obtain ⟨bi, oi, rfl, hbi, hci⟩ := ri_lit hi (by omega)
    have c0 : w.cell? ⟨bi, oi, none⟩ = some (.int .i64 i0) := hci 0 _ rfl
    have e0 := smp_nil hia (k := 0) (x := i0) rfl
    have h13 := hb13 rfl
    obtain ⟨j, rfl⟩ : ∃ j : Nat, a1 = (j : Int) := ⟨a1.toNat, by omega⟩
    have hjn : j < nt := by omega
    obtain ⟨bt, ot, A1, c1, t, rfl, hbt, X, hct, hrt, -⟩ := src_cell ht (Lib.hid (fun x hx => by obtain ⟨k, hk⟩ := List.getElem?_of_mem hx; have := (M.tab_len htb hk).1; omega)) hjn
    obtain ⟨htl, -, ht4⟩ := M.tab_len htb X.out
    have hcel : M.cel tb j = t := by rw [M.cel, X.out]; rfl
    exact (impl_step_pure _ _ _ _ _ _ _ _ _ _ w (by simp) (fun W hB => impl_out13 _ _ _ _ _ _ _ _ _ _ _ _ _ _ _ _ _ t W (by rw [hB.cell hbi]; exact c0) ⟨rfl, by omega, by omega⟩ (by rw [hB.cell hbt]; exact hct) (hrt.later hB) htl)).mono fun e w' h => by simpa [M.nOut, M.nNext, M.i_, hcel] using h
  case inr.inr.inr.inr.inr.inr.inr.inr.inr.inr.inr.inr.inr.inl =>
    obtain rfl := len0 (show ins.length = 0 from hil)
    have hn := hi.len
    simp only [List.length_nil] at hn
    subst hn
    obtain ⟨s0, rfl⟩ := len1 (show s.length = 1 from hsl)
    have hm := hs.len
    simp only [List.length_cons, List.length_nil] at hm
    obtain ⟨bs, os_, rfl, hbs, hcs0⟩ := ri_lit hs (by omega)
    have d0 : w.cell? ⟨bs, os_, none⟩ = some (.int .i64 s0) := hcs0 0 _ rfl
    have f0 := smp_nil hsa (k := 0) (x := s0) rfl
    exact (impl_step14 _ _ _ _ _ _ _ _ _ _ _ _ _ w d0 (by omega) f0).mono fun e w' h => by simpa [M.nOut, M.nNext, M.i_] using h
  case inr.inr.inr.inr.inr.inr.inr.inr.inr.inr.inr.inr.inr.inr.inl =>
    obtain ⟨i0, i1, i2, rfl⟩ := len3 (show ins.length = 3 from hil)
    have hn := hi.len
    simp only [List.length_cons, List.length_nil] at hn
    subst hn
    obtain ⟨bi, oi, rfl, hbi, hci⟩ := ri_lit hi (by omega)
    have c0 : w.cell? ⟨bi, oi, none⟩ = some (.int .i64 i0) := hci 0 _ rfl
    have c1 : w.cell? ⟨bi, oi + 1, none⟩ = some (.int .i64 i1) := hci 1 _ rfl
    have c2 : w.cell? ⟨bi, oi + 2, none⟩ = some (.int .i64 i2) := hci 2 _ rfl
    have e0 := smp_nil hia (k := 0) (x := i0) rfl
    have e1 := smp_nil hia (k := 1) (x := i1) rfl
    have e2 := smp_nil hia (k := 2) (x := i2) rfl
    exact (impl_step_pure _ _ _ _ _ _ _ _ _ _ w (by simp) (fun W hB => impl_out15 _ _ _ _ _ _ _ _ _ _ _  _ _ _ W (by rw [hB.cell hbi]; exact c0) (by rw [hB.cell hbi]; exact c1) (by rw [hB.cell hbi]; exact c2) ⟨e0.1, e0.2, e1.1, e1.2, e2.1, e2.2⟩)).mono fun e w' h => by simpa [M.nOut, M.nNext, M.i_] using h
  case inr.inr.inr.inr.inr.inr.inr.inr.inr.inr.inr.inr.inr.inr.inr.inl =>
    obtain ⟨i0, i1, rfl⟩ := len2 (show ins.length = 2 from hil)
    have hn := hi.len
    simp only [List.length_cons, List.length_nil] at hn
    subst hn
    obtain ⟨bi, oi, rfl, hbi, hci⟩ := ri_lit hi (by omega)
    have c0 : w.cell? ⟨bi, oi, none⟩ = some (.int .i64 i0) := hci 0 _ rfl
    have c1 : w.cell? ⟨bi, oi + 1, none⟩ = some (.int .i64 i1) := hci 1 _ rfl
    have e0 := smp_nil hia (k := 0) (x := i0) rfl
    have e1 := smp_nil hia (k := 1) (x := i1) rfl
    obtain ⟨s0, rfl⟩ := len1 (show s.length = 1 from hsl)
    have hm := hs.len
    simp only [List.length_cons, List.length_nil] at hm
    obtain ⟨bs, os_, rfl, hbs, hcs0⟩ := ri_lit hs (by omega)
    have d0 : w.cell? ⟨bs, os_, none⟩ = some (.int .i64 s0) := hcs0 0 _ rfl
    have f0 := smp_nil hsa (k := 0) (x := s0) rfl
    exact (impl_step16 _ _ _ _ _ _ _ _ _ _ _ _ _ _ _ _ w c0 c1 d0 (by omega) ⟨e0.1, e0.2, e1.1, e1.2⟩ f0).mono fun e w' h => by simpa [M.nOut, M.nNext, M.i_] using h
  case inr.inr.inr.inr.inr.inr.inr.inr.inr.inr.inr.inr.inr.inr.inr.inr =>
    obtain ⟨i0, rfl⟩ := len1 (show ins.length = 1 from hil)
    have hn := hi.len
    simp only [List.length_cons, List.length_nil] at hn
    subst hn
    obtain ⟨bi, oi, rfl, hbi, hci⟩ := ri_lit hi (by omega)
    have c0 : w.cell? ⟨bi, oi, none⟩ = some (.int .i64 i0) := hci 0 _ rfl
    have e0 := smp_nil hia (k := 0) (x := i0) rfl
    have hsl2 : s.length = a2.toNat := hsl
    have hsr := h17 rfl
    obtain ⟨s0, ss, rfl⟩ := cons_of (xs := s) (by omega)
    have hm := hs.len
    simp only [List.length_cons] at hm hsl2
    obtain ⟨bs, os_, rfl, hbs, hcs0⟩ := ri_lit hs (by omega)
    have d0 : w.cell? ⟨bs, os_, none⟩ = some (.int .i64 s0) := hcs0 0 _ rfl
    have f0 := smp_nil hsa (k := 0) (x := s0) rfl
    exact (impl_step17 _ _ _ _ _ _ _ _ _ _ _ _ _ _ _ _ w c0 hs (by omega) hcs (hb17 rfl) e0 f0).mono fun e w' h => by simpa [M.nOut, M.nNext, M.i_] using h
end Go.Proofs.YtfkcoiefkjmdeaaGreat
namespace Go.Proofs.YtfkcoiefkjmdeaaGreat
open Go.RowKit Go.Sort
set_option maxHeartbeats 4000000
set_option linter.unusedVariables false
set_option linter.unusedSimpArgs false
/-- What is known of the nodes of a patch with one input, and of its order. -/
structure M.PF (ns : List Node) (tb : List (List Int)) (O : List Int) : Prop where
  tabs : M.tabsOk tb = true
  ok : ∀ (i : Nat) (x : Node), ns[i]? = some x → M.nodeOk x tb.length = true
  fr : ∀ (i : Nat) (x : Node), ns[i]? = some x → ∀ f ∈ x.2.2.2, 0 ≤ f ∧ f < ns.length
  inp : ∀ (i : Nat) (x : Node), ns[i]? = some x → x.1 = 1 → x.2.1 = 0
  top : M.Topo ns O
  len : ns.length ≤ 24
/-- The cells of a patch's nodes. -/
structure M.CO (ns : List Node) (cs : List (List Int)) : Prop where
  len : cs.length = ns.length
  at_ : ∀ (i : Nat) (x : Node), ns[i]? = some x → (M.cel cs i).length = M.stLen x ∧ (M.cel cs i).all M.smp = true
theorem M.node_at {ns : List Node} {i : Nat} {x : Node} (h : ns[i]? = some x) : M.node ns i = x := by rw [M.node, h]; rfl
theorem M.node_lt {ns : List Node} {i : Nat} (h : i < ns.length) : ns[i]? = some (M.node ns i) := by rw [M.node, List.getElem?_eq_getElem h]; rfl
theorem M.i_smp {xs : List Int} (h : xs.all M.smp = true) (k : Nat) : M.smp (M.i_ xs k) = true := by
  rw [M.i_]
  cases e : xs[k]? with
  | none => rfl
  | some x => exact List.all_eq_true.1 h x (List.mem_of_getElem? e)
theorem M.set_smp {xs : List Int} (h : xs.all M.smp = true) (k : Nat) {y : Int} (hy : M.smp y = true) : (xs.set k y).all M.smp = true := by
  rw [List.all_eq_true] at *
  intro z hz
  rcases List.mem_or_eq_of_mem_set hz with h1 | rfl
  · exact h z h1
  · exact hy
theorem M.insN_len {x : Node} {tb : Int} (h : M.nodeOk x tb = true) (fr vs : List Int) : (M.insN x fr vs).length = M.insLen x.1 := by
  obtain ⟨k, a, b, l⟩ := x
  rw [M.insN]
  split
  · rename_i h1
    rw [M.insLen, if_pos h1]; rfl
  · rename_i h1
    rw [List.length_map]
    exact M.node_len h h1
theorem M.insN_smp {x : Node} {fr vs : List Int} (hf : fr.all M.smp = true) (hv : vs.all M.smp = true) : (M.insN x fr vs).all M.smp = true := by
  rw [M.insN]
  split
  · simp only [List.all_cons, List.all_nil, Bool.and_true]
    exact M.i_smp hf _
  · rw [List.all_map, List.all_eq_true]
    intro f _
    exact M.i_smp hv _
theorem M.smp_shift {x : Int} (h : M.smp x = true) (n : Nat) : M.smp (x / 2 ^ n) = true := by
  obtain ⟨h1, h2⟩ := smp_bd h
  have hp0 : (0 : Int) < 2 ^ n := Int.pow_pos (by decide)
  have hp : (1 : Int) ≤ 2 ^ n := by omega
  refine M.inn_iff.2 ⟨?_, ?_⟩
  · rw [Int.le_ediv_iff_mul_le (by omega)]
    have : (-2147483648 : Int) * 2 ^ n ≤ (-2147483648 : Int) * 1 := Int.mul_le_mul_of_nonpos_left (by decide) hp
    omega
  · rcases Int.lt_or_le x 0 with h0 | h0
    · have := Int.ediv_neg_of_neg_of_pos h0 (show (0 : Int) < 2 ^ n by omega)
      omega
    · have := Int.ediv_le_self (2 ^ n) h0
      omega
theorem M.look_smp {t : List Int} (h : t.all M.smp = true) (x : Int) : M.smp (M.look t x) = true := M.i_smp h _
theorem M.noise_smp (s : Int) : M.smp (M.noise s) = true := by
  rw [M.noise]
  split <;> exact M.smp_wrap _
theorem M.cel_all {tb : List (List Int)} (h : M.tabsOk tb = true) (k : Nat) : (M.cel tb k).all M.smp = true := by
  rw [M.cel]
  cases e : tb[k]? with
  | none => rfl
  | some t => exact (M.tab_len h e).2.1
theorem M.smp_maxmin {a x : Int} (h : 0 ≤ a ∧ a ≤ 2147483647) : M.smp (max (-a) (min a x)) = true := by
  refine M.inn_iff.2 ?_
  omega
theorem M.nOut_smp {x : Node} {tb : List (List Int)} {ins s : List Int} {t : Int} (hok : M.nodeOk x t = true) (ht : M.tabsOk tb = true) (hi : ins.all M.smp = true) (hs : s.all M.smp = true) : M.smp (M.nOut x tb ins s) = true := by
  obtain ⟨k, a, b, l⟩ := x
  obtain ⟨hb5, hb10, hb11, hb13, hb17, hb2, hb12, hb14, hb1⟩ := M.node_a hok
  have e0 := M.i_smp hi 0
  have e1 := M.i_smp hi 1
  have e2 := M.i_smp hi 2
  have f0 := M.i_smp hs 0
  have g2 : k = 2 → M.smp a = true := fun h => M.inn_iff.2 (hb2 h)
  obtain ⟨hk, -, -⟩ := M.nodeOk_start hok
  simp only at hk
  rcases M.kind_cases hk with rfl | rfl | rfl | rfl | rfl | rfl | rfl | rfl | rfl | rfl | rfl | rfl | rfl | rfl | rfl | rfl | rfl
  · simpa [M.nOut] using e0
  · simpa [M.nOut] using g2 rfl
  · simpa [M.nOut] using M.smp_wrap _
  · simpa [M.nOut] using M.smp_wrap _
  · simpa [M.nOut] using M.smp_wrap _
  · simpa [M.nOut] using f0
  · simpa [M.nOut] using M.smp_wrap _
  · simpa [M.nOut] using M.smp_wrap _
  · simpa [M.nOut] using M.smp_wrap _
  · have := M.smp_shift e0 a.toNat
    simpa [M.nOut] using this
  · have := M.smp_maxmin (x := M.i_ ins 0) (hb11 rfl)
    simpa [M.nOut] using this
  · simpa [M.nOut] using f0
  · have := M.look_smp (M.cel_all ht a.toNat) (M.i_ ins 0)
    simpa [M.nOut] using this
  · simpa [M.nOut] using f0
  · have : M.nOut (15, a, b, l) tb ins s = if 0 ≤ M.i_ ins 0 then M.i_ ins 1 else M.i_ ins 2 := by simp [M.nOut]
    rw [this]
    split
    · exact e1
    · exact e2
  · have : M.nOut (16, a, b, l) tb ins s = if 0 < M.i_ ins 1 then M.i_ ins 0 else M.i_ s 0 := by simp [M.nOut]
    rw [this]
    split
    · exact e0
    · exact f0
  · simpa [M.nOut] using M.smp_wrap _
theorem M.nNext_ok {x : Node} {ins s : List Int} {t out : Int} (hok : M.nodeOk x t = true) (hl : s.length = M.stLen x) (hi : ins.all M.smp = true) (hs : s.all M.smp = true) (ho : M.smp out = true) : (M.nNext x ins s out).length = M.stLen x ∧ (M.nNext x ins s out).all M.smp = true := by
  obtain ⟨k, a, b, l⟩ := x
  obtain ⟨hk, h6, h17⟩ := M.nodeOk_start hok
  have e0 := M.i_smp hi 0
  have hd : ∀ y, M.smp y = true → (s.drop 1 ++ [y]).all M.smp = true := by
    intro y hy
    rw [List.all_append]
    simp only [List.all_cons, List.all_nil, Bool.and_true, Bool.and_eq_true]
    refine ⟨?_, hy⟩
    rw [List.all_eq_true] at hs ⊢
    exact fun z hz => hs z (List.mem_of_mem_drop hz)
  simp only at hk h6 h17
  rcases M.kind_cases hk with rfl | rfl | rfl | rfl | rfl | rfl | rfl | rfl | rfl | rfl | rfl | rfl | rfl | rfl | rfl | rfl | rfl
  case inr.inr.inr.inr.inr.inl =>
    have := h6 rfl
    simp only [M.stLen, if_true] at hl
    refine ⟨?_, by simpa [M.nNext] using hd _ e0⟩
    simp [M.nNext, M.stLen]
    omega
  case inr.inr.inr.inr.inr.inr.inr.inr.inr.inr.inr.inr.inr.inr.inr.inr =>
    have := h17 rfl
    have hl2 : s.length = b.toNat := by rw [hl]; simp [M.stLen]
    refine ⟨?_, by simpa [M.nNext] using hd _ ho⟩
    simp [M.nNext, M.stLen]
    omega
  all_goals
    refine ⟨by simp [M.nNext, M.stLen], ?_⟩
    first
      | (simp [M.nNext]; done)
      | (simpa [M.nNext] using ho)
      | (simpa [M.nNext] using e0)
      | (simpa [M.nNext] using M.smp_wrap _)
      | (simpa [M.nNext] using M.noise_smp _)
theorem M.start_ok {x : Node} {t : Int} (hok : M.nodeOk x t = true) : (M.start x).length = M.stLen x ∧ (M.start x).all M.smp = true := by
  obtain ⟨k, a, b, l⟩ := x
  obtain ⟨-, -, -, -, -, -, hb12, hb14, -⟩ := M.node_a hok
  rw [M.start]
  dsimp only
  split
  · rename_i h
    subst h
    have g : M.smp a = true := M.inn_iff.2 (hb12 rfl)
    exact ⟨by simp [M.stLen], by simpa using g⟩
  split
  · rename_i h
    subst h
    have g : M.smp a = true := M.inn_iff.2 (hb14 rfl)
    exact ⟨by simp [M.stLen], by simpa using g⟩
  · refine ⟨List.length_replicate, ?_⟩
    rw [List.all_eq_true]
    intro z hz
    rw [List.eq_of_mem_replicate hz]
    rfl
section
variable {ns : List Node} {tb : List (List Int)} {fr O : List Int}
theorem M.CO.set {cs : List (List Int)} (h : M.CO ns cs) {k : Nat} {y : List Int} (hy : ∀ x, ns[k]? = some x → y.length = M.stLen x ∧ y.all M.smp = true) : M.CO ns (cs.set k y) := by
  refine ⟨by rw [List.length_set]; exact h.len, fun i x hx => ?_⟩
  by_cases hk : k = i
  · subst hk
    rw [M.cel_set_eq (by rw [h.len]; exact (List.getElem?_eq_some_iff.1 hx).1)]
    exact hy x hx
  · rw [M.cel_set_ne hk]
    exact h.at_ i x hx
theorem M.CO.start (hp : M.PF ns tb O) : M.CO ns (ns.map M.start) := by
  refine ⟨List.length_map .., fun i x hx => ?_⟩
  have : M.cel (ns.map M.start) i = M.start x := by simp [M.cel, hx]
  rw [this]
  exact M.start_ok (hp.ok i x hx)
theorem M.PF.ord (hp : M.PF ns tb O) {t : Nat} (ht : t < O.length) : ∃ x, ns[M.ordI O t]? = some x ∧ M.node ns (M.ordI O t) = x ∧ M.i_ O t = (M.ordI O t : Nat) ∧ M.ordI O t < ns.length := by
  have hr := hp.top.rng t ht
  have hi : M.ordI O t < ns.length := by show (M.i_ O t).toNat < _; omega
  exact ⟨_, M.node_lt hi, rfl, by show _ = (((M.i_ O t).toNat : Nat) : Int); omega, hi⟩
theorem M.valN_smp (hp : M.PF ns tb O) (hf : fr.all M.smp = true) {cs : List (List Int)} (hc : M.CO ns cs) {v0 : List Int} (hv : v0.all M.smp = true) : ∀ t, t ≤ O.length → (M.valN ns tb fr O cs v0 t).all M.smp = true := by
  intro t
  induction t with
  | zero => exact fun _ => hv
  | succ t ih =>
    intro ht
    obtain ⟨x, hx, e, -, hi⟩ := hp.ord (t := t) (by omega)
    rw [M.valN, e]
    have hok := hp.ok _ _ hx
    exact M.set_smp (ih (by omega)) _ (M.nOut_smp hok hp.tabs (M.insN_smp hf (ih (by omega))) (hc.at_ _ _ hx).2)
theorem M.runN_ok (hp : M.PF ns tb O) (hf : fr.all M.smp = true) {c0 : List (List Int)} (hc : M.CO ns c0) {v0 : List Int} (hv : v0.all M.smp = true) : ∀ t, t ≤ O.length → (M.runN ns tb fr O v0 c0 t).1.all M.smp = true ∧ M.CO ns (M.runN ns tb fr O v0 c0 t).2 := by
  intro t
  induction t with
  | zero => exact fun _ => ⟨hv, hc⟩
  | succ t ih =>
    intro ht
    obtain ⟨x, hx, e, -, hi⟩ := hp.ord (t := t) (by omega)
    obtain ⟨i1, i2⟩ := ih (by omega)
    have hok := hp.ok _ _ hx
    have hcx := i2.at_ _ _ hx
    have ho := M.nOut_smp (tb := tb) hok hp.tabs (M.insN_smp (x := x) hf i1) hcx.2
    rw [M.runN, e]
    split
    · exact ⟨M.set_smp i1 _ (M.i_smp hcx.2 _), i2⟩
    · refine ⟨M.set_smp i1 _ ho, i2.set fun y hy => ?_⟩
      rw [hx] at hy
      injection hy with hy
      subst hy
      exact M.nNext_ok hok hcx.1 (M.insN_smp hf i1) hcx.2 ho
theorem M.delN_ok (hp : M.PF ns tb O) (hf : fr.all M.smp = true) {c1 : List (List Int)} (hc : M.CO ns c1) {vs : List Int} (hv : vs.all M.smp = true) : ∀ t, t ≤ ns.length → M.CO ns (M.delN ns fr vs c1 t) := by
  intro t
  induction t with
  | zero => exact fun _ => hc
  | succ t ih =>
    intro ht
    have hx := M.node_lt (ns := ns) (i := t) (by omega)
    have i2 := ih (by omega)
    have hcx := i2.at_ _ _ hx
    rw [M.delN]
    split
    · refine i2.set fun y hy => ?_
      rw [hx] at hy
      injection hy with hy
      subst hy
      exact M.nNext_ok (hp.ok _ _ hx) hcx.1 (M.insN_smp hf hv) hcx.2 rfl
    · exact i2
theorem M.vals_smp (hp : M.PF ns tb O) (hf : fr.all M.smp = true) {cs : List (List Int)} (hc : M.CO ns cs) : (M.vals ns tb fr O cs).all M.smp = true := by
  refine M.valN_smp hp hf hc ?_ _ (Nat.le_refl _)
  rw [List.all_eq_true]
  intro z hz
  rw [List.eq_of_mem_replicate hz]
  rfl
theorem M.next_ok (hp : M.PF ns tb O) (hf : fr.all M.smp = true) {cs : List (List Int)} (hc : M.CO ns cs) : M.CO ns (M.next_ ns tb fr O cs) := by
  refine ⟨by rw [M.next_, List.length_map, List.length_range], fun i x hx => ?_⟩
  have hi := (List.getElem?_eq_some_iff.1 hx).1
  have hn : M.cel (M.next_ ns tb fr O cs) i = M.nNext (M.node ns i) (M.insN (M.node ns i) fr (M.vals ns tb fr O cs)) (M.cel cs i) (M.i_ (M.vals ns tb fr O cs) i) := by simp [M.next_, M.cel, hi]
  rw [hn, M.node_at hx]
  have hv := M.vals_smp (fr := fr) hp hf hc
  exact M.nNext_ok (hp.ok _ _ hx) (hc.at_ _ _ hx).1 (M.insN_smp hf hv) (hc.at_ _ _ hx).2 (M.i_smp hv _)
end
/-- The cells behind t frames of a signal. -/
def M.celsN (ns : List Node) (tb : List (List Int)) (O xs : List Int) : Nat → List (List Int)
  | 0 => ns.map M.start
  | t + 1 => M.next_ ns tb [M.at_ xs (t : Int)] O (M.celsN ns tb O xs t)
/-- The values of all nodes in frame t. -/
def M.valsN (ns : List Node) (tb : List (List Int)) (O xs : List Int) (t : Nat) : List Int := M.vals ns tb [M.at_ xs (t : Int)] O (M.celsN ns tb O xs t)
/-- A patch with one input and one output, rendered. -/
def M.playO (ns : List Node) (tb : List (List Int)) (O xs : List Int) (o : Int) (n : Nat) : List Int := (List.range n).map fun t => M.i_ (M.valsN ns tb O xs t) o.toNat
def M.play (p : Patch) (xs : List Int) (n : Nat) : List Int := M.playO p.2.2.1 p.2.1 (M.ord p.2.2.1) xs (M.i_ p.2.2.2 0) n
theorem M.playO_len (ns : List Node) (tb : List (List Int)) (O xs : List Int) (o : Int) (n : Nat) : (M.playO ns tb O xs o n).length = n := by simp [M.playO]
theorem M.playO_snoc (ns : List Node) (tb : List (List Int)) (O xs : List Int) (o : Int) (k : Nat) : M.playO ns tb O xs o (k + 1) = M.playO ns tb O xs o k ++ [M.i_ (M.valsN ns tb O xs k) o.toNat] := by simp [M.playO, List.range_succ]
theorem M.at_smp {xs : List Int} (h : xs.all M.smp = true) (i : Int) : M.smp (M.at_ xs i) = true := by
  rw [M.at_]
  split
  · exact M.i_smp h _
  · rfl
section
variable {ns : List Node} {tb : List (List Int)} {O xs : List Int}
theorem M.one_smp (h : xs.all M.smp = true) (t : Int) : [M.at_ xs t].all M.smp = true := by
  simp only [List.all_cons, List.all_nil, Bool.and_true]
  exact M.at_smp h t
theorem M.celsN_ok (hp : M.PF ns tb O) (h : xs.all M.smp = true) : ∀ t, M.CO ns (M.celsN ns tb O xs t) := by
  intro t
  induction t with
  | zero => exact M.CO.start hp
  | succ t ih => exact M.next_ok hp (M.one_smp h _) ih
theorem M.valsN_smp (hp : M.PF ns tb O) (h : xs.all M.smp = true) (t : Nat) : (M.valsN ns tb O xs t).all M.smp = true := M.vals_smp hp (M.one_smp h _) (M.celsN_ok hp h t)
theorem M.playO_smp (hp : M.PF ns tb O) (h : xs.all M.smp = true) (o : Int) (n : Nat) : (M.playO ns tb O xs o n).all M.smp = true := by
  rw [M.playO, List.all_map, List.all_eq_true]
  intro t _
  exact M.i_smp (M.valsN_smp hp h t) _
end
theorem M.PF_of {p : Patch} (h : M.patchOk p = true) (h1 : p.1 = 1) : M.PF p.2.2.1 p.2.1 (M.ord p.2.2.1) := by
  rw [M.patchOk, Bool.and_eq_true, decide_eq_true_eq] at h
  obtain ⟨hf, ho⟩ := h
  rw [M.formed] at hf
  simp only [Bool.and_eq_true, decide_eq_true_eq] at hf
  obtain ⟨⟨⟨⟨⟨g0, g1⟩, g2⟩, g3⟩, g4⟩, g5⟩ := hf
  have key : ∀ i x, p.2.2.1[i]? = some x → M.nodeF p.2.1.length p.2.2.1.length p.1 x = true := fun i x hx => List.all_eq_true.1 g5 x (List.mem_of_getElem? hx)
  refine ⟨g1, fun i x hx => ?_, fun i x hx f hf => ?_, fun i x hx he => ?_, M.topo ho, g2⟩
  · have := key i x hx
    rw [M.nodeF, Bool.and_eq_true, Bool.and_eq_true] at this
    exact this.1.1
  · have := key i x hx
    rw [M.nodeF, Bool.and_eq_true, Bool.and_eq_true] at this
    have := M.inn_iff.1 (List.all_eq_true.1 this.1.2 f hf)
    omega
  · have := key i x hx
    rw [M.nodeF, Bool.and_eq_true, Bool.and_eq_true] at this
    have h2 := this.2
    have h3 := this.1.1
    obtain ⟨k, a, b, l⟩ := x
    simp only at he
    subst he
    have h4 := (M.node_a h3).2.2.2.2.2.2.2.2 rfl
    simp [h1] at h2
    show a = 0
    omega
theorem M.outs_of {p : Patch} (h : M.patchOk p = true) : ∀ o ∈ p.2.2.2, 0 ≤ o ∧ o < p.2.2.1.length := by
  intro o ho
  rw [M.patchOk, Bool.and_eq_true, M.formed] at h
  have h := h.1
  simp only [Bool.and_eq_true, decide_eq_true_eq] at h
  have := M.inn_iff.1 (List.all_eq_true.1 h.1.2 o ho)
  omega
end Go.Proofs.YtfkcoiefkjmdeaaGreat
namespace Go.Proofs.YtfkcoiefkjmdeaaGreat
open Go.RowKit Go.Sort
set_option maxHeartbeats 2000000
set_option linter.unusedVariables false
set_option linter.unusedSimpArgs false
section
variable {F F' : Nat → Prop} {w w' : World} {A : Option Addr} {n g k c : Nat} {xs : List Int} {e : TypeId} {base : Nat} {v : Value} {cs : List (List Int)}
/-- A list that reads, not in blocks of F. -/
def RN (F : Nat → Prop) (w : World) (A : Option Addr) (n : Nat) (xs : List Int) : Prop := RI w w.heap.size A n xs ∧ ∀ ad, 0 < n → A = some ad → ¬ F ad.block
theorem RN.chg (h : RN F w A n xs) (hc : Chg F w w') : RN F w' A n xs := by
  refine ⟨⟨h.1.1, fun hn => ?_⟩, h.2⟩
  obtain ⟨ad, e, hb, hk⟩ := h.1.2 hn
  refine ⟨ad, e, Nat.lt_of_lt_of_le hb hc.size, fun j u hu => ?_⟩
  have h2 := h.2 ad hn e
  rw [World.cell?_of_block (hc.block (ad.add j).block (by rw [block_of_add]; exact hb) (by rw [block_of_add]; exact h2))]
  exact hk j u hu
theorem RN.sub (h : RN F w A n xs) (hf : ∀ k, F' k → F k) : RN F' w A n xs := ⟨h.1, fun ad hn e hF => h.2 ad hn e (hf _ hF)⟩
theorem RN.below (h : RN F w A n xs) (hb : Below w.heap.size w w') : RN F w' A n xs := h.chg (Chg.of_below hb F)
theorem RN.of_ri {B : Nat} (h : RI w B A n xs) (hB : B ≤ w.heap.size) (hF : ∀ k, F k → B ≤ k) : RN F w A n xs := by
  refine ⟨h.more hB, fun ad hn e hf => ?_⟩
  obtain ⟨ad', e', hb, _⟩ := h.2 hn
  rw [e] at e'
  injection e' with e'
  subst e'
  have := hF _ hf
  omega
theorem RN.of_oi {B : Nat} (h : OI e B w (.slice A n c) xs) (hF : ∀ k, F k → k < B) : RN F w A n xs := by
  have hl : xs.length = n := by
    rcases h.2 with ⟨h0, h1⟩ | ⟨g, cap, cur, h0, _⟩
    · simp only [Value.slice.injEq] at h0
      rw [h0.2.1]; exact h1
    · simp only [Value.slice.injEq] at h0
      exact h0.2.1.symm
  subst hl
  refine ⟨h.ri, fun ad hn e hf => ?_⟩
  obtain ⟨g, hA, hB, hg⟩ := h.form' hn
  rw [e] at hA
  injection hA with hA
  subst hA
  have := hF _ hf
  simp only at this
  omega
/-- What is read of a list, an element. -/
theorem RN.at (h : RN F w A n xs) {k : Nat} (hk : k < n) : ∃ b o x, A = some ⟨b, o, none⟩ ∧ b < w.heap.size ∧ ¬ F b ∧ xs[k]? = some x ∧ w.cell? ⟨b, o + k, none⟩ = some (.int .i64 x) := by
  obtain ⟨b, o, rfl, hb, hc⟩ := ri_lit h.1 (by omega)
  have hl : k < xs.length := by rw [h.1.len]; exact hk
  exact ⟨b, o, xs[k], rfl, hb, h.2 _ (by omega) rfl, List.getElem?_eq_getElem hl, hc k _ (List.getElem?_eq_getElem hl)⟩
theorem OI.chg {B : Nat} (h : OI e B w v xs) (hc : Chg F w w') (hn : ∀ k, v.ownBlock = some k → ¬ F k) : OI e B w' v xs := by
  refine ⟨h.1, ?_⟩
  rcases h.2 with h2 | ⟨g, cap, cur, rfl, hb, hg, rest⟩
  · exact .inl h2
  · exact .inr ⟨g, cap, cur, rfl, hb, by rw [hc.block g (Array.getElem?_eq_some_iff.1 hg).1 (hn g rfl)]; exact hg, rest⟩
/-- A row of lists: the row is the call's own; the lists lie not in blocks of F. -/
def CR (F : Nat → Prop) (e : TypeId) (base : Nat) (w : World) (v : Value) (cs : List (List Int)) : Prop :=
  ∃ us : List Value, w.ownsRow base e 1 v cs.length us ∧ ∀ (k : Nat) (x : List Int), cs[k]? = some x → ∃ A c, us[k]? = some (Value.slice A x.length c) ∧ x.length ≤ c ∧ RN F w A x.length x
theorem CR.form (h : CR F e base w v cs) (hn : 0 < cs.length) : ∃ g cap, v = .slice (some ⟨g, 0, none⟩) cs.length cap ∧ base ≤ g ∧ g < w.heap.size := by
  obtain ⟨us, h1, _⟩ := h
  exact World.ownsRow.form h1 hn
theorem CR.lenV {A : Option Addr} (h : CR F e base w (.slice A n c) cs) : n = cs.length := by
  obtain ⟨us, h1, _⟩ := h
  rcases h1.2 with ⟨h0, h2⟩ | ⟨g', cap, cur, h0, _⟩
  · simp only [Value.slice.injEq] at h0
    rw [h0.2.1, h2]
  · simp only [Value.slice.injEq] at h0
    exact h0.2.1
theorem CR.at (h : CR F e base w (.slice (some ⟨g, 0, none⟩) n c) cs) {k : Nat} (hk : k < n) : ∃ A' c' x, cs[k]? = some x ∧ x.length ≤ c' ∧ RN F w A' x.length x ∧ w.cell? ⟨g, k, none⟩ = some (.slice A' x.length c') ∧ w.frozen? ⟨g, k, none⟩ = false := by
  have hn := h.lenV
  subst hn
  obtain ⟨us, h1, h2⟩ := h
  obtain ⟨A', c', hu, hle, hr⟩ := h2 k _ (List.getElem?_eq_getElem hk)
  exact ⟨A', c', _, List.getElem?_eq_getElem hk, hle, hr, by rw [World.ownsRow.cellAt h1 k (by omega)]; exact hu, World.ownsRow.frozenAt h1 k⟩
theorem CR.set (h : CR F e base w (.slice (some ⟨g, 0, none⟩) n c) cs) (hg : F g) (k : Nat) {A' : Option Addr} {c' : Nat} {y : List Int} (hc : y.length ≤ c') (hr : RN F w A' y.length y) :
    CR F e base (w.setCell ⟨g, k, none⟩ (.slice A' y.length c')) (.slice (some ⟨g, 0, none⟩) n c) (cs.set k y) := by
  have hn := h.lenV
  subst hn
  obtain ⟨us, h1, h2⟩ := h
  have hch : Chg F w (w.setCell ⟨g, k, none⟩ (.slice A' y.length c')) := Chg.set w g k _ hg
  refine ⟨us.set k (.slice A' y.length c'), by rw [List.length_set]; exact (World.ownsRow.stored h1 k _).1, fun i x hx => ?_⟩
  by_cases hik : k = i
  · subst hik
    have hlt : k < cs.length := by have := (List.getElem?_eq_some_iff.1 hx).1; rwa [List.length_set] at this
    rw [List.getElem?_set_self hlt] at hx
    injection hx with hx
    subst hx
    have hus : us.length = cs.length := by have := h1.1; omega
    exact ⟨A', c', List.getElem?_set_self (by omega), hc, hr.chg hch⟩
  · rw [List.getElem?_set_ne hik] at hx
    obtain ⟨A2, c2, hu, hle, hr2⟩ := h2 i x hx
    exact ⟨A2, c2, by rw [List.getElem?_set_ne hik]; exact hu, hle, hr2.chg hch⟩
/-- Other blocks of F, and new ones, are written. -/
theorem CR.chg (h : CR F e base w v cs) (hc : Chg F' w w') (h1 : ∀ k, F' k → F k) (h2 : ∀ k, v.ownBlock = some k → ¬ F' k) : CR F e base w' v cs := by
  obtain ⟨us, g1, g2⟩ := h
  refine ⟨us, ⟨g1.1, ?_⟩, fun i x hx => ?_⟩
  · rcases g1.2 with hn | ⟨g, cap, cur, rfl, hb, hg, rest⟩
    · exact .inl hn
    · exact .inr ⟨g, cap, cur, rfl, hb, by rw [hc.block g (Array.getElem?_eq_some_iff.1 hg).1 (h2 g rfl)]; exact hg, rest⟩
  · obtain ⟨A2, c2, hu, hle, hr2⟩ := g2 i x hx
    exact ⟨A2, c2, hu, hle, hr2.chg (hc.wide h1)⟩
theorem CR.below (h : CR F e base w v cs) (hb : Below w.heap.size w w') : CR F e base w' v cs := h.chg (Chg.of_below hb (fun _ => False)) (fun _ h => h.elim) (fun _ _ h => h)
theorem RN.more (h : RN F w A n xs) (hF : ∀ k, F' k → F k ∨ w.heap.size ≤ k) : RN F' w A n xs := ⟨h.1, fun ad hn e hf => by
  obtain ⟨ad', e', hb, _⟩ := h.1.2 hn
  rw [e] at e'
  injection e' with e'
  subst e'
  rcases hF _ hf with h2 | h2
  · exact h.2 ad hn e h2
  · omega⟩
theorem CR.sub (h : CR F e base w v cs) (hF : ∀ k, F' k → F k) : CR F' e base w v cs := by
  obtain ⟨us, h1, h2⟩ := h
  refine ⟨us, h1, fun k x hx => ?_⟩
  obtain ⟨A, c, e1, e2, e3⟩ := h2 k x hx
  exact ⟨A, c, e1, e2, e3.sub hF⟩
theorem CR.more (h : CR F e base w v cs) (hF : ∀ k, F' k → F k ∨ w.heap.size ≤ k) : CR F' e base w v cs := by
  obtain ⟨us, h1, h2⟩ := h
  refine ⟨us, h1, fun k x hx => ?_⟩
  obtain ⟨A, c, e1, e2, e3⟩ := h2 k x hx
  exact ⟨A, c, e1, e2, e3.more hF⟩
/-- .. from rows of rows that the call owns. -/
theorem CR.of_os {G : Nat → Prop} (h : OS tS e w G v cs) (hF : ∀ k, F k → G k → v.ownBlock = some k) (hb : ∀ k, v.ownBlock = some k → base ≤ k) : CR F e base w v cs := by
  obtain ⟨css, Fs, h1, h2, h3, h4, h5, h6⟩ := h
  have hsing : ∀ k (hk : k < cs.length), ∃ A c, css[k]'(by omega) = [.slice A cs[k].length c] ∧ cs[k].length ≤ c ∧ RN F w A cs[k].length cs[k] := by
    intro k hk
    obtain ⟨u, hu, ho⟩ := h6 k hk (by omega)
    obtain ⟨A, c, rfl⟩ := ho.shape
    have hcap := ho.read.cap
    refine ⟨A, c, hu, hcap.2.1, ho.read.ri, fun ad hn he hf => ?_⟩
    subst he
    obtain ⟨css2, Fs2, k1, k2, k3, _⟩ := ho
    have hFs := k3 ad.block rfl
    have h7 := h4 k _ hFs
    exact h7.2 (hF _ hf h7.1)
  refine ⟨css.flatten, ⟨h1.1, ?_⟩, fun k x hx => ?_⟩
  · rcases h1.2 with hn | ⟨g, cap, cur, rfl, hb', rest⟩
    · exact .inl hn
    · exact .inr ⟨g, cap, cur, rfl, hb g rfl, rest⟩
  · have hk := (List.getElem?_eq_some_iff.1 hx).1
    have hx2 : cs[k]'hk = x := (List.getElem?_eq_some_iff.1 hx).2
    subst hx2
    obtain ⟨A, c, e1, e2, e3⟩ := hsing k hk
    refine ⟨A, c, ?_, e2, e3⟩
    have hs : ∀ c ∈ css, c.length = 1 := fun c hc => by
      obtain ⟨i, hi, rfl⟩ := List.getElem_of_mem hc
      obtain ⟨A', c', e1', _⟩ := hsing i (by omega)
      rw [e1']
      rfl
    have := flat2_at (s := 1) hs (k := k) (List.getElem?_eq_getElem (by omega)) 0 (by omega)
    rw [Nat.mul_one, Nat.add_zero] at this
    rw [this, e1]
    rfl
/-- A slice of lists that reads, not in blocks of F. -/
def RSN (F : Nat → Prop) (w : World) (v : Value) (cs : List (List Int)) : Prop :=
  ∃ (A : Option Addr) (c : Nat) (us : List Value), v = .slice A cs.length c ∧ cs.length ≤ c ∧ c ≤ maxLen ∧ us.length = cs.length ∧ Reads w w.heap.size 1 A cs.length us ∧ (∀ ad, 0 < cs.length → A = some ad → ¬ F ad.block) ∧
    ∀ (k : Nat) (x : List Int), cs[k]? = some x → ∃ A' c', us[k]? = some (Value.slice A' x.length c') ∧ x.length ≤ c' ∧ RN F w A' x.length x
theorem RSN.chg (h : RSN F w v cs) (hc : Chg F w w') : RSN F w' v cs := by
  obtain ⟨A, c, us, rfl, h1, h2, h3, h4, h5, h6⟩ := h
  refine ⟨A, c, us, rfl, h1, h2, h3, ⟨h4.1, fun hn => ?_⟩, h5, fun k x hx => ?_⟩
  · obtain ⟨ad, e, hb, hk⟩ := h4.2 hn
    refine ⟨ad, e, Nat.lt_of_lt_of_le hb hc.size, fun j u hu => ?_⟩
    have h2 := h5 ad hn e
    rw [World.cell?_of_block (hc.block (ad.add j).block (by rw [block_of_add]; exact hb) (by rw [block_of_add]; exact h2))]
    exact hk j u hu
  · obtain ⟨A', c', e1, e2, e3⟩ := h6 k x hx
    exact ⟨A', c', e1, e2, e3.chg hc⟩
theorem RSN.below (h : RSN F w v cs) (hb : Below w.heap.size w w') : RSN F w' v cs := h.chg (Chg.of_below hb F)
theorem RSN.at (h : RSN F w v cs) {k : Nat} (hk : k < cs.length) : ∃ b o c A' c' x, v = .slice (some ⟨b, o, none⟩) cs.length c ∧ b < w.heap.size ∧ ¬ F b ∧ cs[k]? = some x ∧ x.length ≤ c' ∧ RN F w A' x.length x ∧ w.cell? ⟨b, o + k, none⟩ = some (.slice A' x.length c') := by
  obtain ⟨A, c, us, rfl, h1, h2, h3, h4, h5, h6⟩ := h
  obtain ⟨ad, e, hb, hc⟩ := h4.2 (by omega)
  subst e
  obtain ⟨A', c', e1, e2, e3⟩ := h6 k _ (List.getElem?_eq_getElem hk)
  have h0 : 0 < us.length := by omega
  have hsp := spot_none (hc 0 _ (List.getElem?_eq_getElem h0))
  have hsp' : ad = ⟨ad.block, ad.off, none⟩ := by simpa [Addr.add] using hsp
  refine ⟨ad.block, ad.off, c, A', c', _, by rw [← hsp'], hb, h5 ad (by omega) rfl, List.getElem?_eq_getElem hk, e2, e3, ?_⟩
  have := hc k _ e1
  rwa [hsp', Addr.add_lit] at this
theorem RSN.of_cr {base : Nat} (h : CR F e base w v cs) (hF : ∀ k, v.ownBlock = some k → ¬ F k) : RSN F w v cs := by
  obtain ⟨us, h1, h2⟩ := h
  obtain ⟨A, c, rfl, hc, hm, hr⟩ := own_shape h1
  exact ⟨A, c, us, rfl, hc, hm, by have := h1.1; omega, hr, fun ad hn he => hF _ (by rw [he]; rfl), h2⟩
theorem RSN.shape (h : RSN F w v cs) : ∃ A c, v = .slice A cs.length c := by
  obtain ⟨A, c, us, rfl, _⟩ := h
  exact ⟨A, c, rfl⟩
end
end Go.Proofs.YtfkcoiefkjmdeaaGreat
namespace Go.Proofs.YtfkcoiefkjmdeaaGreat
open Go.RowKit Go.Sort
set_option maxHeartbeats 2000000
set_option maxRecDepth 100000
set_option linter.unusedVariables false
set_option linter.unusedSimpArgs false
theorem M.insN_one {x : Node} (h : x.1 = 1) (fr vs : List Int) : M.insN x fr vs = [M.i_ fr x.2.1.toNat] := by rw [M.insN, if_pos h]
theorem M.insN_map {x : Node} (h : x.1 ≠ 1) (fr vs : List Int) : M.insN x fr vs = M.mapI x.2.2.2 vs := by rw [M.insN, if_neg h]; rfl
theorem impl_player_inputs (b : Nat) (Av : Option Addr) (nv cv : Nat) (vs : List Int) (a0 a1 a2 : Int) (A : Option Addr) (n c : Nat) (xs : List Int) (Af : Option Addr) (nf cf : Nat) (fr : List Int) (w : World)
    (p5 : w.cell? ⟨b, 5, none⟩ = some (.slice Av nv cv)) (hv : RI w w.heap.size Av nv vs) (hx : RI w w.heap.size A n xs) (hf : RI w w.heap.size Af nf fr) (hn : n ≤ 1000000000) (hnv : nv ≤ 1000000000) (hnf : nf ≤ 1000000000)
    (h1 : a0 = 1 → 0 ≤ a1 ∧ a1 < nf) (hr : Hid (∀ f ∈ xs, 0 ≤ f ∧ f < nv)) :
    Calls Tryz.prog 143 #[.pointer (some ⟨b, 0, none⟩), .agg #[.int .i64 a0, .int .i64 a1, .int .i64 a2, .slice A n c], .slice Af nf cf] w (Ret1 2 w (M.insN (a0, a1, a2, xs) fr vs)) := by
  have lb : b < w.heap.size := World.block_lt_of_cell? w _ p5
  obtain ⟨W, hW, B0, sW, q0, q1, q2, q3, qf⟩ := newbox4 w (.int .i64 a0) (.int .i64 a1) (.int .i64 a2) (.slice A n c) 122
  have p5' : W.cell? ⟨b, 5, none⟩ = some (.slice Av nv cv) := by rw [B0.cell (by show b < _; omega)]; exact p5
  have lW : w.heap.size < W.heap.size := by omega
  have HW := Lib.hid hW
  clear hW sW
  by_cases h : a0 = 1
  · have h1' := h1 h
    subst h
    obtain ⟨j, rfl⟩ : ∃ j : Nat, a1 = (j : Int) := ⟨a1.toNat, by omega⟩
    obtain ⟨bf, of, rfl, hbf, hcf⟩ := ri_lit hf (by omega)
    obtain ⟨_, y, e, _, Y, _⟩ := hf.at (k := j) (by omega)
    have cy : w.cell? ⟨bf, of + j, none⟩ = some (.int .i64 y) := hcf j y Y.out
    have cy' : W.cell? ⟨bf, of + j, none⟩ = some (.int .i64 y) := by rw [B0.cell (by show bf < _; omega)]; exact cy
    have hj0 : (0 : Int) ≤ (j : Int) := by omega
    have hjn : (j : Int) < (nf : Int) := by omega
    have E := Lib.hid (show M.insN (1, (j : Int), a2, xs) fr vs = [y] by rw [M.insN_one rfl]; show [M.i_ fr (j : Int).toNat] = _; rw [Int.toNat_natCast, i_get Y.out])
    have O1 := OI_lit W y
    have B1 : Below w.heap.size w (W.alloc (.cells #[.int .i64 y] 2)) := B0.alloc B0.size _
    rw [HW.out] at O1 B1
    have hz : (w.alloc (.cells #[.int .i64 1, .int .i64 (j : Int), .int .i64 a2, .slice A n c] 122)).heap.size = w.heap.size + 1 := by simp
    rw [hz] at O1
    clear hz
    clear h1 h1' hcf e hr hv hx hf
    go_enter Tryz.func143, Tryz.ntmps143
    go_wp2_with fail
    go_ret
    rw [E.out]
    exact ⟨_, rfl, O1.base (B' := w.heap.size) (by simp), B1⟩
  · have E := Lib.hid (show M.insN (a0, a1, a2, xs) fr vs = M.mapI xs vs from M.insN_map h fr vs)
    have hne : (a0 == 1) = false := by simpa using h
    have pq := cell_regrown p5'
    have pq3 := cell_regrown q3
    have D1 : Below W.heap.size W W.drew := below_drewN (Below.refl _ _) 1
    have hd0 : W.drew.heap.size = W.heap.size := rfl
    have B1 : Below w.heap.size w W.drew := below_drewN B0 1
    clear h1
    go_enter Tryz.func143, Tryz.ntmps143
    go_wp2_with fail
    rw [← HW.out]
    (refine wp_region_fresh [0, 2, 3, 4] [1, 5] 1 (.one 6 .rest) [7] (by kernel_rfl) (by kernel_rfl) ?_; simp only [pickOps]; simp only [List.filterMap, List.getElem?_cons_succ, List.getElem?_cons_zero]; (repeat (go_big_quiet_step (fail))); refine wpQuiet_nil ?_; (repeat (go_big_quiet_step (fail))); refine wpQuiet_nil ?_)
    refine seqT_one rfl ?_
    go_wp2_with fail
    refine (impl_mapped _ _ _ _ _ _ _ _ _ (hx.later B1) (hv.later B1) hn hnv hr).mono ?_
    rintro e w2 ⟨v4, rfl, own1, bel1⟩
    have B2 := bel_trans D1 bel1
    go_wp2_with fail
    refine ⟨regrown_of_below B2, seqT_rest ?_⟩
    go_wp2_with fail
    refine ⟨rfl, v4, by simp [results, Tryz.results143, go_sem], ?_⟩
    rw [E.out]
    exact ⟨_, rfl, own1.base (by have := B1.size; omega), bel_trans B1 bel1⟩
theorem impl_player_outputs (b : Nat) (Av : Option Addr) (nv cv : Nat) (vs : List Int) (A3 : Option Addr) (n3 c3 : Nat) (outs : List Int) (w : World)
    (p3 : w.cell? ⟨b, 3, none⟩ = some (.slice A3 n3 c3)) (p5 : w.cell? ⟨b, 5, none⟩ = some (.slice Av nv cv)) (hv : RI w w.heap.size Av nv vs) (hx : RI w w.heap.size A3 n3 outs) (hn : n3 ≤ 1000000000) (hnv : nv ≤ 1000000000) (hr : Hid (∀ f ∈ outs, 0 ≤ f ∧ f < nv)) :
    Calls Tryz.prog 134 #[.pointer (some ⟨b, 0, none⟩)] w (Ret1 2 w (M.mapI outs vs)) := by
  have pq := cell_regrown p5
  have pq3 := cell_regrown p3
  have D1 : Below w.heap.size w w.drew := below_drewN (Below.refl _ _) 1
  have hd0 : w.drew.heap.size = w.heap.size := rfl
  go_enter Tryz.func134, Tryz.ntmps134
  go_wp2_with fail
  (refine wp_region_fresh [0, 1, 2, 3, 5, 6, 7] [4, 8] 1 (.one 9 .rest) [10] (by kernel_rfl) (by kernel_rfl) ?_; simp only [pickOps]; simp only [List.filterMap, List.getElem?_cons_succ, List.getElem?_cons_zero]; (repeat (go_big_quiet_step (fail))); refine wpQuiet_nil ?_; (repeat (go_big_quiet_step (fail))); refine wpQuiet_nil ?_)
  refine seqT_one rfl ?_
  go_wp2_with fail
  refine (impl_mapped _ _ _ _ _ _ _ _ _ (hx.later D1) (hv.later D1) hn hnv hr).mono ?_
  rintro e w2 ⟨v4, rfl, own1, bel1⟩
  have B2 := bel_trans D1 bel1
  go_wp2_with fail
  refine ⟨regrown_of_below B2, seqT_rest ?_⟩
  go_wp2_with fail
  refine ⟨rfl, v4, by simp [results, Tryz.results134, go_sem], ?_⟩
  exact ⟨_, rfl, own1.base (by omega), bel_trans D1 bel1⟩
end Go.Proofs.YtfkcoiefkjmdeaaGreat
namespace Go.Proofs.YtfkcoiefkjmdeaaGreat
open Go.RowKit Go.Sort
set_option maxHeartbeats 4000000
set_option maxRecDepth 100000
set_option linter.unusedVariables false
set_option linter.unusedSimpArgs false
/-- The two rows that a player writes. -/
def F2 (bv bc : Nat) : Nat → Prop := fun k => k = bv ∨ k = bc
/-- A player in memory: what it holds but for its two rows. -/
structure Pl (b bv bc L : Nat) (pi : Int) (A1 : Option Addr) (n1 c1 : Nat) (A2 : Option Addr) (n2 c2 : Nat) (A3 : Option Addr) (n3 c3 : Nat) (Ao : Option Addr) (no co cv cc : Nat) (ns : List Node) (tb : List (List Int)) (outs O : List Int) (w : World) : Prop where
  p0 : w.cell? ⟨b, 0, none⟩ = some (.int .i64 pi)
  p1 : w.cell? ⟨b, 1, none⟩ = some (.slice A1 n1 c1)
  p2 : w.cell? ⟨b, 2, none⟩ = some (.slice A2 n2 c2)
  p3 : w.cell? ⟨b, 3, none⟩ = some (.slice A3 n3 c3)
  p4 : w.cell? ⟨b, 4, none⟩ = some (.slice Ao no co)
  p5 : w.cell? ⟨b, 5, none⟩ = some (.slice (some ⟨bv, 0, none⟩) n2 cv)
  p6 : w.cell? ⟨b, 6, none⟩ = some (.slice (some ⟨bc, 0, none⟩) n2 cc)
  h1 : RS tS w L (.slice A1 n1 c1) tb
  h2 : RS tN w L (.slice A2 n2 c2) ns
  h3 : RI w L A3 n3 outs
  h4 : RI w L Ao no O
  lv : L ≤ bv
  lc : L ≤ bc
  ne : bv ≠ bc
  nbv : b ≠ bv
  nbc : b ≠ bc
  lL : L ≤ w.heap.size
section
variable {b bv bc L : Nat} {pi : Int} {A1 : Option Addr} {n1 c1 : Nat} {A2 : Option Addr} {n2 c2 : Nat} {A3 : Option Addr} {n3 c3 : Nat} {Ao : Option Addr} {no co cv cc : Nat} {ns : List Node} {tb : List (List Int)} {outs O : List Int} {w w' : World}
theorem Pl.chg (h : Pl b bv bc L pi A1 n1 c1 A2 n2 c2 A3 n3 c3 Ao no co cv cc ns tb outs O w) (hc : Chg (F2 bv bc) w w') : Pl b bv bc L pi A1 n1 c1 A2 n2 c2 A3 n3 c3 Ao no co cv cc ns tb outs O w' := by
  have lb : b < w.heap.size := World.block_lt_of_cell? w _ h.p0
  have hn : ¬ F2 bv bc b := fun e => e.elim h.nbv h.nbc
  have hB : Below L w w' := hc.toBelow (fun k hk => hk.elim (fun e => e ▸ h.lv) (fun e => e ▸ h.lc)) h.lL
  have key : ∀ j, w'.cell? ⟨b, j, none⟩ = w.cell? ⟨b, j, none⟩ := fun j => hc.cell lb hn
  exact ⟨(key 0).trans h.p0, (key 1).trans h.p1, (key 2).trans h.p2, (key 3).trans h.p3, (key 4).trans h.p4, (key 5).trans h.p5, (key 6).trans h.p6, h.h1.below hB, h.h2.below hB, h.h3.below hB, h.h4.below hB, h.lv, h.lc, h.ne, h.nbv, h.nbc, Nat.le_trans h.lL hc.size⟩
end
theorem ri_one {w : World} {b o : Nat} {x : Int} (h : w.cell? ⟨b, o, none⟩ = some (.int .i64 x)) : RI w w.heap.size (some ⟨b, o, none⟩) 1 [x] := by
  refine ⟨rfl, fun _ => ⟨_, rfl, World.block_lt_of_cell? w _ h, fun j u hu => ?_⟩⟩
  match j, hu with
  | 0, hu =>
    simp at hu
    subst hu
    simpa [Addr.add] using h
theorem ri_x {w : World} {B b o n : Nat} {xs : List Int} (h : RI w B (some ⟨b, o, none⟩) n xs) {k : Nat} {x : Int} (hx : xs[k]? = some x) : w.cell? ⟨b, o + k, none⟩ = some (.int .i64 x) := by
  have hk : k < n := by rw [← h.len]; exact (List.getElem?_eq_some_iff.1 hx).1
  obtain ⟨b', o', e, -, hc⟩ := ri_lit h (by omega)
  simp only [Option.some.injEq, Addr.mk.injEq] at e
  obtain ⟨rfl, rfl, -⟩ := e
  exact hc k x hx
theorem OI.ri' {e : TypeId} {B : Nat} {w : World} {A : Option Addr} {n c : Nat} {xs : List Int} (h : OI e B w (.slice A n c) xs) : RI w w.heap.size A n xs := (RN.of_oi (F := fun _ => False) h (fun _ h => h.elim)).1
theorem M.cel_some {cs : List (List Int)} {i : Nat} {s : List Int} (h : cs[i]? = some s) : M.cel cs i = s := by rw [M.cel, h]; rfl
theorem grow_chg {F : Nat → Prop} {w U : World} (h : Below w.heap.size w U) : Chg F w U := Chg.of_below h F
theorem impl_player_frame (b bv bc L : Nat) (pi : Int) (A1 : Option Addr) (n1 c1 : Nat) (A2 : Option Addr) (n2 c2 : Nat) (A3 : Option Addr) (n3 c3 : Nat) (Ao : Option Addr) (no co cv cc : Nat) (ns : List Node) (tb : List (List Int)) (outs O vs : List Int) (cs : List (List Int)) (bf of cf : Nat) (x : Int) (G : Nat → Prop) (w : World) (hG : ∀ k, F2 bv bc k → G k) (hGs : ∀ k, G k → k < w.heap.size)
    (hP : Pl b bv bc L pi A1 n1 c1 A2 n2 c2 A3 n3 c3 Ao no co cv cc ns tb outs O w) (hF : M.PF ns tb O) (hx : M.smp x = true) (h0 : 0 < n2) (hnz : hNS.sz ns ≤ 100000000)
    (hv : OI 2 L w (.slice (some ⟨bv, 0, none⟩) n2 cv) vs) (hvs : vs.all M.smp = true) (hc : CR G 26 L w (.slice (some ⟨bc, 0, none⟩) n2 cc) cs) (hco : M.CO ns cs)
    (cf0 : w.cell? ⟨bf, of, none⟩ = some (.int .i64 x)) (hbf : bf ≠ bv ∧ bf ≠ bc) :
    Calls Tryz.prog 133 #[.pointer (some ⟨b, 0, none⟩), .slice (some ⟨bf, of, none⟩) 1 cf] w fun e w' => e = .returned (.tuple #[]) ∧ Chg (F2 bv bc) w w' ∧ OI 2 L w' (.slice (some ⟨bv, 0, none⟩) n2 cv) (M.vals ns tb [x] O cs) ∧ CR G 26 L w' (.slice (some ⟨bc, 0, none⟩) n2 cc) (M.next_ ns tb [x] O cs) := by
  have hl2 : ns.length = n2 := hP.h2.cap.1
  have hl1 : tb.length = n1 := hP.h1.cap.1
  have hlo : O.length = no := hP.h4.len
  have hno : no = n2 := by rw [← hlo, hF.top.len, hl2]
  have hlv : vs.length = n2 := hv.n_eq.symm
  have hlc : cs.length = n2 := hc.lenV.symm
  have hxs : [x].all M.smp = true := by simpa using hx
  have hnb : n2 ≤ 24 := by rw [← hl2]; exact hF.len
  have lbf : bf < w.heap.size := World.block_lt_of_cell? w _ cf0
  have lbv : bv < w.heap.size := (World.ownsRow.lt hv _ rfl).2
  have lbc : bc < w.heap.size := by obtain ⟨us, h1, _⟩ := hc; exact (World.ownsRow.lt h1 _ rfl).2
  have lb : b < w.heap.size := World.block_lt_of_cell? w _ hP.p0
  have hne := hP.ne
  have nbv := hP.nbv
  have nbc := hP.nbc
  have lv := hP.lv
  have lc := hP.lc
  have nf : ¬ F2 bv bc bf := fun e => e.elim hbf.1 hbf.2
  obtain ⟨E1, E2⟩ := M.frame_eq (tb := tb) (fr := [x]) hF.top vs cs (by rw [hlv, hl2]) (by rw [hlc, hl2])
  rw [hlo] at E1 E2
  obtain ⟨bo, oo, rfl, hbo, -⟩ := ri_lit hP.h4 (by omega)
  have p1_ := hP.p1
  have p2_ := hP.p2
  have p4_ := hP.p4
  have HL2 := Lib.hid hl2
  have HL1 := Lib.hid hl1
  have HLO := Lib.hid hlo
  have HNO := Lib.hid hno
  have HLV := Lib.hid hlv
  have HE1 := Lib.hid E1
  have HE2 := Lib.hid E2
  have HX := Lib.hid hxs
  have HVS := Lib.hid hvs
  have hno' : no ≤ n2 := by omega
  have hno2 : n2 ≤ no := by omega
  clear hl2 hl1 hlo hno hlv hlc E1 E2 hxs hvs hx
  go_enter Tryz.func133, Tryz.ntmps133
  go_wp2_with fail
  go_loopw [14] (fun i wr => ∃ t : Nat, i = .int .i64 t ∧ t ≤ no ∧ Chg (F2 bv bc) w wr ∧ OI 2 L wr (.slice (some ⟨bv, 0, none⟩) n2 cv) (M.runN ns tb [x] O vs cs t).1 ∧ CR G 26 L wr (.slice (some ⟨bc, 0, none⟩) n2 cc) (M.runN ns tb [x] O vs cs t).2) (fun i _ => no - (intOf i).toNat)
  case atStart => exact ⟨0, rfl, by omega, Chg.refl _ _, hv, hc⟩
  case round =>
    obtain ⟨t, rfl, ht, hch, ov, oc⟩ := hrel
    by_cases hlt : t < no
    · obtain ⟨xn, hxn, eN, eO, hi⟩ := hF.ord (t := t) (by rw [HLO.out]; exact hlt)
      obtain ⟨r1, r2⟩ := M.runN_ok hF HX.out hco HVS.out t (by rw [HLO.out]; omega)
      have HR := Lib.hid (show M.runN ns tb [x] O vs cs (t + 1) = _ from by rw [M.runN])
      generalize hri : M.ordI O t = i at *
      generalize hrv : (M.runN ns tb [x] O vs cs t).1 = V at *
      generalize hrc : (M.runN ns tb [x] O vs cs t).2 = C at *
      rw [HL2.out] at hi
      have hok := hF.ok _ _ hxn
      have hfr := hF.fr _ _ hxn
      have hinp := hF.inp _ _ hxn
      have hcx := r2.at_ _ _ hxn
      clear hri hrv hrc
      obtain ⟨bb, o, a0, a1, a2, A6, c6, x3, rfl, hbb, X, e0, e1, e2, e3, hr3, h3b⟩ := node_cell (hP.chg hch).h2 hnz hi
      obtain rfl : xn = (a0, a1, a2, x3) := Option.some.inj (hxn.symm.trans X.out)
      have hot : O[t]? = some (i : Int) := by
        have h2 : t < O.length := by rw [HLO.out]; exact hlt
        rw [M.i_, List.getElem?_eq_getElem h2] at eO
        rw [List.getElem?_eq_getElem h2]
        exact congrArg some eO
      have co1 : wr.cell? ⟨bo, oo + t, none⟩ = some (.int .i64 (i : Int)) := ri_x (hP.chg hch).h4 hot
      obtain ⟨U, hU, GU, sU, q0, q1, q2, q3, qf⟩ := newbox4 wr (.int .i64 a0) (.int .i64 a1) (.int .i64 a2) (.slice A6 x3.length c6) 122
      have HU := Lib.hid hU
      have hchU : Chg (F2 bv bc) w U := hch.trans (grow_chg GU)
      have hPU := hP.chg hchU
      have ovU := ov.below GU
      have ocU := oc.below GU
      obtain ⟨A', c', s, hs1, hs2, hs3, hs4, hs5⟩ := ocU.at (k := i) hi
      obtain ⟨y, hy1, hy2, hy3, -, -⟩ := ovU.at' (k := i) hi
      have hcs : M.cel C i = s := M.cel_some hs1
      rw [hcs] at hcx
      have cfU : U.cell? ⟨bf, of, none⟩ = some (.int .i64 x) := by rw [hchU.cell lbf nf]; exact cf0
      have hszr := hch.size
      have hszU := GU.size
      have p1 := hPU.p1
      have p2 := hPU.p2
      have p5 := hPU.p5
      have p6 := hPU.p6
      have p2r := (hP.chg hch).p2
      have i0 : (0 : Int) ≤ (i : Int) := by omega
      have i1 : (i : Int) < (n2 : Int) := by omega
      have t0 : (0 : Int) ≤ (t : Int) := by omega
      have t1 : (t : Int) < (no : Int) := by omega
      have HCX := Lib.hid hcx
      have HCS := Lib.hid hcs
      have HXN := Lib.hid hxn
      have HEN := Lib.hid eN
      have HOK := Lib.hid hok
      have HFR := Lib.hid hfr
      have lblk : wr.heap.size < U.heap.size := by omega
      have D1 : Below U.heap.size U U.drew := below_drewN (Below.refl _ _) 1
      have hd0 : U.drew.heap.size = U.heap.size := rfl
      clear hU sU hcx hcs hxn eN hok hfr eO hs1
      by_cases h6 : a0 = 6
      · subst h6
        have h6' := (M.nodeOk_start HOK.out).2.1 rfl
        simp only at h6'
        have hsl : 1 ≤ s.length := by rw [HCX.out.1]; simp [M.stLen]; omega
        obtain ⟨bs, os, s0, rfl, hbs, hnF, hs0, cs0⟩ := hs3.at (k := 0) (by omega)
        rw [Nat.add_zero] at cs0
        have HT := Lib.hid (show M.runN ns tb [x] O vs cs (t + 1) = (V.set i s0, C) by rw [HR.out, HEN.out, if_pos rfl, HCS.out, i_get hs0])
        have nsv : bs ≠ bv := fun e => hnF (hG _ (Or.inl e))
        have nsc : bs ≠ bc := fun e => hnF (hG _ (Or.inr e))
        have pp5 := cell_regrown p5
        have pp6 := cell_regrown p6
        have ppc := cell_regrown hs4
        have pps := cell_regrown cs0
        have zv : U.drew.cell? ⟨bv, i, none⟩ = some (.int .i64 y) := hy2
        have zf : U.drew.frozen? ⟨bv, i, none⟩ = false := hy3
        have hs0' := Lib.hid hs0
        have hl1s : (0 : Int) < (s.length : Int) := by omega
        clear HR HCS hs0 h6' hinp
        go_wp2_with fail
        rw [← HU.out]
        go_wp2_with fail
        (refine wp_region_fresh2 [0, 1, 2, 4, 5, 6, 7, 9] [3, 8, 10, 11, 12, 13] 1 (.first 14 .rest) [15] [15] (by kernel_rfl) (by kernel_rfl) ?_; simp only [pickOps]; simp only [List.filterMap, List.getElem?_cons_succ, List.getElem?_cons_zero]; (repeat (go_big_quiet_step (fail))); refine wpQuiet_nil ?_; (repeat (go_big_quiet_step (fail))); refine wpQuiet_nil ?_)
        (refine seqT_first2 rfl ?_; (repeat (go_big_quiet_step (fail))); refine wpQuiet_nil ?_)
        refine seqT_rest2 ?_
        go_wp2_with fail
        have O2 := (ovU.stored' i s0).below (below_drewN (Below.refl _ _) 1)
        have C2 := (ocU.chg (Chg.set (F := fun k => k = bv) U bv i (.int .i64 s0) rfl) (fun k hk => hG _ (Or.inl hk)) (fun k hk hk2 => by simp only [Value.ownBlock, Option.some.injEq] at hk; omega)).below (below_drewN (Below.refl _ _) 1)
        refine ⟨⟨t + 1, by go_num, by omega, (hchU.trans (Chg.set U bv i (.int .i64 s0) (Or.inl rfl))).trans (grow_chg (below_drewN (Below.refl _ _) 1)), ?_, ?_⟩, by simp [intOf]; omega⟩
        · rw [HT.out]
          exact O2
        · rw [HT.out]
          exact C2
      · have hne6 : (a0 == 6) = false := by simpa using h6
        have HIL := Lib.hid (M.insN_len (x := (a0, a1, a2, x3)) HOK.out [x] V)
        have HIA := Lib.hid (M.insN_smp (x := (a0, a1, a2, x3)) HX.out r1)
        have HT := Lib.hid (show M.runN ns tb [x] O vs cs (t + 1) = (V.set i (M.nOut (a0, a1, a2, x3) tb (M.insN (a0, a1, a2, x3) [x] V) s), C.set i (M.nNext (a0, a1, a2, x3) (M.insN (a0, a1, a2, x3) [x] V) s (M.nOut (a0, a1, a2, x3) tb (M.insN (a0, a1, a2, x3) [x] V) s))) by rw [HR.out, HEN.out, if_neg h6, HCS.out])
        have pp1 := cell_regrown p1
        have pp5 := cell_regrown p5
        have pp6 := cell_regrown p6
        have ppc := cell_regrown hs4
        have pq0 := cell_regrown q0
        have pq1 := cell_regrown q1
        have pq2 := cell_regrown q2
        have pq3 := cell_regrown q3
        have hfrU : RI U.drew U.drew.heap.size (some ⟨bf, of, none⟩) 1 [x] := ri_one (by show U.cell? _ = _; exact cfU)
        have hvU := (ovU.below D1).ri'
        generalize hI : M.insN (a0, a1, a2, x3) [x] V = I at *
        clear HR HCS
        go_wp2_with fail
        rw [← HU.out]
        go_wp2_with fail
        (refine wp_region_fresh2 [0, 1, 2, 4, 5, 6, 7, 9, 11, 12, 13, 14, 16, 18, 20, 21, 22, 24] [3, 8, 10, 15, 17, 23, 25, 26] 6 (.one 19 (.one 27 (.first 28 (.first 29 (.first 30 (.first 31 .rest)))))) [32, 34] [32, 33, 34] (by kernel_rfl) (by kernel_rfl) ?_; simp only [pickOps]; simp only [List.filterMap, List.getElem?_cons_succ, List.getElem?_cons_zero]; (repeat (go_big_quiet_step (fail))); refine wpQuiet_nil ?_; (repeat (go_big_quiet_step (fail))); refine wpQuiet_nil ?_)
        refine seqT_one2 rfl ?_
        go_wp2_with fail
        refine (impl_player_inputs b _ _ cv V a0 a1 a2 _ _ c6 x3 _ _ cf [x] _ (show U.drew.cell? _ = _ from p5) hvU ((hr3.more (by omega)).later (bel_trans GU D1)) hfrU (by omega) (by omega) (by omega) (fun e => by have : a1 = 0 := hinp e; omega) (Lib.hid (fun f hf => by have := HFR.out f hf; rw [HL2.out] at this; exact this))).mono ?_
        rintro e w2 ⟨v4, rfl, own1, bel1⟩
        rw [hI] at own1
        obtain ⟨A4, c4, rfl, hri4⟩ := own1.shape
        have B2 := bel_trans D1 bel1
        have s2 := bel1.size
        go_wp2_with fail
        refine ⟨regrown_of_below B2, ?_⟩
        refine seqT_one2 rfl ?_
        go_wp2_with fail
        refine (impl_step a0 a1 a2 _ _ c6 x3 _ _ c1 tb _ _ c4 I _ _ c' s _ ((hPU.h1.below (B2.mono (by omega))).more (by omega)) hF.tabs hri4 (hs3.below B2).1 (by omega) (by rw [← HL1.out]; exact HOK.out) HIL.out HIA.out HCX.out.1 HCX.out.2).mono ?_
        rintro e w3 ⟨v5, rfl, own2, bel2⟩
        obtain ⟨A5, c5, rfl, hle5, -, -⟩ := own_shape own2
        have B3 := bel_trans B2 bel2
        have s3 := bel2.size
        go_wp2_with fail
        refine ⟨regrown_of_below B3, ?_⟩
        (refine seqT_first2 rfl ?_; (repeat (go_big_quiet_step (fail))); refine wpQuiet_nil ?_)
        (refine seqT_first2 rfl ?_; (repeat (go_big_quiet_step (fail))); refine wpQuiet_nil ?_)
        (refine seqT_first2 rfl ?_; (repeat (go_big_quiet_step (fail))); refine wpQuiet_nil ?_)
        (refine seqT_first2 rfl ?_; (repeat (go_big_quiet_step (fail))); refine wpQuiet_nil ?_)
        refine seqT_rest2 ?_
        have zv : w3.cell? ⟨bv, i, none⟩ = some (.int .i64 y) := by rw [B3.cell (by show bv < _; omega)]; exact hy2
        have zf : w3.frozen? ⟨bv, i, none⟩ = false := by rw [B3.frozen (by show bv < _; omega)]; exact hy3
        have zc : w3.cell? ⟨bc, i, none⟩ = some (.slice A' s.length c') := by rw [B3.cell (by show bc < _; omega)]; exact hs4
        have zcf : w3.frozen? ⟨bc, i, none⟩ = false := by rw [B3.frozen (by show bc < _; omega)]; exact hs5
        generalize hOut : M.nOut (a0, a1, a2, x3) tb I s = out at *
        generalize hNx : M.nNext (a0, a1, a2, x3) I s out = nx at *
        go_wp2_with fail
        have hRN : RN G w3 A5 nx.length nx := RN.of_oi own2 (fun k hk => by have := hGs k hk; omega)
        have O2 := ((ovU.below B3).stored' i out).kept (grown_setCell _ bc i (.slice A5 nx.length c5)) (.inr (by simp only [Value.ownBlock, ne_eq, Option.some.injEq]; exact hne))
        have C2 := ((ocU.below B3).chg (Chg.set (F := fun k => k = bv) w3 bv i (.int .i64 out) rfl) (fun k hk => hG _ (Or.inl hk)) (fun k hk hk2 => by simp only [Value.ownBlock, Option.some.injEq] at hk; omega)).set (hG _ (Or.inr rfl)) i hle5 (hRN.chg (Chg.set _ bv i _ (hG _ (Or.inl rfl))))
        refine ⟨⟨t + 1, by go_num, by omega, ((hchU.trans (grow_chg B3)).trans (Chg.set w3 bv i _ (Or.inl rfl))).trans (Chg.set _ bc i _ (Or.inr rfl)), ?_, ?_⟩, by simp [intOf]; omega⟩
        · rw [HT.out]
          exact O2
        · rw [HT.out]
          exact C2
    · have htn : t = no := by omega
      obtain ⟨r1, r2⟩ := M.runN_ok hF HX.out hco HVS.out no (by rw [HLO.out]; omega)
      rw [htn] at ov oc
      rw [HE1.out] at ov r1
      clear htn
      generalize hV : M.vals ns tb [x] O cs = V at *
      generalize hC : (M.runN ns tb [x] O vs cs no).2 = C at *
      have hPr := hP.chg hch
      have hszr := hch.size
      have p2 := hPr.p2
      have HV := Lib.hid hV
      clear hV hC hv hc p1_ p2_ p4_ HE1
      go_wp2_with fail
      obtain ⟨wo, rfl⟩ : ∃ wo : World, wo = wr := ⟨_, rfl⟩
      go_loopw [84] (fun i wr => ∃ t : Nat, i = .int .i64 t ∧ t ≤ n2 ∧ Chg (F2 bv bc) w wr ∧ OI 2 L wr (.slice (some ⟨bv, 0, none⟩) n2 cv) V ∧ CR G 26 L wr (.slice (some ⟨bc, 0, none⟩) n2 cc) (M.delN ns [x] V C t)) (fun i _ => n2 - (intOf i).toNat)
      case atStart => exact ⟨0, rfl, by omega, hch, ov, oc⟩
      case round =>
        clear hch ov oc hPr hszr p2
        obtain ⟨t, rfl, ht, hch, ov, oc⟩ := hrel
        by_cases hlt : t < n2
        · have r3 := M.delN_ok hF HX.out r2 r1 t (by rw [HL2.out]; omega)
          have HR := Lib.hid (show M.delN ns [x] V C (t + 1) = _ from by rw [M.delN])
          have hxn := M.node_lt (ns := ns) (i := t) (by rw [HL2.out]; exact hlt)
          generalize hrd : M.delN ns [x] V C t = C1 at *
          obtain ⟨xn, hN⟩ : ∃ xn, M.node ns t = xn := ⟨_, rfl⟩
          rw [hN] at hxn
          have hok := hF.ok _ _ hxn
          have hfr := hF.fr _ _ hxn
          have hcx := r3.at_ _ _ hxn
          clear hrd
          obtain ⟨bb, o, a0, a1, a2, A6, c6, x3, rfl, hbb, X, e0, e1, e2, e3, hr3, h3b⟩ := node_cell (hP.chg hch).h2 hnz hlt
          obtain rfl : xn = (a0, a1, a2, x3) := Option.some.inj (hxn.symm.trans X.out)
          obtain ⟨U, hU, GU, sU, q0, q1, q2, q3, qf⟩ := newbox4 wr (.int .i64 a0) (.int .i64 a1) (.int .i64 a2) (.slice A6 x3.length c6) 122
          have HU := Lib.hid hU
          have hchU : Chg (F2 bv bc) w U := hch.trans (grow_chg GU)
          have hPU := hP.chg hchU
          have ovU := ov.below GU
          have ocU := oc.below GU
          obtain ⟨A', c', s, hs1, hs2, hs3, hs4, hs5⟩ := ocU.at (k := t) hlt
          have hcs : M.cel C1 t = s := M.cel_some hs1
          rw [hcs] at hcx
          have cfU : U.cell? ⟨bf, of, none⟩ = some (.int .i64 x) := by rw [hchU.cell lbf nf]; exact cf0
          have hszr := hch.size
          have hszU := GU.size
          have p5 := hPU.p5
          have p6 := hPU.p6
          have i0 : (0 : Int) ≤ (t : Int) := by omega
          have i1 : (t : Int) < (n2 : Int) := by omega
          have HCX := Lib.hid hcx
          have HCS := Lib.hid hcs
          have HNN := Lib.hid hN
          have HOK := Lib.hid hok
          have HFR := Lib.hid hfr
          have lblk : wr.heap.size < U.heap.size := by omega
          have D1 : Below U.heap.size U U.drew := below_drewN (Below.refl _ _) 1
          have hd0 : U.drew.heap.size = U.heap.size := rfl
          clear hU sU hcx hcs hxn hN hok hfr hs1
          by_cases h6 : a0 = 6
          · subst h6
            have h6' := (M.nodeOk_start HOK.out).2.1 rfl
            simp only at h6'
            have hsl : 1 ≤ s.length := by rw [HCX.out.1]; simp [M.stLen]; omega
            have HIL := Lib.hid (M.insN_len (x := (6, a1, a2, x3)) HOK.out [x] V)
            have HIA := Lib.hid (M.insN_smp (x := (6, a1, a2, x3)) HX.out r1)
            have HT := Lib.hid (show M.delN ns [x] V C (t + 1) = C1.set t (M.nNext (6, a1, a2, x3) (M.insN (6, a1, a2, x3) [x] V) s 0) by rw [HR.out, HNN.out, if_pos rfl, HCS.out])
            have pp5 := cell_regrown p5
            have pp6 := cell_regrown p6
            have ppc := cell_regrown hs4
            have pq0 := cell_regrown q0
            have pq1 := cell_regrown q1
            have pq2 := cell_regrown q2
            have pq3 := cell_regrown q3
            have hfrU : RI U.drew U.drew.heap.size (some ⟨bf, of, none⟩) 1 [x] := ri_one (by show U.cell? _ = _; exact cfU)
            have hvU := (ovU.below D1).ri'
            generalize hI : M.insN (6, a1, a2, x3) [x] V = I at *
            clear HR HCS h6'
            obtain ⟨s0, ss, rfl⟩ := cons_of hsl
            go_wp2_with fail
            rw [← HU.out]
            go_wp2_with fail
            (refine wp_region_fresh2 [0, 1, 2, 4, 6, 8, 10, 11, 12, 14] [3, 5, 7, 13, 15, 16] 6 (.one 9 (.one 17 (.first 18 (.first 19 (.first 20 (.first 21 .rest)))))) [22] [22] (by kernel_rfl) (by kernel_rfl) ?_; simp only [pickOps]; simp only [List.filterMap, List.getElem?_cons_succ, List.getElem?_cons_zero]; (repeat (go_big_quiet_step (fail))); refine wpQuiet_nil ?_; (repeat (go_big_quiet_step (fail))); refine wpQuiet_nil ?_)
            refine seqT_one2 rfl ?_
            go_wp2_with fail
            refine (impl_player_inputs b _ _ cv V 6 a1 a2 _ _ c6 x3 _ _ cf [x] _ (show U.drew.cell? _ = _ from p5) hvU ((hr3.more (by omega)).later (bel_trans GU D1)) hfrU (by omega) (by omega) (by omega) (fun e => absurd e (by decide)) (Lib.hid (fun f hf => by have := HFR.out f hf; rw [HL2.out] at this; exact this))).mono ?_
            rintro e w2 ⟨v4, rfl, own1, bel1⟩
            rw [hI] at own1
            have hil : I.length = 1 := HIL.out
            obtain ⟨x0, rfl⟩ := len1 hil
            obtain ⟨g4, cap4, hA4, -, -⟩ := own1.form (by simp)
            subst hA4
            obtain ⟨y4, hy4, cy4, -, -, -⟩ := own1.at' (k := 0) (by simp)
            obtain rfl : y4 = x0 := by have := hy4.out; simpa using this.symm
            have B2 := bel_trans D1 bel1
            have s2 := bel1.size
            clear hil hy4
            go_wp2_with fail
            refine ⟨regrown_of_below B2, ?_⟩
            refine seqT_one2 rfl ?_
            obtain ⟨bs, os, rfl, hbs, hcs0⟩ := ri_lit hs3.1 (by simp)
            go_wp2_with fail
            refine (impl_step6 a1 a2 _ _ c6 _ _ _ cap4 _ _ _ c' y4 s0 ss _ cy4 (hs3.below B2).1 (by have := HCX.out.1; have h6' := (M.nodeOk_start HOK.out).2.1 rfl; simp [M.stLen] at this h6'; simp; omega) hs2).mono ?_
            rintro e w3 ⟨v5, rfl, own2, bel2⟩
            obtain ⟨A5, c5, rfl, hle5, -, -⟩ := own_shape own2
            have B3 := bel_trans B2 bel2
            have s3 := bel2.size
            go_wp2_with fail
            refine ⟨regrown_of_below B3, ?_⟩
            (refine seqT_first2 rfl ?_; (repeat (go_big_quiet_step (fail))); refine wpQuiet_nil ?_)
            (refine seqT_first2 rfl ?_; (repeat (go_big_quiet_step (fail))); refine wpQuiet_nil ?_)
            (refine seqT_first2 rfl ?_; (repeat (go_big_quiet_step (fail))); refine wpQuiet_nil ?_)
            (refine seqT_first2 rfl ?_; (repeat (go_big_quiet_step (fail))); refine wpQuiet_nil ?_)
            refine seqT_rest2 ?_
            have zc : w3.cell? ⟨bc, t, none⟩ = some (.slice (some ⟨bs, os, none⟩) (s0 :: ss).length c') := by rw [B3.cell (by show bc < _; omega)]; exact hs4
            have zcf : w3.frozen? ⟨bc, t, none⟩ = false := by rw [B3.frozen (by show bc < _; omega)]; exact hs5
            have HNX := Lib.hid (show M.nNext (6, a1, a2, x3) [y4] (s0 :: ss) 0 = ss ++ [y4] by simp [M.nNext, M.i_])
            have hln : (ss ++ [y4]).length = ss.length + 1 := by simp
            have hRN : RN G w3 A5 (ss ++ [y4]).length (ss ++ [y4]) := RN.of_oi own2 (fun k hk => by have := hGs k hk; omega)
            have C2 := (ocU.below B3).set (hG _ (Or.inr rfl)) t hle5 hRN
            rw [hln] at C2
            have HLN := Lib.hid hln
            have O2 := (ovU.below B3).kept (grown_setCell _ bc t (.slice A5 (ss.length + 1) c5)) (.inr (by simp only [Value.ownBlock, ne_eq, Option.some.injEq]; exact hne))
            clear hln
            go_wp2_with fail
            refine ⟨⟨t + 1, by go_num, by omega, (hchU.trans (grow_chg B3)).trans (Chg.set w3 bc t _ (Or.inr rfl)), O2, ?_⟩, by simp [intOf]; omega⟩
            rw [HT.out, HNX.out]
            exact C2
          · have hne6 : (a0 == 6) = false := by simpa using h6
            have HT := Lib.hid (show M.delN ns [x] V C (t + 1) = C1 by rw [HR.out, HNN.out, if_neg h6])
            clear HR
            go_wp2_with fail
            rw [← HU.out]
            go_wp2_with fail
            exact ⟨⟨t + 1, by go_num, by omega, hchU, ovU, by rw [HT.out]; exact ocU⟩, by simp [intOf]; omega⟩
        · have htn : t = n2 := by omega
          subst htn
          have HE := HE2.out
          rw [HL2.out] at HE
          rw [HE] at oc
          go_wp2_with fail
          go_end0
          exact ⟨rfl, hch, by rw [HV.out]; exact ov, oc⟩
end Go.Proofs.YtfkcoiefkjmdeaaGreat
namespace Go.Proofs.YtfkcoiefkjmdeaaGreat
open Go.RowKit Go.Sort
set_option maxHeartbeats 4000000
set_option maxRecDepth 100000
set_option linter.unusedVariables false
set_option linter.unusedSimpArgs false
theorem M.start_len {x : Node} {t : Int} (h : M.nodeOk x t = true) : (M.start x).length ≤ 16 := by
  rw [(M.start_ok h).1]
  obtain ⟨k, a, b, l⟩ := x
  obtain ⟨hk, h6, h17⟩ := M.nodeOk_start h
  simp only at hk h6 h17
  rw [M.stLen]
  dsimp only
  by_cases e6 : k = 6
  · have := h6 e6
    rw [if_pos e6]; omega
  rw [if_neg e6]
  by_cases e17 : k = 17
  · have := h17 e17
    rw [if_pos e17]; omega
  rw [if_neg e17]
  repeat' split
  all_goals omega
theorem M.start_take {ns : List Node} {k : Nat} {x : Node} (h : ns[k]? = some x) : (ns.map M.start).take (k + 1) = (ns.map M.start).take k ++ [M.start x] := by
  rw [M.take_at]
  simp [h]
theorem impl_startState (a0 : Int) (A1 : Option Addr) (n1 c1 : Nat) (A2 : Option Addr) (n2 c2 : Nat) (A3 : Option Addr) (n3 c3 : Nat) (ns : List Node) (tb : Int) (w : World) (h2 : RS tN w w.heap.size (.slice A2 n2 c2) ns) (hnz : hNS.sz ns ≤ 100000000) (hok : Hid (∀ x ∈ ns, M.nodeOk x tb = true)) :
    Calls Tryz.prog 115 #[.agg #[.int .i64 a0, .slice A1 n1 c1, .slice A2 n2 c2, .slice A3 n3 c3]] w fun e w' => ∃ v, e = .returned (.agg #[v]) ∧ OS tS 26 w' (Iv w.heap.size w'.heap.size) v (ns.map M.start) ∧ Below w.heap.size w w' := by
  obtain ⟨W0, hW0, B0_, s0, p0, p1, p2, p3, pf⟩ := newbox4 w (.int .i64 a0) (.slice A1 n1 c1) (.slice A2 n2 c2) (.slice A3 n3 c3) 36
  obtain ⟨W1, hW1, B1_, s1, r0, rf⟩ := newbox1 W0 (.slice none 0 0) 153
  obtain ⟨W, hW, B2_, s2, d0, df⟩ := newbox1 W1 (.slice none 0 0) 153
  have BW := bel_trans (bel_trans B0_ B1_) B2_
  have q2 : W.cell? ⟨w.heap.size, 2, none⟩ = some (.slice A2 n2 c2) := by rw [(bel_trans B1_ B2_).cell (by show w.heap.size < _; omega)]; exact p2
  have R0 : W.cell? ⟨w.heap.size + 1, 0, none⟩ = some (.slice none 0 0) := by rw [s0] at r0; rw [B2_.cell (by show w.heap.size + 1 < _; omega)]; exact r0
  have RF : W.frozen? ⟨w.heap.size + 1, 0, none⟩ = false := by have := rf 0; rw [s0] at this; rw [B2_.frozen (by show w.heap.size + 1 < _; omega)]; exact this
  have e1 : W1.heap.size = w.heap.size + 1 + 1 := by omega
  rw [e1] at d0 df
  have df0 := df 0
  rw [hW0] at hW1
  rw [hW1] at hW
  have HW := Lib.hid hW
  have lW : w.heap.size + 1 + 1 < W.heap.size := by omega
  have hl := Lib.hid h2.cap.1
  have hnb : n2 ≤ 100000000 := by have e : ns.length + hN.szL ns = hNS.sz ns := rfl; have := hl.out; omega
  clear hW0 hW1 hW s0 s1 s2 e1 p0 p1 p2 p3 pf r0 rf df B0_ B1_ B2_
  go_enter Tryz.func115, Tryz.ntmps115
  go_wp2_with fail
  rw [← HW.out]
  go_wp2_with fail
  go_loopw [10] (fun i wr => ∃ (k : Nat) (v : Value), i = .int .i64 k ∧ k ≤ n2 ∧ OS tS 26 wr (Iv W.heap.size wr.heap.size) v ((ns.map M.start).take k) ∧ Gr (w.heap.size + 1 + 1) 0 W wr v) (fun i _ => n2 - (intOf i).toNat)
  case atStart => exact ⟨0, _, rfl, by omega, OS.nil _ _ _ _, Gr.start d0⟩
  case round =>
    obtain ⟨k, v, rfl, hk, own, G⟩ := hrel
    have sr := G.chg.size
    have Cwr : Below w.heap.size w wr := BW.trans (G.chg.toBelow (fun b (hb : b = _) => by omega) (by omega))
    by_cases hlt : k < n2
    · obtain ⟨bb, o, b0, b1, b2, A5, c5, y3, rfl, hbb, X, e0, e1, e2, e3, hr3, h3b⟩ := node_cell (h2.below Cwr) hnz hlt
      have hbw : bb < wr.heap.size := by omega
      obtain ⟨V, hV, BV, sV, n0, n1, n2_, n3_, nf⟩ := newbox4 wr (.int .i64 b0) (.int .i64 b1) (.int .i64 b2) (.slice A5 y3.length c5) 122
      have hvg : V.cell? ⟨w.heap.size + 1 + 1, 0, none⟩ = some v := by rw [BV.cell (by show w.heap.size + 1 + 1 < _; omega)]; exact G.cel
      have m0 := cell_regrown n0
      have m1 := cell_regrown n1
      have m2 := cell_regrown n2_
      have m3 := cell_regrown n3_
      have mg := cell_regrown hvg
      have HV := Lib.hid hV
      have DV : Below wr.heap.size wr V.drew := below_drewN BV 1
      have DD : Below V.heap.size V V.drew := below_drewN (Below.refl _ _) 1
      have hdv : V.drew.heap.size = V.heap.size := rfl
      have hpt := Lib.hid (M.start_take X.out)
      have hxl : ((ns.map M.start).take k).length ≤ 100000000 := by rw [List.length_take]; omega
      have hokx := hok.out _ (List.mem_of_getElem? X.out)
      have HOK := Lib.hid hokx
      clear hV hokx
      go_wp2_with fail
      rw [← HV.out]
      (refine wp_region_fresh [0] [1, 2] 2 (.one 3 (.one 4 .rest)) [5, 6, 7] (by kernel_rfl) (by kernel_rfl) ?_; simp only [pickOps]; simp only [List.filterMap, List.getElem?_cons_succ, List.getElem?_cons_zero]; (repeat (go_big_quiet_step (fail))); refine wpQuiet_nil ?_; (repeat (go_big_quiet_step (fail))); refine wpQuiet_nil ?_)
      refine seqT_one rfl ?_
      go_wp2_with fail
      refine (impl_start b0 b1 b2 _ _ c5 y3 tb _ HOK.out).mono ?_
      rintro e w2 ⟨v1, rfl, on, bel2⟩
      generalize hS : M.start (b0, b1, b2, y3) = st at *
      obtain ⟨A6, c6, rfl, -⟩ := on.shape
      have s2_ := bel2.size
      have Bw2 := bel_trans DV bel2
      have BVw := bel_trans DD bel2
      have own2 := own.below Bw2 (Nat.le_refl _)
      have G2 := G.below Bw2 (by omega)
      have os2 := tS_O.2 (OI.os on)
      go_wp2_with fail
      refine ⟨regrown_of_below BVw, seqT_one rfl ?_⟩
      go_wp2_with fail
      refine ⟨regrown_of_below (bel_trans BVw ((Below.refl _ _).alloc (Nat.le_refl _) _)), seqT_rest ?_⟩
      go_wp2_with (at_builtin; refine wpList_pushS ei_S #[.slice A6 st.length c6] rfl _ _ rfl own2 os2 (Iv.apart (by omega)) rfl rfl (by unfold maxLen; omega) (by omega) ?_; intro v3 w4 own4 ch4; obtain ⟨A7, c7, e7⟩ := own4.shape; obtain ⟨n7, hn7⟩ : ∃ n7, n7 = ((ns.map M.start).take k ++ [st]).length := ⟨_, rfl⟩; rw [← hn7] at e7; subst e7; have HN7 := Lib.hid hn7; clear hn7; have G4 := G2.row ch4 (by omega) (fun b hb => ⟨hb.1, by have := hb.1; omega⟩); have hc4 := G4.cel; have hf4 : w4.frozen? ⟨w.heap.size + 1 + 1, 0, none⟩ = false := (by rw [G4.fro]; exact df0))
      go_roundw
      case rel =>
        have s4 := ch4.size
        refine ⟨k + 1, _, by go_num, by omega, ?_, G4.set df0 _⟩
        rw [hpt.out]
        refine (own4.chg (Chg.set (F := fun b => b = w.heap.size + 1 + 1) w4 (w.heap.size + 1 + 1) 0 _ rfl) (fun b hb (e : b = _) => ?_)).wide (fun b hb => ?_)
        · rcases hb with hb | hb | hb
          · have := hb.1; omega
          · have := hb.1; omega
          · omega
        · have e9 : (w4.setCell ⟨w.heap.size + 1 + 1, 0, none⟩ (.slice A7 n7 c7)).heap.size = w4.heap.size := by simp
          rcases hb with hb | hb | hb
          · exact ⟨hb.1, by have := hb.2; omega⟩
          · exact ⟨by have := hb.1; omega, by have := hb.2; omega⟩
          · exact ⟨by omega, by omega⟩
      case measure => simp [intOf]; omega
    · obtain rfl : k = n2 := by omega
      rw [List.take_of_length_le (by rw [List.length_map, hl.out]; exact Nat.le_refl _)] at own
      obtain ⟨A2', c2', rfl⟩ := own.shape
      have gc := G.cel
      have R1 : wr.cell? ⟨w.heap.size + 1, 0, none⟩ = some (.slice none 0 0) := by rw [G.chg.cell (by omega) (by omega)]; exact R0
      have S1 : wr.frozen? ⟨w.heap.size + 1, 0, none⟩ = false := by rw [G.chg.frozen (by omega) (by omega)]; exact RF
      generalize hsl : (ns.map M.start).length = sl at *
      go_wp2
      refine bodyPost_ret (v := .agg #[.slice A2' sl c2']) (by simp [results, Tryz.results115, go_sem, R1, S1]) rfl ?_
      refine ⟨_, rfl, ?_, ?_⟩
      · exact ((own.chg (Chg.set (F := fun b => b = w.heap.size + 1) wr (w.heap.size + 1) 0 _ rfl) (fun b hb (e : b = _) => by have := hb.1; omega))).wide (fun b hb => ⟨by have := hb.1; omega, by have := hb.2; simpa using this⟩)
      · exact Cwr.setCell (by simp) _
end Go.Proofs.YtfkcoiefkjmdeaaGreat
