import Derived.Test.YtffhodocjjkkoaaGreatFnExactStemOfG9
import Derived.Test.YtffhodocjjkkoaaGreatFnExactStemOfG6
import Derived.Test.YtffhodocjjkkoaaGreatFnExactStemOfG7
import Derived.Lib.QuietBelow
import Derived.BigQuiet
set_option linter.unusedVariables false
set_option linter.unusedSimpArgs false
set_option maxRecDepth 100000
set_option maxHeartbeats 4000000
namespace Go.Proofs.YtffhodocjjkkoaaGreat
section
open Go.RowKit Go.Sort
theorem spec_l06Noise (x : Int) (w : World) : Calls Tryz.prog 208 #[.int .i64 x] w fun e w' => e = .returned (.int .i64 (zd6 x)) ∧ w = w' := by
 have hl := M.and_low x
 have ho := zrz (x % 4294967296)
 by_cases h : x % 2 = 1
 · have R := Lib.hid (show zd6 x = wrap32 (zi1 (x % 4294967296 / 2)) by rw [zd6,if_pos h])
   have hd : (x % 4294967296 % 2 == 1) = true := by simp; omega
   clear h
   go_enter Tryz.func208,Tryz.ntmps208
   go_wp2_with (go_at_call 146; refine (zia _ _).mono ?_; rintro e w' ⟨rfl,rfl⟩)
   go_ret
   exact ⟨zar (by rw [R.out,zi1]),rfl⟩
 · have R := Lib.hid (show zd6 x = wrap32 (x % 4294967296 / 2) by rw [zd6,if_neg h])
   have hd : (x % 4294967296 % 2 == 1) = false := by simp; omega
   clear h
   go_enter Tryz.func208,Tryz.ntmps208
   go_wp2_with (go_at_call 146; refine (zia _ _).mono ?_; rintro e w' ⟨rfl,rfl⟩)
   go_ret
   exact ⟨zar (by rw [R.out]),rfl⟩
end
section
open Go.RowKit Go.Sort
section
variable {P : Program} {t e : TypeId} {z : Value} {bytes : Nat}
end
theorem spec_next6 (bn on_ : Nat) (bi oi ci : Nat) (i0 : Int) (bs os_ ns cs : Nat) (s0 : Int) (ss : List Int) (out : Int) (w : World) (p0 : w.cell? ⟨bn,on_,none⟩ = some (.int .i64 6)) (c0 : w.cell? ⟨bi,oi,none⟩ = some (.int .i64 i0)) (hs : RI w w.heap.size (some ⟨bs,os_,none⟩) ns (s0 :: ss)) (hns : ns ≤ 16) (hcs : ns ≤ cs) :
 Calls Tryz.prog 195 #[.pointer (some ⟨bn,on_,none⟩),.slice (some ⟨bi,oi,none⟩) 1 ci,.slice (some ⟨bs,os_,none⟩) ns cs,.int .i64 out] w (Ret1 2 w (ss ++ [i0])) := by
 have cc0 := cell_regrown c0
 clear c0
 have hl := hs.len
 simp only [List.length_cons] at hl
 have D1 : Below w.heap.size w w.drew := zac (Below.refl _ _) 1
 have ht0 := hs.tail1 hcs
 clear hs
 obtain ⟨A9,ht0,e9⟩ : ∃ A9,RI w w.heap.size A9 (ns - 1) ss ∧ ((cs = 1 ∧ A9 = some ⟨bs,os_,none⟩) ∨ (¬ cs = 1 ∧ A9 = some ⟨bs,os_ + 1,none⟩)) := by
  by_cases h : cs = 1
  · rw [if_pos h] at ht0
    exact ⟨_,ht0,.inl ⟨h,rfl⟩⟩
  · rw [if_neg h] at ht0
    exact ⟨_,ht0,.inr ⟨h,rfl⟩⟩
 rcases e9 with ⟨h1,rfl⟩ | ⟨h1,rfl⟩
 all_goals
  have ht := ht0.later D1
  go_enter Tryz.func195,Tryz.ntmps195
  go_wp2_with fail
  (refine zcq [0,1,3,4] [5] 3 (.two 2 (.one 6 (.one 7 .rest)) 6 (.one 2 (.one 7 .rest))) [8] (by kernel_rfl) (by kernel_rfl) ?_; simp only [zaj]; simp only [List.filterMap,List.getElem?_cons_succ,List.getElem?_cons_zero]; (repeat (go_big_quiet_step (fail))); refine wpQuiet_nil ?_; (repeat (go_big_quiet_step (fail))); refine wpQuiet_nil ?_)
  refine zc9 rfl rfl ?_ ?_
  · go_wp2_with fail
    refine (zfb _ _ _ _ _ ht (by omega)).mono ?_
    rintro e w1 ⟨v1,rfl,own1,bel1⟩
    have B1 : Below w.heap.size w w1 := D1.trans bel1
    go_wp2_with fail
    refine ⟨regrown_of_below B1,zao rfl ?_⟩
    go_wp2_with fail
    refine ⟨regrown_of_below (B1.alloc B1.size _),zao rfl ?_⟩
    go_wp2_with (at_builtin; refine zdy zbs rfl _ _ rfl own1 rfl rfl rfl (by unfold maxLen; omega) (by omega) B1.size ?_; intro v2 w2 own2 gr2 bel2)
    refine ⟨regrown_of_below (B1.trans bel2),zbi ?_⟩
    go_wp2
    go_ret
    exact ⟨_,rfl,OI.push own2,B1.trans bel2⟩
  · have B1 : Below w.heap.size w (w.alloc (.cells #[.int .i64 i0] 2)).drew := zac ((Below.refl _ _).alloc (Nat.le_refl _) _) 1
    have ht2 : RI (w.alloc (.cells #[.int .i64 i0] 2)).drew (w.alloc (.cells #[.int .i64 i0] 2)).drew.heap.size _ (ns - 1) ss := ht0.later B1
    have hg1 : (w.alloc (.cells #[.int .i64 i0] 2)).drew.cell? ⟨w.heap.size,0,none⟩ = some (.int .i64 i0) := zh9 _ _ _
    have hz1 : (w.alloc (.cells #[.int .i64 i0] 2)).drew.heap.size = w.heap.size + 1 := by show (w.alloc (.cells #[.int .i64 i0] 2)).heap.size = _; simp
    go_wp2_with fail
    refine ⟨regrown_of_below B1,zao rfl ?_⟩
    go_wp2_with fail
    generalize (w.alloc (.cells #[.int .i64 i0] 2)).drew = V at B1 ht2 hg1 hz1 ⊢
    refine (zfb _ _ _ _ _ ht2 (by omega)).mono ?_
    rintro e w1 ⟨v1,rfl,own1,bel1⟩
    have B2 := zaa B1 bel1
    have hg2 : w1.cell? ⟨w.heap.size,0,none⟩ = some (.int .i64 i0) := by rw [bel1.cell (by show w.heap.size < V.heap.size; omega)]; exact hg1
    go_wp2_with fail
    refine ⟨regrown_of_below B2,zao rfl ?_⟩
    go_wp2_with (at_builtin; refine zst zbs rfl _ _ rfl own1 rfl rfl hg2 rfl (by unfold maxLen; omega) (by omega) bel1.size ?_; intro v2 w2 own2 gr2 bel2)
    have B3 : Below w.heap.size w w2 := B2.trans (bel2.mono (by omega))
    refine ⟨regrown_of_below B3,zbi ?_⟩
    go_wp2
    go_ret
    exact ⟨_,rfl,(OI.push own2).base (by omega),B3⟩
theorem spec_next17 (bn on_ : Nat) (I : Value) (i0 : Int) (bs os_ ns cs : Nat) (s0 : Int) (ss : List Int) (out : Int) (w : World) (p0 : w.cell? ⟨bn,on_,none⟩ = some (.int .i64 17)) (hs : RI w w.heap.size (some ⟨bs,os_,none⟩) ns (s0 :: ss)) (hns : ns ≤ 16) (hcs : ns ≤ cs) :
 Calls Tryz.prog 195 #[.pointer (some ⟨bn,on_,none⟩),I,.slice (some ⟨bs,os_,none⟩) ns cs,.int .i64 out] w (Ret1 2 w (ss ++ [out])) := by
 have hl := hs.len
 simp only [List.length_cons] at hl
 have D1 : Below w.heap.size w w.drew := zac (Below.refl _ _) 1
 have ht0 := hs.tail1 hcs
 clear hs
 obtain ⟨A9,ht0,e9⟩ : ∃ A9,RI w w.heap.size A9 (ns - 1) ss ∧ ((cs = 1 ∧ A9 = some ⟨bs,os_,none⟩) ∨ (¬ cs = 1 ∧ A9 = some ⟨bs,os_ + 1,none⟩)) := by
  by_cases h : cs = 1
  · rw [if_pos h] at ht0
    exact ⟨_,ht0,.inl ⟨h,rfl⟩⟩
  · rw [if_neg h] at ht0
    exact ⟨_,ht0,.inr ⟨h,rfl⟩⟩
 rcases e9 with ⟨h1,rfl⟩ | ⟨h1,rfl⟩
 all_goals
  go_enter Tryz.func195,Tryz.ntmps195
  go_wp2_with (first
   | (go_at_call 178; refine (zfb _ _ _ _ _ ht0 (by omega)).mono ?_; rintro e w1 ⟨v1,rfl,own1,bel1⟩)
   | (at_builtin; refine zdy zbs rfl _ _ rfl own1 rfl rfl rfl (by unfold maxLen; omega) (by omega) bel1.size ?_; intro v2 w2 own2 gr2 bel2))
  go_ret
  exact ⟨_,rfl,OI.push own2,bel1.trans bel2⟩
theorem spec_next7 (bn on_ : Nat) (I : Value) (i0 : Int) (S : Value) (s0 : Int) (out : Int) (w : World) (p0 : w.cell? ⟨bn,on_,none⟩ = some (.int .i64 7))  :
 Calls Tryz.prog 195 #[.pointer (some ⟨bn,on_,none⟩),I,S,.int .i64 out] w (Ret1 2 w ([out])) := by
 have O1 := zdt w out
 go_enter Tryz.func195,Tryz.ntmps195
 go_wp2
 go_ret
 exact ⟨_,rfl,O1,(Below.refl _ _).alloc (Nat.le_refl _) _⟩
theorem spec_next16 (bn on_ : Nat) (I : Value) (i0 : Int) (S : Value) (s0 : Int) (out : Int) (w : World) (p0 : w.cell? ⟨bn,on_,none⟩ = some (.int .i64 16))  :
 Calls Tryz.prog 195 #[.pointer (some ⟨bn,on_,none⟩),I,S,.int .i64 out] w (Ret1 2 w ([out])) := by
 have O1 := zdt w out
 go_enter Tryz.func195,Tryz.ntmps195
 go_wp2
 go_ret
 exact ⟨_,rfl,O1,(Below.refl _ _).alloc (Nat.le_refl _) _⟩
theorem spec_next8 (bn on_ : Nat) (bi oi ci : Nat) (i0 : Int) (S : Value) (s0 : Int) (out : Int) (w : World) (p0 : w.cell? ⟨bn,on_,none⟩ = some (.int .i64 8)) (c0 : w.cell? ⟨bi,oi,none⟩ = some (.int .i64 i0))  :
 Calls Tryz.prog 195 #[.pointer (some ⟨bn,on_,none⟩),.slice (some ⟨bi,oi,none⟩) 1 ci,S,.int .i64 out] w (Ret1 2 w ([i0])) := by
 have O1 := zdt w i0
 go_enter Tryz.func195,Tryz.ntmps195
 go_wp2
 go_ret
 exact ⟨_,rfl,O1,(Below.refl _ _).alloc (Nat.le_refl _) _⟩
theorem spec_next14 (bn on_ : Nat) (I : Value) (i0 : Int) (bs os_ ns cs : Nat) (s0 : Int) (out : Int) (w : World) (p0 : w.cell? ⟨bn,on_,none⟩ = some (.int .i64 14)) (d0 : w.cell? ⟨bs,os_,none⟩ = some (.int .i64 s0)) (hns : 1 ≤ ns) :
 Calls Tryz.prog 195 #[.pointer (some ⟨bn,on_,none⟩),I,.slice (some ⟨bs,os_,none⟩) ns cs,.int .i64 out] w (Ret1 2 w ([zd6 s0])) := by
 have O1 := zdt w (zd6 s0)
 go_enter Tryz.func195,Tryz.ntmps195
 go_wp2_with (go_at_call 208; refine (spec_l06Noise _ _).mono ?_; rintro e w' ⟨rfl,rfl⟩)
 go_ret
 exact ⟨_,rfl,O1,(Below.refl _ _).alloc (Nat.le_refl _) _⟩
theorem spec_next12 (bn on_ : Nat) (bi oi ci : Nat) (i0 : Int) (bs os_ ns cs : Nat) (s0 : Int) (out : Int) (w : World) (p0 : w.cell? ⟨bn,on_,none⟩ = some (.int .i64 12)) (c0 : w.cell? ⟨bi,oi,none⟩ = some (.int .i64 i0)) (d0 : w.cell? ⟨bs,os_,none⟩ = some (.int .i64 s0)) (hns : 1 ≤ ns) :
 Calls Tryz.prog 195 #[.pointer (some ⟨bn,on_,none⟩),.slice (some ⟨bi,oi,none⟩) 1 ci,.slice (some ⟨bs,os_,none⟩) ns cs,.int .i64 out] w (Ret1 2 w ([wrap32 (s0 + i0)])) := by
 have cc0 := cell_regrown c0
 have dd0 := cell_regrown d0
 clear c0 d0
 have O1 := zdt w (wrap32 (s0 + i0))
 have D1 : Below w.heap.size w w.drew := zac (Below.refl _ _) 1
 have B1 : Below w.heap.size w (w.alloc (.cells #[.int .i64 (wrap32 (s0 + i0))] 2)).drew := zac ((Below.refl _ _).alloc (Nat.le_refl _) _) 1
 go_enter Tryz.func195,Tryz.ntmps195
 go_wp2_with fail
 (refine zcq [0,1,3,4] [2,5] 2 (.one 6 (.one 7 .rest)) [8] (by kernel_rfl) (by kernel_rfl) ?_; simp only [zaj]; simp only [List.filterMap,List.getElem?_cons_succ,List.getElem?_cons_zero]; (repeat (go_big_quiet_step (fail))); refine wpQuiet_nil ?_; (repeat (go_big_quiet_step (fail))); refine wpQuiet_nil ?_)
 refine zao rfl ?_
 go_wp2_with (go_at_call 106; refine (zgo _ _ _).mono ?_; rintro e w' ⟨rfl,rfl⟩)
 refine ⟨regrown_of_below D1,zao rfl ?_⟩
 go_wp2_with fail
 refine ⟨regrown_of_below B1,zbi ?_⟩
 go_wp2
 go_ret
 exact ⟨_,rfl,O1,B1⟩
theorem spec_next_pure (k : Int) (bn on_ : Nat) (I S : Value) (out : Int) (w : World) (p0 : w.cell? ⟨bn,on_,none⟩ = some (.int .i64 k)) (hk : k = 1 ∨ k = 2 ∨ k = 3 ∨ k = 4 ∨ k = 5 ∨ k = 9 ∨ k = 10 ∨ k = 11 ∨ k = 13 ∨ k = 15) :
 Calls Tryz.prog 195 #[.pointer (some ⟨bn,on_,none⟩),I,S,.int .i64 out] w (Ret1 2 w []) := by
 have O1 : OI 2 w.heap.size (w.alloc (.cells #[] 2)) (.slice (some ⟨w.heap.size,0,none⟩) 0 0) [] := OI.made _ _
 rcases hk with rfl | rfl | rfl | rfl | rfl | rfl | rfl | rfl | rfl | rfl
 all_goals
  go_enter Tryz.func195,Tryz.ntmps195
  go_wp2
  go_ret
  exact ⟨_,rfl,O1,(Below.refl _ _).alloc (Nat.le_refl _) _⟩
end
section
open Go.RowKit Go.Sort
theorem spec_l06Next (bn on_ : Nat) (a0 a1 a2 : Int) (xs : List Int) (At : Option Addr) (nt ct : Nat) (tb : List (List Int)) (Ai : Option Addr) (ni ci : Nat) (ins : List Int) (As : Option Addr) (ns cs : Nat) (s : List Int) (w : World) (ht : RS tS w w.heap.size (.slice At nt ct) tb) (htb : zb4 tb = true) (hi : RI w w.heap.size Ai ni ins) (hs : RI w w.heap.size As ns s) (hcs : ns ≤ cs)
 (hok : zai (a0,a1,a2,xs) nt = true) (hil : ins.length = zf4 a0) (hia : ins.all M.smp = true) (hsl : s.length = zcp (a0,a1,a2,xs)) (hsa : s.all M.smp = true) (p0 : w.cell? ⟨bn,on_,none⟩ = some (.int .i64 a0)) :
 Calls Tryz.prog 195 #[.pointer (some ⟨bn,on_,none⟩),.slice Ai ni ci,.slice As ns cs,.int .i64 (zah (a0,a1,a2,xs) tb ins s)] w (Ret1 2 w (zak (a0,a1,a2,xs) ins s (zah (a0,a1,a2,xs) tb ins s))) := by
 generalize zah (a0,a1,a2,xs) tb ins s = out
 obtain ⟨hk,h6,h17⟩ := zea hok
 obtain ⟨hb5,hb10,hb11,hb13,hb17,-⟩ := zgw hok
 have hnt : tb.length = nt := ht.cap.1
 simp only at hk h6 h17
 rcases ze3 hk with rfl | rfl | rfl | rfl | rfl | rfl | rfl | rfl | rfl | rfl | rfl | rfl | rfl | rfl | rfl | rfl | rfl
 case inl =>
  exact (spec_next_pure _ _ _ _ _ _ w p0 (by simp)).mono fun e w' h => by simpa [zah,zak,M.i_] using h
 case inr.inl =>
  exact (spec_next_pure _ _ _ _ _ _ w p0 (by simp)).mono fun e w' h => by simpa [zah,zak,M.i_] using h
 case inr.inr.inl =>
  exact (spec_next_pure _ _ _ _ _ _ w p0 (by simp)).mono fun e w' h => by simpa [zah,zak,M.i_] using h
 case inr.inr.inr.inl =>
  exact (spec_next_pure _ _ _ _ _ _ w p0 (by simp)).mono fun e w' h => by simpa [zah,zak,M.i_] using h
 case inr.inr.inr.inr.inl =>
  exact (spec_next_pure _ _ _ _ _ _ w p0 (by simp)).mono fun e w' h => by simpa [zah,zak,M.i_] using h
 case inr.inr.inr.inr.inr.inl =>
  obtain ⟨i0,rfl⟩ := len1 (show ins.length = 1 from hil)
  have hn := hi.len
  simp only [List.length_cons,List.length_nil] at hn
  subst hn
  obtain ⟨bi,oi,rfl,hbi,hci⟩ := zam hi (by omega)
  have c0 : w.cell? ⟨bi,oi,none⟩ = some (.int .i64 i0) := hci 0 _ rfl
  have e0 := zaq hia (k := 0) (x := i0) rfl
  have hsl2 : s.length = a1.toNat := hsl
  have hsr := h6 rfl
  obtain ⟨s0,ss,rfl⟩ := zgy (xs := s) (by omega)
  have hm := hs.len
  simp only [List.length_cons] at hm hsl2
  obtain ⟨bs,os_,rfl,hbs,hcs0⟩ := zam hs (by omega)
  have d0 : w.cell? ⟨bs,os_,none⟩ = some (.int .i64 s0) := hcs0 0 _ rfl
  have f0 := zaq hsa (k := 0) (x := s0) rfl
  exact (spec_next6 _ _ _ _ _ _ _ _ _ _ _ _ out w p0 c0 hs (by omega) hcs).mono fun e w' h => by simpa [zah,zak,M.i_] using h
 case inr.inr.inr.inr.inr.inr.inl =>
  obtain ⟨i0,rfl⟩ := len1 (show ins.length = 1 from hil)
  have hn := hi.len
  simp only [List.length_cons,List.length_nil] at hn
  subst hn
  obtain ⟨bi,oi,rfl,hbi,hci⟩ := zam hi (by omega)
  have c0 : w.cell? ⟨bi,oi,none⟩ = some (.int .i64 i0) := hci 0 _ rfl
  have e0 := zaq hia (k := 0) (x := i0) rfl
  obtain ⟨s0,rfl⟩ := len1 (show s.length = 1 from hsl)
  have hm := hs.len
  simp only [List.length_cons,List.length_nil] at hm
  obtain ⟨bs,os_,rfl,hbs,hcs0⟩ := zam hs (by omega)
  have d0 : w.cell? ⟨bs,os_,none⟩ = some (.int .i64 s0) := hcs0 0 _ rfl
  have f0 := zaq hsa (k := 0) (x := s0) rfl
  exact (spec_next7 _ _ _ (0 : Int) _ (0 : Int) out w p0).mono fun e w' h => by simpa [zah,zak,M.i_] using h
 case inr.inr.inr.inr.inr.inr.inr.inl =>
  obtain ⟨i0,rfl⟩ := len1 (show ins.length = 1 from hil)
  have hn := hi.len
  simp only [List.length_cons,List.length_nil] at hn
  subst hn
  obtain ⟨bi,oi,rfl,hbi,hci⟩ := zam hi (by omega)
  have c0 : w.cell? ⟨bi,oi,none⟩ = some (.int .i64 i0) := hci 0 _ rfl
  have e0 := zaq hia (k := 0) (x := i0) rfl
  obtain ⟨s0,rfl⟩ := len1 (show s.length = 1 from hsl)
  have hm := hs.len
  simp only [List.length_cons,List.length_nil] at hm
  obtain ⟨bs,os_,rfl,hbs,hcs0⟩ := zam hs (by omega)
  have d0 : w.cell? ⟨bs,os_,none⟩ = some (.int .i64 s0) := hcs0 0 _ rfl
  have f0 := zaq hsa (k := 0) (x := s0) rfl
  exact (spec_next8 _ _ _ _ _ _ _ (0 : Int) out w p0 c0).mono fun e w' h => by simpa [zah,zak,M.i_] using h
 case inr.inr.inr.inr.inr.inr.inr.inr.inl =>
  exact (spec_next_pure _ _ _ _ _ _ w p0 (by simp)).mono fun e w' h => by simpa [zah,zak,M.i_] using h
 case inr.inr.inr.inr.inr.inr.inr.inr.inr.inl =>
  exact (spec_next_pure _ _ _ _ _ _ w p0 (by simp)).mono fun e w' h => by simpa [zah,zak,M.i_] using h
 case inr.inr.inr.inr.inr.inr.inr.inr.inr.inr.inl =>
  exact (spec_next_pure _ _ _ _ _ _ w p0 (by simp)).mono fun e w' h => by simpa [zah,zak,M.i_] using h
 case inr.inr.inr.inr.inr.inr.inr.inr.inr.inr.inr.inl =>
  obtain ⟨i0,rfl⟩ := len1 (show ins.length = 1 from hil)
  have hn := hi.len
  simp only [List.length_cons,List.length_nil] at hn
  subst hn
  obtain ⟨bi,oi,rfl,hbi,hci⟩ := zam hi (by omega)
  have c0 : w.cell? ⟨bi,oi,none⟩ = some (.int .i64 i0) := hci 0 _ rfl
  have e0 := zaq hia (k := 0) (x := i0) rfl
  obtain ⟨s0,rfl⟩ := len1 (show s.length = 1 from hsl)
  have hm := hs.len
  simp only [List.length_cons,List.length_nil] at hm
  obtain ⟨bs,os_,rfl,hbs,hcs0⟩ := zam hs (by omega)
  have d0 : w.cell? ⟨bs,os_,none⟩ = some (.int .i64 s0) := hcs0 0 _ rfl
  have f0 := zaq hsa (k := 0) (x := s0) rfl
  exact (spec_next12 _ _ _ _ _ _ _ _ _ _ _ out w p0 c0 d0 (by omega)).mono fun e w' h => by simpa [zah,zak,M.i_] using h
 case inr.inr.inr.inr.inr.inr.inr.inr.inr.inr.inr.inr.inl =>
  exact (spec_next_pure _ _ _ _ _ _ w p0 (by simp)).mono fun e w' h => by simpa [zah,zak,M.i_] using h
 case inr.inr.inr.inr.inr.inr.inr.inr.inr.inr.inr.inr.inr.inl =>
  obtain rfl := len0 (show ins.length = 0 from hil)
  have hn := hi.len
  simp only [List.length_nil] at hn
  subst hn
  obtain ⟨s0,rfl⟩ := len1 (show s.length = 1 from hsl)
  have hm := hs.len
  simp only [List.length_cons,List.length_nil] at hm
  obtain ⟨bs,os_,rfl,hbs,hcs0⟩ := zam hs (by omega)
  have d0 : w.cell? ⟨bs,os_,none⟩ = some (.int .i64 s0) := hcs0 0 _ rfl
  have f0 := zaq hsa (k := 0) (x := s0) rfl
  exact (spec_next14 _ _ _ (0 : Int) _ _ _ _ _ out w p0 d0 (by omega)).mono fun e w' h => by simpa [zah,zak,M.i_] using h
 case inr.inr.inr.inr.inr.inr.inr.inr.inr.inr.inr.inr.inr.inr.inl =>
  exact (spec_next_pure _ _ _ _ _ _ w p0 (by simp)).mono fun e w' h => by simpa [zah,zak,M.i_] using h
 case inr.inr.inr.inr.inr.inr.inr.inr.inr.inr.inr.inr.inr.inr.inr.inl =>
  obtain ⟨i0,i1,rfl⟩ := len2 (show ins.length = 2 from hil)
  have hn := hi.len
  simp only [List.length_cons,List.length_nil] at hn
  subst hn
  obtain ⟨bi,oi,rfl,hbi,hci⟩ := zam hi (by omega)
  have c0 : w.cell? ⟨bi,oi,none⟩ = some (.int .i64 i0) := hci 0 _ rfl
  have c1 : w.cell? ⟨bi,oi + 1,none⟩ = some (.int .i64 i1) := hci 1 _ rfl
  have e0 := zaq hia (k := 0) (x := i0) rfl
  have e1 := zaq hia (k := 1) (x := i1) rfl
  obtain ⟨s0,rfl⟩ := len1 (show s.length = 1 from hsl)
  have hm := hs.len
  simp only [List.length_cons,List.length_nil] at hm
  obtain ⟨bs,os_,rfl,hbs,hcs0⟩ := zam hs (by omega)
  have d0 : w.cell? ⟨bs,os_,none⟩ = some (.int .i64 s0) := hcs0 0 _ rfl
  have f0 := zaq hsa (k := 0) (x := s0) rfl
  exact (spec_next16 _ _ _ (0 : Int) _ (0 : Int) out w p0).mono fun e w' h => by simpa [zah,zak,M.i_] using h
 case inr.inr.inr.inr.inr.inr.inr.inr.inr.inr.inr.inr.inr.inr.inr.inr =>
  obtain ⟨i0,rfl⟩ := len1 (show ins.length = 1 from hil)
  have hn := hi.len
  simp only [List.length_cons,List.length_nil] at hn
  subst hn
  obtain ⟨bi,oi,rfl,hbi,hci⟩ := zam hi (by omega)
  have c0 : w.cell? ⟨bi,oi,none⟩ = some (.int .i64 i0) := hci 0 _ rfl
  have e0 := zaq hia (k := 0) (x := i0) rfl
  have hsl2 : s.length = a2.toNat := hsl
  have hsr := h17 rfl
  obtain ⟨s0,ss,rfl⟩ := zgy (xs := s) (by omega)
  have hm := hs.len
  simp only [List.length_cons] at hm hsl2
  obtain ⟨bs,os_,rfl,hbs,hcs0⟩ := zam hs (by omega)
  have d0 : w.cell? ⟨bs,os_,none⟩ = some (.int .i64 s0) := hcs0 0 _ rfl
  have f0 := zaq hsa (k := 0) (x := s0) rfl
  exact (spec_next17 _ _ _ (0 : Int) _ _ _ _ _ _ out w p0 hs (by omega) hcs).mono fun e w' h => by simpa [zah,zak,M.i_] using h
end
section
open Go.RowKit Go.Sort
theorem ztn {x : Node} {t : Int} (h : zai x t = true) : (zbd x).length ≤ 16 := by
 rw [(zml h).1]
 obtain ⟨k,a,b,l⟩ := x
 obtain ⟨hk,h6,h17⟩ := zea h
 simp only at hk h6 h17
 rw [zcp]
 dsimp only
 by_cases e6 : k = 6
 · have := h6 e6
   rw [if_pos e6]; omega
 rw [if_neg e6]
 by_cases e17 : k = 17
 · have := h17 e17
   rw [if_pos e17]; omega
 rw [if_neg e17]
 repeat' split
 all_goals omega
theorem zm3 {ns : List Node} {k : Nat} {x : Node} (h : ns[k]? = some x) : (ns.map zbd).take (k + 1) = (ns.map zbd).take k ++ [zbd x] := by
 rw [M.take_at]
 simp [h]
theorem zto (a0 : Int) (A1 : Option Addr) (n1 c1 : Nat) (A2 : Option Addr) (n2 c2 : Nat) (A3 : Option Addr) (n3 c3 : Nat) (ns : List Node) (tb : Int) (w : World) (h2 : RS tN w w.heap.size (.slice A2 n2 c2) ns) (hnz : hNS.sz ns ≤ 100000000) (hok : Hid (∀ x ∈ ns,zai x tb = true)) :
 Calls Tryz.prog 140 #[.agg #[.int .i64 a0,.slice A1 n1 c1,.slice A2 n2 c2,.slice A3 n3 c3]] w fun e w' => ∃ v,e = .returned (.agg #[v]) ∧ OS tS 24 w' (Iv w.heap.size w'.heap.size) v (ns.map zbd) ∧ Below w.heap.size w w' := by
 obtain ⟨W0,hW0,B0_,s0,p0,p1,p2,p3,pf⟩ := zdm w (.int .i64 a0) (.slice A1 n1 c1) (.slice A2 n2 c2) (.slice A3 n3 c3) 107
 obtain ⟨W1,hW1,B1_,s1,r0,rf⟩ := zeb W0 (.slice none 0 0) 177
 obtain ⟨W,hW,B2_,s2,d0,df⟩ := zeb W1 (.slice none 0 0) 177
 have BW := zaa (zaa B0_ B1_) B2_
 have q2 : W.cell? ⟨w.heap.size,2,none⟩ = some (.slice A2 n2 c2) := by rw [(zaa B1_ B2_).cell (by show w.heap.size < _; omega)]; exact p2
 have R0 : W.cell? ⟨w.heap.size + 1,0,none⟩ = some (.slice none 0 0) := by rw [s0] at r0; rw [B2_.cell (by show w.heap.size + 1 < _; omega)]; exact r0
 have RF : W.frozen? ⟨w.heap.size + 1,0,none⟩ = false := by have := rf 0; rw [s0] at this; rw [B2_.frozen (by show w.heap.size + 1 < _; omega)]; exact this
 have e1 : W1.heap.size = w.heap.size + 1 + 1 := by omega
 rw [e1] at d0 df
 have df0 := df 0
 rw [hW0] at hW1
 rw [hW1] at hW
 have HW := Lib.hid hW
 have lW : w.heap.size + 1 + 1 < W.heap.size := by omega
 have hl := Lib.hid h2.cap.1
 have hnb : n2 ≤ 100000000 := by have e : ns.length + hN.szL ns = hNS.sz ns := rfl; have := hl.out; omega
 clear hW0 hW1 hW s0 s1 s2 e1 p0 p1 p2 p3 pf r0 rf df B0_ B1_ B2_
 go_enter Tryz.func140,Tryz.ntmps140
 go_wp2_with fail
 rw [← HW.out]
 go_wp2_with fail
 go_loopw [10] (fun i wr => ∃ (k : Nat) (v : Value),i = .int .i64 k ∧ k ≤ n2 ∧ OS tS 24 wr (Iv W.heap.size wr.heap.size) v ((ns.map zbd).take k) ∧ Gr (w.heap.size + 1 + 1) 0 W wr v) (fun i _ => n2 - (intOf i).toNat)
 case atStart => exact ⟨0,_,rfl,by omega,OS.nil _ _ _ _,Gr.start d0⟩
 case round =>
  obtain ⟨k,v,rfl,hk,own,G⟩ := hrel
  have sr := G.chg.size
  have Cwr : Below w.heap.size w wr := BW.trans (G.chg.toBelow (fun b (hb : b = _) => by omega) (by omega))
  by_cases hlt : k < n2
  · obtain ⟨bb,o,b0,b1,b2,A5,c5,y3,rfl,hbb,X,e0,e1,e2,e3,hr3,h3b⟩ := zds (h2.below Cwr) hnz hlt
    have hbw : bb < wr.heap.size := by omega
    obtain ⟨V,hV,BV,sV,n0,n1,n2_,n3_,nf⟩ := zdm wr (.int .i64 b0) (.int .i64 b1) (.int .i64 b2) (.slice A5 y3.length c5) 171
    have hvg : V.cell? ⟨w.heap.size + 1 + 1,0,none⟩ = some v := by rw [BV.cell (by show w.heap.size + 1 + 1 < _; omega)]; exact G.cel
    have m0 := cell_regrown n0
    have m1 := cell_regrown n1
    have m2 := cell_regrown n2_
    have m3 := cell_regrown n3_
    have mg := cell_regrown hvg
    have HV := Lib.hid hV
    have DV : Below wr.heap.size wr V.drew := zac BV 1
    have DD : Below V.heap.size V V.drew := zac (Below.refl _ _) 1
    have hdv : V.drew.heap.size = V.heap.size := rfl
    have hpt := Lib.hid (zm3 X.out)
    have hxl : ((ns.map zbd).take k).length ≤ 100000000 := by rw [List.length_take]; omega
    have hokx := hok.out _ (List.mem_of_getElem? X.out)
    have HOK := Lib.hid hokx
    clear hV hokx
    go_wp2_with fail
    rw [← HV.out]
    (refine zcq [0] [1,2] 2 (.one 3 (.one 4 .rest)) [5,6,7] (by kernel_rfl) (by kernel_rfl) ?_; simp only [zaj]; simp only [List.filterMap,List.getElem?_cons_succ,List.getElem?_cons_zero]; (repeat (go_big_quiet_step (fail))); refine wpQuiet_nil ?_; (repeat (go_big_quiet_step (fail))); refine wpQuiet_nil ?_)
    refine zao rfl ?_
    go_wp2_with fail
    refine (zrw b0 b1 b2 _ _ c5 y3 tb _ HOK.out).mono ?_
    rintro e w2 ⟨v1,rfl,on,bel2⟩
    generalize hS : zbd (b0,b1,b2,y3) = st at *
    obtain ⟨A6,c6,rfl,-⟩ := on.shape
    have s2_ := bel2.size
    have Bw2 := zaa DV bel2
    have BVw := zaa DD bel2
    have own2 := own.below Bw2 (Nat.le_refl _)
    have G2 := G.below Bw2 (by omega)
    have os2 := tS_O.2 (OI.os on)
    go_wp2_with fail
    refine ⟨regrown_of_below BVw,zao rfl ?_⟩
    go_wp2_with fail
    refine ⟨regrown_of_below (zaa BVw ((Below.refl _ _).alloc (Nat.le_refl _) _)),zbi ?_⟩
    go_wp2_with (at_builtin; refine zca ei_S #[.slice A6 st.length c6] rfl _ _ rfl own2 os2 (Iv.apart (by omega)) rfl rfl (by unfold maxLen; omega) (by omega) ?_; intro v3 w4 own4 ch4; obtain ⟨A7,c7,e7⟩ := own4.shape; obtain ⟨n7,hn7⟩ : ∃ n7,n7 = ((ns.map zbd).take k ++ [st]).length := ⟨_,rfl⟩; rw [← hn7] at e7; subst e7; have HN7 := Lib.hid hn7; clear hn7; have G4 := G2.row ch4 (by omega) (fun b hb => ⟨hb.1,by have := hb.1; omega⟩); have hc4 := G4.cel; have hf4 : w4.frozen? ⟨w.heap.size + 1 + 1,0,none⟩ = false := (by rw [G4.fro]; exact df0))
    go_roundw
    case rel =>
     have s4 := ch4.size
     refine ⟨k + 1,_,by go_num,by omega,?_,G4.set df0 _⟩
     rw [hpt.out]
     refine (own4.chg (Chg.set (F := fun b => b = w.heap.size + 1 + 1) w4 (w.heap.size + 1 + 1) 0 _ rfl) (fun b hb (e : b = _) => ?_)).wide (fun b hb => ?_)
     · rcases hb with hb | hb | hb
       · have := hb.1; omega
       · have := hb.1; omega
       · omega
     · have e9 : (w4.setCell ⟨w.heap.size + 1 + 1,0,none⟩ (.slice A7 n7 c7)).heap.size = w4.heap.size := by simp
       rcases hb with hb | hb | hb
       · exact ⟨hb.1,by have := hb.2; omega⟩
       · exact ⟨by have := hb.1; omega,by have := hb.2; omega⟩
       · exact ⟨by omega,by omega⟩
    case measure => simp [intOf]; omega
  · obtain rfl : k = n2 := by omega
    rw [List.take_of_length_le (by rw [List.length_map,hl.out]; exact Nat.le_refl _)] at own
    obtain ⟨A2',c2',rfl⟩ := own.shape
    have gc := G.cel
    have R1 : wr.cell? ⟨w.heap.size + 1,0,none⟩ = some (.slice none 0 0) := by rw [G.chg.cell (by omega) (by omega)]; exact R0
    have S1 : wr.frozen? ⟨w.heap.size + 1,0,none⟩ = false := by rw [G.chg.frozen (by omega) (by omega)]; exact RF
    generalize hsl : (ns.map zbd).length = sl at *
    go_wp2
    refine bodyPost_ret (v := .agg #[.slice A2' sl c2']) (by simp [results,Tryz.results140,go_sem,R1,S1]) rfl ?_
    refine ⟨_,rfl,?_,?_⟩
    · exact ((own.chg (Chg.set (F := fun b => b = w.heap.size + 1) wr (w.heap.size + 1) 0 _ rfl) (fun b hb (e : b = _) => by have := hb.1; omega))).wide (fun b hb => ⟨by have := hb.1; omega,by have := hb.2; simpa using this⟩)
    · exact Cwr.setCell (by simp) _
theorem ztp (vb vo : Nat) (A2 : Option Addr) (n2 c2 : Nat) (ns : List Node) (tb : Int) (w : World) (f2 : w.cell? ⟨vb,vo + 2,none⟩ = some (.slice A2 n2 c2)) (h2 : RS tN w w.heap.size (.slice A2 n2 c2) ns) (hnz : hNS.sz ns ≤ 100000000) (hok : Hid (∀ x ∈ ns,zai x tb = true)) :
 Calls Tryz.prog 136 #[.pointer (some ⟨vb,vo,none⟩)] w fun e w' => ∃ v,e = .returned (.agg #[v]) ∧ OS tS 24 w' (Iv w.heap.size w'.heap.size) v (ns.map zbd) ∧ Below w.heap.size w w' := by
 have lv : vb < w.heap.size := World.block_lt_of_cell? w _ f2
 obtain ⟨W1,hW1,B1_,s1,r0,rf⟩ := zeb w (.slice none 0 0) 177
 have O0 : OS tS 24 (W1.alloc (.cells #[] 24)) (Iv W1.heap.size (W1.heap.size + 1)) (.slice (some ⟨W1.heap.size,0,none⟩) 0 0) [] :=
  ⟨[],fun _ _ => False,zeq (World.ownsRow_made _ _ _ (Nat.le_refl _) (by simp [maxLen]) rfl) (Nat.zero_le _),rfl,fun g hg => by simp only [Value.ownBlock,Option.some.injEq] at hg; exact ⟨by omega,by omega⟩,fun _ _ h => h.elim,fun _ _ _ _ h => h.elim,fun k h => by simp at h⟩
 have BX : Below W1.heap.size W1 (W1.alloc (.cells #[] 24)) := (Below.refl _ _).alloc (Nat.le_refl _) _
 have sX : (W1.alloc (.cells #[] 24)).heap.size = W1.heap.size + 1 := by simp
 obtain ⟨X,hX⟩ : ∃ X,X = W1.alloc (.cells #[] 24) := ⟨_,rfl⟩
 rw [← hX] at O0 BX sX
 rw [s1] at O0
 obtain ⟨W,hW,B2_,s2,d0,df⟩ := zeb X (.slice (some ⟨w.heap.size + 1,0,none⟩) 0 0) 177
 have BW := zaa (zaa B1_ BX) B2_
 have R0 : W.cell? ⟨w.heap.size,0,none⟩ = some (.slice none 0 0) := by rw [(zaa BX B2_).cell (by show w.heap.size < _; omega)]; exact r0
 have RF : W.frozen? ⟨w.heap.size,0,none⟩ = false := by rw [(zaa BX B2_).frozen (by show w.heap.size < _; omega)]; exact rf 0
 have e1 : X.heap.size = w.heap.size + 1 + 1 := by omega
 rw [e1] at d0 df
 have df0 := df 0
 have O1 := O0.below B2_ (by omega)
 rw [hW1] at hX
 rw [hX] at hW
 have HW := Lib.hid hW
 have lW : w.heap.size + 1 + 1 < W.heap.size := by omega
 have hl := Lib.hid h2.cap.1
 have hnb : n2 ≤ 100000000 := by have e : ns.length + hN.szL ns = hNS.sz ns := rfl; have := hl.out; omega
 have g2 : W.cell? ⟨vb,vo + 2,none⟩ = some (.slice A2 n2 c2) := by rw [BW.cell (by show vb < _; omega)]; exact f2
 clear hW1 hX hW s1 s2 sX e1 r0 rf df B1_ B2_ BX O0
 go_enter Tryz.func136,Tryz.ntmps136
 go_wp2_with fail
 rw [← HW.out]
 go_wp2_with fail
 go_loopw [4] (fun i wr => ∃ (k : Nat) (v : Value),i = .int .i64 k ∧ k ≤ n2 ∧ OS tS 24 wr (fun b => w.heap.size + 1 ≤ b ∧ b ≠ w.heap.size + 1 + 1) v ((ns.map zbd).take k) ∧ Chg (fun b => w.heap.size + 1 ≤ b) W wr ∧ wr.cell? ⟨w.heap.size + 1 + 1,0,none⟩ = some v ∧ wr.frozen? ⟨w.heap.size + 1 + 1,0,none⟩ = false) (fun i _ => n2 - (intOf i).toNat)
 case atStart => exact ⟨0,_,rfl,by omega,O1.wide (fun b hb => ⟨hb.1,by have := hb.2; omega⟩),Chg.refl _ _,d0,df0⟩
 case round =>
  obtain ⟨k,v,rfl,hk,own,G,gc,gf⟩ := hrel
  have sr := G.size
  have Cwr : Below w.heap.size w wr := BW.trans (G.toBelow (fun b (hb : w.heap.size + 1 ≤ b) => by omega) (by omega))
  have q2 : wr.cell? ⟨vb,vo + 2,none⟩ = some (.slice A2 n2 c2) := by rw [G.cell (by omega) (by omega)]; exact g2
  by_cases hlt : k < n2
  · obtain ⟨bb,o,b0,b1,b2,A5,c5,y3,rfl,hbb,X,e0,e1,e2,e3,hr3,h3b⟩ := zds (h2.below Cwr) hnz hlt
    have m1 := cell_regrown q2
    have m3 := cell_regrown gc
    have DV : Below wr.heap.size wr wr.drew := zac (Below.refl _ _) 1
    have hdv : wr.drew.heap.size = wr.heap.size := rfl
    have hpt := Lib.hid (zm3 X.out)
    have hxl : ((ns.map zbd).take k).length ≤ 100000000 := by rw [List.length_take]; omega
    have hokx := hok.out _ (List.mem_of_getElem? X.out)
    have HOK := Lib.hid hokx
    have E0 : wr.drew.cell? ⟨bb,o + k * 4,none⟩ = some (.int .i64 b0) := e0
    have E1 : wr.drew.cell? ⟨bb,o + k * 4 + 1,none⟩ = some (.int .i64 b1) := e1
    have E2 : wr.drew.cell? ⟨bb,o + k * 4 + 2,none⟩ = some (.int .i64 b2) := e2
    have hk0 : (0 : Int) ≤ (k : Int) := by omega
    have hkn : (k : Int) < (n2 : Int) := by omega
    have ownr := own.real
    clear hokx
    go_wp2_with fail
    (refine zcq [0,2,3,4,6] [1,5,7] 2 (.one 8 (.one 9 .rest)) [10,11,12] (by kernel_rfl) (by kernel_rfl) ?_; simp only [zaj]; simp only [List.filterMap,List.getElem?_cons_succ,List.getElem?_cons_zero]; (repeat (go_big_quiet_step (fail))); refine wpQuiet_nil ?_; (repeat (go_big_quiet_step (fail))); refine wpQuiet_nil ?_)
    refine zao rfl ?_
    go_wp2_with fail
    refine (zrx _ _ b0 b1 b2 y3 tb _ E0 E1 E2 HOK.out).mono ?_
    rintro e w2 ⟨v1,rfl,on,bel2⟩
    generalize hS : zbd (b0,b1,b2,y3) = st at *
    obtain ⟨A6,c6,rfl,-⟩ := on.shape
    have s2_ := bel2.size
    have Bw2 := zaa DV bel2
    have own2 := ownr.chg (zcr (F := fun _ => False) Bw2) (fun _ _ h => h)
    have gc2 : w2.cell? ⟨w.heap.size + 1 + 1,0,none⟩ = some v := by rw [Bw2.cell (by show w.heap.size + 1 + 1 < _; omega)]; exact gc
    have gf2 : w2.frozen? ⟨w.heap.size + 1 + 1,0,none⟩ = false := by rw [Bw2.frozen (by show w.heap.size + 1 + 1 < _; omega)]; exact gf
    have os2 := tS_O.2 (OI.os on)
    go_wp2_with fail
    refine ⟨regrown_of_below Bw2,zao rfl ?_⟩
    go_wp2_with fail
    refine ⟨regrown_of_below (zaa Bw2 ((Below.refl _ _).alloc (Nat.le_refl _) _)),zbi ?_⟩
    go_wp2_with (at_builtin; refine zca ei_S #[.slice A6 st.length c6] rfl _ _ rfl own2 os2 (fun b hb hb2 => by have := hb.2; have := hb2.1; omega) rfl rfl (by unfold maxLen; omega) (by omega) ?_; intro v3 w4 own4 ch4; obtain ⟨A7,c7,e7⟩ := own4.shape; obtain ⟨n7,hn7⟩ : ∃ n7,n7 = ((ns.map zbd).take k ++ [st]).length := ⟨_,rfl⟩; rw [← hn7] at e7; subst e7; have HN7 := Lib.hid hn7; clear hn7; have hc4 : w4.cell? ⟨w.heap.size + 1 + 1,0,none⟩ = some v := (by rw [ch4.cell (by omega) (fun hb => hb.1.2 rfl)]; exact gc2); have hf4 : w4.frozen? ⟨w.heap.size + 1 + 1,0,none⟩ = false := (by rw [ch4.frozen (by omega) (fun hb => hb.1.2 rfl)]; exact gf2))
    go_roundw
    case rel =>
     have s4 := ch4.size
     refine ⟨k + 1,_,by go_num,by omega,?_,((G.upB Bw2).up ch4 (fun b hb hF => hF.1.1)).trans (Chg.set w4 _ 0 _ (by omega)),World.cell?_setCell_same (h := hc4) ..,by simp [go_sem,hf4]⟩
     rw [hpt.out]
     refine (own4.chg (Chg.set (F := fun b => b = w.heap.size + 1 + 1) w4 (w.heap.size + 1 + 1) 0 _ rfl) (fun b hb (e : b = _) => ?_)).wide (fun b hb => ?_)
     · rcases hb with hb | hb | hb
       · exact hb.1.2 e
       · have := hb.1; omega
       · omega
     · rcases hb with hb | hb | hb
       · exact hb.1
       · have := hb.1; exact ⟨by omega,by omega⟩
       · exact ⟨by omega,by omega⟩
    case measure => simp [intOf]; omega
  · obtain rfl : k = n2 := by omega
    rw [List.take_of_length_le (by rw [List.length_map,hl.out]; exact Nat.le_refl _)] at own
    obtain ⟨A2',c2',rfl⟩ := own.shape
    have R1 : wr.cell? ⟨w.heap.size,0,none⟩ = some (.slice none 0 0) := by rw [G.cell (by omega) (by omega)]; exact R0
    have S1 : wr.frozen? ⟨w.heap.size,0,none⟩ = false := by rw [G.frozen (by omega) (by omega)]; exact RF
    generalize hsl : (ns.map zbd).length = sl at *
    have ownr := own.real
    go_wp2
    refine bodyPost_ret (v := .agg #[.slice A2' sl c2']) (by simp [results,Tryz.results136,go_sem,R1,S1]) rfl ?_
    refine ⟨_,rfl,?_,?_⟩
    · exact ((ownr.chg (Chg.set (F := fun b => b = w.heap.size) wr w.heap.size 0 _ rfl) (fun b hb (e : b = _) => by have := hb.1.1; omega))).wide (fun b hb => ⟨by have := hb.1.1; omega,by have := hb.2; simpa using this⟩)
    · exact Cwr.setCell (by simp) _
end
section
open Go.RowKit Go.Sort
theorem ztq (w : World) (z0 z1 z2 z3 z4 z5 z6 : Value) (t : TypeId) : ∃ U,U = w.alloc (.cells #[z0,z1,z2,z3,z4,z5,z6] t) ∧ Below w.heap.size w U ∧ U.heap.size = w.heap.size + 1 ∧ U.cell? ⟨w.heap.size,0,none⟩ = some z0 ∧ U.cell? ⟨w.heap.size,1,none⟩ = some z1 ∧ U.cell? ⟨w.heap.size,2,none⟩ = some z2 ∧ U.cell? ⟨w.heap.size,3,none⟩ = some z3 ∧ U.cell? ⟨w.heap.size,4,none⟩ = some z4 ∧ U.cell? ⟨w.heap.size,5,none⟩ = some z5 ∧ U.cell? ⟨w.heap.size,6,none⟩ = some z6 :=
 ⟨_,rfl,(Below.refl _ _).alloc (Nat.le_refl _) _,by simp,by simp [go_sem],by simp [go_sem],by simp [go_sem],by simp [go_sem],by simp [go_sem],by simp [go_sem],by simp [go_sem]⟩
theorem ztr (pi : Int) (A1 : Option Addr) (n1 c1 : Nat) (A2 : Option Addr) (n2 c2 : Nat) (A3 : Option Addr) (n3 c3 : Nat) (Av : Option Addr) (nv cv : Nat) (ns : List Node) (tb : List (List Int)) (outs : List Int) (cs : List (List Int)) (w : World)
 (h1 : RS tS w w.heap.size (.slice A1 n1 c1) tb) (h2 : RS tN w w.heap.size (.slice A2 n2 c2) ns) (h3 : RI w w.heap.size A3 n3 outs) (hS : tSS.R w w.heap.size [.slice Av nv cv] cs) (hF : M.PF ns tb (zal ns)) (h0 : 0 < n2) (hnz : hNS.sz ns ≤ 100000000) (hcz : hSS.sz cs ≤ 100000000) (hcl : cs.length = ns.length) :
 Calls Tryz.prog 139 #[.agg #[.int .i64 pi,.slice A1 n1 c1,.slice A2 n2 c2,.slice A3 n3 c3],.agg #[.slice Av nv cv]] w fun e w' => ∃ (b bv bc L : Nat) (Ao : Option Addr) (co cv' cc : Nat),e = .returned (.pointer (some ⟨b,0,none⟩)) ∧
  Pl b bv bc L pi A1 n1 c1 A2 n2 c2 A3 n3 c3 Ao n2 co cv' cc ns tb outs (zal ns) w' ∧ OI 2 L w' (.slice (some ⟨bv,0,none⟩) n2 cv') (List.replicate n2 0) ∧ CR (F2 bv bc) 24 L w' (.slice (some ⟨bc,0,none⟩) n2 cc) cs ∧ Below w.heap.size w w' ∧ w.heap.size ≤ bv ∧ w.heap.size ≤ bc := by
 have hl := Lib.hid h2.cap.1
 have hnb : n2 ≤ 100000000 := by have e : ns.length + hN.szL ns = hNS.sz ns := rfl; have := hl.out; omega
 obtain ⟨W0,hW0,B0_,s0,p0,p1,p2,p3,pf⟩ := zdm w (.int .i64 pi) (.slice A1 n1 c1) (.slice A2 n2 c2) (.slice A3 n3 c3) 107
 obtain ⟨W,hW,B1_,s1,r0,rf⟩ := zeb W0 (.slice Av nv cv) 177
 have B0 := zaa B0_ B1_
 have q0 : W.cell? ⟨w.heap.size,0,none⟩ = some (.int .i64 pi) := by rw [B1_.cell (by show w.heap.size < _; omega)]; exact p0
 have q1 : W.cell? ⟨w.heap.size,1,none⟩ = some (.slice A1 n1 c1) := by rw [B1_.cell (by show w.heap.size < _; omega)]; exact p1
 have q2 : W.cell? ⟨w.heap.size,2,none⟩ = some (.slice A2 n2 c2) := by rw [B1_.cell (by show w.heap.size < _; omega)]; exact p2
 have q3 : W.cell? ⟨w.heap.size,3,none⟩ = some (.slice A3 n3 c3) := by rw [B1_.cell (by show w.heap.size < _; omega)]; exact p3
 rw [s0] at r0
 rw [hW0] at hW
 have HW := Lib.hid hW
 have lW : w.heap.size + 1 < W.heap.size := by omega
 have m0 := cell_regrown q0
 have m1 := cell_regrown q1
 have m2 := cell_regrown q2
 have m3 := cell_regrown q3
 have m4 := cell_regrown r0
 have D1 : Below W.heap.size W W.drew := zac (Below.refl _ _) 1
 have hd0 : W.drew.heap.size = W.heap.size := rfl
 have BD : Below w.heap.size w W.drew := zac B0 1
 have hid1 := Lib.hid (fun (x : Node) (hx : x ∈ ns) (f : Int) (hf : f ∈ x.2.2.2) => show zbc n2 f = true from by
  obtain ⟨i,hi⟩ := List.getElem?_of_mem hx
  have := hF.fr i x hi f hf
  rw [hl.out] at this
  exact zby.2 (by omega))
 have HO := Lib.hid hF.top.len
 have HCL := Lib.hid hcl
 clear hW0 hW s0 s1 p0 p1 p2 p3 pf rf B0_ B1_ q0 q1 q2 q3 r0 hcl
 go_enter Tryz.func139,Tryz.ntmps139
 go_wp2_with fail
 rw [← HW.out]
 (refine zce [3,7] [0,1,4,8] 4 (.one 2 (.one 5 (.one 6 (.one 9 .rest)))) [10] [10,11,12] (by kernel_rfl) (by kernel_rfl) ?_; simp only [zaj]; simp only [List.filterMap,List.getElem?_cons_succ,List.getElem?_cons_zero]; (repeat (go_big_quiet_step (fail))); refine wpQuiet_nil ?_; (repeat (go_big_quiet_step (fail))); refine wpQuiet_nil ?_)
 refine zbe rfl ?_
 go_wp2_with fail
 refine (zl9 _ _ _ _ _ _ _ _ _ _ ns _ (h2.later BD) hnz hid1).mono ?_
 rintro e w1 ⟨v1,rfl,own1,bel1⟩
 have hln : (zal ns).length = n2 := by rw [HO.out,hl.out]
 obtain ⟨A4,c4,rfl,-⟩ := own1.shape
 rw [hln] at own1 ⊢
 have HLN := Lib.hid hln
 have B1 := zaa D1 bel1
 have s1 := bel1.size
 clear hln
 go_wp2_with fail
 refine ⟨regrown_of_below B1,?_⟩
 refine zbe rfl ?_
 go_wp2_with (go_at_call 173; refine (zfi _ _ _ _).mono ?_; rintro e w' ⟨rfl,rfl⟩)
 refine ⟨regrown_of_below B1,?_⟩
 refine zbe rfl ?_
 go_wp2_with fail
 refine (zc5 _ _ (by omega) (by omega)).mono ?_
 rintro e w2 ⟨v2,rfl,own2,bel2⟩
 rw [Int.toNat_natCast] at own2
 have B2 := zaa B1 bel2
 have s2 := bel2.size
 obtain ⟨bv,cv',e2,hbv1,hbv2⟩ := own2.form (by simp; omega)
 rw [List.length_replicate] at e2
 subst e2
 go_wp2_with fail
 refine ⟨regrown_of_below B2,?_⟩
 refine zbe rfl ?_
 go_wp2_with fail
 refine (zgz _ _ _ cs _ (tSS.later hS (zaa B0 B2)) hcz).mono ?_
 rintro e w3 ⟨v3,rfl,own3,bel3⟩
 have B3 := zaa B2 bel3
 have s3 := bel3.size
 obtain ⟨bc,cc,e3,hbc1,hbc2⟩ : ∃ bc cc,v3 = .slice (some ⟨bc,0,none⟩) cs.length cc ∧ w2.heap.size ≤ bc ∧ bc < w3.heap.size := by
  obtain ⟨css,Fs,g1,g2,g3,_⟩ := own3
  obtain ⟨g,cap,hv,_,hg⟩ := World.ownsRow.form g1 (by rw [HCL.out,hl.out]; omega)
  exact ⟨g,cap,hv,(g3 g (by rw [hv]; rfl)).1,hg⟩
 have C3 : CR (F2 bv bc) 24 w1.heap.size w3 v3 cs := CR.of_os own3 (fun k hk hG => by
  rcases hk with rfl | rfl
  · have := hG.1; omega
  · rw [e3]; rfl) (fun k hk => by rw [e3] at hk; simp only [Value.ownBlock,Option.some.injEq] at hk; omega)
 rw [HCL.out,hl.out] at e3
 subst e3
 obtain ⟨U,hU,BU,sU,u0,u1,u2,u3,u4,u5,u6⟩ := ztq w3 (.int .i64 pi) (.slice A1 n1 c1) (.slice A2 n2 c2) (.slice A3 n3 c3) (.slice A4 n2 c4) (.slice (some ⟨bv,0,none⟩) n2 cv') (.slice (some ⟨bc,0,none⟩) n2 cc) 210
 have BB := zaa (zaa B0 B3) BU
 have sW := B0.size
 have o1 := (own1.base (show 0 ≤ _ by omega)).below ((zaa bel2 bel3).trans (BU.mono (by omega)))
 have R1 : RI U w1.heap.size A4 n2 (zal ns) := by
  have h := own1.ri'
  exact h.below ((zaa bel2 bel3).trans (BU.mono (by omega)))
 have HU := Lib.hid hU
 clear hU o1
 go_wp2_with fail
 refine ⟨regrown_of_below B3,?_⟩
 refine zb7 ?_
 go_wp2_with fail
 rw [← HU.out]
 go_ret
 exact ⟨w3.heap.size,bv,bc,w1.heap.size,A4,c4,cv',cc,rfl,⟨u0,u1,u2,u3,u4,u5,u6,(h1.below BB).more (by omega),(h2.below BB).more (by omega),(h3.below BB).more (by omega),R1,hbv1,by omega,by omega,by omega,by omega,by omega⟩,
  own2.below (zaa bel3 BU),C3.below BU,BB,by omega,by omega⟩
end
section
open Go.RowKit Go.Sort
section
variable {P : Program} {t e : TypeId} {z : Value} {bytes : Nat}
theorem zjj (hE : EI P t e z 1 bytes) {w : World} {ops : Array Oper} {rest : List Oper} {o : Oper} {a : Act} {Q : Exit → Act → World → Prop} {u : Value}
 (hgd : o.guard = none) (s x : Operand)
 (ho : o.op = .call { callee := .builtin .append,args := #[s,x],argTypes := #[t,t] })
 {B : Nat} {v : Value} {n : Nat} {xs : List Value} (hown : w.ownsRow B e 1 v n xs) (hs : a.eval s = v)
 (hx : a.eval x = .slice (some ⟨w.heap.size,0,none⟩) 1 1) (h1 : u.oneCell' = true)
 (hn : n + 1 ≤ maxLen) (hbytes : (n + 1) * bytes ≤ 140737488355328) (hbase : B ≤ w.heap.size)
 (K : ∀ v' w',w'.ownsRow B e 1 v' (n + 1) (xs ++ [u]) → w.grownBy w' v.ownBlock → Below B w w' → (v'.ownBlock = v.ownBlock ∨ ∀ k,v'.ownBlock = some k → w.heap.size ≤ k) → wpList P ops Q rest (a.put o.dst v') w') :
 wpList P ops Q (o :: rest) a (w.alloc (.cells #[u] e)) := by
 obtain ⟨ht,hinfo,hzs,hsz⟩ := hE
 obtain ⟨i0,hi,hz0,hz1,hz2⟩ := info_parts hinfo
 refine wpList_append_own_at _ hgd s x t ho B e i0 z 1 bytes ht hi hz0 hz1 hz2 hzs hsz v n xs hs (hown.alloc _) ⟨w.heap.size,0,none⟩ 1 1 [u] hx rfl ?_ (by simpa using h1) hn hbytes (by simp; omega) ?_
 · intro j u2 hj
   have hadd : (⟨w.heap.size,0,none⟩ : Addr).add j = ⟨w.heap.size,j,none⟩ := by unfold Addr.add; split <;> simp_all
   rw [hadd,cell_of_row _ w.heap.size j #[u] e (0,0) (heap_alloc_new w _)]
   simpa using hj
 · intro v' w' h2 h3 _ g4
   have h4 : w.grownBy w' v.ownBlock := by
    have := World.grownBy_alloc w (.cells #[u] e) none
    exact ⟨h3.os.trans this.os,h3.tape.trans this.tape,h3.output.trans this.output,Nat.le_trans this.size h3.size,fun k hk hne => by
     rw [h3.block k (by simp; omega) hne]; exact this.block k hk (by simp)⟩
   refine K v' w' h2 h4 ((Below.refl _ _).grown h4 hbase fun k hk => (hown.lt k hk).1) ?_
   rcases g4 with h | h
   · exact .inl h
   · refine .inr fun k hk => ?_
     rw [h] at hk
     have hsz' : (w.alloc (.cells #[u] e)).heap.size = w.heap.size + 1 := by simp
     rw [hsz',Option.some.injEq] at hk
     omega
end
theorem zts (b bv bc L : Nat) (A1 : Option Addr) (n1 c1 : Nat) (A2 : Option Addr) (n2 c2 : Nat) (A3 : Option Addr) (c3 : Nat) (Ao : Option Addr) (no co_ cv cc : Nat) (ns : List Node) (tb : List (List Int)) (o : Int) (O vs : List Int) (bi oi ci : Nat) (A : Option Addr) (m c : Nat) (xs : List Int) (n : Nat) (w : World)
 (hP : Pl b bv bc L 1 A1 n1 c1 A2 n2 c2 A3 1 c3 Ao no co_ cv cc ns tb [o] O w) (hF : M.PF ns tb O) (h0 : 0 < n2) (hnz : hNS.sz ns ≤ 100000000) (ho : 0 ≤ o ∧ o < n2)
 (hv : OI 2 L w (.slice (some ⟨bv,0,none⟩) n2 cv) vs) (hvs : vs.all M.smp = true) (hc : CR (F2 bv bc) 24 L w (.slice (some ⟨bc,0,none⟩) n2 cc) (ns.map zbd))
 (ci0 : w.cell? ⟨bi,oi,none⟩ = some (.slice A m c)) (hbi : bi ≠ bv ∧ bi ≠ bc) (hx : RN (F2 bv bc) w A m xs) (hxs : xs.all M.smp = true) (hm : m ≤ 1000000) (hn : n ≤ 4000) :
 Calls Tryz.prog 141 #[.pointer (some ⟨b,0,none⟩),.slice (some ⟨bi,oi,none⟩) 1 ci,.int .i64 0,.int .i64 n] w fun e w' => ∃ (g c' : Nat) (A' : Option Addr) (c'' : Nat),e = .returned (.slice (some ⟨g,0,none⟩) 1 c') ∧ w'.cell? ⟨g,0,none⟩ = some (.slice A' n c'') ∧ RI w' w'.heap.size A' n (zbv ns tb O xs o n) ∧ Chg (F2 bv bc) w w' := by
 have lbv : bv < w.heap.size := (World.ownsRow.lt hv _ rfl).2
 have lbc : bc < w.heap.size := by obtain ⟨us,h1,_⟩ := hc; exact (World.ownsRow.lt h1 _ rfl).2
 have lb : b < w.heap.size := World.block_lt_of_cell? w _ hP.p0
 have lbi : bi < w.heap.size := World.block_lt_of_cell? w _ ci0
 have nbi : ¬ F2 bv bc bi := fun e => e.elim hbi.1 hbi.2
 have lL := hP.lL
 have lv := hP.lv
 have lc := hP.lc
 have nbv := hP.nbv
 have nbc := hP.nbc
 have p0 := hP.p0
 have p3 := hP.p3
 have hx1 := Lib.hid hx.1.len
 have HXS := Lib.hid hxs
 have HL2 := Lib.hid hP.h2.cap.1
 have hnb : n2 ≤ 24 := by rw [← HL2.out]; exact hF.len
 clear hxs
 go_enter Tryz.func141,Tryz.ntmps141
 go_wp2_with (at_make; refine zda ei_S rfl _ _ rfl 1 _ _ rfl rfl rfl rfl (by omega) (by unfold maxLen; omega) ?_; intro w1 own1 bel1; have p0' : w1.cell? ⟨b,0,none⟩ = some (.int .i64 1) := (by rw [bel1.cell (by show b < _; omega)]; exact p0))
 have z1 := (World.ownsRow.lt own1 _ rfl).2
 have s1 := bel1.size
 have oc0 : w1.cell? ⟨w.heap.size,0,none⟩ = some (.slice none 0 0) := by rw [World.ownsRow.cellAt own1 0 (by omega)]; simp [madeCells,Value.cells]
 have of0 : w1.frozen? ⟨w.heap.size,0,none⟩ = false := World.ownsRow.frozenAt own1 0
 clear own1 p0
 refine (zc5 1 _ (by omega) (by omega)).mono ?_
 rintro e w2 ⟨v2,rfl,own2,bel2⟩
 obtain ⟨bf,cf,e2,hbf1,hbf2⟩ := own2.form (by decide)
 rw [show (List.replicate (1 : Int).toNat (0 : Int)).length = 1 from rfl] at e2
 subst e2
 have s2 := bel2.size
 replace own2 : OI 2 w1.heap.size w2 (.slice (some ⟨bf,0,none⟩) 1 cf) [0] := own2
 have oc2 : w2.cell? ⟨w.heap.size,0,none⟩ = some (.slice none 0 0) := by rw [bel2.cell (by show w.heap.size < _; omega)]; exact oc0
 have of2 : w2.frozen? ⟨w.heap.size,0,none⟩ = false := by rw [bel2.frozen (by show w.heap.size < _; omega)]; exact of0
 have B2 := zaa bel1 bel2
 have hcG : CR (fun k => k = bv ∨ k = bc ∨ k = bf ∨ k = w.heap.size) 24 L w2 (.slice (some ⟨bc,0,none⟩) n2 cc) (ns.map zbd) := (hc.more (F' := fun k => k = bv ∨ k = bc ∨ k = bf ∨ k = w.heap.size) (fun k hk => by
  rcases hk with h | h | h | h
  · exact .inl (.inl h)
  · exact .inl (.inr h)
  · exact .inr (by omega)
  · exact .inr (by omega))).below B2
 clear oc0 of0 p0' bel1 bel2 p3
 go_wp2_with fail
 go_loopw [11] (fun i wr => ∃ t : Nat,i = .int .i64 t ∧ t ≤ n ∧ ∃ (V : List Int) (y : Int) (vo : Value),Hid (V.all M.smp = true) ∧ Chg (F2 bv bc) w wr ∧ w2.heap.size ≤ wr.heap.size ∧ OI 2 L wr (.slice (some ⟨bv,0,none⟩) n2 cv) V ∧ CR (fun k => k = bv ∨ k = bc ∨ k = bf ∨ k = w.heap.size ∨ vo.ownBlock = some k) 24 L wr (.slice (some ⟨bc,0,none⟩) n2 cc) (zdc ns tb O xs t) ∧
  OI 2 w1.heap.size wr (.slice (some ⟨bf,0,none⟩) 1 cf) [y] ∧ wr.cell? ⟨w.heap.size,0,none⟩ = some vo ∧ wr.frozen? ⟨w.heap.size,0,none⟩ = false ∧ OI 2 w2.heap.size wr vo (zbv ns tb O xs o t)) (fun i _ => n - (intOf i).toNat)
 case atStart => exact ⟨0,rfl,by omega,vs,0,_,Lib.hid hvs,zcr B2,Nat.le_refl _,hv.below B2,hcG.more (fun k hk => by rcases hk with h | h | h | h | h; (exact .inl (.inl h)); (exact .inl (.inr (.inl h))); (exact .inl (.inr (.inr (.inl h)))); (exact .inl (.inr (.inr (.inr h)))); cases h),own2,oc2,of2,OI.nil _ _ _⟩
 case round =>
  obtain ⟨t,rfl,ht,V,y,vo,HV,hch,hsz,ov,oc,ofr,co,fo,oo⟩ := hrel
  obtain ⟨wo,rfl⟩ : ∃ wo : World,wo = wr := ⟨_,rfl⟩
  by_cases hlt : t < n
  · have HC := zhr hF HXS.out t
    have hP1 := hP.chg hch
    have HS := Lib.hid (zmp ns tb O xs o t)
    have HN := Lib.hid (show zdc ns tb O xs (t + 1) = zcj ns tb [M.at_ xs (t : Int)] O (zdc ns tb O xs t) from rfl)
    have HW := Lib.hid (show zdd ns tb O xs t = zbh ns tb [M.at_ xs (t : Int)] O (zdc ns tb O xs t) from rfl)
    have HVL := Lib.hid (zjf hF HXS.out t)
    have hax := zhq HXS.out (t : Int)
    have hxo := hx.chg hch
    have cio : wo.cell? ⟨bi,oi,none⟩ = some (.slice A m c) := by rw [hch.cell lbi nbi]; exact ci0
    have t0 : (0 : Int) ≤ (t : Int) := by omega
    have t1 : (t : Int) < (n : Int) := by omega
    obtain ⟨cy,hcy⟩ : ∃ cy,cy = M.at_ xs (t : Int) := ⟨_,rfl⟩
    have fz := World.ownsRow.frozenAt ofr 0
    have fc : wo.cell? ⟨bf,0,none⟩ = some (.int .i64 y) := by rw [World.ownsRow.cellAt ofr 0 (by simp)]; rfl
    go_wp2_with fail
    go_loopw [38] (fun i wr => ∃ k : Nat,i = .int .i64 k ∧ ((k = 0 ∧ wr = wo) ∨ (k = 1 ∧ wr = wo.setCell ⟨bf,0,none⟩ (.int .i64 cy)))) (fun i _ => 1 - (intOf i).toNat)
    case atStart => exact ⟨0,rfl,.inl ⟨rfl,rfl⟩⟩
    case round =>
     obtain ⟨k,rfl,hor⟩ := hrel
     rcases hor with ⟨rfl,rfl⟩ | ⟨rfl,rfl⟩
     · have HCY := Lib.hid hcy
       clear hcy
       go_wp2_with fail
       refine (zf9 _ _ _ xs _ _ hxo.1 (by omega) (by omega)).mono ?_
       rw [← HCY.out]
       rintro e w' ⟨rfl,rfl⟩
       go_wp2_with fail
       go_roundw
       case rel => exact ⟨1,by go_num,.inr ⟨rfl,by trivial⟩⟩
       case measure => simp [intOf]
     · have ofr2 : OI 2 w1.heap.size (wo.setCell ⟨bf,0,none⟩ (.int .i64 cy)) (.slice (some ⟨bf,0,none⟩) 1 cf) [cy] := ofr.stored' 0 cy
       have hcf : Chg (fun x => x = bf) wo (wo.setCell ⟨bf,0,none⟩ (.int .i64 cy)) := Chg.set wo bf 0 _ rfl
       have cfc : (wo.setCell ⟨bf,0,none⟩ (.int .i64 cy)).cell? ⟨bf,0,none⟩ = some (.int .i64 cy) := by rw [World.ownsRow.cellAt ofr2 0 (by simp)]; rfl
       have ov2 := ov.kept (zav wo bf 0 (.int .i64 cy)) (.inr (by simp only [Value.ownBlock,ne_eq,Option.some.injEq]; omega))
       have oo2 := oo.kept (zav wo bf 0 (.int .i64 cy)) (.inr (fun e => by have := (World.ownsRow.lt oo _ e).1; omega))
       have hch2 : Chg (F2 bv bc) w (wo.setCell ⟨bf,0,none⟩ (.int .i64 cy)) := hch.up hcf (fun x hx e => by omega)
       have oc2 : CR (fun k => k = bv ∨ k = bc ∨ k = bf ∨ k = w.heap.size ∨ vo.ownBlock = some k) 24 L (wo.setCell ⟨bf,0,none⟩ (.int .i64 cy)) (.slice (some ⟨bc,0,none⟩) n2 cc) (zdc ns tb O xs t) := oc.chg hcf (fun k hk => .inr (.inr (.inl hk))) (fun k hk hk2 => by simp only [Value.ownBlock,Option.some.injEq] at hk; omega)
       have co2 : (wo.setCell ⟨bf,0,none⟩ (.int .i64 cy)).cell? ⟨w.heap.size,0,none⟩ = some vo := by rw [hcf.cell (by omega) (by omega)]; exact co
       have fo2 : (wo.setCell ⟨bf,0,none⟩ (.int .i64 cy)).frozen? ⟨w.heap.size,0,none⟩ = false := by rw [hcf.frozen (by omega) (by omega)]; exact fo
       obtain ⟨wp,hwp⟩ : ∃ wp,wp = wo.setCell ⟨bf,0,none⟩ (.int .i64 cy) := ⟨_,rfl⟩
       have swp : wo.heap.size ≤ wp.heap.size := by rw [hwp]; simp
       have hP2 := hP.chg hch2
       rw [← hwp] at ofr2 cfc ov2 oo2 hch2 oc2 co2 fo2 hP2 ⊢
       clear hwp hcf
       rw [← hcy] at hax
       have HCY := Lib.hid hcy
       clear hcy
       go_wp2_with fail
       refine (ztm b bv bc L 1 _ _ c1 _ _ c2 _ _ c3 _ _ co_ cv cc ns tb [o] O V (zdc ns tb O xs t) bf 0 cf cy (fun k => k = bv ∨ k = bc ∨ k = bf ∨ k = w.heap.size ∨ vo.ownBlock = some k) wp (fun k hk => hk.elim .inl (fun h => .inr (.inl h))) (fun k hk => by rcases hk with h | h | h | h | h; omega; omega; omega; omega; exact (World.ownsRow.lt oo2 _ h).2) hP2 hF hax h0 hnz ov2 HV.out oc2 HC cfc (by omega)).mono ?_
       rintro e w3 ⟨rfl,ch3,ov3,oc3⟩
       rw [← HCY.out] at HN HW
       rw [← HW.out] at ov3
       rw [← HN.out] at oc3
       have hch3 := hch2.trans ch3
       have hP3 := hP.chg hch3
       have s3 := ch3.size
       have p3_3 := hP3.p3
       have p5_3 := hP3.p5
       have ofr3 := ofr2.chg ch3 (fun k hk h => by simp only [Value.ownBlock,Option.some.injEq] at hk; rcases h with h | h <;> omega)
       have oo3 := oo2.chg ch3 (fun k hk h => by have := (World.ownsRow.lt oo2 _ hk).1; rcases h with h | h <;> omega)
       have co3 : w3.cell? ⟨w.heap.size,0,none⟩ = some vo := by rw [ch3.cell (by omega) (fun h => by rcases h with h | h <;> omega)]; exact co2
       have fo3 : w3.frozen? ⟨w.heap.size,0,none⟩ = false := by rw [ch3.frozen (by omega) (fun h => by rcases h with h | h <;> omega)]; exact fo2
       have HMI := Lib.hid (show zcl [o] (zdd ns tb O xs t) = [M.i_ (zdd ns tb O xs t) o.toNat] from rfl)
       clear ov2 oc2 oo2 ofr2 co2 fo2 hP2 hch2 cfc ov oc ofr co fo oo fz fc hP1 hxo cio
       go_wp2_with fail
       refine (ztl b _ n2 cv (zdd ns tb O xs t) _ 1 c3 [o] w3 p3_3 p5_3 ov3.ri' (hP3.h3.more hP3.lL) (by omega) (by omega) (Lib.hid (fun f hf => by
        obtain rfl : f = o := by simpa using hf
        omega))).mono ?_
       rintro e w4 ⟨v4,rfl,own4,bel4⟩
       rw [HMI.out] at own4
       obtain ⟨g4,cap4,e4,hg4,hg4'⟩ := own4.form (by simp)
       rw [List.length_singleton] at e4
       subst e4
       obtain ⟨x4,hx4⟩ : ∃ x4,x4 = M.i_ (zdd ns tb O xs t) o.toNat := ⟨_,rfl⟩
       rw [← hx4] at own4 HS
       have s4 := bel4.size
       have c4 : w4.cell? ⟨g4,0,none⟩ = some (.int .i64 x4) := by rw [World.ownsRow.cellAt own4 0 (by simp)]; rfl
       have co4 : w4.cell? ⟨w.heap.size,0,none⟩ = some vo := by rw [bel4.cell (by show w.heap.size < _; omega)]; exact co3
       have fo4 : w4.frozen? ⟨w.heap.size,0,none⟩ = false := by rw [bel4.frozen (by show w.heap.size < _; omega)]; exact fo3
       have oo4 := oo3.below bel4
       have hln := Lib.hid (zen ns tb O xs o t)
       clear hx4
       go_wp2_with fail
       obtain ⟨wq,rfl⟩ : ∃ wq : World,wq = w4 := ⟨_,rfl⟩
       go_loopw [57] (fun i wr => ∃ k : Nat,i = .int .i64 k ∧ ((k = 0 ∧ wr = wq) ∨ (k = 1 ∧ ∃ v',wr.cell? ⟨w.heap.size,0,none⟩ = some v' ∧ wr.frozen? ⟨w.heap.size,0,none⟩ = false ∧ OI 2 w2.heap.size wr v' (zbv ns tb O xs o (t + 1)) ∧ Chg (fun b => b = w.heap.size ∨ vo.ownBlock = some b) wq wr ∧ (v'.ownBlock = vo.ownBlock ∨ ∀ k,v'.ownBlock = some k → wq.heap.size ≤ k)))) (fun i _ => 1 - (intOf i).toNat)
       case atStart => exact ⟨0,rfl,.inl ⟨rfl,rfl⟩⟩
       case round =>
        obtain ⟨k,rfl,hor⟩ := hrel
        rcases hor with ⟨rfl,rfl⟩ | ⟨rfl,v5,co5,fo5,oo5,ch5,hb5⟩
        · have hlp := zen ns tb O xs o t
          have hlp' : (zbv ns tb O xs o t).length ≤ 1000000 := by omega
          clear hlp
          go_wp2_with (at_builtin; refine zjj zbs rfl _ _ rfl oo4 rfl rfl rfl (by unfold maxLen; omega) (by omega) (by omega) ?_; intro v5 w5 own5 gr5 bel5 hb5; have op5 := OI.push own5; obtain ⟨A5,c5,e5,-⟩ := op5.shape; obtain ⟨n5,hn5⟩ : ∃ n5,n5 = (zbv ns tb O xs o t ++ [x4]).length := ⟨_,rfl⟩; rw [← hn5] at e5; subst e5; have HN5 := Lib.hid hn5; clear hn5; have hc5 : w5.cell? ⟨w.heap.size,0,none⟩ = some vo := (by rw [bel5.cell (by show w.heap.size < _; omega)]; exact co4); have hf5 : w5.frozen? ⟨w.heap.size,0,none⟩ = false := (by rw [bel5.frozen (by show w.heap.size < _; omega)]; exact fo4))
          go_roundw
          case rel =>
           refine ⟨1,by go_num,.inr ⟨rfl,.slice A5 n5 c5,World.cell?_setCell_same (h := hc5) ..,by simp [go_sem,hf5],?_,?_,hb5⟩⟩
           · rw [HS.out]
             exact op5.kept (zav _ _ 0 _) (.inr (fun e => by have := (World.ownsRow.lt op5 _ e).1; omega))
           · exact (Chg.of_grown gr5 (fun k hk => .inr hk)).trans (Chg.set w5 _ 0 _ (.inl rfl))
          case measure => simp [intOf]
        · have s5 := ch5.size
          have hch5 : Chg (F2 bv bc) w wr := (hch3.trans (zcr bel4)).up ch5 (fun x hx e => by
           rcases e with e | e
           · omega
           · have := (World.ownsRow.lt oo4 _ e).1; omega)
          have nF : ∀ x,x < w2.heap.size → x ≠ w.heap.size → ¬ (x = w.heap.size ∨ vo.ownBlock = some x) := fun x hx hne e => by
           rcases e with e | e
           · exact hne e
           · have := (World.ownsRow.lt oo4 _ e).1; omega
          have ov5 := (ov3.below bel4).chg ch5 (fun k hk => by simp only [Value.ownBlock,Option.some.injEq] at hk; exact nF k (by omega) (by omega))
          have oc5 := (oc3.below bel4).more (F' := fun k => k = bv ∨ k = bc ∨ k = bf ∨ k = w.heap.size ∨ v5.ownBlock = some k ∨ vo.ownBlock = some k) (fun k hk => by
           rcases hk with h | h | h | h | h | h
           · exact .inl (.inl h)
           · exact .inl (.inr (.inl h))
           · exact .inl (.inr (.inr (.inl h)))
           · exact .inl (.inr (.inr (.inr (.inl h))))
           · rcases hb5 with h5 | h5
             · exact .inl (.inr (.inr (.inr (.inr (h5 ▸ h)))))
             · exact .inr (h5 k h)
           · exact .inl (.inr (.inr (.inr (.inr h)))))
          have oc6 := (oc5.chg ch5 (fun k hk => by
           rcases hk with h | h
           · exact .inr (.inr (.inr (.inl h)))
           · exact .inr (.inr (.inr (.inr (.inr h))))) (fun k hk => by simp only [Value.ownBlock,Option.some.injEq] at hk; exact nF k (by omega) (by omega))).sub (F' := fun k => k = bv ∨ k = bc ∨ k = bf ∨ k = w.heap.size ∨ v5.ownBlock = some k) (fun k hk => by
           rcases hk with h | h | h | h | h
           · exact .inl h
           · exact .inr (.inl h)
           · exact .inr (.inr (.inl h))
           · exact .inr (.inr (.inr (.inl h)))
           · exact .inr (.inr (.inr (.inr (.inl h)))))
          have ofr5 := (ofr3.below bel4).chg ch5 (fun k hk => by simp only [Value.ownBlock,Option.some.injEq] at hk; exact nF k (by omega) (by omega))
          clear ov3 oc3 oc5 oo3 co3 fo3 ofr3 oo4 co4 fo4
          go_wp2_with fail
          go_roundw
          case rel => exact ⟨t + 1,by go_num,by omega,_,_,v5,HVL,hch5,by omega,ov5,oc6,ofr5,co5,fo5,oo5⟩
          case measure => simp [intOf]; omega
  · obtain rfl : t = n := by omega
    obtain ⟨A5,c5,e5,hri⟩ := oo.shape
    rw [zen] at e5 hri
    subst e5
    go_wp2_with fail
    go_ret
    exact ⟨_,_,A5,c5,rfl,co,hri,hch⟩
end
section
open Go.RowKit Go.Sort
theorem ztt {xs : List (List Int)} {m : Nat} (h : ∀ x ∈ xs,x.length ≤ m) : hS.szL xs ≤ m * xs.length := by
 induction xs with
 | nil => simp [Hs.szL]
 | cons x xs ih =>
  have h1 := h x (by simp)
  have h2 := ih (fun y hy => h y (by simp [hy]))
  have e : hS.szL (x :: xs) = hS.sz x + hS.szL xs := rfl
  rw [e,zbl,List.length_cons,Nat.mul_succ]
  omega
theorem ztu {ns : List Node} {tb : List (List Int)} {O : List Int} (hF : M.PF ns tb O) : hSS.sz (ns.map zbd) ≤ 1000 := by
 have h1 := ztt (xs := ns.map zbd) (m := 16) (fun x hx => by
  obtain ⟨y,hy,rfl⟩ := List.mem_map.1 hx
  obtain ⟨i,hi⟩ := List.getElem?_of_mem hy
  exact ztn (hF.ok i y hi))
 have e : hSS.sz (ns.map zbd) = (ns.map zbd).length + hS.szL (ns.map zbd) := rfl
 have h2 := hF.len
 rw [e]
 rw [List.length_map] at h1 ⊢
 omega
theorem zm4 (A1 : Option Addr) (n1 c1 : Nat) (A2 : Option Addr) (n2 c2 : Nat) (A3 : Option Addr) (c3 : Nat) (ns : List Node) (tb : List (List Int)) (o : Int) (bi oi ci : Nat) (A : Option Addr) (m c : Nat) (xs : List Int) (n : Nat) (w : World)
 (h1 : RS tS w w.heap.size (.slice A1 n1 c1) tb) (h2 : RS tN w w.heap.size (.slice A2 n2 c2) ns) (h3 : RI w w.heap.size A3 1 [o]) (hF : M.PF ns tb (zal ns)) (ho : 0 ≤ o ∧ o < n2) (hnz : hNS.sz ns ≤ 100000000)
 (ci0 : w.cell? ⟨bi,oi,none⟩ = some (.slice A m c)) (hx : RI w w.heap.size A m xs) (hxs : xs.all M.smp = true) (hm : m ≤ 1000000) (hn : n ≤ 4000) :
 Calls Tryz.prog 102 #[.agg #[.int .i64 1,.slice A1 n1 c1,.slice A2 n2 c2,.slice A3 1 c3],.slice (some ⟨bi,oi,none⟩) 1 ci,.int .i64 n] w fun e w' => ∃ (g c' : Nat) (A' : Option Addr) (c'' : Nat),e = .returned (.slice (some ⟨g,0,none⟩) 1 c') ∧ w'.cell? ⟨g,0,none⟩ = some (.slice A' n c'') ∧ RI w' w'.heap.size A' n (zbv ns tb (zal ns) xs o n) ∧ Below w.heap.size w w' := by
 have lbi : bi < w.heap.size := World.block_lt_of_cell? w _ ci0
 obtain ⟨W,hW,B0,s0,p0,p1,p2,p3,pf⟩ := zdm w (.int .i64 1) (.slice A1 n1 c1) (.slice A2 n2 c2) (.slice A3 1 c3) 107
 have m0 := cell_regrown p0
 have m1 := cell_regrown p1
 have m2 := cell_regrown p2
 have m3 := cell_regrown p3
 have HW := Lib.hid hW
 have lW : w.heap.size < W.heap.size := by omega
 have D1 : Below W.heap.size W W.drew := zac (Below.refl _ _) 1
 have hd0 : W.drew.heap.size = W.heap.size := rfl
 have BD : Below w.heap.size w W.drew := zac B0 1
 have HXS := Lib.hid hxs
 have HSZ := Lib.hid (ztu hF)
 have HOK := Lib.hid (fun (x : Node) (hx : x ∈ ns) => show zai x tb.length = true from by
  obtain ⟨i,hi⟩ := List.getElem?_of_mem hx
  exact hF.ok i x hi)
 clear hW s0 p0 p1 p2 p3 pf hxs
 go_enter Tryz.func102,Tryz.ntmps102
 go_wp2_with fail
 rw [← HW.out]
 (refine zce [4,5] [0,1] 2 (.one 2 (.one 3 .rest)) [6] [6,7] (by kernel_rfl) (by kernel_rfl) ?_; simp only [zaj]; simp only [List.filterMap,List.getElem?_cons_succ,List.getElem?_cons_zero]; (repeat (go_big_quiet_step (fail))); refine wpQuiet_nil ?_; (repeat (go_big_quiet_step (fail))); refine wpQuiet_nil ?_)
 refine zbe rfl ?_
 go_wp2_with fail
 refine (zto _ _ _ _ _ _ _ _ _ _ ns tb.length _ (h2.later BD) hnz HOK).mono ?_
 rintro e w1 ⟨v1,rfl,own1,bel1⟩
 obtain ⟨Av,cv,e1⟩ := own1.shape
 rw [show (ns.map zbd).length = n2 by rw [List.length_map]; exact h2.cap.1] at e1
 subst e1
 have B1 := zaa D1 bel1
 have BB1 := zaa B0 B1
 have s1 := bel1.size
 have r1 : tSS.R w1 w1.heap.size [.slice Av n2 cv] (ns.map zbd) := sl_R.2 own1.read
 have hcl : (ns.map zbd).length = ns.length := List.length_map ..
 have HCL := Lib.hid hcl
 clear hcl
 go_wp2_with fail
 refine ⟨regrown_of_below B1,?_⟩
 refine zbe rfl ?_
 go_wp2_with fail
 refine (ztr 1 _ _ c1 _ _ c2 _ _ c3 _ _ cv ns tb [o] (ns.map zbd) _ (h1.later BB1) (h2.later BB1) (h3.later BB1) r1 hF (by omega) hnz (by have := HSZ.out; omega) HCL.out).mono ?_
 rintro e w2 ⟨b,bv,bc,L,Ao,co,cv',cc,rfl,hP,ov,oc,bel2,hbv,hbc⟩
 have B2 := zaa B1 bel2
 have BB2 := zaa B0 B2
 have s2 := bel2.size
 have ci2 : w2.cell? ⟨bi,oi,none⟩ = some (.slice A m c) := by rw [BB2.cell (by show bi < _; omega)]; exact ci0
 have hx2 : RN (F2 bv bc) w2 A m xs := RN.of_ri (B := w.heap.size) (hx.below BB2) BB2.size (fun k hk => by rcases hk with h | h <;> omega)
 have hrp : (List.replicate n2 (0 : Int)).all M.smp = true := by
  rw [List.all_eq_true]
  intro z hz
  rw [List.eq_of_mem_replicate hz]
  rfl
 have HRP := Lib.hid hrp
 clear hrp
 go_wp2_with fail
 refine ⟨regrown_of_below B2,?_⟩
 refine zb7 ?_
 go_wp2_with fail
 refine (zts b bv bc L _ _ c1 _ _ c2 _ c3 _ _ co cv' cc ns tb o (zal ns) _ bi oi ci A m c xs n w2 hP hF (by omega) hnz ho ov HRP.out oc ci2 (by omega) hx2 HXS.out hm hn).mono ?_
 rintro e w3 ⟨g,c',A',c'',rfl,cg,rg,ch⟩
 go_wp2_with fail
 go_ret
 exact ⟨g,c',A',c'',rfl,cg,rg,BB2.trans (ch.toBelow (fun k hk => by rcases hk with h | h <;> omega) (by omega))⟩
end
section
open Go.RowKit Go.Sort
theorem zm5 (bn on_ : Nat) (a0 a1 : Int) (A : Option Addr) (n c : Nat) (xs : List Int) (bf of cf : Nat) (x : Int) (Av : Option Addr) (nv cv : Nat) (vs : List Int) (a2 : Int) (w : World)
 (p0 : w.cell? ⟨bn,on_,none⟩ = some (.int .i64 a0)) (p1 : w.cell? ⟨bn,on_ + 1,none⟩ = some (.int .i64 a1)) (p3 : w.cell? ⟨bn,on_ + 3,none⟩ = some (.slice A n c)) (cf0 : w.cell? ⟨bf,of,none⟩ = some (.int .i64 x))
 (hv : RI w w.heap.size Av nv vs) (hx : RI w w.heap.size A n xs) (hn : n ≤ 1000000000) (hnv : nv ≤ 1000000000) (h1 : a0 = 1 → a1 = 0) (hr : Hid (∀ f ∈ xs,0 ≤ f ∧ f < nv)) :
 Calls Tryz.prog 194 #[.pointer (some ⟨bn,on_,none⟩),.slice (some ⟨bf,of,none⟩) 1 cf,.slice Av nv cv] w (Ret1 2 w (za8 (a0,a1,a2,xs) [x] vs)) := by
 by_cases h : a0 = 1
 · have h1' := h1 h
   subst h h1'
   have E := Lib.hid (show za8 (1,(0 : Int),a2,xs) [x] vs = [x] by rw [zmz rfl]; rfl)
   have O1 := zdt w x
   have B1 : Below w.heap.size w (w.alloc (.cells #[.int .i64 x] 2)) := (Below.refl _ _).alloc (Nat.le_refl _) _
   have lf : bf < w.heap.size := World.block_lt_of_cell? w _ cf0
   have cf1 : w.cell? ⟨bf,of + 0,none⟩ = some (.int .i64 x) := cf0
   clear h1
   go_enter Tryz.func194,Tryz.ntmps194
   go_wp2_with fail
   go_ret
   rw [E.out]
   exact ⟨_,rfl,O1,B1⟩
 · have E := Lib.hid (show za8 (a0,a1,a2,xs) [x] vs = zcl xs vs from zm0 h [x] vs)
   have hne : (a0 == 1) = false := by simpa using h
   clear h1
   go_enter Tryz.func194,Tryz.ntmps194
   go_wp2_with fail
   refine (zry _ _ _ _ _ _ _ _ _ hx hv hn hnv hr).mono ?_
   rintro e w2 ⟨v4,rfl,own1,bel1⟩
   go_wp2_with fail
   go_ret
   rw [E.out]
   exact ⟨_,rfl,own1,bel1⟩
theorem ztv (vb vo : Nat) (A1 : Option Addr) (n1 c1 : Nat) (A2 : Option Addr) (n2 c2 : Nat) (Ao : Option Addr) (co : Nat) (sb so : Nat) (AV : Option Addr) (cV : Nat) (ns : List Node) (tb : List (List Int)) (O : List Int) (cs : List (List Int)) (bf of cf : Nat) (x : Int) (w : World)
 (f1 : w.cell? ⟨vb,vo + 1,none⟩ = some (.slice A1 n1 c1)) (f2 : w.cell? ⟨vb,vo + 2,none⟩ = some (.slice A2 n2 c2)) (fs : w.cell? ⟨sb,so,none⟩ = some (.slice AV n2 cV))
 (h1 : RS tS w w.heap.size (.slice A1 n1 c1) tb) (h2 : RS tN w w.heap.size (.slice A2 n2 c2) ns) (h4 : RI w w.heap.size Ao n2 O) {F : Nat → Prop} (hs : RSN F w (.slice AV n2 cV) cs) (hF : M.PF ns tb O) (hx : M.smp x = true) (h0 : 0 < n2) (hnz : hNS.sz ns ≤ 100000000) (hco : M.CO ns cs)
 (cf0 : w.cell? ⟨bf,of,none⟩ = some (.int .i64 x)) :
 Calls Tryz.prog 168 #[.pointer (some ⟨vb,vo,none⟩),.slice Ao n2 co,.pointer (some ⟨sb,so,none⟩),.slice (some ⟨bf,of,none⟩) 1 cf] w (Ret1 2 w (zbh ns tb [x] O cs)) := by
 have HL2 := Lib.hid h2.cap.1
 have HL1 := Lib.hid h1.cap.1
 have HLO := Lib.hid h4.len
 have hnb : n2 ≤ 24 := by rw [← HL2.out]; exact hF.len
 have hxs : [x].all M.smp = true := by simpa using hx
 have HX := Lib.hid hxs
 have lvb : vb < w.heap.size := World.block_lt_of_cell? w _ f1
 have lsb : sb < w.heap.size := World.block_lt_of_cell? w _ fs
 have lbf : bf < w.heap.size := World.block_lt_of_cell? w _ cf0
 obtain ⟨bo,oo,rfl,hbo,hcO⟩ := zam h4 (by omega)
 have HRP := Lib.hid (show (List.replicate n2 (0 : Int)).all M.smp = true by
  rw [List.all_eq_true]
  intro z hz
  rw [List.eq_of_mem_replicate hz]
  rfl)
 have HCO := Lib.hid hcO
 clear hxs hcO
 go_enter Tryz.func168,Tryz.ntmps168
 go_wp2_with (at_make; refine zda zbs rfl _ _ rfl n2 _ _ rfl rfl rfl rfl (by omega) (by unfold maxLen; omega) ?_; intro w1 own1 bel1)
 have s1 := bel1.size
 have s1' := (World.ownsRow.lt own1 _ rfl).2
 have ow : OI 2 w.heap.size w1 (.slice (some ⟨w.heap.size,0,none⟩) n2 n2) (List.replicate n2 0) := by
  unfold OI
  have := toList_madeCells_one (.int .i64 0) n2
  simp only [Nat.mul_one,Value.cells] at own1
  rw [this] at own1
  simpa using own1
 clear own1
 go_loopw [10] (fun i wr => ∃ t : Nat,i = .int .i64 t ∧ t ≤ n2 ∧ OI 2 w.heap.size wr (.slice (some ⟨w.heap.size,0,none⟩) n2 n2) (zc2 ns tb [x] O cs (List.replicate n2 0) t) ∧ Below w.heap.size w wr ∧ w1.heap.size ≤ wr.heap.size) (fun i _ => n2 - (intOf i).toNat)
 case atStart => exact ⟨0,rfl,by omega,ow,bel1,by omega⟩
 case round =>
  obtain ⟨t,rfl,ht,ov,B,sz⟩ := hrel
  by_cases hlt : t < n2
  · obtain ⟨xn,hxn,eN,eO,hi⟩ := hF.ord (t := t) (by rw [HLO.out]; exact hlt)
    have r1 := zmm (tb := tb) hF HX.out hco HRP.out t (by rw [HLO.out]; omega)
    have HR := (show zc2 ns tb [x] O cs (List.replicate n2 0) (t + 1) = _ from by rw [zc2])
    generalize hri : zan O t = i at *
    generalize hrv : zc2 ns tb [x] O cs (List.replicate n2 0) t = V at *
    rw [HL2.out] at hi
    have hok := hF.ok _ _ hxn
    have hfr := hF.fr _ _ hxn
    have hinp := hF.inp _ _ hxn
    have hcx := hco.at_ _ _ hxn
    clear hri hrv
    obtain ⟨bb,o,a0,a1,a2,A6,c6,x3,rfl,hbb,X,e0,e1,e2,e3,hr3,h3b⟩ := zds (h2.below B) hnz hi
    obtain rfl : xn = (a0,a1,a2,x3) := Option.some.inj (hxn.symm.trans X.out)
    have hot : O[t]? = some (i : Int) := by
     have h2 : t < O.length := by rw [HLO.out]; exact hlt
     rw [M.i_,List.getElem?_eq_getElem h2] at eO
     rw [List.getElem?_eq_getElem h2]
     exact congrArg some eO
    have co1 : wr.cell? ⟨bo,oo + t,none⟩ = some (.int .i64 (i : Int)) := ri_x (h4.below B) hot
    obtain ⟨bs,os,cV',A',c',s,eV,hbs,-,hs1,hcS,rS,cS⟩ := (hs.chg (zcr B)).at (k := i) (by rw [hco.len,HL2.out]; exact hi)
    simp only [Value.slice.injEq] at eV
    obtain ⟨rfl,-,-⟩ := eV
    have hcs : zaf cs i = s := zg0 hs1
    rw [hcs] at hcx
    obtain ⟨y,hy1,hy2,hy3,-,-⟩ := ov.at' (k := i) hi
    have g1 : wr.cell? ⟨vb,vo + 1,none⟩ = some (.slice A1 n1 c1) := by rw [B.cell (by show vb < _; omega)]; exact f1
    have g2 : wr.cell? ⟨vb,vo + 2,none⟩ = some (.slice (some ⟨bb,o,none⟩) n2 c2) := by rw [B.cell (by show vb < _; omega)]; exact f2
    have gs : wr.cell? ⟨sb,so,none⟩ = some (.slice (some ⟨bs,os,none⟩) n2 cV) := by rw [B.cell (by show sb < _; omega)]; exact fs
    have gf : wr.cell? ⟨bf,of,none⟩ = some (.int .i64 x) := by rw [B.cell (by show bf < _; omega)]; exact cf0
    have i0 : (0 : Int) ≤ (i : Int) := by omega
    have i1 : (i : Int) < (n2 : Int) := by omega
    have t0 : (0 : Int) ≤ (t : Int) := by omega
    have t1 : (t : Int) < (n2 : Int) := by omega
    have HCX := Lib.hid hcx
    have HEN := Lib.hid eN
    have HOK := Lib.hid hok
    have HFR := Lib.hid hfr
    have HIL := Lib.hid (zhp (x := (a0,a1,a2,x3)) HOK.out [x] V)
    have HIA := Lib.hid (zev (x := (a0,a1,a2,x3)) HX.out r1)
    have HT := Lib.hid (show zc2 ns tb [x] O cs (List.replicate n2 0) (t + 1) = V.set i (zah (a0,a1,a2,x3) tb (za8 (a0,a1,a2,x3) [x] V) s) by rw [HR,HEN.out,hcs])
    have D1 : Below wr.heap.size wr wr.drew := zac (Below.refl _ _) 1
    have hd0 : wr.drew.heap.size = wr.heap.size := rfl
    have szw := B.size
    have pp1 := cell_regrown g1
    have pps := cell_regrown gs
    have ppc := cell_regrown cS
    have hvU := (ov.below D1).ri'
    generalize hI : za8 (a0,a1,a2,x3) [x] V = I at *
    clear HR hcx hxn eN hok hfr eO hot hs1 hcs
    go_wp2_with fail
    (refine zce [0,1,2,3,4,5,7,8,9,11,12,13,15] [6,14,16,17] 3 (.one 10 (.one 18 (.first 19 .rest))) [20] [20] (by kernel_rfl) (by kernel_rfl) ?_; simp only [zaj]; simp only [List.filterMap,List.getElem?_cons_succ,List.getElem?_cons_zero]; (repeat (go_big_quiet_step (fail))); refine wpQuiet_nil ?_; (repeat (go_big_quiet_step (fail))); refine wpQuiet_nil ?_)
    refine zbe rfl ?_
    go_wp2_with fail
    refine (zm5 bb (o + i * 4) a0 a1 _ _ c6 x3 bf of cf x _ n2 _ V a2 _ (show wr.drew.cell? _ = _ from e0) (show wr.drew.cell? _ = _ from e1) (show wr.drew.cell? _ = _ from e3) (show wr.drew.cell? _ = _ from gf) hvU ((hr3.more (by omega)).later D1) (by omega) (by omega) (fun e => hinp e) (Lib.hid (fun f hf => by have := HFR.out f hf; rw [HL2.out] at this; exact this))).mono ?_
    rintro e w2 ⟨v4,rfl,own1,bel2⟩
    rw [hI] at own1
    obtain ⟨A4,c4,rfl,hri4⟩ := own1.shape
    have B2 := zaa D1 bel2
    have s2 := bel2.size
    go_wp2_with fail
    refine ⟨regrown_of_below B2,?_⟩
    refine zbe rfl ?_
    have e0' : w2.cell? ⟨bb,o + i * 4,none⟩ = some (.int .i64 a0) := by rw [B2.cell (by show bb < _; omega)]; exact e0
    have e1' : w2.cell? ⟨bb,o + i * 4 + 1,none⟩ = some (.int .i64 a1) := by rw [B2.cell (by show bb < _; omega)]; exact e1
    go_wp2_with fail
    refine (zs2 bb (o + i * 4) a0 a1 a2 x3 _ _ c1 tb _ _ c4 I _ _ c' s _ ((h1.below (B.trans (B2.mono (by omega)))).more (by omega)) hF.tabs hri4 (rS.below B2).1 (by omega) (by rw [← HL1.out]; exact HOK.out) HIL.out HIA.out HCX.out.1 HCX.out.2 e0' e1').mono ?_
    rintro e w3 ⟨rfl,bel3⟩
    have B3 := zaa B2 bel3
    have s3 := bel3.size
    go_wp2_with fail
    refine ⟨regrown_of_below B3,?_⟩
    (refine zcg rfl ?_; (repeat (go_big_quiet_step (fail))); refine wpQuiet_nil ?_)
    refine zb7 ?_
    have zv : w3.cell? ⟨w.heap.size,i,none⟩ = some (.int .i64 y) := by rw [B3.cell (by show w.heap.size < _; omega)]; exact hy2
    have zf : w3.frozen? ⟨w.heap.size,i,none⟩ = false := by rw [B3.frozen (by show w.heap.size < _; omega)]; exact hy3
    generalize hOut : zah (a0,a1,a2,x3) tb I s = out at *
    go_wp2_with fail
    refine ⟨⟨t + 1,by go_num,by omega,?_,((B.trans (B3.mono (by omega))).setCell (by simp) _),by simp; omega⟩,by simp [intOf]; omega⟩
    rw [HT.out]
    exact (ov.below B3).stored' i out
  · obtain rfl : t = n2 := by omega
    go_wp2_with fail
    go_ret
    refine ⟨_,rfl,?_,B⟩
    rw [zbh,HLO.out,HL2.out]
    exact ov
theorem ztw (ns : List Node) (tb : List (List Int)) (fr O : List Int) (cs : List (List Int)) {k : Nat} (hk : k < ns.length) :
 (zcj ns tb fr O cs).take (k + 1) = (zcj ns tb fr O cs).take k ++ [zak (zaw ns k) (za8 (zaw ns k) fr (zbh ns tb fr O cs)) (zaf cs k) (M.i_ (zbh ns tb fr O cs) k)] := by
 rw [M.take_at]
 simp [zcj,hk]
theorem RSN.of_os {F G : Nat → Prop} {e : TypeId} {w : World} {v : Value} {cs : List (List Int)} (h : OS tS e w G v cs) (hF : ∀ k,F k → ¬ G k) : RSN F w v cs := by
 have h2 := h
 obtain ⟨css,Fs,h1,_,h3,_⟩ := h
 exact RSN.of_cr (CR.of_os (base := 0) h2 (fun k hk hG => absurd hG (hF k hk)) (fun _ _ => Nat.zero_le _)) (fun k hk hf => hF k hf (h3 k hk))
theorem ztx (vb vo : Nat) (A1 : Option Addr) (n1 c1 : Nat) (A2 : Option Addr) (n2 c2 : Nat) (sb : Nat) (AV : Option Addr) (cV : Nat) (ns : List Node) (tb : List (List Int)) (O : List Int) (cs : List (List Int)) (bf of cf : Nat) (x : Int) (Av : Option Addr) (cv : Nat) (w : World)
 (f1 : w.cell? ⟨vb,vo + 1,none⟩ = some (.slice A1 n1 c1)) (f2 : w.cell? ⟨vb,vo + 2,none⟩ = some (.slice A2 n2 c2)) (fs : w.cell? ⟨sb,0,none⟩ = some (.slice AV n2 cV)) (ff : w.frozen? ⟨sb,0,none⟩ = false)
 (h1 : RS tS w w.heap.size (.slice A1 n1 c1) tb) (h2 : RS tN w w.heap.size (.slice A2 n2 c2) ns) {F : Nat → Prop} (hs : RSN F w (.slice AV n2 cV) cs) (hv : RI w w.heap.size Av n2 (zbh ns tb [x] O cs)) (hF : M.PF ns tb O) (hx : M.smp x = true) (hnz : hNS.sz ns ≤ 100000000) (hco : M.CO ns cs)
 (cf0 : w.cell? ⟨bf,of,none⟩ = some (.int .i64 x)) :
 Calls Tryz.prog 169 #[.pointer (some ⟨vb,vo,none⟩),.pointer (some ⟨sb,0,none⟩),.slice (some ⟨bf,of,none⟩) 1 cf,.slice Av n2 cv] w fun e w' => e = .returned (.tuple #[]) ∧ ∃ v,w'.cell? ⟨sb,0,none⟩ = some v ∧ w'.frozen? ⟨sb,0,none⟩ = false ∧ (∀ G : Nat → Prop,(∀ k,G k → k < w.heap.size) → RSN G w' v (zcj ns tb [x] O cs)) ∧ Chg (fun k => k = sb) w w' := by
 have HL2 := Lib.hid h2.cap.1
 have HL1 := Lib.hid h1.cap.1
 have HCL := Lib.hid hco.len
 have hnb : n2 ≤ 24 := by rw [← HL2.out]; exact hF.len
 have hxs : [x].all M.smp = true := by simpa using hx
 have HX := Lib.hid hxs
 have HVS := Lib.hid (zje (fr := [x]) hF hxs hco)
 have lvb : vb < w.heap.size := World.block_lt_of_cell? w _ f1
 have lsb : sb < w.heap.size := World.block_lt_of_cell? w _ fs
 have lbf : bf < w.heap.size := World.block_lt_of_cell? w _ cf0
 have hnl := Lib.hid (show (zcj ns tb [x] O cs).length = n2 by rw [zcj,List.length_map,List.length_range]; exact HL2.out)
 have O0 : OS tS 24 (w.alloc (.cells #[] 24)) (Iv w.heap.size (w.alloc (.cells #[] 24)).heap.size) (.slice (some ⟨w.heap.size,0,none⟩) 0 0) [] :=
  ⟨[],fun _ _ => False,zeq (World.ownsRow_made _ _ _ (Nat.le_refl _) (by simp [maxLen]) rfl) (Nat.zero_le _),rfl,fun g hg => by simp only [Value.ownBlock,Option.some.injEq] at hg; exact ⟨by omega,by simp; omega⟩,fun _ _ h => h.elim,fun _ _ _ _ h => h.elim,fun k h => by simp at h⟩
 have BX : Below w.heap.size w (w.alloc (.cells #[] 24)) := (Below.refl _ _).alloc (Nat.le_refl _) _
 clear hxs
 go_enter Tryz.func169,Tryz.ntmps169
 go_wp2_with fail
 go_loopw [8,9] (fun v i wr => ∃ k : Nat,i = .int .i64 k ∧ k ≤ n2 ∧ OS tS 24 wr (Iv w.heap.size wr.heap.size) v ((zcj ns tb [x] O cs).take k) ∧ Below w.heap.size w wr) (fun _ i _ => n2 - (intOf i).toNat)
 case atStart => exact ⟨0,rfl,by omega,O0,BX⟩
 case round =>
  obtain ⟨k,rfl,hk,own,B⟩ := hrel
  have g2 : wr.cell? ⟨vb,vo + 2,none⟩ = some (.slice A2 n2 c2) := by rw [B.cell (by show vb < _; omega)]; exact f2
  have gs : wr.cell? ⟨sb,0,none⟩ = some (.slice AV n2 cV) := by rw [B.cell (by show sb < _; omega)]; exact fs
  have gsf : wr.frozen? ⟨sb,0,none⟩ = false := by rw [B.frozen (by show sb < _; omega)]; exact ff
  by_cases hlt : k < n2
  · have hxn := zho (ns := ns) (i := k) (by rw [HL2.out]; exact hlt)
    obtain ⟨xn,hN⟩ : ∃ xn,zaw ns k = xn := ⟨_,rfl⟩
    have HT := Lib.hid (ztw ns tb [x] O cs (k := k) (by rw [HL2.out]; exact hlt))
    rw [hN] at hxn HT
    have hok := hF.ok _ _ hxn
    have hfr := hF.fr _ _ hxn
    have hinp := hF.inp _ _ hxn
    have hcx := hco.at_ _ _ hxn
    obtain ⟨bb,o,a0,a1,a2,A6,c6,x3,rfl,hbb,X,e0,e1,e2,e3,hr3,h3b⟩ := zds (h2.below B) hnz hlt
    obtain rfl : xn = (a0,a1,a2,x3) := Option.some.inj (hxn.symm.trans X.out)
    obtain ⟨bs,os,cV',A',c',s,eV,hbs,-,hs1,hcS,rS,cS⟩ := (hs.chg (zcr B)).at (k := k) (by rw [HCL.out,HL2.out]; exact hlt)
    simp only [Value.slice.injEq] at eV
    obtain ⟨rfl,-,-⟩ := eV
    have hcs : zaf cs k = s := zg0 hs1
    rw [hcs] at hcx HT
    obtain ⟨bV,oV,rfl,hbV,hcV⟩ := zam hv (by omega)
    have hVl : (zbh ns tb [x] O cs).length = n2 := hv.len
    have hvk : (zbh ns tb [x] O cs)[k]? = some (M.i_ (zbh ns tb [x] O cs) k) := by rw [M.i_,List.getElem?_eq_getElem (by omega)]; rfl
    have cv1 : wr.cell? ⟨bV,oV + k,none⟩ = some (.int .i64 (M.i_ (zbh ns tb [x] O cs) k)) := by rw [B.cell (by show bV < _; omega)]; exact hcV k _ hvk
    obtain ⟨u,hu,hou⟩ := hF.top.all (j := k) (by rw [HL2.out]; exact hlt)
    have hout := zll (tb := tb) (fr := [x]) hF.top cs hu
    rw [hou,hN,hcs] at hout
    generalize hV : zbh ns tb [x] O cs = V at *
    have gf : wr.cell? ⟨bf,of,none⟩ = some (.int .i64 x) := by rw [B.cell (by show bf < _; omega)]; exact cf0
    have k0 : (0 : Int) ≤ (k : Int) := by omega
    have k1 : (k : Int) < (n2 : Int) := by omega
    have HCX := Lib.hid hcx
    have HOK := Lib.hid hok
    have HFR := Lib.hid hfr
    have HIL := Lib.hid (zhp (x := (a0,a1,a2,x3)) HOK.out [x] V)
    have HIA := Lib.hid (zev (x := (a0,a1,a2,x3)) HX.out HVS.out)
    have D1 : Below wr.heap.size wr wr.drew := zac (Below.refl _ _) 1
    have hd0 : wr.drew.heap.size = wr.heap.size := rfl
    have szw := B.size
    have pps := cell_regrown gs
    have ppc := cell_regrown cS
    have ppv := cell_regrown cv1
    have hvU := (hv.below (B.trans (D1.mono (by omega)))).more (show w.heap.size ≤ wr.drew.heap.size by omega)
    generalize hI : za8 (a0,a1,a2,x3) [x] V = I at *
    generalize hov : M.i_ V k = ov at *
    have HOV := Lib.hid hout
    have hxl : ((zcj ns tb [x] O cs).take k).length ≤ 1000000 := by rw [List.length_take]; omega
    clear hcx hxn hok hfr hs1 hcs hN hout hou hu hVl hvk hcV hov
    go_wp2_with fail
    (refine zce [0,1,2,3,4,6,7,8,10,13,14,15] [9,11,12,16] 3 (.one 5 (.one 17 (.one 18 .rest))) [19] [19,20] (by kernel_rfl) (by kernel_rfl) ?_; simp only [zaj]; simp only [List.filterMap,List.getElem?_cons_succ,List.getElem?_cons_zero]; (repeat (go_big_quiet_step (fail))); refine wpQuiet_nil ?_; (repeat (go_big_quiet_step (fail))); refine wpQuiet_nil ?_)
    refine zbe rfl ?_
    go_wp2_with fail
    refine (zm5 bb (o + k * 4) a0 a1 _ _ c6 x3 bf of cf x _ n2 _ V a2 _ (show wr.drew.cell? _ = _ from e0) (show wr.drew.cell? _ = _ from e1) (show wr.drew.cell? _ = _ from e3) (show wr.drew.cell? _ = _ from gf) hvU ((hr3.more (by omega)).later D1) (by omega) (by omega) (fun e => hinp e) (Lib.hid (fun f hf => by have := HFR.out f hf; rw [HL2.out] at this; exact this))).mono ?_
    rintro e w2 ⟨v4,rfl,own1,bel2⟩
    rw [hI] at own1
    obtain ⟨A4,c4,rfl,hri4⟩ := own1.shape
    have B2 := zaa D1 bel2
    have s2 := bel2.size
    go_wp2_with fail
    refine ⟨regrown_of_below B2,?_⟩
    refine zbe rfl ?_
    have e0' : w2.cell? ⟨bb,o + k * 4,none⟩ = some (.int .i64 a0) := by rw [B2.cell (by show bb < _; omega)]; exact e0
    go_wp2_with fail
    have hnx := spec_l06Next bb (o + k * 4) a0 a1 a2 x3 _ _ c1 tb _ _ c4 I _ _ c' s _ ((h1.below (B.trans (B2.mono (by omega)))).more (by omega)) hF.tabs hri4 (rS.below B2).1 (by omega) (by rw [← HL1.out]; exact HOK.out) HIL.out HIA.out HCX.out.1 HCX.out.2 e0'
    rw [← HOV.out] at hnx
    refine hnx.mono ?_
    clear hnx
    rintro e w3 ⟨v5,rfl,own2,bel3⟩
    generalize hNx : zak (a0,a1,a2,x3) I s ov = nx at *
    obtain ⟨A5,c5,rfl,-⟩ := own2.shape
    have B3 := zaa B2 bel3
    have s3 := bel3.size
    have os2 := tS_O.2 (OI.os own2)
    have own3 := own.below B3 (Nat.le_refl _)
    go_wp2_with fail
    refine ⟨regrown_of_below B3,?_⟩
    refine zbe rfl ?_
    go_wp2_with fail
    refine ⟨regrown_of_below (zaa B3 ((Below.refl _ _).alloc (Nat.le_refl _) _)),?_⟩
    refine zb7 ?_
    go_wp2_with (at_builtin; refine zca ei_S #[.slice A5 nx.length c5] rfl _ _ rfl own3 os2 (Iv.apart (by omega)) rfl rfl (by unfold maxLen; omega) (by omega) ?_; intro v3 w4 own4 ch4)
    have s4 := ch4.size
    refine ⟨⟨k + 1,by go_num,by omega,?_,(B.trans (B3.mono (by omega))).trans (ch4.toBelow (fun b hb => by have := hb.1; omega) (by omega))⟩,by simp [intOf]; omega⟩
    rw [HT.out]
    refine own4.wide (fun b hb => ?_)
    rcases hb with hb | hb | hb
    · exact ⟨hb.1,by have := hb.2; omega⟩
    · exact ⟨by have := hb.1; omega,by have := hb.2; omega⟩
    · exact ⟨by omega,by omega⟩
  · obtain rfl : k = n2 := by omega
    rw [List.take_of_length_le (by rw [hnl.out]; exact Nat.le_refl _)] at own
    obtain ⟨A5,c5,e5⟩ := own.shape
    rw [hnl.out] at e5
    subst e5
    have szw := B.size
    go_wp2_with fail
    go_end0
    refine ⟨rfl,_,World.cell?_setCell_same (h := gs) ..,by simp [go_sem,gsf],fun G hG => ?_,(zcr B).trans (Chg.set wr sb 0 _ rfl)⟩
    exact RSN.of_os (own.chg (Chg.set (F := fun k => k = sb) wr sb 0 _ rfl) (fun b hb (e : b = sb) => by have := hb.1; omega)) (fun b hG2 hb => by have := hb.1; have := hG b hG2; omega)
end
section
open Go.RowKit Go.Sort
theorem OS.one {e : TypeId} {w : World} {lo hi : Nat} {v : Value} {x : List Int} (h : OS tS e w (Iv lo hi) v [x]) :
 ∃ bo cO vo,v = .slice (some ⟨bo,0,none⟩) 1 cO ∧ lo ≤ bo ∧ bo < w.heap.size ∧ w.cell? ⟨bo,0,none⟩ = some vo ∧ w.frozen? ⟨bo,0,none⟩ = false ∧ OI 2 lo w vo x ∧ vo.ownBlock ≠ some bo := by
 obtain ⟨A,c,rfl⟩ := h.shape
 obtain ⟨css,Fs,hO,cs,hcs,ho⟩ := h.open (k := 0) (by simp)
 obtain ⟨g,rfl,hF,hn,hg,-⟩ := hO.form (by simp)
 obtain ⟨vo,rfl,hvo⟩ := ho
 have hc := hO.cell hcs (j := 0) (u := vo) rfl
 rw [Nat.zero_mul,Nat.add_zero] at hc
 refine ⟨g,c,vo,rfl,hF.1,hg,hc.1,hc.2,(hvo.wide (F' := Iv lo hi) hO.fits).oi,fun e => hn (hvo.lt g e).1⟩
theorem RSN.more {F F' : Nat → Prop} {w : World} {v : Value} {cs : List (List Int)} (h : RSN F w v cs) (hF : ∀ k,F' k → F k ∨ w.heap.size ≤ k) : RSN F' w v cs := by
 obtain ⟨A,c,us,rfl,h1,h2,h3,h4,h5,h6⟩ := h
 refine ⟨A,c,us,rfl,h1,h2,h3,h4,fun ad hn he hf => ?_,fun k x hx => ?_⟩
 · obtain ⟨ad',e',hb,_⟩ := h4.2 hn
   rw [he] at e'
   injection e' with e'
   subst e'
   rcases hF _ hf with h | h
   · exact h5 ad hn he h
   · omega
 · obtain ⟨A',c',e1,e2,e3⟩ := h6 k x hx
   exact ⟨A',c',e1,e2,e3.more hF⟩
theorem zty (vb vo : Nat) (A1 : Option Addr) (n1 c1 : Nat) (A2 : Option Addr) (n2 c2 : Nat) (A3 : Option Addr) (c3 : Nat) (sb : Nat) (v0 : Value) (ns : List Node) (tb : List (List Int)) (o : Int) (bi oi ci : Nat) (A : Option Addr) (m c : Nat) (xs : List Int) (n : Nat) (w : World)
 (f1 : w.cell? ⟨vb,vo + 1,none⟩ = some (.slice A1 n1 c1)) (f2 : w.cell? ⟨vb,vo + 2,none⟩ = some (.slice A2 n2 c2)) (f3 : w.cell? ⟨vb,vo + 3,none⟩ = some (.slice A3 1 c3)) (fs : w.cell? ⟨sb,0,none⟩ = some v0) (ff : w.frozen? ⟨sb,0,none⟩ = false) (hvs : vb ≠ sb)
 {L : Nat} (hL : L ≤ sb) (h1 : RS tS w L (.slice A1 n1 c1) tb) (h2 : RS tN w L (.slice A2 n2 c2) ns) (h3 : RI w L A3 1 [o]) (hs : RSN (fun k => k = sb) w v0 (ns.map zbd)) (hF : M.PF ns tb (zal ns)) (ho : 0 ≤ o ∧ o < n2) (hnz : hNS.sz ns ≤ 100000000)
 (ci0 : w.cell? ⟨bi,oi,none⟩ = some (.slice A m c)) (hbi : bi ≠ sb) (hx : RI w L A m xs) (hxs : xs.all M.smp = true) (hm : m ≤ 1000000) (hn : n ≤ 4000) :
 Calls Tryz.prog 137 #[.pointer (some ⟨vb,vo,none⟩),.pointer (some ⟨sb,0,none⟩),.slice (some ⟨bi,oi,none⟩) 1 ci,.int .i64 0,.int .i64 n] w fun e w' => ∃ (g c' : Nat) (A' : Option Addr) (c'' : Nat),e = .returned (.slice (some ⟨g,0,none⟩) 1 c') ∧ w'.cell? ⟨g,0,none⟩ = some (.slice A' n c'') ∧ RI w' w'.heap.size A' n (zbv ns tb (zal ns) xs o n) ∧ Chg (fun k => k = sb) w w' := by
 have HL2 := Lib.hid h2.cap.1
 have hnb : n2 ≤ 24 := by rw [← HL2.out]; exact hF.len
 have lvb : vb < w.heap.size := World.block_lt_of_cell? w _ f1
 have lsb : sb < w.heap.size := World.block_lt_of_cell? w _ fs
 have lbi : bi < w.heap.size := World.block_lt_of_cell? w _ ci0
 have HXS := Lib.hid hxs
 have hx1 := Lib.hid hx.len
 have HO := Lib.hid hF.top.len
 clear hxs
 go_enter Tryz.func137,Tryz.ntmps137
 go_wp2_with fail
 refine (zl4 vb vo _ _ c2 ns w f2 (h2.more (by omega)) hnz).mono ?_
 rintro e w1 ⟨vO,rfl,own1,bel1⟩
 replace own1 := own1 HO.out
 have hln : (zal ns).length = n2 := by rw [HO.out,HL2.out]
 obtain ⟨AO,cO_,eO,-⟩ := own1.shape
 rw [hln] at eO
 subst eO
 have s1 := bel1.size
 have O0 : OS tS 24 (w1.alloc (.cells #[] 24)) (Iv w1.heap.size (w1.alloc (.cells #[] 24)).heap.size) (.slice (some ⟨w1.heap.size,0,none⟩) 0 0) [] :=
  ⟨[],fun _ _ => False,zeq (World.ownsRow_made _ _ _ (Nat.le_refl _) (by simp [maxLen]) rfl) (Nat.zero_le _),rfl,fun g hg => by simp only [Value.ownBlock,Option.some.injEq] at hg; exact ⟨by omega,by simp; omega⟩,fun _ _ h => h.elim,fun _ _ _ _ h => h.elim,fun k h => by simp at h⟩
 have BX : Below w1.heap.size w1 (w1.alloc (.cells #[] 24)) := (Below.refl _ _).alloc (Nat.le_refl _) _
 have hdec : (decide ((zal ns).length = ns.length)) = true := by simpa using HO.out
 have HLN := Lib.hid hln
 clear hln hdec
 go_wp2_with fail
 go_loopw [13,14] (fun v i wr => ∃ k : Nat,i = .int .i64 k ∧ k ≤ 1 ∧ OS tS 24 wr (Iv w1.heap.size wr.heap.size) v ((List.replicate 1 []).take k) ∧ Below w1.heap.size w1 wr) (fun _ i _ => 1 - (intOf i).toNat)
 case atStart => exact ⟨0,rfl,by omega,O0,BX⟩
 case round =>
  obtain ⟨k,rfl,hk,own,B⟩ := hrel
  have g3 : wr.cell? ⟨vb,vo + 3,none⟩ = some (.slice A3 1 c3) := by rw [(bel1.trans (B.mono s1)).cell (by show vb < _; omega)]; exact f3
  rcases Nat.lt_or_ge k 1 with hlt | hge
  · obtain rfl : k = 0 := by omega
    have M1 := OI.made 2 wr
    have BY : Below wr.heap.size wr (wr.alloc (.cells #[] 2)) := (Below.refl _ _).alloc (Nat.le_refl _) _
    have own2 := own.below BY (Nat.le_refl _)
    have os2 := tS_O.2 (OI.os M1)
    have hsz : (wr.alloc (.cells #[] 2)).heap.size = wr.heap.size + 1 := by simp
    have HSZ := Lib.hid hsz
    have sB := B.size
    clear hsz
    go_wp2_with (at_builtin; refine zca ei_S #[.slice (some ⟨wr.heap.size,0,none⟩) 0 0] rfl _ _ rfl own2 os2 (Iv.apart (Nat.le_refl _)) rfl (by rw [HSZ.out]; rfl) (by simp [maxLen]) (by simp) ?_; intro v3 w4 own4 ch4)
    have s4 := ch4.size
    rw [HSZ.out] at s4
    go_roundw
    case rel =>
     refine ⟨1,by go_num,by omega,?_,(B.trans (BY.mono sB)).trans (ch4.toBelow (fun b hb => hb.1) (by rw [HSZ.out]; omega))⟩
     refine own4.wide (fun b hb => ?_)
     rw [HSZ.out] at hb
     rcases hb with hb | hb | hb
     · exact ⟨hb.1,by have := hb.2; omega⟩
     · exact ⟨by have := hb.1; omega,by have := hb.2; omega⟩
     · exact ⟨by omega,by omega⟩
    case measure => simp [intOf]
  · obtain rfl : k = 1 := by omega
    rw [show ((1 : Nat) : Int) = 1 from rfl]
    obtain ⟨bo,cO,vo0,rfl,hbo1,hbo2,cb,fb,oo,hne⟩ := OS.one own
    have BW := bel1.trans (B.mono s1)
    have sB := B.size
    have fs1 : wr.cell? ⟨sb,0,none⟩ = some v0 := by rw [BW.cell (by show sb < _; omega)]; exact fs
    have ff1 : wr.frozen? ⟨sb,0,none⟩ = false := by rw [BW.frozen (by show sb < _; omega)]; exact ff
    obtain ⟨W,rfl⟩ : ∃ W : World,W = wr := ⟨_,rfl⟩
    have s0 : RSN (fun k => k = sb ∨ k = bo ∨ vo0.ownBlock = some k) W v0 (ns.map zbd) := (hs.more (fun k hk => by
     rcases hk with h | h | h
     · exact .inl h
     · exact .inr (by omega)
     · exact .inr (by have := (World.ownsRow.lt oo _ h).1; omega))).below BW
    have hbl : RN (fun k => k = sb ∨ w1.heap.size ≤ k) W AO n2 (zal ns) := ((RN.of_oi own1 (F := fun k => k = sb) (fun k hk => by omega)).more (F' := fun k => k = sb ∨ w1.heap.size ≤ k) (fun k hk => hk)).below B
    have C0 : Chg (fun k => k = sb) w W := zcr BW
    have HI := Lib.hid hF
    clear own O0 BX hk own1
    go_wp2_with fail
    go_loopw [15] (fun i wr => ∃ t : Nat,i = .int .i64 t ∧ t ≤ n ∧ ∃ (vs_ vo : Value),Chg (fun k => k = sb) w wr ∧ W.heap.size ≤ wr.heap.size ∧ RN (fun k => k = sb ∨ w1.heap.size ≤ k) wr AO n2 (zal ns) ∧ wr.cell? ⟨sb,0,none⟩ = some vs_ ∧ wr.frozen? ⟨sb,0,none⟩ = false ∧ RSN (fun k => k = sb ∨ k = bo ∨ vo.ownBlock = some k) wr vs_ (zdc ns tb (zal ns) xs t) ∧
     wr.cell? ⟨bo,0,none⟩ = some vo ∧ wr.frozen? ⟨bo,0,none⟩ = false ∧ OI 2 w1.heap.size wr vo (zbv ns tb (zal ns) xs o t) ∧ vo.ownBlock ≠ some bo) (fun i _ => n - (intOf i).toNat)
    case atStart => exact ⟨0,rfl,by omega,v0,vo0,C0,Nat.le_refl _,hbl,fs1,ff1,s0,cb,fb,oo,hne⟩
    case round =>
     clear s0 hbl fs1 ff1 cb fb oo hne C0
     obtain ⟨t,rfl,ht,vs_,vo_,hch,hsz,hO,fs1,ff1,rs,cb,fb,oo,hne⟩ := hrel
     obtain ⟨wo,rfl⟩ : ∃ wo : World,wo = wr := ⟨_,rfl⟩
     have hso := hch.size
     have hvob : ∀ k,vo_.ownBlock = some k → k < wo.heap.size := fun k hk => (World.ownsRow.lt oo _ hk).2
     have BL : Below L w wo := hch.toBelow (fun k hk => by omega) (by omega)
     have hrsl : (zdc ns tb (zal ns) xs t).length = n2 := by rw [(zhr hF HXS.out t).len,HL2.out]
     obtain ⟨AV,cV,eV⟩ := rs.shape
     rw [hrsl] at eV
     subst eV
     have g1 : wo.cell? ⟨vb,vo + 1,none⟩ = some (.slice A1 n1 c1) := by rw [hch.cell lvb hvs]; exact f1
     have g2 : wo.cell? ⟨vb,vo + 2,none⟩ = some (.slice A2 n2 c2) := by rw [hch.cell lvb hvs]; exact f2
     have g3 : wo.cell? ⟨vb,vo + 3,none⟩ = some (.slice A3 1 c3) := by rw [hch.cell lvb hvs]; exact f3
     have gi : wo.cell? ⟨bi,oi,none⟩ = some (.slice A m c) := by rw [hch.cell lbi hbi]; exact ci0
     by_cases hlt : t < n
     · have HC := zhr hF HXS.out t
       have HS := Lib.hid (zmp ns tb (zal ns) xs o t)
       have HN := Lib.hid (show zdc ns tb (zal ns) xs (t + 1) = zcj ns tb [M.at_ xs (t : Int)] (zal ns) (zdc ns tb (zal ns) xs t) from rfl)
       have HW := Lib.hid (show zdd ns tb (zal ns) xs t = zbh ns tb [M.at_ xs (t : Int)] (zal ns) (zdc ns tb (zal ns) xs t) from rfl)
       have HVL := Lib.hid (zjf hF HXS.out t)
       have hax := zhq HXS.out (t : Int)
       have t0 : (0 : Int) ≤ (t : Int) := by omega
       have t1 : (t : Int) < (n : Int) := by omega
       have hxo := (hx.below BL).more (show L ≤ wo.heap.size by omega)
       obtain ⟨cy,hcy⟩ : ∃ cy,cy = M.at_ xs (t : Int) := ⟨_,rfl⟩
       rw [← hcy] at HN HW hax
       have HCY := Lib.hid hcy
       clear hrsl hcy
       go_wp2_with fail
       go_loopw [16,17] (fun v i wr => ∃ k : Nat,i = .int .i64 k ∧ k ≤ 1 ∧ OI 2 wo.heap.size wr v ([cy].take k) ∧ Below wo.heap.size wo wr) (fun _ i _ => 1 - (intOf i).toNat)
       case atStart => exact ⟨0,rfl,by omega,OI.made _ _,(Below.refl _ _).alloc (Nat.le_refl _) _⟩
       case round =>
        obtain ⟨k,rfl,hk,own,B3⟩ := hrel
        have s3 := B3.size
        rcases Nat.lt_or_ge k 1 with hlt | hge
        · obtain rfl : k = 0 := by omega
          have gi3 : wr.cell? ⟨bi,oi,none⟩ = some (.slice A m c) := by rw [B3.cell (by show bi < _; omega)]; exact gi
          go_wp2_with fail
          refine (zga _ _ _ xs _ _ (hxo.later B3) (by omega)).mono ?_
          rw [← HCY.out]
          rintro e w' ⟨rfl,rfl⟩
          go_wp2_with (at_builtin; refine zdy zbs rfl _ _ rfl own rfl rfl rfl (by simp [maxLen]) (by simp) s3 ?_; intro v5 w5 own5 gr5 bel5)
          go_roundw
          case rel => exact ⟨1,by go_num,by omega,OI.push own5,B3.trans bel5⟩
          case measure => simp [intOf]
        · obtain rfl : k = 1 := by omega
          rw [show ((1 : Nat) : Int) = 1 from rfl]
          replace own : OI 2 wo.heap.size wr _ [cy] := own
          obtain ⟨bf,cf,e2,hbf1,hbf2⟩ := own.form (by simp)
          rw [List.length_singleton] at e2
          subst e2
          have cfc : wr.cell? ⟨bf,0,none⟩ = some (.int .i64 cy) := by rw [World.ownsRow.cellAt own 0 (by simp)]; rfl
          have hO3 := hO.below B3
          have rs3 := rs.below B3
          have q1 : wr.cell? ⟨vb,vo + 1,none⟩ = some (.slice A1 n1 c1) := by rw [B3.cell (by show vb < _; omega)]; exact g1
          have q2 : wr.cell? ⟨vb,vo + 2,none⟩ = some (.slice A2 n2 c2) := by rw [B3.cell (by show vb < _; omega)]; exact g2
          have q3 : wr.cell? ⟨vb,vo + 3,none⟩ = some (.slice A3 1 c3) := by rw [B3.cell (by show vb < _; omega)]; exact g3
          have qs : wr.cell? ⟨sb,0,none⟩ = some (.slice AV n2 cV) := by rw [B3.cell (by show sb < _; omega)]; exact fs1
          have qsf : wr.frozen? ⟨sb,0,none⟩ = false := by rw [B3.frozen (by show sb < _; omega)]; exact ff1
          have qb : wr.cell? ⟨bo,0,none⟩ = some vo_ := by rw [B3.cell (by show bo < _; omega)]; exact cb
          have qbf : wr.frozen? ⟨bo,0,none⟩ = false := by rw [B3.frozen (by show bo < _; omega)]; exact fb
          have oo3 := oo.below B3
          have BL3 := BL.trans (B3.mono (by omega))
          clear g1 g2 g3 gi fs1 ff1 cb fb oo rs own hO
          go_wp2_with fail
          refine (ztv vb vo _ _ c1 _ _ c2 _ cO_ sb 0 AV cV ns tb (zal ns) _ bf 0 cf cy _ q1 q2 qs ((h1.below BL3).more (by omega)) ((h2.below BL3).more (by omega)) hO3.1 rs3 hF hax (by omega) hnz HC cfc).mono ?_
          rw [← HW.out]
          rintro e w4 ⟨v4,rfl,own4,bel4⟩
          have s4 := bel4.size
          have hvl : (zdd ns tb (zal ns) xs t).length = n2 := by rw [zdd,zta]; exact HL2.out
          obtain ⟨A4,c4,e4,hri4⟩ := own4.shape
          rw [hvl] at e4 hri4
          subst e4
          have HVN := Lib.hid hvl
          have RN4 : RN (fun b => b = bo ∨ vo_.ownBlock = some b) w4 A4 n2 (zdd ns tb (zal ns) xs t) := RN.of_oi own4 (fun k hk => by
           rcases hk with h | h
           · omega
           · exact (World.ownsRow.lt oo3 _ h).2)
          clear hvl
          obtain ⟨b4,o4,rfl,hb4,hc4⟩ := zam hri4 (by omega)
          obtain ⟨j,rfl⟩ : ∃ j : Nat,o = (j : Int) := ⟨o.toNat,by omega⟩
          obtain ⟨x4,hx4⟩ : ∃ x4,x4 = M.i_ (zdd ns tb (zal ns) xs t) j := ⟨_,rfl⟩
          have hvj : (zdd ns tb (zal ns) xs t)[j]? = some x4 := by
           rw [hx4,M.i_,List.getElem?_eq_getElem (by rw [HVN.out]; omega)]; rfl
          have cx4 := hc4 j x4 hvj
          have HS2 := Lib.hid (show zbv ns tb (zal ns) xs (j : Int) (t + 1) = zbv ns tb (zal ns) xs (j : Int) t ++ [x4] by rw [HS.out,hx4,Int.toNat_natCast])
          have hq3 := (h3.below (BL3.trans (bel4.mono (by omega))))
          obtain ⟨b3,o3,rfl,hb3,hc3_⟩ := zam hq3 (by omega)
          have c3o : w4.cell? ⟨b3,o3,none⟩ = some (.int .i64 (j : Int)) := hc3_ 0 _ rfl
          have r1 : w4.cell? ⟨vb,vo + 1,none⟩ = some (.slice A1 n1 c1) := by rw [bel4.cell (by show vb < _; omega)]; exact q1
          have r2 : w4.cell? ⟨vb,vo + 2,none⟩ = some (.slice A2 n2 c2) := by rw [bel4.cell (by show vb < _; omega)]; exact q2
          have r3 : w4.cell? ⟨vb,vo + 3,none⟩ = some (.slice (some ⟨b3,o3,none⟩) 1 c3) := by rw [bel4.cell (by show vb < _; omega)]; exact q3
          have rss : w4.cell? ⟨sb,0,none⟩ = some (.slice AV n2 cV) := by rw [bel4.cell (by show sb < _; omega)]; exact qs
          have rsf : w4.frozen? ⟨sb,0,none⟩ = false := by rw [bel4.frozen (by show sb < _; omega)]; exact qsf
          have rb : w4.cell? ⟨bo,0,none⟩ = some vo_ := by rw [bel4.cell (by show bo < _; omega)]; exact qb
          have rbf : w4.frozen? ⟨bo,0,none⟩ = false := by rw [bel4.frozen (by show bo < _; omega)]; exact qbf
          have oo4 := oo3.below bel4
          have hO4 := hO3.below bel4
          have rs4 := rs3.below bel4
          have cf4 : w4.cell? ⟨bf,0,none⟩ = some (.int .i64 cy) := by rw [bel4.cell (by show bf < _; omega)]; exact cfc
          have B4 := B3.trans (bel4.mono s3)
          have s4_ := bel4.size
          clear q1 q2 q3 qs qsf qb qbf oo3 hO3 rs3 cfc hx4 hvj hc4 hc3_
          go_wp2_with fail
          obtain ⟨wq,rfl⟩ : ∃ wq : World,wq = w4 := ⟨_,rfl⟩
          go_loopw [19] (fun i wr => ∃ k : Nat,i = .int .i64 k ∧ ((k = 0 ∧ wr = wq) ∨ (k = 1 ∧ ∃ v',wr.cell? ⟨bo,0,none⟩ = some v' ∧ wr.frozen? ⟨bo,0,none⟩ = false ∧ OI 2 w1.heap.size wr v' (zbv ns tb (zal ns) xs (j : Int) (t + 1)) ∧ Chg (fun b => b = bo ∨ vo_.ownBlock = some b) wq wr ∧ (v'.ownBlock = vo_.ownBlock ∨ ∀ k,v'.ownBlock = some k → wq.heap.size ≤ k)))) (fun i _ => 1 - (intOf i).toNat)
          case atStart => exact ⟨0,rfl,.inl ⟨rfl,rfl⟩⟩
          case round =>
           obtain ⟨k,rfl,hor⟩ := hrel
           rcases hor with ⟨rfl,rfl⟩ | ⟨rfl,v5,co5,fo5,oo5,ch5,hb5⟩
           · rw [show ((0 : Nat) : Int) = 0 from rfl]
             have D1 : Below wr.heap.size wr wr.drew := zac (Below.refl _ _) 1
             have hd0 : wr.drew.heap.size = wr.heap.size := rfl
             have pp1 := cell_regrown r3
             have ppb := cell_regrown rb
             have ppo := cell_regrown c3o
             have ppx := cell_regrown cx4
             have ood := oo4.below D1
             have hlp := zen ns tb (zal ns) xs (j : Int) t
             have hlp' : (zbv ns tb (zal ns) xs (j : Int) t).length ≤ 1000000 := by omega
             have j0 : (0 : Int) ≤ (j : Int) := by omega
             have j1 : (j : Int) < (n2 : Int) := by omega
             have rbd : wr.drew.cell? ⟨bo,0,none⟩ = some vo_ := rb
             have rbfd : wr.drew.frozen? ⟨bo,0,none⟩ = false := rbf
             clear hlp
             go_wp2_with fail
             (refine zce [0,1,2,3,4,6,7,8,9,11] [5,10,12,13,14,15] 1 (.one 16 .rest) [17,19] [17,18,19] (by kernel_rfl) (by kernel_rfl) ?_; simp only [zaj]; simp only [List.filterMap,List.getElem?_cons_succ,List.getElem?_cons_zero]; (repeat (go_big_quiet_step (fail))); refine wpQuiet_nil ?_; (repeat (go_big_quiet_step (fail))); refine wpQuiet_nil ?_)
             refine zbe rfl ?_
             go_wp2_with fail
             refine ⟨regrown_of_below ((Below.refl _ _).alloc (Nat.le_refl _) _ |> zaa D1),?_⟩
             refine zb7 ?_
             go_wp2_with (at_builtin; refine zjj zbs rfl _ _ rfl ood rfl rfl rfl (by unfold maxLen; omega) (by omega) (by omega) ?_; intro v5 w5 own5 gr5 bel5 hb5; have op5 := OI.push own5; obtain ⟨A5,c5,e5,-⟩ := op5.shape; obtain ⟨n5,hn5⟩ : ∃ n5,n5 = (zbv ns tb (zal ns) xs (j : Int) t ++ [x4]).length := ⟨_,rfl⟩; rw [← hn5] at e5; subst e5; have HN5 := Lib.hid hn5; clear hn5; have hc5 : w5.cell? ⟨bo,0,none⟩ = some vo_ := (by rw [World.cell?_of_block (gr5.block bo (by show bo < _; omega) (fun e => hne e.symm))]; exact rb); have hf5 : w5.frozen? ⟨bo,0,none⟩ = false := (by have h9 := gr5.block bo (by show bo < _; omega) (fun e => hne e.symm); simp only [World.frozen?]; rw [h9]; exact rbf))
             have hnb5 : (Value.slice A5 n5 c5).ownBlock ≠ some bo := fun e => by
              rcases hb5 with h | h
              · exact hne (h.symm.trans e)
              · have := h bo e; omega
             refine ⟨⟨1,by go_num,.inr ⟨rfl,.slice A5 n5 c5,World.cell?_setCell_same (h := hc5) ..,by simp [go_sem,hf5],?_,?_,hb5⟩⟩,by simp [intOf]⟩
             · rw [HS2.out]
               exact op5.kept (zav _ _ 0 _) (.inr hnb5)
             · exact ((zcr D1).trans (Chg.of_grown gr5 (fun k hk => .inr hk))).trans (Chg.set w5 _ 0 _ (.inl rfl))
           · rw [show ((1 : Nat) : Int) = 1 from rfl]
             have s5 := ch5.size
             have nF : ∀ x,x < w1.heap.size → ¬ (x = bo ∨ vo_.ownBlock = some x) := fun x hx e => by
              rcases e with e | e
              · omega
              · have := (World.ownsRow.lt oo4 _ e).1; omega
             have nF2 : ∀ x,wo.heap.size ≤ x → ¬ (x = bo ∨ vo_.ownBlock = some x) := fun x hx e => by
              rcases e with e | e
              · omega
              · have := hvob _ e; omega
             have y1 : wr.cell? ⟨vb,vo + 1,none⟩ = some (.slice A1 n1 c1) := by rw [ch5.cell (by omega) (nF _ (by omega))]; exact r1
             have y2 : wr.cell? ⟨vb,vo + 2,none⟩ = some (.slice A2 n2 c2) := by rw [ch5.cell (by omega) (nF _ (by omega))]; exact r2
             have y3 : wr.cell? ⟨vb,vo + 3,none⟩ = some (.slice (some ⟨b3,o3,none⟩) 1 c3) := by rw [ch5.cell (by omega) (nF _ (by omega))]; exact r3
             have ys : wr.cell? ⟨sb,0,none⟩ = some (.slice AV n2 cV) := by rw [ch5.cell (by omega) (nF _ (by omega))]; exact rss
             have ysf : wr.frozen? ⟨sb,0,none⟩ = false := by rw [ch5.frozen (by omega) (nF _ (by omega))]; exact rsf
             have yf : wr.cell? ⟨bf,0,none⟩ = some (.int .i64 cy) := by rw [ch5.cell (by omega) (nF2 _ (by omega))]; exact cf4
             have BL5 : Below L w wr := (BL.trans (B4.mono (by omega))).trans (ch5.toBelow (fun k hk => by
              rcases hk with h | h
              · omega
              · have := (World.ownsRow.lt oo4 _ h).1; omega) (by omega))
             have rs5 := rs4.chg (ch5.wide (F' := fun k => k = sb ∨ k = bo ∨ vo_.ownBlock = some k) (fun k hk => .inr hk))
             have hO5 := hO4.chg (ch5.wide (F' := fun k => k = sb ∨ w1.heap.size ≤ k) (fun k hk => by
              rcases hk with h | h
              · exact .inr (by omega)
              · exact .inr (World.ownsRow.lt oo4 _ h).1))
             have RN5 := RN4.chg ch5
             rw [HW.out] at RN5
             go_wp2_with fail
             refine (ztx vb vo _ _ c1 _ _ c2 sb AV cV ns tb (zal ns) _ bf 0 cf cy _ c4 _ y1 y2 ys ysf ((h1.below BL5).more (by omega)) ((h2.below BL5).more (by omega)) rs5 RN5.1 hF hax hnz HC yf).mono ?_
             rintro e w6 ⟨rfl,v6,cs6,cf6,rs6,ch6⟩
             rw [← HN.out] at rs6
             have s6 := ch6.size
             have ch6w : Chg (fun k => k = sb) w w6 := ((hch.trans (zcr B4)).up ch5 (fun x hx e => by
              rcases e with e | e
              · omega
              · have := (World.ownsRow.lt oo4 _ e).1; omega)).trans ch6
             have z5 : ∀ k,v5.ownBlock = some k → w1.heap.size ≤ k ∧ k < wr.heap.size := fun k hk => World.ownsRow.lt oo5 _ hk
             have cb6 : w6.cell? ⟨bo,0,none⟩ = some v5 := by rw [ch6.cell (by omega) (by omega)]; exact co5
             have fb6 : w6.frozen? ⟨bo,0,none⟩ = false := by rw [ch6.frozen (by omega) (by omega)]; exact fo5
             have oo6 := oo5.chg ch6 (fun k hk (e : k = sb) => by have := (z5 k hk).1; omega)
             have hO6 := hO5.chg (ch6.wide (F' := fun k => k = sb ∨ w1.heap.size ≤ k) (fun k hk => .inl hk))
             have rs7 := rs6 (fun k => k = sb ∨ k = bo ∨ v5.ownBlock = some k) (fun k hk => by
              rcases hk with h | h | h
              · omega
              · omega
              · exact (z5 k h).2)
             have hnb5 : v5.ownBlock ≠ some bo := fun e => by
              rcases hb5 with h | h
              · exact hne (h.symm.trans e)
              · have := h bo e; omega
             clear rs6
             go_wp2_with fail
             go_roundw
             case rel => exact ⟨t + 1,by go_num,by omega,v6,v5,ch6w,by omega,hO6,cs6,cf6,rs7,cb6,fb6,oo6,hnb5⟩
             case measure => simp [intOf]; omega
     · obtain rfl : t = n := by omega
       obtain ⟨A5,c5,e5,hri⟩ := oo.shape
       rw [zen] at e5 hri
       subst e5
       go_wp2_with fail
       go_ret
       exact ⟨_,_,A5,c5,rfl,cb,hri,hch⟩
theorem ztz (vb vo : Nat) (A1 : Option Addr) (n1 c1 : Nat) (A2 : Option Addr) (n2 c2 : Nat) (A3 : Option Addr) (c3 : Nat) (ns : List Node) (tb : List (List Int)) (o : Int) (bi oi ci : Nat) (A : Option Addr) (m c : Nat) (xs : List Int) (n : Nat) (w : World)
 (f1 : w.cell? ⟨vb,vo + 1,none⟩ = some (.slice A1 n1 c1)) (f2 : w.cell? ⟨vb,vo + 2,none⟩ = some (.slice A2 n2 c2)) (f3 : w.cell? ⟨vb,vo + 3,none⟩ = some (.slice A3 1 c3))
 (h1 : RS tS w w.heap.size (.slice A1 n1 c1) tb) (h2 : RS tN w w.heap.size (.slice A2 n2 c2) ns) (h3 : RI w w.heap.size A3 1 [o]) (hF : M.PF ns tb (zal ns)) (ho : 0 ≤ o ∧ o < n2) (hnz : hNS.sz ns ≤ 100000000)
 (ci0 : w.cell? ⟨bi,oi,none⟩ = some (.slice A m c)) (hx : RI w w.heap.size A m xs) (hxs : xs.all M.smp = true) (hm : m ≤ 1000000) (hn : n ≤ 4000) :
 Calls Tryz.prog 93 #[.pointer (some ⟨vb,vo,none⟩),.slice (some ⟨bi,oi,none⟩) 1 ci,.int .i64 n] w fun e w' => ∃ (g c' : Nat) (A' : Option Addr) (c'' : Nat),e = .returned (.slice (some ⟨g,0,none⟩) 1 c') ∧ w'.cell? ⟨g,0,none⟩ = some (.slice A' n c'') ∧ RI w' w'.heap.size A' n (zbv ns tb (zal ns) xs o n) ∧ Below w.heap.size w w' := by
 have lvb : vb < w.heap.size := World.block_lt_of_cell? w _ f1
 have lbi : bi < w.heap.size := World.block_lt_of_cell? w _ ci0
 have HXS := Lib.hid hxs
 have HOK := Lib.hid (fun (x : Node) (hx : x ∈ ns) => show zai x tb.length = true from by
  obtain ⟨i,hi⟩ := List.getElem?_of_mem hx
  exact hF.ok i x hi)
 clear hxs
 go_enter Tryz.func93,Tryz.ntmps93
 go_wp2_with fail
 refine (ztp vb vo _ _ c2 ns tb.length w f2 h2 hnz HOK).mono ?_
 rintro e w1 ⟨v1,rfl,own1,bel1⟩
 obtain ⟨Av,cv,e1⟩ := own1.shape
 obtain ⟨nv,hnv⟩ : ∃ nv,nv = (ns.map zbd).length := ⟨_,rfl⟩
 rw [← hnv] at e1
 subst e1
 have HNV := Lib.hid hnv
 clear hnv
 obtain ⟨U,hU,BU,sU,u0,uf⟩ := zeb w1 (.slice Av nv cv) 177
 have HU := Lib.hid hU
 have BW := zaa bel1 BU
 have s1 := bel1.size
 have rs := RSN.of_os (F := fun k => k = w1.heap.size) (own1.below BU (Nat.le_refl _)) (fun k hk hG => by have := hG.2; omega)
 have g1 : U.cell? ⟨vb,vo + 1,none⟩ = some (.slice A1 n1 c1) := by rw [BW.cell (by show vb < _; omega)]; exact f1
 have g2 : U.cell? ⟨vb,vo + 2,none⟩ = some (.slice A2 n2 c2) := by rw [BW.cell (by show vb < _; omega)]; exact f2
 have g3 : U.cell? ⟨vb,vo + 3,none⟩ = some (.slice A3 1 c3) := by rw [BW.cell (by show vb < _; omega)]; exact f3
 have gi : U.cell? ⟨bi,oi,none⟩ = some (.slice A m c) := by rw [BW.cell (by show bi < _; omega)]; exact ci0
 have uf0 := uf 0
 clear hU
 go_wp2_with fail
 rw [← HU.out]
 refine (zty vb vo _ _ c1 _ _ c2 _ c3 w1.heap.size _ ns tb o bi oi ci A m c xs n U g1 g2 g3 u0 uf0 (by omega) (L := w.heap.size) s1 (h1.below BW) (h2.below BW) (h3.below BW) rs hF ho hnz gi (by omega) (hx.below BW) HXS.out hm hn).mono ?_
 rintro e w3 ⟨g,c',A',c'',rfl,cg,rg,ch⟩
 go_wp2_with fail
 go_ret
 exact ⟨g,c',A',c'',rfl,cg,rg,BW.trans (ch.toBelow (fun k hk => by omega) (by omega))⟩
end
section
open Go.RowKit Go.Sort
end
section
open Go.RowKit
theorem zt0 (A A' : Option Addr) (n c n' c' : Nat) (t : Int) (src : List (List Int)) (xs : List Clip) (w : World) (hs : RS tS w w.heap.size (.slice A n c) src) (hx : RA cl 5 w w.heap.size A' n' xs) (hlen : Hid (∀ x ∈ src,x.length ≤ 1000000000)) (hn : n ≤ 1000000000) (hn' : n' ≤ 1000000000) :
 Calls Tryz.prog 91 #[.slice A n c,.agg #[.slice A' n' c'],.int .i64 t] w (Ret2 2 w (zd2 src xs t)) := by
 have hls := Lib.hid hs.cap.1
 have hlx := Lib.hid hx.len
 obtain ⟨W,hW⟩ : ∃ W,W = w.alloc (.cells #[.slice A' n' c'] 89) := ⟨_,rfl⟩
 have B0 : Below w.heap.size w W := by rw [hW]; exact (Below.refl _ _).alloc (Nat.le_refl _) _
 have p0 : W.cell? ⟨w.heap.size,0,none⟩ = some (.slice A' n' c') := by rw [hW]; simp [go_sem]
 have l0 : w.heap.size < W.heap.size := by rw [hW]; simp
 have HW := Lib.hid hW
 clear hW
 have hs1 : RS tS W W.heap.size (.slice A n c) src := hs.later B0
 have hx1 := hx.later B0
 cases hok : zcb src
 · have R := Lib.hid (show zd2 src xs t = ([],1) by rw [zd2,hok]; rfl)
   have OK := Lib.hid hok
   clear hok
   go_enter Tryz.func91,Tryz.ntmps91
   go_wp2_with fail
   rw [← HW.out]
   refine (zhl _ _ _ _ W hs1 hlen hn).mono ?_
   rw [OK.out]
   rintro e w' ⟨rfl,rfl⟩
   go_wp2
   go_ret2
   rw [R.out]
   exact ⟨_,rfl,OI.nil _ _ _,B0⟩
 have OK := Lib.hid hok
 cases hk : za4 xs
 · have R := Lib.hid (show zd2 src xs t = ([],1) by rw [zd2,hok,hk]; rfl)
   have HK := Lib.hid hk
   clear hok hk
   go_enter Tryz.func91,Tryz.ntmps91
   go_wp2_with fail
   rw [← HW.out]
   refine (zhl _ _ _ _ W hs1 hlen hn).mono ?_
   rw [OK.out]
   rintro e w' ⟨rfl,rfl⟩
   go_wp2_with fail
   refine (zhe _ _ _ _ _ W p0 hx1 hn').mono ?_
   rw [HK.out]
   rintro e w2 ⟨rfl,b2⟩
   go_wp2
   go_ret2
   rw [R.out]
   exact ⟨_,rfl,OI.nil _ _ _,zaa B0 b2⟩
 have HK := Lib.hid hk
 cases hi : M.inn t 0 4000
 · have R := Lib.hid (show zd2 src xs t = ([],2) by rw [zd2,hok,hk,hi]; rfl)
   have HI := Lib.hid hi
   clear hok hk hi
   go_enter Tryz.func91,Tryz.ntmps91
   go_wp2_with fail
   rw [← HW.out]
   refine (zhl _ _ _ _ W hs1 hlen hn).mono ?_
   rw [OK.out]
   rintro e w' ⟨rfl,rfl⟩
   go_wp2_with fail
   refine (zhe _ _ _ _ _ W p0 hx1 hn').mono ?_
   rw [HK.out]
   rintro e w2 ⟨rfl,b2⟩
   go_wp2_with fail
   refine (zas _ _ _ _).mono ?_
   rw [HI.out]
   rintro e w' ⟨rfl,rfl⟩
   go_wp2
   go_ret2
   rw [R.out]
   exact ⟨_,rfl,OI.nil _ _ _,zaa B0 b2⟩
 obtain ⟨t,rfl⟩ : ∃ q : Nat,t = q := ⟨t.toNat,by have := zby.1 hi; omega⟩
 have ht : t ≤ 4000 := by have := zby.1 hi; omega
 have HI := Lib.hid hi
 have R := Lib.hid (show zd2 src xs t = if zbb xs src.length then (zcy src xs t,0) else ([],3) by rw [zd2,hok,hk,hi]; rfl)
 clear hok hk hi
 go_enter Tryz.func91,Tryz.ntmps91
 go_wp2_with fail
 rw [← HW.out]
 refine (zhl _ _ _ _ W hs1 hlen hn).mono ?_
 rw [OK.out]
 rintro e w' ⟨rfl,rfl⟩
 go_wp2_with fail
 refine (zhe _ _ _ _ _ W p0 hx1 hn').mono ?_
 rw [HK.out]
 rintro e w2 ⟨rfl,b2⟩
 have p2 : w2.cell? ⟨w.heap.size,0,none⟩ = some (.slice A' n' c') := by rw [b2.cell l0]; exact p0
 have l2 := Nat.lt_of_lt_of_le l0 b2.size
 have B2 := zaa B0 b2
 have hs2 : RS tS w2 w2.heap.size (.slice A n c) src := hs1.later b2
 have hx2 := hx1.later b2
 go_wp2_with fail
 refine (zas _ _ _ _).mono ?_
 rw [HI.out]
 rintro e w' ⟨rfl,rfl⟩
 go_wp2_with fail
 go_loopw [8] (fun i wr => ∃ k : Nat,i = .int .i64 k ∧ k ≤ n' ∧ Hid (zbb (xs.take k) src.length = true) ∧ Below w2.heap.size w2 wr) (fun i _ => n' - (intOf i).toNat)
 case atStart => exact ⟨0,rfl,by omega,Lib.hid (by simp [zbb]),Below.refl _ _⟩
 case round =>
  obtain ⟨k,rfl,hk,H,hb⟩ := hrel
  have pr : wr.cell? ⟨w.heap.size,0,none⟩ = some (.slice A' n' c') := by rw [hb.cell l2]; exact p2
  by_cases hlt : k < n'
  · obtain ⟨b,o,⟨p0',p1,p2',p3,p4⟩,rfl,hab,X,hc⟩ := (hx2.below hb).at zeg (by decide) hlt
    have hc0 : wr.cell? ⟨b,o + k * 5,none⟩ = some (.int .i64 p0') := hc 0 _ rfl
    clear hc
    have hT := Lib.hid (M.take_at X.out)
    by_cases hs0 : (n : Int) ≤ p0'
    · have hno := Lib.hid (show zbb xs src.length = false by
       rw [zbb,List.all_eq_false]
       exact ⟨_,List.mem_of_getElem? X.out,by simp [hls.out]; omega⟩)
      go_wp2
      go_ret2
      rw [R.out,hno.out]
      exact ⟨_,rfl,OI.nil _ _ _,zaa B2 hb⟩
    · go_wp2
      go_roundw
      case rel =>
       refine ⟨k + 1,by go_num,by omega,Lib.hid ?_,hb⟩
       have h1 := H.out
       rw [zbb] at h1 ⊢
       rw [hT.out,List.all_append,h1,Bool.true_and]
       simp [hls.out]
       omega
      case measure => simp [intOf]; omega
  · have HH : Hid (zbb xs src.length = true) := by
     have := H.out
     rw [List.take_of_length_le (by rw [hlx.out]; omega)] at this
     exact Lib.hid this
    go_wp2_with fail
    refine (zrv _ _ _ _ _ _ _ _ _ _ wr pr (hs2.later hb) (hx2.later hb) OK.out HK.out HH.out ht).mono ?_
    rintro e w4 ⟨v4,rfl,own4,b4⟩
    have BB := zaa B2 hb
    go_wp2
    go_ret2
    rw [R.out,HH.out]
    exact ⟨_,rfl,own4.base BB.size,zaa BB b4⟩
end
section
open Go.RowKit
end
section
open Go.RowKit
def zch (k : Nat) (l : Int) (acc : List Int) (p : Int × Int) : List Int := acc.set p.1.toNat (max ((acc[p.1.toNat]?).getD 0) ((acc[k]?).getD 0 + l))
def zcd (xs : List zae) : Nat → List Int
 | 0 => List.replicate xs.length 0
 | k + 1 => ((xs[k]?).getD M.sz).2.2.foldl (zch k ((xs[k]?).getD M.sz).2.1) (zcd xs k)
def zdv (xs : List zae) (k : Nat) (l : Int) (us : List (Int × Int)) (j : Nat) : List Int := (us.take j).foldl (zch k l) (zcd xs k)
def zbr (xs : List zae) : List Int := zcd xs xs.length
theorem zm6 (k : Nat) (l : Int) (acc : List Int) (p : Int × Int) : (zch k l acc p).length = acc.length := by simp [zch]
theorem zt1 (k : Nat) (l : Int) (us : List (Int × Int)) : ∀ acc,(us.foldl (zch k l) acc).length = acc.length := by
 induction us with
 | nil => intro acc; rfl
 | cons u us ih => intro acc; rw [List.foldl_cons,ih,zm6]
theorem zhv (xs : List zae) : ∀ k,(zcd xs k).length = xs.length := by
 intro k
 induction k with
 | zero => simp [zcd]
 | succ k ih => rw [zcd,zt1,ih]
theorem zm7 {xs : List zae} {k : Nat} {l : Int} {us : List (Int × Int)} {j : Nat} {p : Int × Int} (h : us[j]? = some p) : zdv xs k l us (j + 1) = zch k l (zdv xs k l us j) p := by
 rw [zdv,M.take_at h,List.foldl_append]; rfl
theorem zm8 {xs : List zae} {k : Nat} {s : ByteArray} {l : Int} {us : List (Int × Int)} (h : xs[k]? = some (s,l,us)) : zdv xs k l us us.length = zcd xs (k + 1) := by
 rw [zdv,zcd,h,List.take_of_length_le (Nat.le_refl _)]; rfl
def zec (b : Int) (acc : List Int) : Prop := ∀ v ∈ acc,0 ≤ v ∧ v ≤ b
theorem zed {b : Int} {acc : List Int} {i : Nat} {v : Int} (h : zec b acc) (hv : acc[i]? = some v) : 0 ≤ v ∧ v ≤ b := h v (List.mem_of_getElem? hv)
theorem zhw {b : Int} {acc : List Int} (hb : 0 ≤ b) (h : zec b acc) (i : Nat) : 0 ≤ (acc[i]?).getD 0 ∧ (acc[i]?).getD 0 ≤ b := by
 cases hv : acc[i]? with
 | none => simp; exact hb
 | some v => exact zed h hv
theorem zhx {b b' : Int} {acc : List Int} (h : zec b acc) (hb : b ≤ b') : zec b' acc := fun v hv => ⟨(h v hv).1,Int.le_trans (h v hv).2 hb⟩
theorem zt2 {b : Int} {acc : List Int} {k : Nat} {l : Int} {p : Int × Int} (hb : 0 ≤ b) (h : zec b acc) (hl : 0 ≤ l ∧ l ≤ 32) : zec (b + 32) (zch k l acc p) := by
 intro v hv
 rcases List.mem_or_eq_of_mem_set hv with h1 | rfl
 · have := h v h1; omega
 · have h1 := zhw hb h p.1.toNat
   have h2 := zhw hb h k
   omega
theorem zm9 {k : Nat} {l : Int} (hl : 0 ≤ l ∧ l ≤ 32) (us : List (Int × Int)) : ∀ {b : Int} {acc : List Int},0 ≤ b → zec b acc → zec (b + 32 * us.length) (us.foldl (zch k l) acc) := by
 induction us with
 | nil => intro b acc _ h; simpa using h
 | cons u us ih =>
  intro b acc hb h
  have := ih (b := b + 32) (acc := zch k l acc u) (by omega) (zt2 hb h hl)
  refine zhx this ?_
  simp only [List.length_cons]
  omega
theorem zde {xs : List zae} (h : zay xs = true) : 1 ≤ xs.length ∧ xs.length ≤ 8 := by
 rw [zay,Bool.and_eq_true] at h
 have := ze2.1 h.1
 omega
theorem zeo {xs : List zae} (h : zay xs = true) {k : Nat} {s : ByteArray} {l : Int} {us : List (Int × Int)} (hk : xs[k]? = some (s,l,us)) : (0 ≤ l ∧ l ≤ 32) ∧ us.length ≤ 4 ∧ zcv xs.length k us = true := by
 rw [zay,Bool.and_eq_true,List.all_eq_true] at h
 have h1 := h.2 k (List.mem_range.2 (List.getElem?_eq_some_iff.1 hk).1)
 rw [zis hk,Bool.and_eq_true] at h1
 have h2 := h1.1
 rw [zbu,Bool.and_eq_true,Bool.and_eq_true,zcc,Bool.and_eq_true] at h2
 refine ⟨ze2.1 h2.1.2,?_,h2.2.1⟩
 have h3 := h2.2.2
 split at h3
 · have : us.length = 0 := by simpa using h3
   omega
 · have := ze2.1 h3
   simp only at this
   omega
theorem zg1 {m : Int} {us : List (Int × Int)} : ∀ {last : Int} {j : Nat} {p0 p1 : Int},zcv m last us = true → us[j]? = some (p0,p1) → last < p0 ∧ p0 ≤ m - 1 ∧ M.smp p1 = true := by
 induction us with
 | nil => intro last j p0 p1 _ h; simp at h
 | cons u us ih =>
  intro last j p0 p1 h hj
  rw [zcv,Bool.and_eq_true,Bool.and_eq_true] at h
  have h1 := ze2.1 h.1.1
  cases j with
  | zero =>
   simp only [List.getElem?_cons_zero,Option.some.injEq] at hj
   subst hj
   exact ⟨by simp only at h1; omega,h1.2,h.1.2⟩
  | succ j =>
   simp only [List.getElem?_cons_succ] at hj
   have := ih h.2 hj
   exact ⟨by omega,this.2⟩
theorem zhy {xs : List zae} (h : zay xs = true) : ∀ k,k ≤ xs.length → zec (128 * k) (zcd xs k) := by
 intro k
 induction k with
 | zero => intro _ v hv; rw [zcd] at hv; have := (List.mem_replicate.1 hv).2; omega
 | succ k ih =>
  intro hk
  have hx : xs[k]? = some xs[k] := List.getElem?_eq_getElem (by omega)
  generalize xs[k] = x at hx
  obtain ⟨s,l,us⟩ := x
  obtain ⟨h1,h2,_⟩ := zeo h hx
  rw [zcd,hx]
  refine zhx (zm9 h1 us (by omega) (ih (by omega))) ?_
  omega
theorem zna {xs : List zae} (h : zay xs = true) {k : Nat} {s : ByteArray} {l : Int} {us : List (Int × Int)} (hx : xs[k]? = some (s,l,us)) (j : Nat) : zec 2000 (zdv xs k l us j) := by
 obtain ⟨h1,h2,_⟩ := zeo h hx
 have h3 := zhy h k (by have := (List.getElem?_eq_some_iff.1 hx).1; omega)
 have h4 := zde h
 have h5 := (List.getElem?_eq_some_iff.1 hx).1
 refine zhx (zm9 (k := k) h1 (us.take j) (by omega) h3) ?_
 have : (us.take j).length ≤ 4 := by rw [List.length_take]; omega
 omega
theorem znb {acc : List Int} {k q : Nat} {l g a b : Int} (ha : acc[q]? = some a) (hb : acc[k]? = some b) : zch k l acc ((q : Int),g) = acc.set q (max a (b + l)) := by
 rw [zch]
 simp only [Int.toNat_natCast]
 rw [ha,hb]; rfl
end
end Go.Proofs.YtffhodocjjkkoaaGreat
