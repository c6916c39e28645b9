import Derived.Test.YtffhodocjjkkoaaGreatFnExactStemOfG11
import Derived.Test.YtffhodocjjkkoaaGreatFnExactStemOfG9
import Derived.Deep.DeepCutAuto
import Derived.Deep.CutRange
set_option linter.unusedVariables false
set_option linter.unusedSimpArgs false
set_option maxRecDepth 100000
set_option maxHeartbeats 4000000
namespace Go.Proofs.YtffhodocjjkkoaaGreat
section
open Go.RowKit Go.Sort
set_option synthInstance.maxSize 2000
set_option synthInstance.maxHeartbeats 400000
theorem CR.made {F : Nat → Prop} {w w1 : World} {n : Nat} (own1 : w1.ownsRow w.heap.size 24 1 (.slice (some ⟨w.heap.size,0,none⟩) n n) n (madeCells (Value.slice none 0 0).cells (n * 1)).toList) : CR F 24 w.heap.size w1 (.slice (some ⟨w.heap.size,0,none⟩) n n) (List.replicate n []) := by
 have e := toList_madeCells_one (.slice none 0 0) n
 simp only [Nat.mul_one,Value.cells] at own1
 rw [e] at own1
 refine ⟨List.replicate n (.slice none 0 0),by rw [List.length_replicate]; exact own1,fun k x hx => ?_⟩
 have hk : k < n := by have := (List.getElem?_eq_some_iff.1 hx).1; simpa using this
 obtain rfl : x = [] := by rw [List.getElem?_replicate,if_pos hk] at hx; exact (Option.some.inj hx).symm
 exact ⟨none,0,by simp [hk],Nat.le_refl _,RI.nil _ _ _,fun ad hn => absurd hn (by simp)⟩
theorem zun {α : Type} (z y : α) (k n : Nat) (h : k < n) : (List.replicate k z ++ List.replicate (n - k) y).set k z = List.replicate (k + 1) z ++ List.replicate (n - (k + 1)) y := by
 rw [List.set_append_right _ _ (by simp),List.length_replicate,Nat.sub_self,show n - k = (n - (k + 1)) + 1 by omega,List.replicate_succ,List.set_cons_zero,List.replicate_succ']
 simp
theorem zep {cs : List (List Int)} {i : Nat} {s : List Int} (h : cs[i]? = some s) : zaf cs i = s := zg0 h
theorem zuo (w : World) (z0 z1 : Value) (t : TypeId) : ∃ U,U = w.alloc (.cells #[z0,z1] t) ∧ Below w.heap.size w U ∧ U.heap.size = w.heap.size + 1 ∧ U.cell? ⟨w.heap.size,0,none⟩ = some z0 ∧ U.cell? ⟨w.heap.size,1,none⟩ = some z1 ∧ (∀ j,U.frozen? ⟨w.heap.size,j,none⟩ = false) :=
 ⟨_,rfl,(Below.refl _ _).alloc (Nat.le_refl _) _,by simp,by simp [go_sem],by simp [go_sem],fun j => by simp [go_sem]⟩
theorem zup (L : Nat) (A1 : Option Addr) (n1 c1 : Nat) (A2 : Option Addr) (n2 c2 : Nat) (A3 : Option Addr) (n3 c3 : Nat) (A4 : Option Addr) (n4 c4 : Nat) (A5 : Option Addr) (n5 c5 : Nat) (src : List (List Int)) (ts : List (List zag)) (fs : List Int) (ps : List zad) (ms : List zae) (w : World)
 (h1 : tSS.R w w.heap.size [.slice A1 n1 c1] src) (h2 : tTS.R w w.heap.size [.slice A2 n2 c2] ts) (h3 : tS.R w w.heap.size [.slice A3 n3 c3] fs) (h4 : tPS.R w w.heap.size [.slice A4 n4 c4] ps) (h5 : tM.R w w.heap.size [.slice A5 n5 c5] ms) (hn : hZ.sz (((L : Int),src,ts,fs,ps,ms) : Sess) ≤ 100000000) (hO : M.SO L src ts fs ps ms) :
 Calls Tryz.prog 51 #[.agg #[.int .i64 L,.slice A1 n1 c1,.slice A2 n2 c2,.slice A3 n3 c3,.slice A4 n4 c4,.slice A5 n5 c5]] w fun e w' => ∃ (vO vR : Value) (G : Nat → Prop),e = .returned (.tuple #[vO,vR]) ∧ OS tS 24 w' G vO (zew L src ts fs ps ms) ∧ OI 2 w.heap.size w' vR (zdf ms) ∧ (∀ k,G k → w.heap.size ≤ k ∧ k < w'.heap.size ∧ vR.ownBlock ≠ some k) ∧ Below w.heap.size w w' := by
 obtain ⟨W,hW,B0,sW,p0,p1,p2,p3,p4,p5,pf⟩ := zbw w (.int .i64 L) (.slice A1 n1 c1) (.slice A2 n2 c2) (.slice A3 n3 c3) (.slice A4 n4 c4) (.slice A5 n5 c5) 40
 have HW := Lib.hid hW
 have lW : w.heap.size < W.heap.size := by omega
 have k1 := sl_R.1 h1
 have k2 := sl_R.1 h2
 have k3 := (tS_R.1 h3).ri
 have k4 := sl_R.1 h4
 have k5 := sl_R.1 h5
 have Q1 := Lib.hid k1.cap.1
 have Q2 := Lib.hid k2.cap.1
 have Q3 := Lib.hid k3.len
 have Q4 := Lib.hid k4.cap.1
 have Q5 := Lib.hid k5.cap.1
 rw [zc7] at hn
 have z1 : hSS.sz src ≤ 100000000 := by omega
 have z2 : hTS.sz ts ≤ 100000000 := by omega
 have z4 : hPS.sz ps ≤ 100000000 := by omega
 have z5 : hM.sz ms ≤ 100000000 := by omega
 have hmn := zde hO.mix
 have hm5 : 1 ≤ n5 ∧ n5 ≤ 8 := by rw [← Q5.out]; exact hmn
 have ht2 : n2 ≤ 6 := by rw [← Q2.out]; exact hO.tl
 have ht3 : n3 = n2 := by rw [← Q3.out,← Q2.out]; exact hO.fl
 have ht4 : n4 = n5 := by rw [← Q4.out,← Q5.out]; exact hO.pl
 subst ht3 ht4
 have hL := hO.l
 have hT := zf5 hO.mix
 have hnT := zh2 hO
 have HNI := Lib.hid (zng hO)
 obtain ⟨n,hnn⟩ : ∃ n,n = M.nT L ms := ⟨_,rfl⟩
 have HN := Lib.hid hnn
 rw [← hnn] at hnT
 obtain ⟨T,hTT⟩ : ∃ T,T = zcs ms := ⟨_,rfl⟩
 rw [← hTT] at hT
 have HT := Lib.hid hTT
 have hLn : ((L : Int) + T) = (n : Int) := by rw [hTT,← HNI.out,hnn]
 have HLN := Lib.hid hLn
 have hLn' : L ≤ n := by omega
 have HWR := Lib.hid (IntWalk.i64_in ((L : Int) + T) (by omega))
 have m0 := cell_regrown p0
 have m5 := cell_regrown p5
 have D1 : Below W.heap.size W W.drew := zac (Below.refl _ _) 1
 have BD : Below w.heap.size w W.drew := zac B0 1
 clear hn hW sW hnn hTT hLn hmn
 go_enter Tryz.func51,Tryz.ntmps51
 go_wp2_with fail
 rw [← HW.out]
 (refine zce [0,2] [1,3] 1 (.one 4 .rest) [5] [5,6] (by kernel_rfl) (by kernel_rfl) ?_; simp only [zaj]; simp only [List.filterMap,List.getElem?_cons_succ,List.getElem?_cons_zero]; (repeat (go_big_quiet_step (fail))); refine wpQuiet_nil ?_; (repeat (go_big_quiet_step (fail))); refine wpQuiet_nil ?_)
 refine zbe rfl ?_
 go_wp2_with fail
 refine (zt4 _ _ _ ms _ (tM.later h5 BD) hO.mix).mono ?_
 rw [← HT.out]
 rintro e w1 ⟨rfl,bel1⟩
 have B1 := zaa D1 bel1
 have s1 := bel1.size
 go_wp2_with fail
 refine ⟨regrown_of_below B1,?_⟩
 refine zb7 ?_
 have q5 : w1.cell? ⟨w.heap.size,5,none⟩ = some (.slice A5 n4 c5) := by rw [B1.cell (by show w.heap.size < _; omega)]; exact p5
 have m5 := cell_regrown q5
 have D2 : Below w1.heap.size w1 w1.drew := zac (Below.refl _ _) 1
 have hd1 : w1.drew.heap.size = w1.heap.size := rfl
 have BB1 := zaa B0 B1
 have BD2 : Below w.heap.size w w1.drew := zac BB1 1
 go_wp2_with fail
 rw [HLN.out]
 (refine zce [0,3] [1,4] 2 (.one 2 (.one 5 .rest)) [6] [6,7] (by kernel_rfl) (by kernel_rfl) ?_; simp only [zaj]; simp only [List.filterMap,List.getElem?_cons_succ,List.getElem?_cons_zero]; (repeat (go_big_quiet_step (fail))); refine wpQuiet_nil ?_; (repeat (go_big_quiet_step (fail))); refine wpQuiet_nil ?_)
 refine zbe rfl ?_
 go_wp2_with fail
 refine (zjk _ _ _ ms _ (tM.later h5 BD2) hO.mix).mono ?_
 rintro e w2 ⟨vE,rfl,ownE,bel2⟩
 have B2 := zaa D2 bel2
 have s2 := bel2.size
 go_wp2_with fail
 refine ⟨regrown_of_below B2,?_⟩
 refine zbe rfl ?_
 go_wp2_with fail
 refine (zt5 _ _ _ ms _ (tM.later h5 (zaa BB1 B2)) hO.mix).mono ?_
 rintro e K ⟨vD,rfl,ownD,bel3⟩
 have B3 := zaa B2 bel3
 have s3 := bel3.size
 go_wp2_with fail
 refine ⟨regrown_of_below B3,?_⟩
 refine zb7 ?_
 have hle : (zbr ms).length = n4 := by rw [zbr,zhv]; exact Q5.out
 have hld : (zb8 ms).length = n4 := by rw [zh0]; exact Q5.out
 obtain ⟨AE,cE,eE,-⟩ := ownE.shape
 rw [hle] at eE
 subst eE
 have HLE := Lib.hid hle
 have RE : RI K K.heap.size AE n4 (zbr ms) := ownE.ri'.later bel3
 have RD : RSN (fun _ => False) K vD (zb8 ms) := RSN.of_os ownD (fun _ h => h.elim)
 obtain ⟨AD,cD,eD⟩ := RD.shape
 rw [hld] at eD
 subst eD
 have HLD := Lib.hid hld
 have BK := zaa BB1 B3
 have sK := BK.size
 have BWK : Below W.heap.size W K := zaa B1 B3
 have lK : w.heap.size < K.heap.size := by have := BWK.size; omega
 have q0 : K.cell? ⟨w.heap.size,0,none⟩ = some (.int .i64 L) := by rw [BWK.cell (by show w.heap.size < _; omega)]; exact p0
 have q1 : K.cell? ⟨w.heap.size,1,none⟩ = some (.slice A1 n1 c1) := by rw [BWK.cell (by show w.heap.size < _; omega)]; exact p1
 have q2 : K.cell? ⟨w.heap.size,2,none⟩ = some (.slice A2 n3 c2) := by rw [BWK.cell (by show w.heap.size < _; omega)]; exact p2
 have q3 : K.cell? ⟨w.heap.size,3,none⟩ = some (.slice A3 n3 c3) := by rw [BWK.cell (by show w.heap.size < _; omega)]; exact p3
 have q4 : K.cell? ⟨w.heap.size,4,none⟩ = some (.slice A4 n4 c4) := by rw [BWK.cell (by show w.heap.size < _; omega)]; exact p4
 have q5 : K.cell? ⟨w.heap.size,5,none⟩ = some (.slice A5 n4 c5) := by rw [BWK.cell (by show w.heap.size < _; omega)]; exact p5
 replace k1 := k1.later BK
 replace k2 := k2.later BK
 replace k3 := k3.later BK
 replace k4 := k4.later BK
 replace k5 := k5.later BK
 obtain ⟨bE,oE,rfl,hbE,hcE⟩ := zam RE (by omega)
 have HCE := Lib.hid hcE
 clear p0 p1 p2 p3 p4 p5 pf m0 m5 D1 BD hcE B1 s1 B2 s2 bel2 bel3 B3 s3 hle hld ownE ownD BB1 BD2 BWK hd1 D2 h1 h2 h3 h4 h5 HWR bel1 B0 lW
 go_wp2_with (at_make; refine zda ei_S rfl _ _ rfl n4 _ _ rfl rfl rfl rfl (by omega) (by unfold maxLen; omega) ?_; intro w1 own1 bel1)
 have C1 := CR.made (F := fun x => x = K.heap.size) own1
 have s1 := bel1.size
 have s1' := (World.ownsRow.lt own1 _ rfl).2
 clear own1
 go_wp2_with fail
 go_loopw [39] (fun i wr => ∃ k : Nat,i = .int .i64 k ∧ k ≤ n4 ∧ CR (fun x => x = K.heap.size) 24 K.heap.size wr (.slice (some ⟨K.heap.size,0,none⟩) n4 n4) (List.replicate k (List.replicate n 0) ++ List.replicate (n4 - k) []) ∧ Below K.heap.size K wr ∧ w1.heap.size ≤ wr.heap.size) (fun i _ => n4 - (intOf i).toNat)
 case atStart => exact ⟨0,rfl,by omega,by simpa using C1,bel1,Nat.le_refl _⟩
 case round =>
  obtain ⟨k,rfl,hk,oc,B,sz⟩ := hrel
  by_cases hlt : k < n4
  · have hk0 : (0 : Int) ≤ (k : Int) := by omega
    have hk1 : (k : Int) < (n4 : Int) := by omega
    go_wp2_with fail
    refine (zc5 n _ (by omega) (by omega)).mono ?_
    rintro e w2 ⟨v2,rfl,own2,bel2⟩
    rw [Int.toNat_natCast] at own2
    obtain ⟨A6,c6,e6,h6,-⟩ := zb9 own2
    rw [List.length_replicate] at e6 h6
    subst e6
    have s2 := bel2.size
    obtain ⟨A',c',x,hx1,hx2,hx3,hx4,hx5⟩ := (oc.below bel2).at hlt
    have C2 := (oc.below bel2).set rfl k (A' := A6) (c' := c6) (y := List.replicate n 0) (by rw [List.length_replicate]; exact h6) (by
     rw [List.length_replicate]
     exact RN.of_oi own2 (fun j hj => by omega))
    rw [List.length_replicate,zun _ _ _ _ hlt] at C2
    have HC2 := Lib.hid C2
    clear C2 hx1
    go_wp2_with fail
    go_roundw
    case rel => exact ⟨k + 1,by go_num,by omega,HC2.out,(B.trans (bel2.mono (by omega))).setCell (Nat.le_refl _) _,by simp; omega⟩
    case measure => simp [intOf]; omega
  · obtain rfl : n4 = k := by omega
    rw [Nat.sub_self,List.replicate_zero,List.append_nil] at oc
    obtain ⟨wp,rfl⟩ : ∃ wp : World,wp = wr := ⟨_,rfl⟩
    clear C1
    replace oc : CR (fun x => x = K.heap.size) 24 K.heap.size wp (.slice (some ⟨K.heap.size,0,none⟩) n4 n4) (zdo L src ts fs ms 0) := by
     rw [zdo,← HN.out,Q5.out]; exact oc
    have q2p : wp.cell? ⟨w.heap.size,2,none⟩ = some (.slice A2 n3 c2) := by rw [B.cell (by show w.heap.size < _; omega)]; exact q2
    have sp := B.size
    go_wp2_with fail
    go_loopw [51] (fun i wr => ∃ t : Nat,i = .int .i64 t ∧ t ≤ n3 ∧ CR (fun x => x = K.heap.size) 24 K.heap.size wr (.slice (some ⟨K.heap.size,0,none⟩) n4 n4) (zdo L src ts fs ms t) ∧ Below K.heap.size K wr ∧ wp.heap.size ≤ wr.heap.size) (fun i _ => n3 - (intOf i).toNat)
    case atStart => exact ⟨0,rfl,by omega,oc,B,Nat.le_refl _⟩
    case round =>
     clear oc B q2p
     obtain ⟨t,rfl,ht,oc,B,sz2⟩ := hrel
     have sB := B.size
     by_cases hlt : t < n3
     · obtain ⟨b3,o3,rfl,hb3,hc3⟩ := zam k3 (by omega)
       have hft : fs[t]? = some (M.i_ fs t) := by
        have : t < fs.length := by rw [Q3.out]; exact hlt
        rw [M.i_,List.getElem?_eq_getElem this]; rfl
       have hfr := hO.fr _ (List.mem_of_getElem? hft)
       rw [Q5.out] at hfr
       obtain ⟨q,hq⟩ : ∃ q : Nat,M.i_ fs t = (q : Int) := ⟨(M.i_ fs t).toNat,by omega⟩
       have hqn : q < n4 := by omega
       rw [hq] at hft
       have cf3 : wr.cell? ⟨b3,o3 + t,none⟩ = some (.int .i64 (q : Int)) := by rw [B.cell (by show b3 < _; omega)]; exact hc3 t _ hft
       obtain ⟨ee,hee⟩ : ∃ ee : Nat,zbj ms q = (ee : Int) := ⟨(zbj ms q).toNat,by have := (zfl hO.mix q).1; omega⟩
       have hee2 : ee ≤ 1024 := by have := (zfl hO.mix q).2; omega
       have hqe : (zbr ms)[q]? = some (ee : Int) := by
        have : q < (zbr ms).length := by rw [HLE.out]; exact hqn
        rw [← hee,zbj,M.i_,List.getElem?_eq_getElem this]; rfl
       have HCQ := HCE.out q _ hqe
       obtain ⟨bb,o,A7,n7,c7,x,rfl,hbb,X,ct,-,hra,hn7⟩ := zf2 (k2.below B) z2 hlt
       have htr := hO.tr x (List.mem_of_getElem? X.out)
       have hxl : n7 ≤ 100000000 := hn7
       obtain ⟨U,hU,GU,sU,u0,uf⟩ := zeb wr (.slice A7 n7 c7) 89
       have HU := Lib.hid hU
       have BU := B.trans (GU.mono sB)
       have g0 : U.cell? ⟨w.heap.size,0,none⟩ = some (.int .i64 L) := by rw [BU.cell (by show w.heap.size < _; omega)]; exact q0
       have g1 : U.cell? ⟨w.heap.size,1,none⟩ = some (.slice A1 n1 c1) := by rw [BU.cell (by show w.heap.size < _; omega)]; exact q1
       have g3 : U.cell? ⟨w.heap.size,3,none⟩ = some (.slice (some ⟨b3,o3,none⟩) n3 c3) := by rw [BU.cell (by show w.heap.size < _; omega)]; exact q3
       have cf3U : U.cell? ⟨b3,o3 + t,none⟩ = some (.int .i64 (q : Int)) := by rw [GU.cell (by show b3 < _; omega)]; exact cf3
       have lU : wr.heap.size < U.heap.size := by omega
       have y0 := cell_regrown g0
       have y1 := cell_regrown g1
       have yu := cell_regrown u0
       have D1 : Below U.heap.size U U.drew := zac (Below.refl _ _) 1
       have BUD : Below K.heap.size K U.drew := zac BU 1
       have hdU : U.drew.heap.size = U.heap.size := rfl
       have t0 : (0 : Int) ≤ (t : Int) := by omega
       have t1 : (t : Int) < (n3 : Int) := by omega
       have hq0 : (0 : Int) ≤ (q : Int) := by omega
       have hq1 : (q : Int) < (n4 : Int) := by omega
       have HX := X
       have HTRA := Lib.hid (znh X.out)
       have HQ := Lib.hid hq
       have HEE := Lib.hid hee
       have HTR := Lib.hid htr
       have q3r : wr.cell? ⟨w.heap.size,3,none⟩ = some (.slice (some ⟨b3,o3,none⟩) n3 c3) := by rw [B.cell (by show w.heap.size < _; omega)]; exact q3
       have lw1 : w.heap.size < wr.heap.size := by omega
       have lw2 : b3 < wr.heap.size := by omega
       have lw3 : bb < wr.heap.size := by omega
       clear hU hft hq hqe hee htr sU uf hc3
       go_wp2_with fail
       rw [← HU.out]
       (refine zce [0,3,6,7] [1,2,4,8,9] 2 (.one 5 (.one 10 .rest)) [11] [11,12] (by kernel_rfl) (by kernel_rfl) ?_; simp only [zaj]; simp only [List.filterMap,List.getElem?_cons_succ,List.getElem?_cons_zero]; (repeat (go_big_quiet_step (fail))); refine wpQuiet_nil ?_; (repeat (go_big_quiet_step (fail))); refine wpQuiet_nil ?_)
       refine zbe rfl ?_
       go_wp2_with fail
       refine (zrt _ _ _ c1 _ c7 L src x _ ((k1.below BUD).more (by omega)) ((hra.below (zac (GU.mono sB) 1)).more (by omega)) hO.so HTR.out.1 HTR.out.2 (by omega)).mono ?_
       rintro e w2 ⟨v2,rfl,own2,bel2⟩
       rw [← HTRA.out] at own2
       generalize hR : zcy src (zg3 ts t) L = ren at *
       have B2 := zaa D1 bel2
       have s2 := bel2.size
       have hrl : ren.length = L := by rw [← hR]; exact zgf _ _ _
       have HRL := Lib.hid hrl
       have HRR := Lib.hid hR
       have nl : (0 : Int) ≤ (n : Int) - (L : Int) := by omega
       have nl2 : (n : Int) - (L : Int) ≤ 1000000000 := by omega
       clear hrl hR
       go_wp2_with fail
       refine ⟨regrown_of_below B2,?_⟩
       refine zbe rfl ?_
       go_wp2_with fail
       refine (zc5 ((n : Int) - (L : Int)) _ nl nl2).mono ?_
       rintro e w3 ⟨v3,rfl,own3,bel3⟩
       rw [show ((n : Int) - (L : Int)).toNat = n - L by omega] at own3
       obtain ⟨A3',c3',e3,r3⟩ := own3.shape
       rw [List.length_replicate] at e3 r3
       subst e3
       have B3 := zaa B2 bel3
       have s3 := bel3.size
       have own2' := own2.below bel3
       have HL8 := Lib.hid (show (ren ++ List.replicate (n - L) (0 : Int)).length = n by rw [List.length_append,List.length_replicate,HRL.out]; omega)
       have hrl2 : ren.length + (n - L) ≤ 1000000 := by rw [HRL.out]; omega
       go_wp2_with fail
       refine ⟨regrown_of_below B3,?_⟩
       refine zb7 ?_
       go_wp2_with (at_builtin; refine zdz zbs rfl _ _ rfl own2' rfl r3 rfl (ints_oneCell _ _) (by unfold maxLen; omega) (by omega) (by omega) ?_; intro v4 w4 own4 gr4 bel4; have op4 : OI 2 U.drew.heap.size w4 v4 (ren ++ List.replicate (n - L) 0) := (by unfold OI; rw [List.map_append,List.length_append,List.length_replicate]; exact own4); obtain ⟨A8,c8,e8,r8⟩ := op4.shape; rw [HL8.out] at e8 r8; subst e8)
       have s4 := bel4.size
       have BW4 : Below wr.heap.size wr w4 := GU.trans ((B3.trans bel4).mono (by omega))
       have BK4 : Below K.heap.size K w4 := B.trans (BW4.mono sB)
       have sW4 := BW4.size
       have hio := zjw hO t (by rw [Q2.out]; omega)
       have oc4 := oc.below BW4
       obtain ⟨A',c',xq,hx1,hx2,hx3,hx4,hx5⟩ := oc4.at (k := q) hqn
       have hxq : zaf (zdo L src ts fs ms t) q = xq := zep hx1
       have hxl2 : xq.length = n := by rw [← hxq,(hio.cel (by rw [Q5.out]; exact hqn)).1,HN.out]
       rw [hxl2] at hx2 hx3 hx4
       have HXQ := Lib.hid hxq
       have cE4 : w4.cell? ⟨bE,oE + q,none⟩ = some (.int .i64 (ee : Int)) := by rw [BK4.cell (by show bE < _; omega)]; exact HCQ
       have yI := cell_regrown hx4
       have yE := cell_regrown cE4
       have D4 : Below w4.heap.size w4 w4.drew := zac (Below.refl _ _) 1
       have hd4 : w4.drew.heap.size = w4.heap.size := rfl
       have r8' := r8.later D4
       clear hx1 hxq hxl2 HCQ r8 y0 y1 yu D1 BUD hdU
       (refine zce [0,1,2,3,4,6,7,8,9] [5,10] 3 (.one 11 (.one 12 (.first 13 .rest))) [14] [14] (by kernel_rfl) (by kernel_rfl) ?_; simp only [zaj]; simp only [List.filterMap,List.getElem?_cons_succ,List.getElem?_cons_zero]; (repeat (go_big_quiet_step (fail))); refine wpQuiet_nil ?_; (repeat (go_big_quiet_step (fail))); refine wpQuiet_nil ?_)
       refine zbe rfl ?_
       go_wp2_with fail
       refine (zjq A8 n c8 _ ee _ r8' (by omega) (by omega)).mono ?_
       rintro e w5 ⟨v5,rfl,own5,bel5⟩
       rw [zuc] at own5
       obtain ⟨A9,c9,e9,r9⟩ := own5.shape
       rw [zdn] at e9 r9
       subst e9
       have B5 := zaa D4 bel5
       have s5 := bel5.size
       go_wp2_with fail
       refine ⟨regrown_of_below B5,?_⟩
       refine zbe rfl ?_
       go_wp2_with fail
       refine (zjp A' A9 n c' n c9 xq _ 1 _ (hx3.below B5).1 r9 (by omega) (by omega)).mono ?_
       rintro e w6 ⟨v6,rfl,own6,bel6⟩
       have hal : (zb5 xq (zbx ren (ee : Int) n) 1).length = n := by rw [zeu,hx3.1.len,zdn,Nat.max_self]
       obtain ⟨A6,c6,e6,h6,-⟩ := zb9 own6
       rw [hal] at e6 h6
       subst e6
       have HAL := Lib.hid hal
       have B6 := zaa B5 bel6
       have s6 := bel6.size
       clear hal
       go_wp2_with fail
       refine ⟨regrown_of_below B6,?_⟩
       (refine zcg rfl ?_; (repeat (go_big_quiet_step (fail))); refine wpQuiet_nil ?_)
       refine zb7 ?_
       obtain ⟨A'',c'',xq2,hv1,hv2,hv3,hv4,hv5⟩ := (oc4.below B6).at (k := q) hqn
       have C6 := (oc4.below B6).set rfl q (A' := A6) (c' := c6) (y := zb5 xq (zbx ren (ee : Int) n) 1) (by rw [HAL.out]; exact h6) (by
        rw [HAL.out]
        exact RN.of_oi own6 (fun j hj => by omega))
       rw [HAL.out] at C6
       have HC6 := Lib.hid C6
       clear C6 hv1
       go_wp2_with fail
       refine ⟨⟨t + 1,by go_num,by omega,?_,(BK4.trans (B6.mono (by omega))).setCell (Nat.le_refl _) _,by simp; omega⟩,by simp [intOf]; omega⟩
       rw [zdo,ze6,HQ.out,Int.toNat_natCast,HXQ.out,HEE.out,HRR.out,← HN.out]
       exact HC6.out
     · obtain rfl : n3 = t := by omega
       have oc0 : CR (fun x => x = K.heap.size) 24 K.heap.size wr (.slice (some ⟨K.heap.size,0,none⟩) n4 n4) (za5 L src ts fs ps ms 0).1 := by
        rw [za5,Q2.out]; exact oc
       obtain ⟨V,rfl⟩ : ∃ V : World,V = wr := ⟨_,rfl⟩
       have q5V : V.cell? ⟨w.heap.size,5,none⟩ = some (.slice A5 n4 c5) := by rw [B.cell (by show w.heap.size < _; omega)]; exact q5
       obtain ⟨X,hX⟩ : ∃ X,X = V.alloc (.cells #[] 24) := ⟨_,rfl⟩
       have BX : Below V.heap.size V X := by rw [hX]; exact (Below.refl _ _).alloc (Nat.le_refl _) _
       have sX : X.heap.size = V.heap.size + 1 := by rw [hX]; simp
       have O0 : OS tS 24 X (fun b => b = V.heap.size) (.slice (some ⟨V.heap.size,0,none⟩) 0 0) [] := by
        rw [hX]
        exact ⟨[],fun _ _ => False,zeq (World.ownsRow_made _ _ _ (Nat.le_refl _) (by simp [maxLen]) rfl) (Nat.zero_le _),rfl,fun g hg => by simp only [Value.ownBlock,Option.some.injEq] at hg; exact hg.symm,fun _ _ h => h.elim,fun _ _ _ _ h => h.elim,fun k h => by simp at h⟩
       obtain ⟨Y,hY⟩ : ∃ Y,Y = X.alloc (.cells #[] 2) := ⟨_,rfl⟩
       have BY : Below X.heap.size X Y := by rw [hY]; exact (Below.refl _ _).alloc (Nat.le_refl _) _
       have sY : Y.heap.size = V.heap.size + 2 := by rw [hY]; simp; omega
       have R0 : OI 2 X.heap.size Y (.slice (some ⟨X.heap.size,0,none⟩) 0 0) [] := by rw [hY]; exact OI.made _ _
       rw [sX] at R0
       have O1 := O0.keep (w' := Y) (fun b hb => BY.block b (by omega))
       have oc1 := (oc0.more (F' := fun k => k = K.heap.size ∨ V.heap.size ≤ k) (fun k hk => hk)).below (BX.trans (BY.mono (by omega)))
       have BYK : Below K.heap.size K Y := (B.trans (BX.mono sB)).trans (BY.mono (by omega))
       have q5Y : Y.cell? ⟨w.heap.size,5,none⟩ = some (.slice A5 n4 c5) := by rw [BYK.cell (by show w.heap.size < _; omega)]; exact q5
       rw [hX] at hY
       have HY := Lib.hid hY
       have lwV : w.heap.size < V.heap.size := by omega
       clear hY hX oc oc0 O0 BX BY
       go_wp2_with fail
       rw [← HY.out]
       go_loopw [13,14,94] (fun vO vR i wr => ∃ k : Nat,i = .int .i64 k ∧ k ≤ n4 ∧ ∃ G : Nat → Prop,OS tS 24 wr G vO (za5 L src ts fs ps ms k).2 ∧ OI 2 V.heap.size wr vR ((zdf ms).take k) ∧ (∀ x,G x → V.heap.size ≤ x ∧ x < wr.heap.size ∧ vR.ownBlock ≠ some x) ∧
        CR (fun x => x = K.heap.size ∨ G x ∨ vR.ownBlock = some x) 24 K.heap.size wr (.slice (some ⟨K.heap.size,0,none⟩) n4 n4) (za5 L src ts fs ps ms k).1 ∧ Below K.heap.size K wr ∧ V.heap.size + 2 ≤ wr.heap.size) (fun _ _ i _ => n4 - (intOf i).toNat)
       case atStart =>
        refine ⟨0,rfl,by omega,fun b => b = V.heap.size,O1,R0.base (by omega),fun x hx => ⟨by omega,by omega,by simp only [Value.ownBlock,ne_eq,Option.some.injEq]; omega⟩,?_,BYK,by omega⟩
        refine oc1.sub (fun x hx => ?_)
        rcases hx with h | h | h
        · exact .inl h
        · exact .inr (by omega)
        · simp only [Value.ownBlock,Option.some.injEq] at h
          exact .inr (by omega)
       case round =>
        clear O1 R0 oc1 BYK q5Y
        obtain ⟨k,rfl,hk,G,oO,oR,hG,oc,B3K,sz3⟩ := hrel
        obtain ⟨vR,rfl⟩ : ∃ v_ : Value,v_ = u14 := ⟨_,rfl⟩
        obtain ⟨vO,rfl⟩ : ∃ v_ : Value,v_ = u13 := ⟨_,rfl⟩
        by_cases hlt : k < n4
        · obtain ⟨b5,o5,s_,l,A9,n9,c9,us,rfl,hb5,XS,e0,e1,e2,hsz_,hra,hn9⟩ := zhu (k5.below B3K) z5 hlt
          obtain ⟨b4,o4,a0,Ap1,np1,cp1,Ap2,np2,cp2,Ap3,np3,cp3,x1,x2,x3,rfl,hb4,XP,f0,f1,f2,f3,hp1,hp2,hp3,hpz⟩ := zf3 (k4.below B3K) z4 hlt
          have hst := Lib.hid (zjt XS.out)
          have hpa := Lib.hid (zju XP.out)
          obtain ⟨io1,io2⟩ := zh3 hO k (by rw [Q5.out]; omega)
          obtain ⟨ic1,ic2⟩ := io1.cel (k := k) (by rw [Q5.out]; exact hlt)
          rw [← HN.out] at ic1
          obtain ⟨Ai,ci,xi,hx1,hx2,hx3,hx4,hx5⟩ := oc.at hlt
          have hxi : zaf (za5 L src ts fs ps ms k).1 k = xi := zep hx1
          rw [hxi] at ic1 ic2
          rw [ic1] at hx2 hx3 hx4
          have HXI := Lib.hid hxi
          have HI2 := Lib.hid ic2
          have heff : zbf (a0,x1,x2,x3) = true := hO.ef _ (List.mem_of_getElem? XP.out)
          have HEF := Lib.hid heff
          have sB3 := B3K.size
          obtain ⟨U,hU,GU,sU,u0,u1,u2,uf⟩ := zji wr (.string s_) (.int .i64 l) (.slice A9 n9 c9) 78
          have HU := Lib.hid hU
          have q4r : wr.cell? ⟨w.heap.size,4,none⟩ = some (.slice (some ⟨b4,o4,none⟩) n4 c4) := by rw [B3K.cell (by show w.heap.size < _; omega)]; exact q4
          have lw1 : w.heap.size < wr.heap.size := by omega
          have lw2 : b5 < wr.heap.size := by omega
          have lw3 : b4 < wr.heap.size := by omega
          have lw4 : K.heap.size < wr.heap.size := by omega
          have kk0 : (0 : Int) ≤ (k : Int) := by omega
          have kk1 : (k : Int) < (n4 : Int) := by omega
          have GUK : Below K.heap.size wr U := GU.mono sB3
          have hp1U := tSS.more (show K.heap.size ≤ U.heap.size by omega) (tSS.below hp1 GUK)
          have hp2U := tNS.more (show K.heap.size ≤ U.heap.size by omega) (tNS.below hp2 GUK)
          have hp3U := tS.more (show K.heap.size ≤ U.heap.size by omega) (tS.below hp3 GUK)
          clear hU hxi hx1 ic1 ic2 heff
          go_wp2_with fail
          rw [← HU.out]
          obtain ⟨bz,hbz⟩ : ∃ bz : Bool,bz = decide (((a0,x1,x2,x3) : zad) = M.p0) := ⟨_,rfl⟩
          refine (zfj a0 _ _ cp1 _ _ cp2 _ _ cp3 x1 x2 x3 _ hp1U hp2U hp3U hpz).mono ?_
          rw [← hbz]
          rintro e w1' ⟨rfl,bel1⟩
          have HBZ := Lib.hid hbz
          clear hbz
          have BUw := GU.trans (bel1.mono (by omega))
          have s1' := bel1.size
          go_upto_if 109 with fail
          go_cut [17] from 110 to 122 (fun q17 wx => ∃ (A10 : Option Addr) (c10 : Nat),q17 = .slice A10 n c10 ∧ RI wx wx.heap.size A10 n (M.fx (a0,x1,x2,x3) xi n) ∧ Below w1'.heap.size w1' wx)
          case first =>
           cases bz
           case true =>
            have E := Lib.hid (show M.fx (a0,x1,x2,x3) xi n = xi by rw [M.fx,if_pos (of_decide_eq_true HBZ.out.symm)])
            go_wp2_with fail
            go_meet
            rw [E.out]
            exact ⟨Ai,ci,rfl,(hx3.below BUw).1,Below.refl _ _⟩
           case false =>
            have hp : ((a0,x1,x2,x3) : zad) ≠ M.p0 := of_decide_eq_false HBZ.out.symm
            obtain ⟨h1,h2,h3⟩ := zjv HEF.out hp
            simp only at h2
            subst h2
            obtain ⟨o_,rfl⟩ := len1 (show x3.length = 1 from h3)
            have hPF := zjg h1 rfl
            have ho := zmr h1 o_ (by simp)
            have E := Lib.hid (show M.fx (1,x1,x2,[o_]) xi n = zbv x2 x1 (zal x2) xi o_ n by rw [M.fx,if_neg hp]; rfl)
            have hnp2 := (sl_R.1 hp2U).cap.1
            have hnp3 := zc0 hp3U
            simp only [List.length_singleton] at hnp3
            subst hnp3
            simp only at ho
            rw [hnp2] at ho
            have hnz2 : hNS.sz x2 ≤ 100000000 := by rw [zc6] at hpz; omega
            clear hp h1 h3 hnp2
            have q4w : w1'.cell? ⟨w.heap.size,4,none⟩ = some (.slice (some ⟨b4,o4,none⟩) n4 c4) := by rw [BUw.cell (by show w.heap.size < _; omega)]; exact q4r
            have f0w : w1'.cell? ⟨b4,o4 + k * 4,none⟩ = some (.int .i64 1) := by rw [BUw.cell (by show b4 < _; omega)]; exact f0
            have f1w : w1'.cell? ⟨b4,o4 + k * 4 + 1,none⟩ = some (.slice Ap1 np1 cp1) := by rw [BUw.cell (by show b4 < _; omega)]; exact f1
            have f2w : w1'.cell? ⟨b4,o4 + k * 4 + 2,none⟩ = some (.slice Ap2 np2 cp2) := by rw [BUw.cell (by show b4 < _; omega)]; exact f2
            have f3w : w1'.cell? ⟨b4,o4 + k * 4 + 3,none⟩ = some (.slice Ap3 1 cp3) := by rw [BUw.cell (by show b4 < _; omega)]; exact f3
            have y4 := cell_regrown q4w
            have yf0 := cell_regrown f0w
            have yf1 := cell_regrown f1w
            have yf2 := cell_regrown f2w
            have yf3 := cell_regrown f3w
            have D1 : Below w1'.heap.size w1' w1'.drew := zac (Below.refl _ _) 1
            have hd1 : w1'.drew.heap.size = w1'.heap.size := rfl
            have hxw := hx3.below BUw
            go_wp2_with fail
            (refine zce [1,3,6,8] [2,4,5] 3 (.two 0 (.one 7 (.one 9 .rest)) 7 (.one 0 (.one 9 .rest))) [10] [10,11,12,13] (by kernel_rfl) (by kernel_rfl) ?_; simp only [zaj]; simp only [List.filterMap,List.getElem?_cons_succ,List.getElem?_cons_zero]; (repeat (go_big_quiet_step (fail))); refine wpQuiet_nil ?_; (repeat (go_big_quiet_step (fail))); refine wpQuiet_nil ?_)
            refine zmv rfl rfl ?_ ?_
            · go_wp2_with fail
              refine (zc5 0 _ (by omega) (by omega)).mono ?_
              rintro e w2 ⟨v2,rfl,own2,bel2⟩
              replace own2 : OI 2 w1'.drew.heap.size w2 v2 [] := own2
              have B2 := zaa D1 bel2
              have s2 := bel2.size
              go_wp2_with fail
              refine ⟨regrown_of_below B2,?_⟩
              refine zbe rfl ?_
              obtain ⟨X,hX,BX,sX,x0,xf⟩ := zeb w2 (.slice Ai n ci) 24
              have HX := Lib.hid hX
              have B3 := zaa B2 BX
              have BUX := BUw.trans (B3.mono (by omega))
              clear hX
              go_wp2_with fail
              rw [← HX.out]
              refine ⟨regrown_of_below B3,?_⟩
              refine zbe rfl ?_
              go_wp2_with fail
              refine (zm4 _ _ cp1 _ _ cp2 _ cp3 x2 x1 o_ w2.heap.size 0 1 Ai n ci xi n X ((sl_R.1 (tSS.later hp1U (zaa bel1 B3)))) ((sl_R.1 (tNS.later hp2U (zaa bel1 B3)))) ((tS_R.1 (tS.later hp3U (zaa bel1 B3))).ri) hPF ho hnz2 x0 (hxw.below B3).1 HI2.out (by omega) (by omega)).mono ?_
              rintro e w4 ⟨g4,c4',A4',c4'',rfl,cg4,rg4,bel4⟩
              have B4 := zaa B3 bel4
              have s4 := bel4.size
              have own4 := own2.below (zaa BX bel4)
              go_wp2_with fail
              refine ⟨regrown_of_below B4,?_⟩
              refine zb7 ?_
              go_wp2_with (at_builtin; refine zdz zbs rfl _ _ rfl own4 rfl rg4 rfl (ints_oneCell _ _) (by unfold maxLen; simp; omega) (by simp; omega) (by omega) ?_; intro v5 w5 own5 gr5 bel5)
              go_meet
              have op5 : OI 2 w1'.drew.heap.size w5 v5 (zbv x2 x1 (zal x2) xi o_ n) := by
               unfold OI
               rw [zen]
               simpa using own5
              obtain ⟨A10,c10,e10,r10⟩ := op5.shape
              rw [zen] at e10 r10
              exact ⟨A10,c10,e10,by rw [E.out]; exact r10,B4.trans bel5⟩
            · obtain ⟨X,hX,BX,sX,x0,xf⟩ := zeb w1' (.slice Ai n ci) 24
              have BXd : Below w1'.heap.size w1' X.drew := zac BX 1
              replace x0 : X.drew.cell? ⟨w1'.heap.size,0,none⟩ = some (.slice Ai n ci) := x0
              have sXd : X.drew.heap.size = w1'.heap.size + 1 := sX
              obtain ⟨X2,hX2⟩ : ∃ X2,X2 = X.drew := ⟨_,rfl⟩
              rw [← hX2] at x0 BXd sXd
              rw [hX] at hX2
              have HX := Lib.hid hX2
              clear hX2 hX BX sX xf
              go_wp2_with fail
              rw [← HX.out]
              refine ⟨regrown_of_below BXd,?_⟩
              refine zbe rfl ?_
              go_wp2_with fail
              refine (zc5 0 _ (by omega) (by omega)).mono ?_
              rintro e w2 ⟨v2,rfl,own2,bel2⟩
              replace own2 : OI 2 X2.heap.size w2 v2 [] := own2
              have B3 := zaa BXd bel2
              have s2 := bel2.size
              have x02 : w2.cell? ⟨w1'.heap.size,0,none⟩ = some (.slice Ai n ci) := by rw [bel2.cell (by show w1'.heap.size < _; omega)]; exact x0
              go_wp2_with fail
              refine ⟨regrown_of_below B3,?_⟩
              refine zbe rfl ?_
              go_wp2_with fail
              refine (zm4 _ _ cp1 _ _ cp2 _ cp3 x2 x1 o_ w1'.heap.size 0 1 Ai n ci xi n w2 ((sl_R.1 (tSS.later hp1U (zaa bel1 B3)))) ((sl_R.1 (tNS.later hp2U (zaa bel1 B3)))) ((tS_R.1 (tS.later hp3U (zaa bel1 B3))).ri) hPF ho hnz2 x02 (hxw.below B3).1 HI2.out (by omega) (by omega)).mono ?_
              rintro e w4 ⟨g4,c4',A4',c4'',rfl,cg4,rg4,bel4⟩
              have B4 := zaa B3 bel4
              have s4 := bel4.size
              have own4 := own2.below bel4
              go_wp2_with fail
              refine ⟨regrown_of_below B4,?_⟩
              refine zb7 ?_
              go_wp2_with (at_builtin; refine zdz zbs rfl _ _ rfl own4 rfl rg4 rfl (ints_oneCell _ _) (by unfold maxLen; simp; omega) (by simp; omega) (by omega) ?_; intro v5 w5 own5 gr5 bel5)
              go_meet
              have op5 : OI 2 X2.heap.size w5 v5 (zbv x2 x1 (zal x2) xi o_ n) := by
               unfold OI
               rw [zen]
               simpa using own5
              obtain ⟨A10,c10,e10,r10⟩ := op5.shape
              rw [zen] at e10 r10
              exact ⟨A10,c10,e10,by rw [E.out]; exact r10,B4.trans (bel5.mono (by omega))⟩
          case rest =>
           obtain ⟨wx,rfl⟩ : ∃ u_ : World,u_ = wc := ⟨_,rfl⟩
           obtain ⟨A10,c10,rfl,r10,Bx⟩ := hcut
           obtain ⟨Wq,rfl⟩ : ∃ Wq : World,Wq = wr := ⟨_,rfl⟩
           have sBx := Bx.size
           have BUx : Below Wq.heap.size Wq wx := BUw.trans (Bx.mono (by omega))
           have u1x : wx.cell? ⟨Wq.heap.size,1,none⟩ = some (.int .i64 l) := by rw [Bx.cell (by show Wq.heap.size < _; omega),bel1.cell (by show Wq.heap.size < _; omega)]; exact u1
           have u2x : wx.cell? ⟨Wq.heap.size,2,none⟩ = some (.slice A9 n9 c9) := by rw [Bx.cell (by show Wq.heap.size < _; omega),bel1.cell (by show Wq.heap.size < _; omega)]; exact u2
           obtain ⟨so1,so2,so3⟩ := zg4 hO.mix (i := k) (by rw [Q5.out]; exact hlt)
           rw [hst.out] at so1 so2 so3
           simp only at so1 so2 so3
           obtain ⟨ln,rfl⟩ : ∃ ln : Nat,l = (ln : Int) := ⟨l.toNat,by omega⟩
           have husl : us.length = n9 := hra.len
           have HUSL := Lib.hid husl
           have HSO := Lib.hid so3
           have hn9b : n9 ≤ 4 := by omega
           have HOUT := Lib.hid (show ze7 L ps ms k (za5 L src ts fs ps ms k).1 = zbx (M.fx (a0,x1,x2,x3) xi n) (ln : Int) n by rw [ze7,hpa.out,hst.out,HXI.out,← HN.out])
           clear so3 husl u0 u1 u2 uf hp1U hp2U hp3U hp1 hp2 hp3 f0 f1 f2 f3 e0 e1 e2
           go_wp2_with fail
           refine (zjq A10 n c10 _ ln wx r10 (by omega) (by omega)).mono ?_
           rintro e Z ⟨v2,rfl,own2,bel2⟩
           rw [← HOUT.out] at own2
           generalize hOU : ze7 L ps ms k (za5 L src ts fs ps ms k).1 = OUT at *
           have hol : OUT.length = n := by rw [HOUT.out,zdn]
           have HOL := Lib.hid hol
           have HOU := Lib.hid hOU
           obtain ⟨A11,c11,e11,hle11,-⟩ := zb9 own2
           rw [hol] at e11 hle11
           subst e11
           have os2 := tS_O.2 (OI.os own2)
           have sZ := bel2.size
           have BZq : Below Wq.heap.size Wq Z := BUx.trans (bel2.mono BUx.size)
           have BZK : Below K.heap.size K Z := B3K.trans (BZq.mono sB3)
           have sqx := BUx.size
           have ocZ : CR (fun x => x = K.heap.size ∨ G x ∨ vR.ownBlock = some x ∨ Iv wx.heap.size Z.heap.size x) 24 K.heap.size Z (.slice (some ⟨K.heap.size,0,none⟩) n4 n4) (zc4 L ms k OUT (za5 L src ts fs ps ms k).1 0) := ((oc.below BUx).more (F' := fun x => x = K.heap.size ∨ G x ∨ vR.ownBlock = some x ∨ Iv wx.heap.size Z.heap.size x) (fun x hx => by
            rcases hx with h | h | h | h
            · exact .inl (.inl h)
            · exact .inl (.inr (.inl h))
            · exact .inl (.inr (.inr h))
            · exact .inr h.1)).below bel2
           have u2Z : Z.cell? ⟨Wq.heap.size,2,none⟩ = some (.slice A9 n9 c9) := by rw [bel2.cell (by show Wq.heap.size < _; omega)]; exact u2x
           have u1Z : Z.cell? ⟨Wq.heap.size,1,none⟩ = some (.int .i64 (ln : Int)) := by rw [bel2.cell (by show Wq.heap.size < _; omega)]; exact u1x
           have hvR : ∀ x,vR.ownBlock = some x → V.heap.size ≤ x ∧ x < Wq.heap.size := fun x hx => World.ownsRow.lt oR x hx
           clear hol hOU oc
           go_wp2_with fail
           go_loopw [130] (fun i wr => ∃ j : Nat,i = .int .i64 j ∧ j ≤ n9 ∧ CR (fun x => x = K.heap.size ∨ G x ∨ vR.ownBlock = some x ∨ Iv wx.heap.size Z.heap.size x) 24 K.heap.size wr (.slice (some ⟨K.heap.size,0,none⟩) n4 n4) (zc4 L ms k OUT (za5 L src ts fs ps ms k).1 j) ∧ Chg (fun x => x = K.heap.size) Z wr) (fun i _ => n9 - (intOf i).toNat)
           case atStart => exact ⟨0,rfl,by omega,ocZ,Chg.refl _ _⟩
           case round =>
            clear ocZ
            obtain ⟨j,rfl,hj,oc,ch⟩ := hrel
            have sch := ch.size
            have BKr : Below K.heap.size K wr := BZK.trans (ch.toBelow (fun x hx => by omega) (by omega))
            by_cases hlt2 : j < n9
            · obtain ⟨b2,o2,⟨p0_,p1_⟩,rfl,hab2,X2,hdd⟩ := (hra.below ((BZq.mono sB3).trans (ch.toBelow (fun x hx => by omega) (by omega)))).at zes (by decide) hlt2
              have d0 : wr.cell? ⟨b2,o2 + j * 2,none⟩ = some (.int .i64 p0_) := hdd 0 _ rfl
              have d1 : wr.cell? ⟨b2,o2 + j * 2 + 1,none⟩ = some (.int .i64 p1_) := hdd 1 _ rfl
              have hso := HSO.out j p0_ p1_ X2.out
              rw [Q5.out] at hso
              have hdl := znj hO.mix (i := k) (j := j) (by rw [Q5.out]; exact hlt) (p0 := p0_) (p1 := p1_) (by rw [hst.out]; exact X2.out)
              have HSD := Lib.hid (show ((zbn ms k).2.2[j]?).getD (0,0) = (p0_,p1_) by rw [hst.out,X2.out]; rfl)
              obtain ⟨q,rfl⟩ : ∃ q : Nat,p0_ = (q : Int) := ⟨p0_.toNat,by omega⟩
              have hqn : q < n4 := by omega
              obtain ⟨dd,hdd2⟩ : ∃ dd : Nat,zbj ms (q : Int).toNat - zbj ms k - (zbn ms k).2.1 = (dd : Int) := ⟨(zbj ms (q : Int).toNat - zbj ms k - (zbn ms k).2.1).toNat,by omega⟩
              rw [hdd2] at hdl
              have hddb : dd ≤ 1024 := by omega
              obtain ⟨bD,oD,cD',AD',cDD,xD,eD',hbD,-,hD1,hD2,hD3,hD4⟩ := RD.at (k := k) (by rw [HLD.out]; exact hlt)
              simp only [Value.slice.injEq] at eD'
              obtain ⟨rfl,-,-⟩ := eD'
              have hxD : zaf (zb8 ms) k = xD := zep hD1
              rw [hxD] at hdl
              have hjD : j < xD.length := (List.getElem?_eq_some_iff.1 hdl.1).1
              obtain ⟨bd,od,yD,rfl,hbd,-,hyD,hcD⟩ := hD3.at hjD
              obtain rfl : yD = (dd : Int) := Option.some.inj (hyD.symm.trans hdl.1)
              obtain ⟨lD,hlD⟩ : ∃ lD,lD = xD.length := ⟨_,rfl⟩
              rw [← hlD] at hD4 hjD
              have HDL := Lib.hid (show M.i_ (zaf (zb8 ms) k) j = (dd : Int) by rw [hxD,M.i_,hdl.1]; rfl)
              obtain ⟨U2,hU2,GU2,sU2,t0,t1,tf⟩ := zuo wr (.int .i64 (q : Int)) (.int .i64 p1_) 130
              have HU2 := Lib.hid hU2
              have BKU : Below K.heap.size K U2 := BKr.trans (GU2.mono BKr.size)
              have hio := zjx hO.mix (i := k) (by rw [Q5.out]; exact hlt) (out := OUT) io1 j (by rw [hst.out]; show j ≤ us.length; rw [HUSL.out]; omega)
              have ocU := oc.below GU2
              obtain ⟨A',c',xq,hx1,hx2,hx3,hx4,hx5⟩ := ocU.at (k := q) hqn
              have hxq : zaf (zc4 L ms k OUT (za5 L src ts fs ps ms k).1 j) q = xq := zep hx1
              have hxl2 : xq.length = n := by rw [← hxq,(hio.cel (by rw [Q5.out]; exact hqn)).1,HN.out]
              rw [hxl2] at hx2 hx3 hx4
              have HXQ := Lib.hid hxq
              have cD1 : U2.cell? ⟨bD,oD + k,none⟩ = some (.slice (some ⟨bd,od,none⟩) lD cDD) := by rw [BKU.cell (by show bD < _; omega)]; exact hD4
              have cD2 : U2.cell? ⟨bd,od + j,none⟩ = some (.int .i64 (dd : Int)) := by rw [BKU.cell (by show bd < _; omega)]; exact hcD
              have y1 := cell_regrown t0
              have y2 := cell_regrown t1
              have yI := cell_regrown hx4
              have yD1 := cell_regrown cD1
              have yD2 := cell_regrown cD2
              have D4 : Below U2.heap.size U2 U2.drew := zac (Below.refl _ _) 1
              have hd4 : U2.drew.heap.size = U2.heap.size := rfl
              have ownd : OI 2 wx.heap.size U2 (.slice A11 n c11) OUT := (own2.chg ch (fun x hx => by have := (World.ownsRow.lt own2 x hx).1; omega)).below GU2
              have r11 := (ownd.below D4).ri'
              have k0 : (0 : Int) ≤ (j : Int) := by omega
              have k1_ : (j : Int) < (n9 : Int) := by omega
              have k2_ : (j : Int) < (lD : Int) := by omega
              have k3_ : (0 : Int) ≤ (q : Int) := by omega
              have k4_ : (q : Int) < (n4 : Int) := by omega
              have lwb : b2 < wr.heap.size := by have := BKr.size; omega
              have lwu : wr.heap.size < U2.heap.size := by omega
              clear hU2 hx1 hxq hxl2 hD1 hxD hyD hdl hdd2 hlD sU2 tf hdd ownd
              go_wp2_with fail
              rw [← HU2.out]
              (refine zce [0,1,3,4,8,10,11,12,13,15] [2,5,6,7,9,14,16,17] 3 (.one 18 (.one 19 (.first 20 .rest))) [21] [21] (by kernel_rfl) (by kernel_rfl) ?_; simp only [zaj]; simp only [List.filterMap,List.getElem?_cons_succ,List.getElem?_cons_zero]; (repeat (go_big_quiet_step (fail))); refine wpQuiet_nil ?_; (repeat (go_big_quiet_step (fail))); refine wpQuiet_nil ?_)
              refine zbe rfl ?_
              go_wp2_with fail
              refine (zjq A11 n c11 OUT dd _ r11 (by omega) (by omega)).mono ?_
              rintro e w5 ⟨v5,rfl,own5,bel5⟩
              obtain ⟨A12,c12,e12,r12⟩ := own5.shape
              rw [zdn] at e12 r12
              subst e12
              have B5 := zaa D4 bel5
              have s5 := bel5.size
              go_wp2_with fail
              refine ⟨regrown_of_below B5,?_⟩
              refine zbe rfl ?_
              go_wp2_with fail
              refine (zjp A' A12 n c' n c12 xq _ p1_ _ (hx3.below B5).1 r12 (by omega) (by omega)).mono ?_
              rintro e w6 ⟨v6,rfl,own6,bel6⟩
              have hal : (zb5 xq (zbx OUT (dd : Int) n) p1_).length = n := by rw [zeu,hx3.1.len,zdn,Nat.max_self]
              obtain ⟨A6,c6,e6,h6,-⟩ := zb9 own6
              rw [hal] at e6 h6
              subst e6
              have HAL := Lib.hid hal
              have B6 := zaa B5 bel6
              have s6 := bel6.size
              clear hal
              go_wp2_with fail
              refine ⟨regrown_of_below B6,?_⟩
              (refine zcg rfl ?_; (repeat (go_big_quiet_step (fail))); refine wpQuiet_nil ?_)
              refine zb7 ?_
              obtain ⟨A'',c'',xq2,hv1,hv2,hv3,hv4,hv5⟩ := (ocU.below B6).at (k := q) hqn
              have C6 := (ocU.below B6).set (.inl rfl) q (A' := A6) (c' := c6) (y := zb5 xq (zbx OUT (dd : Int) n) p1_) (by rw [HAL.out]; exact h6) (by
               rw [HAL.out]
               refine RN.of_oi own6 (fun x hx => ?_)
               rcases hx with h | h | h | h
               · omega
               · have := (hG x h).2.1; omega
               · have := (hvR x h).2; omega
               · have := h.2; omega)
              rw [HAL.out] at C6
              have HC6 := Lib.hid C6
              clear C6 hv1
              go_wp2_with fail
              refine ⟨⟨j + 1,by go_num,by omega,?_,((ch.trans (zcr GU2)).trans (zcr B6)).trans (Chg.set w6 _ q _ rfl)⟩,by simp [intOf]; omega⟩
              rw [zc4,ze6,HSD.out,HDL.out]
              simp only [Int.toNat_natCast]
              rw [HXQ.out,← HN.out]
              exact HC6.out
            · obtain rfl : n9 = j := by omega
              have hstp : za5 L src ts fs ps ms (k + 1) = (zc4 L ms k OUT (za5 L src ts fs ps ms k).1 n9,(za5 L src ts fs ps ms k).2 ++ [OUT]) := by
               rw [za5,HOU.out,hst.out]
               show (zc4 L ms k OUT _ us.length,_) = _
               rw [HUSL.out]
              have HSTP := Lib.hid hstp
              have chq : Chg (fun x => x = K.heap.size) Wq wr := (zcr BZq).trans ch
              have swr := chq.size
              have oO' := oO.chg chq (fun b hb (e : b = _) => by have := (hG b hb).1; omega)
              have os2' := Ty.ochg tS os2 ch (fun b hb (e : b = _) => by have := hb.1; omega)
              have oR' := oR.chg chq (fun x hx (e : x = _) => by have := (hvR x hx).1; omega)
              have hll : ((za5 L src ts fs ps ms k).2).length = k := io2.len
              have hll' : ((za5 L src ts fs ps ms k).2).length ≤ 1000000 := by omega
              have hee0 := zfl hO.mix k
              obtain ⟨ee,hee⟩ : ∃ ee : Nat,zbj ms k = (ee : Int) := ⟨(zbj ms k).toNat,by omega⟩
              have hee2 : ee ≤ 1024 := by omega
              have hqe : (zbr ms)[k]? = some (ee : Int) := by
               have : k < (zbr ms).length := by rw [HLE.out]; exact hlt
               rw [← hee,zbj,M.i_,List.getElem?_eq_getElem this]; rfl
              have HCQ := HCE.out k _ hqe
              have u1r : wr.cell? ⟨Wq.heap.size,1,none⟩ = some (.int .i64 (ln : Int)) := by rw [ch.cell (by omega) (by omega)]; exact u1Z
              have hrk : (zdf ms)[k]? = some ((ee : Int) + (ln : Int)) := by
               have : k < ms.length := by rw [Q5.out]; exact hlt
               rw [zdf,List.getElem?_map,List.getElem?_range this]
               simp only [Option.map_some]
               rw [hee,hst.out]
              have HRK := Lib.hid (M.take_at hrk)
              have hrl : ((zdf ms).take k).length ≤ 1000000 := by rw [List.length_take]; omega
              clear hstp hll hee0 hee hqe hrk
              go_wp2_with (at_builtin; refine zca ei_S #[.slice A11 n c11] rfl _ _ rfl oO' os2' (fun b hb hb2 => by have := (hG b hb).2.1; have := hb2.1; omega) rfl rfl (by unfold maxLen; omega) (by omega) ?_; intro v3 w4 own4 ch4)
              have s4 := ch4.size
              have BK4 : Below K.heap.size K w4 := BKr.trans (ch4.toBelow (fun b hb => by have := (hG b hb).1; omega) (by omega))
              have cE4 : w4.cell? ⟨bE,oE + k,none⟩ = some (.int .i64 (ee : Int)) := by rw [BK4.cell (by show bE < _; omega)]; exact HCQ
              have u14 : w4.cell? ⟨Wq.heap.size,1,none⟩ = some (.int .i64 (ln : Int)) := by rw [ch4.cell (by omega) (fun h => by have := (hG _ h).2.1; omega)]; exact u1r
              have oR4 := oR'.chg ch4 (fun x hx h => (hG x h).2.2 hx)
              have yE := cell_regrown cE4
              have yl := cell_regrown u14
              have D4 : Below w4.heap.size w4 w4.drew := zac (Below.refl _ _) 1
              have hd4 : w4.drew.heap.size = w4.heap.size := rfl
              have oRd := oR4.below D4
              have hwr_ := IntWalk.i64_in ((ee : Int) + (ln : Int)) (by omega)
              (refine zce [0,1,2,3,5] [4,6,7] 1 (.one 8 .rest) [9] [9,10] (by kernel_rfl) (by kernel_rfl) ?_; simp only [zaj]; simp only [List.filterMap,List.getElem?_cons_succ,List.getElem?_cons_zero]; (repeat (go_big_quiet_step (fail))); refine wpQuiet_nil ?_; (repeat (go_big_quiet_step (fail))); refine wpQuiet_nil ?_)
              refine zbe rfl ?_
              go_wp2_with fail
              refine ⟨regrown_of_below (zaa D4 ((Below.refl _ _).alloc (Nat.le_refl _) _)),?_⟩
              refine zb7 ?_
              go_wp2_with (at_builtin; refine zjj zbs rfl _ _ rfl oRd rfl rfl rfl (by unfold maxLen; omega) (by omega) (by omega) ?_; intro v5 w5 own5 gr5 bel5 hb5)
              have op5 := OI.push own5
              have s5 := gr5.size
              have ch5 : Chg (fun x => vR.ownBlock = some x) w4 w5 := (zcr D4).trans (Chg.of_grown gr5 (fun x hx => hx))
              have own5' := own4.chg ch5 (fun b hb e => by
               rcases hb with h | h | h
               · exact (hG b h).2.2 e
               · have := (hvR b e).2; have := h.1; omega
               · have := (hvR b e).2; omega)
              have nG : ∀ x,(G x ∨ Iv wx.heap.size Z.heap.size x ∨ wr.heap.size < x ∧ x < w4.heap.size) → V.heap.size ≤ x ∧ x < w4.heap.size := fun x hx => by
               rcases hx with h | h | h
               · have := hG x h; omega
               · have := h.1; have := h.2; omega
               · omega
              have oc5 := (((oc.more (F' := fun x => x = K.heap.size ∨ (G x ∨ Iv wx.heap.size Z.heap.size x ∨ wr.heap.size < x ∧ x < w4.heap.size) ∨ v5.ownBlock = some x ∨ vR.ownBlock = some x) (fun x hx => by
               rcases hx with h | (h | h | h) | h | h
               · exact .inl (.inl h)
               · exact .inl (.inr (.inl h))
               · exact .inl (.inr (.inr (.inr h)))
               · exact .inr (by omega)
               · rcases hb5 with h5 | h5
                 · exact .inl (.inr (.inr (.inl (h5 ▸ h))))
                 · have := h5 x h; exact .inr (by omega)
               · exact .inl (.inr (.inr (.inl h))))).chg ch4 (fun x hx => .inr (.inl (.inl hx))) (fun x hx h => by simp only [Value.ownBlock,Option.some.injEq] at hx; have := (hG x h).1; omega)).chg ch5 (fun x hx => .inr (.inr (.inr hx))) (fun x hx h => by simp only [Value.ownBlock,Option.some.injEq] at hx; have := (hvR x h).1; omega)).sub (F' := fun x => x = K.heap.size ∨ (G x ∨ Iv wx.heap.size Z.heap.size x ∨ wr.heap.size < x ∧ x < w4.heap.size) ∨ v5.ownBlock = some x) (fun x hx => by
               rcases hx with h | h | h
               · exact .inl h
               · exact .inr (.inl h)
               · exact .inr (.inr (.inl h)))
              refine ⟨⟨k + 1,by go_num,by omega,_,?_,?_,fun x hx => ⟨(nG x hx).1,by have := (nG x hx).2; omega,fun e => ?_⟩,?_,BK4.trans (ch5.toBelow (fun b hb => by have := (hvR b hb).1; omega) (by omega)),by omega⟩,by simp [intOf]; omega⟩
              · rw [HSTP.out]
                exact own5'
              · rw [HRK.out]
                exact op5
              · rcases hb5 with h5 | h5
                · rw [h5] at e
                  rcases hx with h | h | h
                  · exact (hG x h).2.2 e
                  · have := (hvR x e).2; have := h.1; omega
                  · have := (hvR x e).2; omega
                · have := h5 x e; have := (nG x hx).2; omega
              · rw [HSTP.out]
                exact oc5
        · obtain rfl : n4 = k := by omega
          have hlen : (zdf ms).length = n4 := by rw [zdf,List.length_map,List.length_range]; exact Q5.out
          rw [List.take_of_length_le (by rw [hlen]; exact Nat.le_refl _)] at oR
          clear hlen
          go_wp2_with fail
          go_ret2
          refine ⟨_,_,G,rfl,?_,oR.base (by omega),fun x hx => ⟨by have := (hG x hx).1; omega,(hG x hx).2.1,(hG x hx).2.2⟩,BK.trans (B3K.mono sK)⟩
          rw [zew,Q5.out]
          exact oO
end
section
open Go.RowKit Go.Sort
set_option synthInstance.maxSize 2000
set_option synthInstance.maxHeartbeats 400000
theorem znk {src : List (List Int)} (h : zcb src = true) : src.length ≤ 6 ∧ ∀ x ∈ src,x.length ≤ 1000000000 := by
 rw [zcb,Bool.and_eq_true,decide_eq_true_eq] at h
 refine ⟨h.1,fun x hx => ?_⟩
 have := List.all_eq_true.1 h.2 x hx
 rw [M.sig,Bool.and_eq_true,decide_eq_true_eq] at this
 omega
theorem zuq {src : List (List Int)} {x : List Clip} {t : Nat} (h1 : zcb src = true) (h2 : za4 x = true) (h3 : zbb x src.length = true) (ht : t ≤ 4000) : zd2 src x (t : Int) = (zcy src x t,0) := by
 rw [zd2,h1,h2,h3,zby.2 (show (0 : Int) ≤ (t : Int) ∧ (t : Int) ≤ 4000 by omega),Int.toNat_natCast]
 rfl
theorem zur (vb L : Nat) (A1 : Option Addr) (n1 c1 : Nat) (A2 : Option Addr) (n2 c2 : Nat) (A3 : Option Addr) (n3 c3 : Nat) (A4 : Option Addr) (n4 c4 : Nat) (A5 : Option Addr) (n5 c5 : Nat) (src : List (List Int)) (ts : List (List zag)) (fs : List Int) (ps : List zad) (ms : List zae) (w : World)
 (p0 : w.cell? ⟨vb,0,none⟩ = some (.int .i64 L)) (p1 : w.cell? ⟨vb,1,none⟩ = some (.slice A1 n1 c1)) (p2 : w.cell? ⟨vb,2,none⟩ = some (.slice A2 n2 c2)) (p3 : w.cell? ⟨vb,3,none⟩ = some (.slice A3 n3 c3)) (p4 : w.cell? ⟨vb,4,none⟩ = some (.slice A4 n4 c4)) (p5 : w.cell? ⟨vb,5,none⟩ = some (.slice A5 n5 c5))
 (h1 : tSS.R w w.heap.size [.slice A1 n1 c1] src) (h2 : tTS.R w w.heap.size [.slice A2 n2 c2] ts) (h3 : tS.R w w.heap.size [.slice A3 n3 c3] fs) (h4 : tPS.R w w.heap.size [.slice A4 n4 c4] ps) (h5 : tM.R w w.heap.size [.slice A5 n5 c5] ms) (hn : hZ.sz (((L : Int),src,ts,fs,ps,ms) : Sess) ≤ 100000000) (hO : M.SO L src ts fs ps ms) :
 Calls Tryz.prog 49 #[.pointer (some ⟨vb,0,none⟩)] w fun e w' => ∃ vO : Value,e = .returned vO ∧ RSN (fun _ => False) w' vO (zew L src ts fs ps ms) ∧ Below w.heap.size w w' := by
 have lW : vb < w.heap.size := World.block_lt_of_cell? w _ p0
 have k1 := sl_R.1 h1
 have k2 := sl_R.1 h2
 have k3 := (tS_R.1 h3).ri
 have k4 := sl_R.1 h4
 have k5 := sl_R.1 h5
 have Q1 := Lib.hid k1.cap.1
 have Q2 := Lib.hid k2.cap.1
 have Q3 := Lib.hid k3.len
 have Q4 := Lib.hid k4.cap.1
 have Q5 := Lib.hid k5.cap.1
 rw [zc7] at hn
 have z1 : hSS.sz src ≤ 100000000 := by omega
 have z2 : hTS.sz ts ≤ 100000000 := by omega
 have z4 : hPS.sz ps ≤ 100000000 := by omega
 have z5 : hM.sz ms ≤ 100000000 := by omega
 have hmn := zde hO.mix
 have hm5 : 1 ≤ n5 ∧ n5 ≤ 8 := by rw [← Q5.out]; exact hmn
 have ht2 : n2 ≤ 6 := by rw [← Q2.out]; exact hO.tl
 have ht3 : n3 = n2 := by rw [← Q3.out,← Q2.out]; exact hO.fl
 have ht4 : n4 = n5 := by rw [← Q4.out,← Q5.out]; exact hO.pl
 have ht1 : n1 ≤ 6 := by rw [← Q1.out]; exact (znk hO.so).1
 have HSL := Lib.hid (znk hO.so).2
 subst ht3 ht4
 have hL := hO.l
 have hT := zf5 hO.mix
 have hnT := zh2 hO
 have HNI := Lib.hid (zng hO)
 obtain ⟨n,hnn⟩ : ∃ n,n = M.nT L ms := ⟨_,rfl⟩
 have HN := Lib.hid hnn
 rw [← hnn] at hnT
 obtain ⟨T,hTT⟩ : ∃ T,T = zcs ms := ⟨_,rfl⟩
 rw [← hTT] at hT
 have HT := Lib.hid hTT
 have hLn : ((L : Int) + T) = (n : Int) := by rw [hTT,← HNI.out,hnn]
 have HLN := Lib.hid hLn
 have hLn' : L ≤ n := by omega
 have HWR := Lib.hid (IntWalk.i64_in ((L : Int) + T) (by omega))
 clear hn hnn hTT hLn hmn
 go_enter Tryz.func49,Tryz.ntmps49
 go_wp2_with fail
 refine (zjl vb 5 _ _ c5 ms _ p5 h5 hO.mix).mono ?_
 rintro e w1 ⟨vE,rfl,ownE,bel1⟩
 have s1 := bel1.size
 have r5 : w1.cell? ⟨vb,5,none⟩ = some (.slice A5 n4 c5) := by rw [bel1.cell (by show vb < _; omega)]; exact p5
 go_wp2_with fail
 refine (zt6 vb 5 _ _ c5 ms _ r5 (tM.later h5 bel1) hO.mix).mono ?_
 rintro e w2 ⟨vD,rfl,ownD,bel2⟩
 have s2 := bel2.size
 have B2 := zaa bel1 bel2
 have r0 : w2.cell? ⟨vb,0,none⟩ = some (.int .i64 L) := by rw [B2.cell (by show vb < _; omega)]; exact p0
 have r5 : w2.cell? ⟨vb,5,none⟩ = some (.slice A5 n4 c5) := by rw [B2.cell (by show vb < _; omega)]; exact p5
 have r5d : w2.drew.cell? ⟨vb,5,none⟩ = some (.slice A5 n4 c5) := r5
 have m0 := cell_regrown r0
 have D1 : Below w2.heap.size w2 w2.drew := zac (Below.refl _ _) 1
 have BD := zaa B2 D1
 go_wp2_with fail
 (refine zce [0,1,2,4,5,6] [3] 1 (.one 7 .rest) [8] [8,9] (by kernel_rfl) (by kernel_rfl) ?_; simp only [zaj]; simp only [List.filterMap,List.getElem?_cons_succ,List.getElem?_cons_zero]; (repeat (go_big_quiet_step (fail))); refine wpQuiet_nil ?_; (repeat (go_big_quiet_step (fail))); refine wpQuiet_nil ?_)
 refine zbe rfl ?_
 go_wp2_with fail
 refine (zjm vb 5 _ _ c5 ms _ r5d (tM.later h5 BD) hO.mix).mono ?_
 rw [← HT.out]
 rintro e K ⟨rfl,bel3⟩
 have B3 := zaa D1 bel3
 have s3 := bel3.size
 go_wp2_with fail
 refine ⟨regrown_of_below B3,?_⟩
 refine zb7 ?_
 go_wp2_with fail
 rw [HLN.out]
 have hle : (zbr ms).length = n4 := by rw [zbr,zhv]; exact Q5.out
 have hld : (zb8 ms).length = n4 := by rw [zh0]; exact Q5.out
 have hw2s : w2.drew.heap.size = w2.heap.size := rfl
 obtain ⟨AE,cE,eE,-⟩ := ownE.shape
 rw [hle] at eE
 subst eE
 have HLE := Lib.hid hle
 have RE : RI K K.heap.size AE n4 (zbr ms) := (ownE.ri'.later bel2).later B3
 have RD : RSN (fun _ => False) K vD (zb8 ms) := (RSN.of_os ownD (fun _ h => h.elim)).below B3
 obtain ⟨AD,cD,eD⟩ := RD.shape
 rw [hld] at eD
 subst eD
 have HLD := Lib.hid hld
 have BK := zaa B2 B3
 have sK := BK.size
 have lK : vb < K.heap.size := by omega
 have q0 : K.cell? ⟨vb,0,none⟩ = some (.int .i64 L) := by rw [BK.cell (by show vb < _; omega)]; exact p0
 have q1 : K.cell? ⟨vb,1,none⟩ = some (.slice A1 n1 c1) := by rw [BK.cell (by show vb < _; omega)]; exact p1
 have q2 : K.cell? ⟨vb,2,none⟩ = some (.slice A2 n3 c2) := by rw [BK.cell (by show vb < _; omega)]; exact p2
 have q3 : K.cell? ⟨vb,3,none⟩ = some (.slice A3 n3 c3) := by rw [BK.cell (by show vb < _; omega)]; exact p3
 have q4 : K.cell? ⟨vb,4,none⟩ = some (.slice A4 n4 c4) := by rw [BK.cell (by show vb < _; omega)]; exact p4
 have q5 : K.cell? ⟨vb,5,none⟩ = some (.slice A5 n4 c5) := by rw [BK.cell (by show vb < _; omega)]; exact p5
 replace k1 := k1.later BK
 replace k2 := k2.later BK
 replace k3 := k3.later BK
 replace k4 := k4.later BK
 replace k5 := k5.later BK
 obtain ⟨bE,oE,rfl,hbE,hcE⟩ := zam RE (by omega)
 have HCE := Lib.hid hcE
 clear p0 p1 p2 p3 p4 p5 m0 r0 r5 r5d D1 BD hcE s1 bel1 B2 s2 bel2 bel3 B3 s3 hle hld ownE ownD hw2s h1 h2 h3 h4 h5 HWR lW
 go_loopw [6,7] (fun v i wr => ∃ k : Nat,i = .int .i64 k ∧ k ≤ n4 ∧ OS tS 24 wr (Iv K.heap.size wr.heap.size) v (List.replicate k (List.replicate n 0)) ∧ Below K.heap.size K wr) (fun _ i _ => n4 - (intOf i).toNat)
 case atStart => exact ⟨0,rfl,by omega,OS.made0 _ _ _,(Below.refl _ _).alloc (Nat.le_refl _) _⟩
 case round =>
  obtain ⟨k,rfl,hk,own,B⟩ := hrel
  have sB := B.size
  by_cases hlt : k < n4
  · have hk1 : (k : Int) < (n4 : Int) := by omega
    go_wp2_with fail
    refine (zgu n _ (by omega)).mono ?_
    rintro e w2 ⟨v2,rfl,own2,bel2⟩
    obtain ⟨A6,c6,e6,-⟩ := zb9 own2
    rw [List.length_replicate] at e6
    subst e6
    have s2 := bel2.size
    have ow := own.below bel2 (Nat.le_refl _)
    have os2 := tS_O.2 (OI.os own2)
    go_wp2_with (at_builtin; refine zca ei_S #[.slice A6 n c6] rfl _ _ rfl ow os2 (Iv.apart (Nat.le_refl _)) rfl rfl (by rw [List.length_replicate]; unfold maxLen; omega) (by rw [List.length_replicate]; omega) ?_; intro v3 w4 own4 ch4)
    go_roundw
    case rel =>
     refine ⟨k + 1,by go_num,by omega,?_,(B.trans (bel2.mono sB)).trans (ch4.toBelow (fun b hb => hb.1) (by omega))⟩
     rw [List.replicate_succ']
     exact own4.wide (Iv.grow sB s2 ch4.size)
    case measure => simp [intOf]; omega
  · obtain rfl : n4 = k := by omega
    obtain ⟨wp,rfl⟩ : ∃ wp : World,wp = wr := ⟨_,rfl⟩
    have oc0 := CR.of_os (F := fun x => u6.ownBlock = some x) (base := K.heap.size) own (fun k hk _ => hk) (fun k hk => (OS.lt own k hk).1.1)
    obtain ⟨gI,cI,e6,hgI1,hgI2⟩ := oc0.form (by rw [List.length_replicate]; omega)
    rw [List.length_replicate] at e6
    subst e6
    have oc : CR (fun x => x = gI) 24 K.heap.size wp (.slice (some ⟨gI,0,none⟩) n4 cI) (zdo L src ts fs ms 0) := by
     rw [zdo,← HN.out,Q5.out]
     exact oc0.sub (fun x hx => by subst hx; rfl)
    clear oc0 own
    have q2p : wp.cell? ⟨vb,2,none⟩ = some (.slice A2 n3 c2) := by rw [B.cell (by show vb < _; omega)]; exact q2
    have sp := B.size
    go_wp2_with fail
    go_loopw [8] (fun i wr => ∃ t : Nat,i = .int .i64 t ∧ t ≤ n3 ∧ CR (fun x => x = gI) 24 K.heap.size wr (.slice (some ⟨gI,0,none⟩) n4 cI) (zdo L src ts fs ms t) ∧ Below K.heap.size K wr ∧ wp.heap.size ≤ wr.heap.size) (fun i _ => n3 - (intOf i).toNat)
    case atStart => exact ⟨0,rfl,by omega,oc,B,Nat.le_refl _⟩
    case round =>
     clear oc B q2p
     obtain ⟨t,rfl,ht,oc,B,sz2⟩ := hrel
     have sB := B.size
     have q2r : wr.cell? ⟨vb,2,none⟩ = some (.slice A2 n3 c2) := by rw [B.cell (by show vb < _; omega)]; exact q2
     by_cases hlt : t < n3
     · obtain ⟨b3,o3,rfl,hb3,hc3⟩ := zam k3 (by omega)
       have hft : fs[t]? = some (M.i_ fs t) := by
        have : t < fs.length := by rw [Q3.out]; exact hlt
        rw [M.i_,List.getElem?_eq_getElem this]; rfl
       have hfr := hO.fr _ (List.mem_of_getElem? hft)
       rw [Q5.out] at hfr
       obtain ⟨q,hq⟩ : ∃ q : Nat,M.i_ fs t = (q : Int) := ⟨(M.i_ fs t).toNat,by omega⟩
       have hqn : q < n4 := by omega
       rw [hq] at hft
       obtain ⟨ee,hee⟩ : ∃ ee : Nat,zbj ms q = (ee : Int) := ⟨(zbj ms q).toNat,by have := (zfl hO.mix q).1; omega⟩
       have hee2 : ee ≤ 1024 := by have := (zfl hO.mix q).2; omega
       have hqe : (zbr ms)[q]? = some (ee : Int) := by
        have : q < (zbr ms).length := by rw [HLE.out]; exact hqn
        rw [← hee,zbj,M.i_,List.getElem?_eq_getElem this]; rfl
       have HCQ := HCE.out q _ hqe
       obtain ⟨bb,o,A7,n7,c7,x,rfl,hbb,X,ct,-,hra,hn7⟩ := zf2 (k2.below B) z2 hlt
       have htr := hO.tr x (List.mem_of_getElem? X.out)
       have hxl : n7 ≤ 100000000 := hn7
       have q0r : wr.cell? ⟨vb,0,none⟩ = some (.int .i64 L) := by rw [B.cell (by show vb < _; omega)]; exact q0
       have q1r : wr.cell? ⟨vb,1,none⟩ = some (.slice A1 n1 c1) := by rw [B.cell (by show vb < _; omega)]; exact q1
       have y0 := cell_regrown q0r
       have y1 := cell_regrown q1r
       have y2 := cell_regrown q2r
       have yt := cell_regrown ct
       have D1 : Below wr.heap.size wr wr.drew := zac (Below.refl _ _) 1
       have hdU : wr.drew.heap.size = wr.heap.size := rfl
       have t0 : (0 : Int) ≤ (t : Int) := by omega
       have t1 : (t : Int) < (n3 : Int) := by omega
       have hq0 : (0 : Int) ≤ (q : Int) := by omega
       have hq1 : (q : Int) < (n4 : Int) := by omega
       have HX := X
       have HTRA := Lib.hid (znh X.out)
       have HQ := Lib.hid hq
       have HEE := Lib.hid hee
       have HTR := Lib.hid htr
       have lw1 : vb < wr.heap.size := by omega
       have lw2 : b3 < wr.heap.size := by omega
       have lw3 : bb < wr.heap.size := by omega
       have RR := Lib.hid (zuq hO.so htr.1 htr.2 (show L ≤ 4000 by omega))
       clear hft hq hqe hee htr
       go_wp2_with fail
       (refine zce [0,1,2,4,5,6,8,11,12,13] [3,7,9,10,14] 4 (.one 15 (.first 16 (.first 17 (.first 18 .rest)))) [19] [19,20] (by kernel_rfl) (by kernel_rfl) ?_; simp only [zaj]; simp only [List.filterMap,List.getElem?_cons_succ,List.getElem?_cons_zero]; (repeat (go_big_quiet_step (fail))); refine wpQuiet_nil ?_; (repeat (go_big_quiet_step (fail))); refine wpQuiet_nil ?_)
       refine zbe rfl ?_
       go_wp2_with fail
       have BD1 := B.trans (D1.mono sB)
       refine (zt0 _ _ _ c1 _ c7 (L : Int) src x _ ((k1.below BD1).more (by omega)) ((hra.below (D1.mono sB)).more (by omega)) HSL (by omega) (by omega)).mono ?_
       rw [RR.out]
       rintro e w2 ⟨v2,rfl,own2,bel2⟩
       rw [← HTRA.out] at own2
       dsimp only at own2
       generalize hR : zcy src (zg3 ts t) L = ren at *
       have B2 := zaa D1 bel2
       have s2 := bel2.size
       have hrl : ren.length = L := by rw [← hR]; exact zgf _ _ _
       obtain ⟨A8,c8,e8,r8⟩ := own2.shape
       rw [hrl] at e8 r8
       subst e8
       have HRL := Lib.hid hrl
       have HRR := Lib.hid hR
       clear hrl hR
       go_wp2_with fail
       refine ⟨regrown_of_below B2,?_⟩
       (refine zcg rfl ?_; (repeat (go_big_quiet_step (fail))); refine wpQuiet_nil ?_)
       (refine zcg rfl ?_; (repeat (go_big_quiet_step (fail))); refine wpQuiet_nil ?_)
       (refine zcg rfl ?_; (repeat (go_big_quiet_step (fail))); refine wpQuiet_nil ?_)
       refine zb7 ?_
       have BK2 := B.trans (B2.mono sB)
       have q3w : w2.cell? ⟨vb,3,none⟩ = some (.slice (some ⟨b3,o3,none⟩) n3 c3) := by rw [BK2.cell (by show vb < _; omega)]; exact q3
       have cf3 : w2.cell? ⟨b3,o3 + t,none⟩ = some (.int .i64 (q : Int)) := by rw [BK2.cell (by show b3 < _; omega)]; exact hc3 t _ (by rw [← HQ.out]; have : t < fs.length := (by rw [Q3.out]; exact hlt); rw [M.i_,List.getElem?_eq_getElem this]; rfl)
       have hio := zjw hO t (by rw [Q2.out]; omega)
       have oc4 := oc.below B2
       obtain ⟨A',c',xq,hx1,hx2,hx3,hx4,hx5⟩ := oc4.at (k := q) hqn
       have hxq : zaf (zdo L src ts fs ms t) q = xq := zep hx1
       have hxl2 : xq.length = n := by rw [← hxq,(hio.cel (by rw [Q5.out]; exact hqn)).1,HN.out]
       rw [hxl2] at hx2 hx3 hx4
       have HXQ := Lib.hid hxq
       have cE4 : w2.cell? ⟨bE,oE + q,none⟩ = some (.int .i64 (ee : Int)) := by rw [BK2.cell (by show bE < _; omega)]; exact HCQ
       have yI := cell_regrown hx4
       have yE := cell_regrown cE4
       have D4 : Below w2.heap.size w2 w2.drew := zac (Below.refl _ _) 1
       have hd4 : w2.drew.heap.size = w2.heap.size := rfl
       have r8' := r8.later D4
       clear hx1 hxq hxl2 HCQ r8 y0 y1 y2 yt hc3
       go_wp2_with fail
       (refine zce [0,1,2,3,4,6,7,8,9,11] [5,10] 3 (.one 12 (.one 13 (.first 14 .rest))) [15] [15] (by kernel_rfl) (by kernel_rfl) ?_; simp only [zaj]; simp only [List.filterMap,List.getElem?_cons_succ,List.getElem?_cons_zero]; (repeat (go_big_quiet_step (fail))); refine wpQuiet_nil ?_; (repeat (go_big_quiet_step (fail))); refine wpQuiet_nil ?_)
       refine zbe rfl ?_
       go_wp2_with fail
       refine (zjs A8 L c8 _ ee n _ r8' (by omega) (by omega) (by omega)).mono ?_
       rintro e w5 ⟨v5,rfl,own5,bel5⟩
       obtain ⟨A9,c9,e9,r9⟩ := own5.shape
       rw [zdn] at e9 r9
       subst e9
       have B5 := zaa D4 bel5
       have s5 := bel5.size
       go_wp2_with fail
       refine ⟨regrown_of_below B5,?_⟩
       refine zbe rfl ?_
       go_wp2_with fail
       refine (zi9 A' A9 n c' n c9 xq _ 1 _ (hx3.below B5).1 r9 (by omega) (by omega)).mono ?_
       rintro e w6 ⟨v6,rfl,own6,bel6⟩
       have hal : (zb5 xq (zbx ren (ee : Int) n) 1).length = n := by rw [zeu,hx3.1.len,zdn,Nat.max_self]
       obtain ⟨A6,c6,e6,h6,-⟩ := zb9 own6
       rw [hal] at e6 h6
       subst e6
       have HAL := Lib.hid hal
       have B6 := zaa B5 bel6
       have s6 := bel6.size
       clear hal
       go_wp2_with fail
       refine ⟨regrown_of_below B6,?_⟩
       (refine zcg rfl ?_; (repeat (go_big_quiet_step (fail))); refine wpQuiet_nil ?_)
       refine zb7 ?_
       obtain ⟨A'',c'',xq2,hv1,hv2,hv3,hv4,hv5⟩ := (oc4.below B6).at (k := q) hqn
       have C6 := (oc4.below B6).set rfl q (A' := A6) (c' := c6) (y := zb5 xq (zbx ren (ee : Int) n) 1) (by rw [HAL.out]; exact h6) (by
        rw [HAL.out]
        exact RN.of_oi own6 (fun j hj => by omega))
       rw [HAL.out] at C6
       have HC6 := Lib.hid C6
       clear C6 hv1
       go_wp2_with fail
       refine ⟨⟨t + 1,by go_num,by omega,?_,(BK2.trans (B6.mono (by omega))).setCell hgI1 _,by simp; omega⟩,by simp [intOf]; omega⟩
       rw [zdo,ze6,HQ.out,Int.toNat_natCast,HXQ.out,HEE.out,HRR.out,← HN.out]
       exact HC6.out
     · obtain rfl : n3 = t := by omega
       have oc0 : CR (fun x => x = gI) 24 K.heap.size wr (.slice (some ⟨gI,0,none⟩) n4 cI) (za5 L src ts fs ps ms 0).1 := by
        rw [za5,Q2.out]; exact oc
       obtain ⟨V,rfl⟩ : ∃ V : World,V = wr := ⟨_,rfl⟩
       obtain ⟨X,hX⟩ : ∃ X,X = V.alloc (.cells #[] 24) := ⟨_,rfl⟩
       have BX : Below V.heap.size V X := by rw [hX]; exact (Below.refl _ _).alloc (Nat.le_refl _) _
       have sX : X.heap.size = V.heap.size + 1 := by rw [hX]; simp
       have O0 : OS tS 24 X (fun b => b = V.heap.size) (.slice (some ⟨V.heap.size,0,none⟩) 0 0) [] := by
        rw [hX]
        exact ⟨[],fun _ _ => False,zeq (World.ownsRow_made _ _ _ (Nat.le_refl _) (by simp [maxLen]) rfl) (Nat.zero_le _),rfl,fun g hg => by simp only [Value.ownBlock,Option.some.injEq] at hg; exact hg.symm,fun _ _ h => h.elim,fun _ _ _ _ h => h.elim,fun k h => by simp at h⟩
       have oc1 := (oc0.more (F' := fun k => k = gI ∨ V.heap.size ≤ k) (fun k hk => hk)).below BX
       have BXK : Below K.heap.size K X := B.trans (BX.mono sB)
       have HXA := Lib.hid hX
       have gIV : gI < V.heap.size := by omega
       clear hX oc oc0
       go_wp2_with fail
       rw [← HXA.out]
       go_loopw [12,13] (fun vO i wr => ∃ k : Nat,i = .int .i64 k ∧ k ≤ n4 ∧ ∃ G : Nat → Prop,OS tS 24 wr G vO (za5 L src ts fs ps ms k).2 ∧ (∀ x,G x → V.heap.size ≤ x ∧ x < wr.heap.size) ∧
        CR (fun x => x = gI ∨ G x) 24 K.heap.size wr (.slice (some ⟨gI,0,none⟩) n4 cI) (za5 L src ts fs ps ms k).1 ∧ Below K.heap.size K wr ∧ V.heap.size + 1 ≤ wr.heap.size) (fun _ i _ => n4 - (intOf i).toNat)
       case atStart =>
        refine ⟨0,rfl,by omega,fun b => b = V.heap.size,O0,fun x hx => ⟨by omega,by omega⟩,?_,BXK,by omega⟩
        refine oc1.sub (fun x hx => ?_)
        rcases hx with h | h
        · exact .inl h
        · exact .inr (by omega)
       case round =>
        clear O0 oc1 BXK
        obtain ⟨k,rfl,hk,G,oO,hG,oc,B3K,sz3⟩ := hrel
        obtain ⟨vO,rfl⟩ : ∃ v_ : Value,v_ = u12 := ⟨_,rfl⟩
        by_cases hlt : k < n4
        · obtain ⟨b5,o5,s_,l,A9,n9,c9,us,rfl,hb5,XS,e0,e1,e2,hsz_,hra,hn9⟩ := zhu (k5.below B3K) z5 hlt
          obtain ⟨b4,o4,a0,Ap1,np1,cp1,Ap2,np2,cp2,Ap3,np3,cp3,x1,x2,x3,rfl,hb4,XP,f0,f1,f2,f3,hp1,hp2,hp3,hpz⟩ := zf3 (k4.below B3K) z4 hlt
          have hst := Lib.hid (zjt XS.out)
          have hpa := Lib.hid (zju XP.out)
          obtain ⟨io1,io2⟩ := zh3 hO k (by rw [Q5.out]; omega)
          obtain ⟨ic1,ic2⟩ := io1.cel (k := k) (by rw [Q5.out]; exact hlt)
          rw [← HN.out] at ic1
          obtain ⟨Ai,ci,xi,hx1,hx2,hx3,hx4,hx5⟩ := oc.at hlt
          have hxi : zaf (za5 L src ts fs ps ms k).1 k = xi := zep hx1
          rw [hxi] at ic1 ic2
          rw [ic1] at hx2 hx3 hx4
          have HXI := Lib.hid hxi
          have HI2 := Lib.hid ic2
          have heff : zbf (a0,x1,x2,x3) = true := hO.ef _ (List.mem_of_getElem? XP.out)
          have HEF := Lib.hid heff
          have sB3 := B3K.size
          have q4r : wr.cell? ⟨vb,4,none⟩ = some (.slice (some ⟨b4,o4,none⟩) n4 c4) := by rw [B3K.cell (by show vb < _; omega)]; exact q4
          have q5r : wr.cell? ⟨vb,5,none⟩ = some (.slice (some ⟨b5,o5,none⟩) n4 c5) := by rw [B3K.cell (by show vb < _; omega)]; exact q5
          have lw1 : vb < wr.heap.size := by omega
          have lw2 : b5 < wr.heap.size := by omega
          have lw3 : b4 < wr.heap.size := by omega
          have lw4 : gI < wr.heap.size := by omega
          have kk0 : (0 : Int) ≤ (k : Int) := by omega
          have kk1 : (k : Int) < (n4 : Int) := by omega
          have LP1 := Lib.hid (sl_R.1 hp1).cap.1
          have LP2 := Lib.hid (sl_R.1 hp2).cap.1
          have LP3 := Lib.hid (zc0 hp3)
          clear hxi hx1 ic1 ic2 heff
          go_wp2_with fail
          obtain ⟨bz,hbz⟩ : ∃ bz : Bool,bz = decide (((a0,x1,x2,x3) : zad) = M.p0) := ⟨_,rfl⟩
          refine (zf1 b4 (o4 + k * 4) a0 _ _ cp1 _ _ cp2 _ _ cp3 x1 x2 x3 _ f0 f1 f2 f3 LP1 LP2 LP3).mono ?_
          rw [← hbz]
          rintro e w1' ⟨rfl,rfl⟩
          have HBZ := Lib.hid hbz
          clear hbz
          go_upto_if 122 with fail
          go_cut [15] from 123 to 134 (fun q15 wx => ∃ (A10 : Option Addr) (c10 : Nat),q15 = .slice A10 n c10 ∧ RI wx wx.heap.size A10 n (M.fx (a0,x1,x2,x3) xi n) ∧ Below wr.heap.size wr wx)
          case first =>
           cases bz
           case true =>
            have E := Lib.hid (show M.fx (a0,x1,x2,x3) xi n = xi by rw [M.fx,if_pos (of_decide_eq_true HBZ.out.symm)])
            go_wp2_with fail
            go_meet
            rw [E.out]
            exact ⟨Ai,ci,rfl,hx3.1,Below.refl _ _⟩
           case false =>
            have hp : ((a0,x1,x2,x3) : zad) ≠ M.p0 := of_decide_eq_false HBZ.out.symm
            obtain ⟨h1,h2,h3⟩ := zjv HEF.out hp
            simp only at h2
            subst h2
            obtain ⟨o_,rfl⟩ := len1 (show x3.length = 1 from h3)
            have hPF := zjg h1 rfl
            have ho := zmr h1 o_ (by simp)
            have E := Lib.hid (show M.fx (1,x1,x2,[o_]) xi n = zbv x2 x1 (zal x2) xi o_ n by rw [M.fx,if_neg hp]; rfl)
            have hnp2 := (sl_R.1 hp2).cap.1
            have hnp3 := zc0 hp3
            simp only [List.length_singleton] at hnp3
            subst hnp3
            simp only at ho
            rw [hnp2] at ho
            have hnz2 : hNS.sz x2 ≤ 100000000 := by rw [zc6] at hpz; omega
            clear hp h1 h3 hnp2
            obtain ⟨X2,hX2,BX2,sX2,x0,xf⟩ := zeb wr (.slice Ai n ci) 24
            have HX2 := Lib.hid hX2
            have BXK2 := B3K.trans (BX2.mono sB3)
            have f1x : X2.cell? ⟨b4,o4 + k * 4 + 1,none⟩ = some (.slice Ap1 np1 cp1) := by rw [BX2.cell (by show b4 < _; omega)]; exact f1
            have f2x : X2.cell? ⟨b4,o4 + k * 4 + 2,none⟩ = some (.slice Ap2 np2 cp2) := by rw [BX2.cell (by show b4 < _; omega)]; exact f2
            have f3x : X2.cell? ⟨b4,o4 + k * 4 + 3,none⟩ = some (.slice Ap3 1 cp3) := by rw [BX2.cell (by show b4 < _; omega)]; exact f3
            have hx3x := hx3.below BX2
            clear hX2
            go_wp2_with fail
            rw [← HX2.out]
            refine (ztz b4 (o4 + k * 4) _ _ cp1 _ _ cp2 _ cp3 x2 x1 o_ wr.heap.size 0 1 Ai n ci xi n X2 f1x f2x f3x (((sl_R.1 hp1).below (BX2.mono sB3)).more (by omega)) (((sl_R.1 hp2).below (BX2.mono sB3)).more (by omega)) (((tS_R.1 hp3).ri.below (BX2.mono sB3)).more (by omega)) hPF ho hnz2 x0 hx3x.1 HI2.out (by omega) (by omega)).mono ?_
            rintro e w4 ⟨g4,c4',A4',c4'',rfl,cg4,rg4,bel4⟩
            go_wp2_with fail
            go_meet
            rw [E.out]
            exact ⟨A4',c4'',rfl,rg4,BX2.trans (bel4.mono (by omega))⟩
          case rest =>
           obtain ⟨wx,rfl⟩ : ∃ u_ : World,u_ = wc := ⟨_,rfl⟩
           obtain ⟨A10,c10,rfl,r10,Bx⟩ := hcut
           obtain ⟨Wq,rfl⟩ : ∃ Wq : World,Wq = wr := ⟨_,rfl⟩
           have sBx := Bx.size
           have e1x : wx.cell? ⟨b5,o5 + k * 3 + 1,none⟩ = some (.int .i64 l) := by rw [Bx.cell (by show b5 < _; omega)]; exact e1
           have e2x : wx.cell? ⟨b5,o5 + k * 3 + 2,none⟩ = some (.slice A9 n9 c9) := by rw [Bx.cell (by show b5 < _; omega)]; exact e2
           obtain ⟨so1,so2,so3⟩ := zg4 hO.mix (i := k) (by rw [Q5.out]; exact hlt)
           rw [hst.out] at so1 so2 so3
           simp only at so1 so2 so3
           obtain ⟨ln,rfl⟩ : ∃ ln : Nat,l = (ln : Int) := ⟨l.toNat,by omega⟩
           have husl : us.length = n9 := hra.len
           have HUSL := Lib.hid husl
           have HSO := Lib.hid so3
           have hn9b : n9 ≤ 4 := by omega
           have HOUT := Lib.hid (show ze7 L ps ms k (za5 L src ts fs ps ms k).1 = zbx (M.fx (a0,x1,x2,x3) xi n) (ln : Int) n by rw [ze7,hpa.out,hst.out,HXI.out,← HN.out])
           have lb5x : b5 < wx.heap.size := by omega
           clear so3 husl hp1 hp2 hp3 f0 f1 f2 f3 e0
           go_wp2_with fail
           refine (zjs A10 n c10 _ ln n wx r10 (by omega) (by omega) (by omega)).mono ?_
           rintro e Z ⟨v2,rfl,own2,bel2⟩
           rw [← HOUT.out] at own2
           generalize hOU : ze7 L ps ms k (za5 L src ts fs ps ms k).1 = OUT at *
           have hol : OUT.length = n := by rw [HOUT.out,zdn]
           have HOL := Lib.hid hol
           have HOU := Lib.hid hOU
           obtain ⟨A11,c11,e11,hle11,-⟩ := zb9 own2
           rw [hol] at e11
           subst e11
           clear hol hOU
           have s2 := bel2.size
           have BZ : Below Wq.heap.size Wq Z := Bx.trans (bel2.mono sBx)
           have oO' := oO.keep (w' := Z) (fun b hb => BZ.block b (hG b hb).2)
           have os2 := tS_O.2 (OI.os own2)
           have hll : ((za5 L src ts fs ps ms k).2).length = k := io2.len
           have hll' : ((za5 L src ts fs ps ms k).2).length ≤ 1000000 := by omega
           clear hll
           go_wp2_with (at_builtin; refine zca ei_S #[.slice A11 n c11] rfl _ _ rfl oO' os2 (fun b hb hb2 => by have := (hG b hb).2; have := hb2.1; omega) rfl rfl (by unfold maxLen; omega) (by omega) ?_; intro v3 w4 own4 ch4)
           have s4 := ch4.size
           have BZK : Below K.heap.size K Z := B3K.trans (BZ.mono sB3)
           have BK4 : Below K.heap.size K w4 := BZK.trans (ch4.toBelow (fun b hb => by have := (hG b hb).1; omega) (by omega))
           have sZ := BZ.size
           have BQ4 : Below K.heap.size Wq w4 := (BZ.mono sB3).trans (ch4.toBelow (fun b hb => by have := (hG b hb).1; omega) (by omega))
           obtain ⟨G',hG'e⟩ : ∃ G' : Nat → Prop,G' = fun x => G x ∨ Iv wx.heap.size Z.heap.size x ∨ Z.heap.size < x ∧ x < w4.heap.size := ⟨_,rfl⟩
           have hG' : ∀ x,G' x → V.heap.size ≤ x ∧ x < w4.heap.size := fun x hx => by
            rw [hG'e] at hx
            rcases hx with h | h | h
            · have := hG x h; omega
            · have := h.1; have := h.2; omega
            · omega
           have oO4 : OS tS 24 w4 G' v3 ((za5 L src ts fs ps ms k).2 ++ [OUT]) := by rw [hG'e]; exact own4
           have oc4 : CR (fun x => x = gI ∨ G' x) 24 K.heap.size w4 (.slice (some ⟨gI,0,none⟩) n4 cI) (zc4 L ms k OUT (za5 L src ts fs ps ms k).1 0) := ((oc.more (F' := fun x => x = gI ∨ G' x) (fun x hx => by
            rw [hG'e] at hx
            rcases hx with h | h | h | h
            · exact .inl (.inl h)
            · exact .inl (.inr h)
            · have := h.1; exact .inr (by omega)
            · exact .inr (by omega))).below BZ).chg ch4 (fun x hx => .inr (by rw [hG'e]; exact .inl hx)) (fun x hx h => by
              simp only [Value.ownBlock,Option.some.injEq] at hx
              have := (hG x h).1
              omega)
           have e2w : w4.cell? ⟨b5,o5 + k * 3 + 2,none⟩ = some (.slice A9 n9 c9) := by
            rw [ch4.cell (by have := bel2.size; show b5 < _; omega) (fun h => by have := (hG _ h).1; have : b5 < K.heap.size := hb5; omega),bel2.cell (by show b5 < _; omega)]; exact e2x
           have rnO : RN (fun x => x = gI) Z A11 n OUT := RN.of_oi own2 (fun x hx => by omega)
           have rn4 : RN (fun x => x = gI) w4 A11 n OUT := by
            have r0 : RN (fun x => G x ∨ x = gI) Z A11 n OUT := RN.of_oi own2 (fun x hx => by
             rcases hx with h | h
             · have := (hG x h).2; omega
             · omega)
            exact (r0.chg (ch4.wide (fun x hx => .inl hx))).sub (fun x hx => .inr hx)
           clear oc own2 os2 oO' own4 ch4 rnO hG'e e1 e2 e1x e2x oO
           go_wp2_with fail
           go_loopw [16] (fun i wr => ∃ j : Nat,i = .int .i64 j ∧ j ≤ n9 ∧ CR (fun x => x = gI ∨ G' x) 24 K.heap.size wr (.slice (some ⟨gI,0,none⟩) n4 cI) (zc4 L ms k OUT (za5 L src ts fs ps ms k).1 j) ∧ Chg (fun x => x = gI) w4 wr) (fun i _ => n9 - (intOf i).toNat)
           case atStart => exact ⟨0,rfl,by omega,oc4,Chg.refl _ _⟩
           case round =>
            clear oc4
            obtain ⟨j,rfl,hj,oc,ch⟩ := hrel
            have sch := ch.size
            have BKr : Below K.heap.size K wr := BK4.trans (ch.toBelow (fun x hx => by omega) (by omega))
            have lb5r : b5 < wr.heap.size := by omega
            have lZ4 : Z.heap.size ≤ w4.heap.size := by omega
            have e2r : wr.cell? ⟨b5,o5 + k * 3 + 2,none⟩ = some (.slice A9 n9 c9) := by rw [ch.cell (by show b5 < _; omega) (fun h => by have h' : b5 = gI := h; have : b5 < K.heap.size := hb5; omega)]; exact e2w
            by_cases hlt2 : j < n9
            · obtain ⟨b2,o2,⟨p0_,p1_⟩,rfl,hab2,X2,hdd⟩ := (hra.below (BQ4.trans (ch.toBelow (fun x hx => by omega) (by omega)))).at zes (by decide) hlt2
              have d0 : wr.cell? ⟨b2,o2 + j * 2,none⟩ = some (.int .i64 p0_) := hdd 0 _ rfl
              have d1 : wr.cell? ⟨b2,o2 + j * 2 + 1,none⟩ = some (.int .i64 p1_) := hdd 1 _ rfl
              have hso := HSO.out j p0_ p1_ X2.out
              rw [Q5.out] at hso
              have hdl := znj hO.mix (i := k) (j := j) (by rw [Q5.out]; exact hlt) (p0 := p0_) (p1 := p1_) (by rw [hst.out]; exact X2.out)
              have HSD := Lib.hid (show ((zbn ms k).2.2[j]?).getD (0,0) = (p0_,p1_) by rw [hst.out,X2.out]; rfl)
              obtain ⟨q,rfl⟩ : ∃ q : Nat,p0_ = (q : Int) := ⟨p0_.toNat,by omega⟩
              have hqn : q < n4 := by omega
              obtain ⟨dd,hdd2⟩ : ∃ dd : Nat,zbj ms (q : Int).toNat - zbj ms k - (zbn ms k).2.1 = (dd : Int) := ⟨(zbj ms (q : Int).toNat - zbj ms k - (zbn ms k).2.1).toNat,by omega⟩
              rw [hdd2] at hdl
              have hddb : dd ≤ 1024 := by omega
              obtain ⟨bD,oD,cD',AD',cDD,xD,eD',hbD,-,hD1,hD2,hD3,hD4⟩ := RD.at (k := k) (by rw [HLD.out]; exact hlt)
              simp only [Value.slice.injEq] at eD'
              obtain ⟨rfl,-,-⟩ := eD'
              have hxD : zaf (zb8 ms) k = xD := zep hD1
              rw [hxD] at hdl
              have hjD : j < xD.length := (List.getElem?_eq_some_iff.1 hdl.1).1
              obtain ⟨bd,od,yD,rfl,hbd,-,hyD,hcD⟩ := hD3.at hjD
              obtain rfl : yD = (dd : Int) := Option.some.inj (hyD.symm.trans hdl.1)
              obtain ⟨lD,hlD⟩ : ∃ lD,lD = xD.length := ⟨_,rfl⟩
              rw [← hlD] at hD4 hjD
              have HDL := Lib.hid (show M.i_ (zaf (zb8 ms) k) j = (dd : Int) by rw [hxD,M.i_,hdl.1]; rfl)
              have hio := zjx hO.mix (i := k) (by rw [Q5.out]; exact hlt) (out := OUT) io1 j (by rw [hst.out]; show j ≤ us.length; rw [HUSL.out]; omega)
              obtain ⟨A',c',xq,hx1,hx2,hx3,hx4,hx5⟩ := oc.at (k := q) hqn
              have hxq : zaf (zc4 L ms k OUT (za5 L src ts fs ps ms k).1 j) q = xq := zep hx1
              have hxl2 : xq.length = n := by rw [← hxq,(hio.cel (by rw [Q5.out]; exact hqn)).1,HN.out]
              rw [hxl2] at hx2 hx3 hx4
              have HXQ := Lib.hid hxq
              have cD1 : wr.cell? ⟨bD,oD + k,none⟩ = some (.slice (some ⟨bd,od,none⟩) lD cDD) := by rw [BKr.cell (by show bD < _; omega)]; exact hD4
              have cD2 : wr.cell? ⟨bd,od + j,none⟩ = some (.int .i64 (dd : Int)) := by rw [BKr.cell (by show bd < _; omega)]; exact hcD
              have y1 := cell_regrown e2r
              have y2 := cell_regrown d1
              have yI := cell_regrown hx4
              have yD1 := cell_regrown cD1
              have yD2 := cell_regrown cD2
              have D4 : Below wr.heap.size wr wr.drew := zac (Below.refl _ _) 1
              have hd4 : wr.drew.heap.size = wr.heap.size := rfl
              have r11 := ((rn4.chg ch).below D4).1
              have k0 : (0 : Int) ≤ (j : Int) := by omega
              have k1_ : (j : Int) < (n9 : Int) := by omega
              have k2_ : (j : Int) < (lD : Int) := by omega
              have k3_ : (0 : Int) ≤ (q : Int) := by omega
              have k4_ : (q : Int) < (n4 : Int) := by omega
              have lwb : b2 < wr.heap.size := by have := BKr.size; omega
              clear hx1 hxq hxl2 hD1 hxD hyD hdl hdd2 hlD hdd
              go_wp2_with fail
              (refine zce [0,1,2,3,4,6,7,8,9,11,14,16,17,18,20] [5,10,12,13,19,21,22,23] 3 (.one 15 (.one 24 (.first 25 .rest))) [26] [26] (by kernel_rfl) (by kernel_rfl) ?_; simp only [zaj]; simp only [List.filterMap,List.getElem?_cons_succ,List.getElem?_cons_zero]; (repeat (go_big_quiet_step (fail))); refine wpQuiet_nil ?_; (repeat (go_big_quiet_step (fail))); refine wpQuiet_nil ?_)
              refine zbe rfl ?_
              go_wp2_with fail
              refine (zjs A11 n c11 OUT dd n _ r11 (by omega) (by omega) (by omega)).mono ?_
              rintro e w5 ⟨v5,rfl,own5,bel5⟩
              obtain ⟨A12,c12,e12,r12⟩ := own5.shape
              rw [zdn] at e12 r12
              subst e12
              have B5 := zaa D4 bel5
              have s5 := bel5.size
              go_wp2_with fail
              refine ⟨regrown_of_below B5,?_⟩
              refine zbe rfl ?_
              go_wp2_with fail
              refine (zi9 A' A12 n c' n c12 xq _ p1_ _ (hx3.below B5).1 r12 (by omega) (by omega)).mono ?_
              rintro e w6 ⟨v6,rfl,own6,bel6⟩
              have hal : (zb5 xq (zbx OUT (dd : Int) n) p1_).length = n := by rw [zeu,hx3.1.len,zdn,Nat.max_self]
              obtain ⟨A6,c6,e6,h6,-⟩ := zb9 own6
              rw [hal] at e6 h6
              subst e6
              have HAL := Lib.hid hal
              have B6 := zaa B5 bel6
              have s6 := bel6.size
              clear hal
              go_wp2_with fail
              refine ⟨regrown_of_below B6,?_⟩
              (refine zcg rfl ?_; (repeat (go_big_quiet_step (fail))); refine wpQuiet_nil ?_)
              refine zb7 ?_
              obtain ⟨A'',c'',xq2,hv1,hv2,hv3,hv4,hv5⟩ := (oc.below B6).at (k := q) hqn
              have C6 := (oc.below B6).set (.inl rfl) q (A' := A6) (c' := c6) (y := zb5 xq (zbx OUT (dd : Int) n) p1_) (by rw [HAL.out]; exact h6) (by
               rw [HAL.out]
               refine RN.of_oi own6 (fun x hx => ?_)
               rcases hx with h | h
               · omega
               · have := (hG' x h).2; omega)
              rw [HAL.out] at C6
              have HC6 := Lib.hid C6
              clear C6 hv1
              go_wp2_with fail
              refine ⟨⟨j + 1,by go_num,by omega,?_,(ch.trans (zcr B6)).trans (Chg.set w6 _ q _ rfl)⟩,by simp [intOf]; omega⟩
              rw [zc4,ze6,HSD.out,HDL.out]
              simp only [Int.toNat_natCast]
              rw [HXQ.out,← HN.out]
              exact HC6.out
            · obtain rfl : n9 = j := by omega
              have hstp : za5 L src ts fs ps ms (k + 1) = (zc4 L ms k OUT (za5 L src ts fs ps ms k).1 n9,(za5 L src ts fs ps ms k).2 ++ [OUT]) := by
               rw [za5,HOU.out,hst.out]
               show (zc4 L ms k OUT _ us.length,_) = _
               rw [HUSL.out]
              have HSTP := Lib.hid hstp
              have swr := ch.size
              have oO' := oO4.chg ch (fun b hb (e : b = _) => by have := (hG' b hb).1; omega)
              clear hstp
              go_wp2_with fail
              go_roundw
              case rel =>
               refine ⟨k + 1,by go_num,by omega,G',?_,fun x hx => ⟨(hG' x hx).1,by have := (hG' x hx).2; omega⟩,?_,BKr,by omega⟩
               · rw [HSTP.out]; exact oO'
               · rw [HSTP.out]; exact oc
              case measure => simp [intOf]; omega
        · obtain rfl : n4 = k := by omega
          have hlen : (zdf ms).length = n4 := by rw [zdf,List.length_map,List.length_range]; exact Q5.out
          clear hlen
          go_wp2_with fail
          go_ret
          refine ⟨_,rfl,?_,BK.trans (B3K.mono sK)⟩
          rw [zew,Q5.out]
          exact RSN.of_os oO (fun _ h => h.elim)
end
end Go.Proofs.YtffhodocjjkkoaaGreat
