import Derived.Test.YtifeldeikhmckaaGreatFnExactOptimizeSessionG33
import Derived.Test.YtifeldeikhmckaaGreatFnExactOptimizeSessionG32
import Derived.Test.YtifeldeikhmckaaGreatFnExactOptimizeSessionG31
import Derived.Test.YtifeldeikhmckaaGreatFnExactOptimizeSessionG25
import Derived.Test.YtifeldeikhmckaaGreatFnExactOptimizeSessionG34
set_option linter.unusedVariables false
set_option linter.unusedSimpArgs false
set_option maxRecDepth 100000
set_option maxHeartbeats 4000000
namespace Go.Proofs.YtifeldeikhmckaaGreat
open Go.RowKit Go.Sort
section
def M.nl (nd:Nat->Bool) (n:Nat):List Int:=(zcz nd n).map Int.ofNat
theorem zuv(nd:Nat->Bool)(k:Nat):M.nl nd (k+1)=M.nl nd k++(if nd k then[(k:Int)]else[]):=by
 rw[M.nl,M.nl,zcz,zcz,List.range_succ,List.filter_append,List.map_append];cases e:nd k <;> simp[e]
theorem zej(nd:Nat->Bool)(n:Nat):(M.nl nd n).length=zal nd n:=by rw[M.nl,List.length_map,zmb]
section
variable {tb:List (List Int)} {p:NO} {R:Nat->Nat} {w:Yw} {nd:Nat->Bool}
theorem zuw(h:M.WP tb p R)(ho:p.2.length<=1000)(hnd:∀j,nd j=true↔M.Rch p.1 p.2 j)(a0:Int)(A1:Yo)(n1 c1:Nat)(A2:Yo)(n2 c2:Nat)(A3:Yo)(n3 c3:Nat)(hr:RS tN w w.heap.size (.slice A2 n2 c2) p.1)(k3:tS.R w w.heap.size [.slice A3 n3 c3] p.2):
 Calls Tryz.prog 152 #[.agg #[.int .i64 a0,.slice A1 n1 c1,.slice A2 n2 c2,.slice A3 n3 c3]] w (Ret1 2 w (M.nl nd n2)):=by
 have hl:=hr.cap.1;have hlen:=h.len;have hn2:n2<=24:=by omega
 obtain⟨W,hW,B0,sW,p0,p1,p2,p3,pf⟩:=zdl w (.int .i64 a0) (.slice A1 n1 c1) (.slice A2 n2 c2) (.slice A3 n3 c3) 67;have HW:=Lib.hid hW;have lW:w.heap.size<W.heap.size:=by omega
 obtain⟨V,hV⟩:∃V,V=W.alloc (.cells #[] 2):=⟨_,rfl⟩;have BV:Below W.heap.size W V:=by rw[hV];exact zaf _ _
 have O0:OI 2 W.heap.size V (.slice (some ⟨w.heap.size+1,0,none⟩) 0 0) []:=by
  rw[hV,<-sW];exact OI.made _ W
 have HV:=Lib.hid hV;have B1:=zaa B0 BV;have CM:=Lib.hid (znk h ho hnd a0 A1 n1 c1 A2 n2 c2 A3 n3 c3 (hr.later B1) (tS.later k3 B1));have hV1:=BV.size;have LW2:=Lib.hid sW;clear hW sW hV hr k3 hl ho hnd
 go_enter Tryz.func152,Tryz.ntmps152
 go_wp2_with fail;rw[<-HW.out,<-HV.out];refine CM.out.mono ?_;rintro e w2 ⟨Am,cm,rfl,rm,b2,hAm⟩;have HAM:=Lib.hid hAm;clear hAm;have OS2:OS tI 2 w2 (fun b=>b=W.heap.size\/w2.heap.size<=b) (.slice (some ⟨w.heap.size+1,0,none⟩) 0 0) []:=(OS.of_oi (hi:=W.heap.size+1) (O0.below b2) (fun k hk=>by simp only[Value.ownBlock,Option.some.injEq]at hk;have:=LW2.out;omega)).wide (fun b hb=>by have:=hb.1;have:=hb.2;omega);have B2:=zaa BV b2;go_wp2_with fail
 go_loopw [3,10] (fun v j wr=>∃k:Nat,j=.int .i64 k/\k<=n2/\OS tI 2 wr (fun b=>b=W.heap.size\/w2.heap.size<=b) v (M.nl nd k)/\Chg (fun b=>b=W.heap.size) w2 wr) (fun _ j _=>n2-(intOf j).toNat)
 case atStart=>exact⟨0,rfl,by omega,OS2,Chg.refl _ _⟩
 case round=>
  obtain⟨k,rfl,hk,own,Bw⟩:=hrel;have sw:=Bw.size
  by_cases hlt:k<n2
  ·obtain⟨bm,om,rfl,hbm,m0⟩:=zhx rm hlt;have m1:=(Bw.cell (by exact hbm) (fun(e:bm=_)=>by have h1:=HAM.out _ rfl;simp only at h1;omega)).trans m0;have hkn:(k:Int)<(n2:Int):=(by omega);have HE:=Lib.hid (zuv nd k);clear m0;cases hn:nd k
   ·rw[hn]at m1 HE;clear hn;go_wp2_with fail;go_roundw
    case rel=>exact⟨k+1,by go_num,by omega,by rw[HE.out];simpa using own,Bw⟩
    case measure=>simp[intOf];omega
   rw[hn]at m1 HE;clear hn;have hk1:(M.nl nd k).length<=1000000:=(by rw[zej];have:=zeu nd k;omega);have s2:=B2.size;have hWr:W.heap.size<=wr.heap.size:=(by omega);go_wp2_with (at_builtin;refine zc2 zce #[.int .i64 k] rfl _ _ rfl own (show tI.O wr (fun _=>False) [.int .i64 (k:Int)] (k:Int)from rfl) (fun _ _ h=>h) rfl rfl (by unfold maxLen;omega) (by omega) ?_;intro v1 w1 own1 ch1);go_roundw
   case rel=>
    exact⟨k+1,by go_num,by omega,by rw[HE.out];exact own1.wide (fun b hb=>by rcases hb with hb|hb|hb;exact hb;exact hb.elim;exact .inr (by omega)),⟨ch1.os.trans Bw.os,ch1.tape.trans Bw.tape,ch1.output.trans Bw.output,Nat.le_trans Bw.size ch1.size,fun b hb hn=>(ch1.block b (by omega) (fun h=>by rcases h with h|h;exact hn h;omega)).trans (Bw.block b hb hn)⟩⟩
   case measure=>simp[intOf];omega
  obtain rfl:k=n2:=by omega
  go_wp2;go_ret;have B3:=B2.size;have hB:Below w.heap.size w wr:=(B0.trans (B2.mono (by omega))).trans (Bw.toBelow (fun b (hb:b=_)=>by omega) (by omega));exact⟨_,rfl,(own.real.wide (F':=Iv w.heap.size wr.heap.size) (fun b hb=>⟨by rcases hb.1 with h|h <;> omega,hb.2⟩)).oi,hB⟩
end
end
section
theorem zfi{nd:Nat->Bool}{n k:Nat}{x:Int}(h:(M.nl nd n)[k]?=some x):∃j:Nat,x=(j:Int)/\(zcz nd n)[k]?=some j/\j<n/\nd j=true/\zal nd j=k:=by
 rw[M.nl,List.getElem?_map,Option.map_eq_some_iff]at h;obtain⟨j,h1,h2⟩:=h;obtain⟨h3,h4⟩:=zmc h1;refine⟨j,h2.symm,h1,h3,h4,?_⟩;have h5:=zez nd h3 h4;have hn:(zcz nd n).Nodup:=List.nodup_range.filter _;exact(List.getElem?_inj (List.getElem?_eq_some_iff.1 h5).1 hn).1 (h5.trans h1.symm)
def zc1 (nd:Nat->Bool) (n k:Nat):List Int:=(List.range n).map fun j=>if nd j=true/\zal nd j<k then(zal nd j:Int)else 0
theorem zux(nd:Nat->Bool)(n k:Nat):(zc1 nd n k).length=n:=by simp[zc1]
theorem znv(nd:Nat->Bool)(n:Nat):zc1 nd n 0=List.replicate n 0:=by
 apply List.ext_getElem (by simp[zc1]);intro i h1 h2;simp[zc1]
theorem zuy{nd:Nat->Bool}{n i j:Nat}(hi:i<n)(hj:j<n)(h1:nd i=true)(h2:nd j=true)(h:zal nd i=zal nd j):i=j:=by
 have e1:=zez nd hi h1;have e2:=zez nd hj h2;rw[h,e2]at e1;exact(Option.some.inj e1).symm
theorem znw{nd:Nat->Bool}{n k j:Nat}(hj:j<n)(hn:nd j=true)(hk:zal nd j=k):zc1 nd n (k+1)=(zc1 nd n k).set j (k:Int):=by
 apply List.ext_getElem (by simp[zc1]);intro i h1 h2;have hi:i<n:=by simpa [zc1]using h1
 rw[List.getElem_set]
 by_cases e:j=i
 ·subst e;simp[zc1,hn,hk]
 rw[if_neg e];simp only[zc1,List.getElem_map,List.getElem_range]
 by_cases hni:nd i=true
 ·have:zal nd i≠k:=fun h=>e (zuy hj hi hn hni (by rw[hk,h]))
  by_cases hlt:zal nd i<k
  ·rw[if_pos ⟨hni,by omega⟩,if_pos ⟨hni,hlt⟩]
  rw[if_neg (fun h=>by omega),if_neg (fun h=>by omega)]
 rw[if_neg (fun h=>hni h.1),if_neg (fun h=>hni h.1)]
theorem znx(nd:Nat->Bool)(n:Nat):zc1 nd n (zal nd n)=zbn nd n:=by
 rw[zc1,zbn];apply List.map_congr_left;intro j hj;have hj:=List.mem_range.1 hj
 by_cases hn:nd j=true
 ·have:=zgs nd (show j+1<=n by omega);rw[zfx,hn]at this;simp at this;rw[if_pos ⟨hn,by omega⟩,if_pos hn]
 rw[if_neg (fun h=>hn h.1),if_neg hn]
theorem zny(nd:Nat->Bool)(n:Nat):(zbn nd n).length=n:=by simp[zbn]
def TB (a0:Int) (tb:List (List Int)) (os:List Int) (wa:Yw) (g:Nat) (w:Yw):Prop:=
 ∃(A1:Yo) (n1 c1:Nat) (A3:Yo) (n3 c3:Nat) (F1 F3:Nat->Prop),BX w g (.int .i64 a0) (.slice A1 n1 c1) (.slice none 0 0) (.slice A3 n3 c3)/\tSS.O w F1 [.slice A1 n1 c1] tb/\tS.O w F3 [.slice A3 n3 c3] os/\Below wa.heap.size wa w/\wa.heap.size<=g/\(∀b,F1 b->wa.heap.size<=b/\b<w.heap.size/\b≠g)/\(∀b,F3 b->wa.heap.size<=b/\b<w.heap.size/\b≠g)/\∀b,F1 b->¬F3 b
theorem TB.mk_{a0:Int}{tb:List (List Int)}{os:List Int}{wa wz:Yw}{g:Nat}{A1:Yo}{n1 c1:Nat}{A3:Yo}{n3 c3:Nat}{F1 F3:Nat->Prop}(Z:BX wz g (.int .i64 0) (.slice none 0 0) (.slice none 0 0) (.slice none 0 0))(O1:tSS.O wz F1 [.slice A1 n1 c1] tb)(O3:tS.O wz F3 [.slice A3 n3 c3] os)(B:Below wa.heap.size wa wz)(hg:wa.heap.size<=g)(h1:∀b,F1 b->wa.heap.size<=b/\b<wz.heap.size/\b≠g)(h3:∀b,F3 b->wa.heap.size<=b/\b<wz.heap.size/\b≠g)(h13:∀b,F1 b->¬F3 b):
 ∃U,U=(((wz.setCell ⟨g,0,none⟩ (.int .i64 a0)).setCell ⟨g,1,none⟩ (.slice A1 n1 c1)).setCell ⟨g,2,none⟩ (.slice none 0 0)).setCell ⟨g,3,none⟩ (.slice A3 n3 c3)/\TB a0 tb os wa g U:=by
 obtain⟨U,hU,ZU,chU,sU⟩:=Z.set (.int .i64 a0) (.slice A1 n1 c1) (.slice none 0 0) (.slice A3 n3 c3);exact⟨U,hU,A1,n1,c1,A3,n3,c3,F1,F3,ZU,tSS.ochg O1 chU (fun b hb (e:b=g)=>(h1 b hb).2.2 e),tS.ochg O3 chU (fun b hb (e:b=g)=>(h3 b hb).2.2 e),B.trans (chU.toBelow (fun b (hb:b=g)=>by omega) B.size),hg,fun b hb=>⟨(h1 b hb).1,by have:=(h1 b hb).2.1;omega,(h1 b hb).2.2⟩,fun b hb=>⟨(h3 b hb).1,by have:=(h3 b hb).2.1;omega,(h3 b hb).2.2⟩,h13⟩
section
variable {tb:List (List Int)} {p:NO} {R:Nat->Nat} {w:Yw} {nd:Nat->Bool}
theorem zuz(h:M.WP tb p R)(ho:p.2.length<=1000)(hnd:∀j,nd j=true↔M.Rch p.1 p.2 j)(a0:Int)(A1:Yo)(n1 c1:Nat)(A2:Yo)(n2 c2:Nat)(A3:Yo)(n3 c3:Nat)(k1:tSS.R w w.heap.size [.slice A1 n1 c1] tb)(k2:tNS.R w w.heap.size [.slice A2 n2 c2] p.1)(k3:tS.R w w.heap.size [.slice A3 n3 c3] p.2):
 Calls Tryz.prog 95 #[.agg #[.int .i64 a0,.slice A1 n1 c1,.slice A2 n2 c2,.slice A3 n3 c3]] w fun e w'=>∃A1' n1' c1' A2' n2' c2' A3' n3' c3',e=.returned (.agg #[.int .i64 a0,.slice A1' n1' c1',.slice A2' n2' c2',.slice A3' n3' c3'])/\tP.O w' (Iv w.heap.size w'.heap.size) [.int .i64 a0,.slice A1' n1' c1',.slice A2' n2' c2',.slice A3' n3' c3'] (a0,tb,(zbo nd p).1,(zbo nd p).2)/\Below w.heap.size w w':=by
 have hl:=(sl_R.1 k2).cap.1;have hlen:=h.len;have hn2:n2<=24:=by omega
 obtain⟨W,hW,B0,sW,PX,ZX⟩:=zfz w (.int .i64 a0) (.slice A1 n1 c1) (.slice A2 n2 c2) (.slice A3 n3 c3) (.int .i64 0) (.slice none 0 0) (.slice none 0 0) (.slice none 0 0) 67 67;have HW:=Lib.hid hW;have lW:w.heap.size+1<W.heap.size:=by omega
 have q1:=tSS.later k1 B0;have q2:=tNS.later k2 B0;have q3:=tS.later k3 B0;have HL:=Lib.hid hl;have HO:=Lib.hid ho;have HND:=Lib.hid hnd;have D1:Below W.heap.size W W.drew:=zae (Below.refl _ _) 1;have gy0:=cell_regrown PX.c0;have gy1:=cell_regrown PX.c1;have gy2:=cell_regrown PX.c2;have gy3:=cell_regrown PX.c3;clear hW sW k1 k2 k3 hl ho hnd;have CN:=Lib.hid (zuw h HO.out HND.out a0 A1 n1 c1 A2 n2 c2 A3 n3 c3 (sl_R.1 (tNS.later q2 D1)) (tS.later q3 D1))
 go_enter Tryz.func95,Tryz.ntmps95
 go_wp2_with fail;rw[<-HW.out]
 (refine zf5 [2] [0,3] 3 (.one 1 (.one 4 (.one 5 .rest))) [6] [6,7] (by kernel_rfl) (by kernel_rfl) ?_;simp only[zar];simp only[List.filterMap,List.getElem?_cons_succ,List.getElem?_cons_zero];(repeat (go_big_quiet_step (fail)));refine wpQuiet_nil ?_;(repeat (go_big_quiet_step (fail)));refine wpQuiet_nil ?_)
 refine zdm rfl ?_;go_wp2_with fail;refine CN.out.mono ?_;rintro e w1 ⟨v1,rfl,ol,b1⟩;obtain⟨A4,c4,e4,rl⟩:=ol.shape;obtain⟨cn,hcn⟩:∃cn,(M.nl nd n2).length=cn:=⟨_,rfl⟩;rw[hcn]at e4 rl;subst e4;have HCN:=Lib.hid hcn;have hcn2:cn<=24:=by rw[<-hcn,zej];have:=zeu nd n2;omega
 clear hcn;have B1:=zaa D1 b1;go_wp2_with fail;refine⟨regrown_of_below B1,zdm rfl ?_⟩;go_wp2_with fail;refine(zey _ _ _ _).mono ?_;rintro e w' ⟨rfl,rfl⟩;go_wp2_with fail;refine⟨regrown_of_below B1,zdm rfl ?_⟩;go_wp2_with fail;refine(zos (n2:Int) _ (by omega) (by omega)).mono ?_;rintro e w2 ⟨v2,rfl,oz,b2⟩;rw[Int.toNat_natCast,<-znv nd]at oz;obtain⟨A5,c5,e5,-⟩:=oz.shape;rw[zux]at e5;subst e5;have B2:=zaa B1 b2;have s1:=B1.size;have s2:=b2.size;go_wp2_with fail;refine⟨regrown_of_below B2,zev ?_⟩;clear gy0 gy1 gy2 gy3;go_wp2_with fail
 go_loopw [19] (fun j wr=>∃k:Nat,j=.int .i64 k/\k<=cn/\OI 2 w1.heap.size wr (.slice A5 n2 c5) (zc1 nd n2 k)/\Below w1.heap.size w2 wr) (fun j _=>cn-(intOf j).toNat)
 case atStart=>exact⟨0,rfl,by omega,oz,Below.refl _ _⟩
 case round=>
  obtain⟨k,rfl,hk,own,Bw⟩:=hrel;have sw:=Bw.size;have B12:Below w1.heap.size w1 wr:=b2.trans Bw
  by_cases hlt:k<cn
  ·have X:=List.getElem?_eq_getElem (show k<(M.nl nd n2).length by rw[HCN.out];exact hlt);generalize (M.nl nd n2)[k]'(by rw[HCN.out];exact hlt)=x at X;obtain⟨j,rfl,hj1,hj2,hj3,hj4⟩:=zfi X;obtain⟨bx,ox,rfl,hbx,hcx⟩:=zak rl (by omega);have e1:=(B12.cell (by exact hbx)).trans (hcx k _ X);obtain⟨g,rfl,hg1,hg2⟩:=own.form' (show 0<n2 by omega);obtain⟨y,-,c0,f0,-,-⟩:=own.at' (k:=j) hj2;have S:=Lib.hid (own.stored' j (k:Int));have HS:=Lib.hid (znw hj2 hj3 hj4);have hjn:(j:Int)<(n2:Int):=(by omega);have hkn:(k:Int)<(cn:Int):=(by omega);clear hcx X hj1 hj3 hj4 oz;go_wp2_with fail;go_roundw
   case rel=>exact⟨k+1,by go_num,by omega,by rw[HS.out];exact S.out,Bw.setCell hg1 _⟩
   case measure=>simp[intOf];omega
  obtain rfl:k=cn:=by omega
  obtain⟨wa,rfl⟩:∃wa:Yw,wa=wr:=⟨_,rfl⟩;rw[show k=zal nd n2 by rw[<-HCN.out,zej],znx]at own;have Ba:Below W.heap.size W wa:=B1.trans (B12.mono s1);have PXa:=PX.later Ba;have gy0:=cell_regrown PXa.c0;have gy1:=cell_regrown PXa.c1;have gy3:=cell_regrown PXa.c3;have Da:Below wa.heap.size wa wa.drew:=zae (Below.refl _ _) 1
  have rto:RI wa wa.heap.size A5 n2 (zbn nd n2):=by
   have own':=own;unfold OI at own';rw[zny]at own';exact Reads.of_own own'
  have ha1:=Ba.size;have hmb:=Lib.hid (show ∀f∈p.2,0<=f/\f<(n2:Int)from fun f hf=>by rw[<-HL.out];exact h.outs f hf);have L3:=Lib.hid (zcn q3);have hn3:n3<=1000:=by rw[<-L3.out];exact HO.out
  have CC:=Lib.hid (fun W' (B':Below wa.heap.size wa W')=>zgt A1 n1 c1 tb W' (tSS.later (tSS.later q1 Ba) B') (by have:=h.szP HO.out a0;rw[zco]at this;omega));have CMP:=Lib.hid (fun W' (B':Below wa.heap.size wa W')=>zlw A3 A5 n3 c3 n2 c5 p.2 (zbn nd n2) W' ((tS_R.1 (tS.later q3 Ba)).ri.later B') (rto.later B') (by omega) (by omega) hmb);go_upto_region 7 with fail
  go_cut [7] (fun q7 wx=>∃g,q7=.pointer (some ⟨g,0,none⟩)/\TB a0 tb (zbc p.2 (zbn nd n2)) wa g wx)
  case first=>
   clear CN PXa oz;go_wp2_with fail
   (refine zf5 [0,2,5,7] [1,3,6] 4 (.two 4 (.two 8 (.first 9 (.one 10 .rest)) 10 (.one 8 (.first 9 .rest))) 10 (.one 4 (.one 8 (.first 9 .rest)))) [11] [11] (by kernel_rfl) (by kernel_rfl) ?_;simp only[zar];simp only[List.filterMap,List.getElem?_cons_succ,List.getElem?_cons_zero];(repeat (go_big_quiet_step (fail)));refine wpQuiet_nil ?_;(repeat (go_big_quiet_step (fail)));refine wpQuiet_nil ?_)
   refine zji rfl rfl ?_ ?_
   ·go_wp2_with fail;refine(CC.out wa.drew Da).mono ?_;rintro e w3 ⟨v3,rfl,o3,b3⟩;obtain⟨A7,c7,rfl⟩:=o3.shape;have B3:=zaa Da b3;have s3:=b3.size;have hda:wa.drew.heap.size=wa.heap.size:=rfl;go_wp2_with fail;refine⟨regrown_of_below B3,zji rfl rfl ?_ ?_⟩
    ·go_wp2_with fail;refine(CMP.out w3 B3).mono ?_;rintro e w4 ⟨v4,rfl,o4,b4⟩;obtain⟨A8,c8,rfl,-⟩:=o4.shape;have B4:=zaa B3 b4;have s4:=b4.size;go_wp2_with fail;refine⟨regrown_of_below B4,?_⟩
     (refine zdq rfl ?_;(repeat (go_big_quiet_step (fail)));refine wpQuiet_nil ?_)
     refine zdm rfl ?_;obtain⟨V,hV⟩:∃V,V=w4.alloc (.cells #[.int .i64 0,.slice none 0 0,.slice none 0 0,.slice none 0 0] 67):=⟨_,rfl⟩;have BV:Below w4.heap.size w4 V:=(by rw[hV];exact zaf _ _);have VX:BX V w4.heap.size (.int .i64 0) (.slice none 0 0) (.slice none 0 0) (.slice none 0 0):=(by rw[hV];exact BX.new _ _ _ _ _ _);have B5:=zaa B4 BV;go_wp2_with fail;rw[<-hV];clear hV;refine⟨regrown_of_below B5,?_⟩;obtain⟨x0,x1,x2,x3,xf,xl⟩:=VX;have VX:BX V w4.heap.size (.int .i64 0) (.slice none 0 0) (.slice none 0 0) (.slice none 0 0):=⟨x0,x1,x2,x3,xf,xl⟩;have xf0:=xf 0;have xf1:=xf 1;have xf2:=xf 2;have xf3:=xf 3;refine zev ?_;go_wp2_with fail
     try refine⟨rfl,?_⟩
     go_meet
     obtain⟨U_,hU_,TU⟩:=TB.mk_ (a0:=a0) VX (sl_O.2 ((o3.below b4 (by omega)).below BV (by omega))) (tS_O.2 ((OI.os o4).below BV (by omega))) B5 (by omega) (fun b hb=>by have:=hb.1;have:=hb.2;omega) (fun b hb=>by have:=hb.1;have:=hb.2;omega) (fun b hb hb2=>by have:=hb.1;have:=hb.2;have:=hb2.1;have:=hb2.2;omega);rw[<-hU_];exact⟨w4.heap.size,rfl,TU⟩
    obtain⟨V,hV⟩:∃V,V=w3.alloc (.cells #[.int .i64 0,.slice none 0 0,.slice none 0 0,.slice none 0 0] 67):=⟨_,rfl⟩;have BV:Below w3.heap.size w3 V:=(by rw[hV];exact zaf _ _);have VX:BX V w3.heap.size (.int .i64 0) (.slice none 0 0) (.slice none 0 0) (.slice none 0 0):=(by rw[hV];exact BX.new _ _ _ _ _ _);have B4:=zaa B3 BV;have s4:=BV.size;have s4':=VX.lt;go_wp2_with fail;rw[<-hV];clear hV;refine⟨regrown_of_below B4,zdm rfl ?_⟩;go_wp2_with fail;refine(CMP.out V B4).mono ?_;rintro e w4 ⟨v4,rfl,o4,b4⟩;obtain⟨A8,c8,rfl,-⟩:=o4.shape;have B5:=zaa B4 b4;go_wp2_with fail;refine⟨regrown_of_below B5,?_⟩
    (refine zdq rfl ?_;(repeat (go_big_quiet_step (fail)));refine wpQuiet_nil ?_)
    replace VX:=VX.later b4;obtain⟨x0,x1,x2,x3,xf,xl⟩:=VX;have VX:BX w4 w3.heap.size (.int .i64 0) (.slice none 0 0) (.slice none 0 0) (.slice none 0 0):=⟨x0,x1,x2,x3,xf,xl⟩;have xf0:=xf 0;have xf1:=xf 1;have xf2:=xf 2;have xf3:=xf 3;have s5:=b4.size;refine zev ?_;go_wp2_with fail
    try refine⟨rfl,?_⟩
    go_meet
    obtain⟨U_,hU_,TU⟩:=TB.mk_ (a0:=a0) VX (sl_O.2 ((o3.below BV (by omega)).below b4 (by omega))) (tS_O.2 (OI.os o4)) B5 (by omega) (fun b hb=>by have:=hb.1;have:=hb.2;omega) (fun b hb=>by have:=hb.1;have:=hb.2;omega) (fun b hb hb2=>by have:=hb.1;have:=hb.2;have:=hb2.1;have:=hb2.2;omega);rw[<-hU_];exact⟨w3.heap.size,rfl,TU⟩
   obtain⟨V,hV⟩:∃V,V=(wa.alloc (.cells #[.int .i64 0,.slice none 0 0,.slice none 0 0,.slice none 0 0] 67)).drew:=⟨_,rfl⟩;have BV:Below wa.heap.size wa V:=(by rw[hV];exact zae (zaf _ _) 1);have VX:BX V wa.heap.size (.int .i64 0) (.slice none 0 0) (.slice none 0 0) (.slice none 0 0):=(by rw[hV];exact(BX.new _ _ _ _ _ _).drew);have s4':=VX.lt;go_wp2_with fail;rw[<-hV];clear hV;refine⟨regrown_of_below BV,zdm rfl ?_⟩;go_wp2_with fail;refine(CC.out V BV).mono ?_;rintro e w3 ⟨v3,rfl,o3,b3⟩;obtain⟨A7,c7,rfl⟩:=o3.shape;have B3:=zaa BV b3;have s3:=b3.size;go_wp2_with fail;refine⟨regrown_of_below B3,zdm rfl ?_⟩;go_wp2_with fail;refine(CMP.out w3 B3).mono ?_;rintro e w4 ⟨v4,rfl,o4,b4⟩;obtain⟨A8,c8,rfl,-⟩:=o4.shape;have B5:=zaa B3 b4;have s4:=b4.size;go_wp2_with fail;refine⟨regrown_of_below B5,?_⟩
   (refine zdq rfl ?_;(repeat (go_big_quiet_step (fail)));refine wpQuiet_nil ?_)
   replace VX:=(VX.later b3).later b4;obtain⟨x0,x1,x2,x3,xf,xl⟩:=VX;have VX:BX w4 wa.heap.size (.int .i64 0) (.slice none 0 0) (.slice none 0 0) (.slice none 0 0):=⟨x0,x1,x2,x3,xf,xl⟩;have xf0:=xf 0;have xf1:=xf 1;have xf2:=xf 2;have xf3:=xf 3;refine zev ?_;go_wp2_with fail
   try refine⟨rfl,?_⟩
   go_meet
   obtain⟨U_,hU_,TU⟩:=TB.mk_ (a0:=a0) VX (sl_O.2 (o3.below b4 (by omega))) (tS_O.2 (OI.os o4)) B5 (by omega) (fun b hb=>by have:=hb.1;have:=hb.2;omega) (fun b hb=>by have:=hb.1;have:=hb.2;omega) (fun b hb hb2=>by have:=hb.1;have:=hb.2;have:=hb2.1;have:=hb2.2;omega);rw[<-hU_];exact⟨wa.heap.size,rfl,TU⟩
  case rest=>
   obtain⟨w0,rfl⟩:∃u_:Yw,u_=wc:=⟨_,rfl⟩;obtain⟨g,rfl,A1',n1',c1',A3',n3',c3',F1,F3,GX,O1,O3,Bw0,hg,hF1,hF3,h13⟩:=hcut;have hgl:=GX.lt;have sw0:=Bw0.size;have HF1:=Lib.hid hF1;have HF3:=Lib.hid hF3;have H13:=Lib.hid h13;have gfr:=GX.fr 2;have hns:=sl_R.1 (tNS.later q2 Ba);have hTL:(zcs nd p.1).length=k:=(by rw[zjd,HL.out,<-zej,HCN.out]);have HTL:=Lib.hid hTL;clear hF1 hF3 h13 hTL CC CMP CN PXa gy0 gy1 gy3 oz;have v2_:=GX.c2;go_wp2_with fail
   go_loopw [41] (fun j wr=>∃(t:Nat) (v:Value),j=.int .i64 t/\t<=k/\OS tN 169 wr (Iv w0.heap.size wr.heap.size) v ((zcs nd p.1).take t)/\Gr g 2 w0 wr v) (fun j _=>k-(intOf j).toNat)
   case atStart=>exact⟨0,_,rfl,by omega,OS.nil _ _ _ _,Gr.start v2_⟩
   case round=>
    obtain⟨t,v,rfl,ht,own2,G⟩:=hrel;have sr:=G.chg.size;have Bar:Below wa.heap.size wa wr:=Bw0.trans (G.chg.toBelow (fun b (hb:b=g)=>by omega) (by omega))
    by_cases hlt2:t<k
    ·have X:=List.getElem?_eq_getElem (show t<(M.nl nd n2).length by rw[HCN.out];exact hlt2);generalize (M.nl nd n2)[t]'(by rw[HCN.out];exact hlt2)=x at X;obtain⟨j,rfl,hj1,hj2,hj3,hj4⟩:=zfi X;obtain⟨bx,ox,rfl,hbx,hcx⟩:=zak rl (by omega);have e1:=((B12.trans (Bar.mono (by omega))).cell (by exact hbx)).trans (hcx t _ X);obtain⟨bb,o,kk,ka,kb,A6,c6,fs,rfl,hb,Y,y0,y1,y2,y3,hr6,hl6⟩:=zbg h (hns.below Bar) hj2
     have hTX:=Lib.hid (show (zcs nd p.1)[t]?=some (kk,ka,kb,zbc fs (zbn nd n2))by
      rw[zcs,HL.out,List.getElem?_map,hj1];show some ((zab p.1 j).1,_,_,_)=_
      rw[Y.out])
     have hfb:=Lib.hid (show ∀f∈fs,0<=f/\f<(n2:Int)from fun f hf=>by
      rw[<-HL.out];exact h.frs j (by rw[HL.out];exact hj2) f (by rw[Y.out];exact hf))
     obtain⟨V,hV⟩:∃V,V=wr.alloc (.cells #[.int .i64 kk,.int .i64 ka,.int .i64 kb,.slice A6 fs.length c6] 169):=⟨_,rfl⟩;have BV:Below wr.heap.size wr V:=(by rw[hV];exact zaf _ _);have VX:BX V wr.heap.size (.int .i64 kk) (.int .i64 ka) (.int .i64 kb) (.slice A6 fs.length c6):=(by rw[hV];exact BX.new _ _ _ _ _ _);have HV:=Lib.hid hV;have BaV:Below wa.heap.size wa V:=Bar.trans (BV.mono (by omega));have CM2:=Lib.hid (zlw A6 A5 fs.length c6 n2 c5 fs (zbn nd n2) V ((hr6.more Bar.size).later BV) (rto.later BaV) (by omega) (by omega) hfb);have hjn:(j:Int)<(n2:Int):=(by omega);have htk:(t:Int)<(k:Int):=(by omega);have hxl:((zcs nd p.1).take t).length<=100000000:=(by rw[List.length_take];omega);have hbw:bb<wr.heap.size:=(by omega);have PXr:=(PX.later Ba).below Bar (by omega);obtain⟨z0,z1,z2,z3,zf,zl⟩:=PXr;clear hV X hcx hj1 hj3 hj4;go_wp2_with fail;rw[<-HV.out];refine CM2.out.mono ?_;rintro e w3 ⟨v8,rfl,o8,b8⟩;obtain⟨A8,c8,e8,-⟩:=o8.shape;obtain⟨m8,hm8⟩:∃m,(zbc fs (zbn nd n2)).length=m:=⟨_,rfl⟩;rw[hm8]at e8;subst e8;have HM8:=Lib.hid hm8;have Br3:Below wr.heap.size wr w3:=BV.trans (b8.mono BV.size);have V3:=VX.later b8;have s3:=b8.size;have sV:=BV.size;have vl:=VX.lt;obtain⟨x0,x1,x2,x3,xf,xl⟩:=V3;have xf3:=xf 3;obtain⟨Q,hQ⟩:∃Q,Q=w3.setCell ⟨wr.heap.size,3,none⟩ (.slice A8 m8 c8):=⟨_,rfl⟩;have chQ:Chg (fun b=>b=wr.heap.size) w3 Q:=(by rw[hQ];exact Chg.set _ _ _ _ rfl);have u0:Q.cell? ⟨wr.heap.size,0,none⟩=some (.int .i64 kk):=(by rw[hQ];simp[go_sem,x0]);have u1:Q.cell? ⟨wr.heap.size,1,none⟩=some (.int .i64 ka):=(by rw[hQ];simp[go_sem,x1]);have u2:Q.cell? ⟨wr.heap.size,2,none⟩=some (.int .i64 kb):=(by rw[hQ];simp[go_sem,x2]);have u3:Q.cell? ⟨wr.heap.size,3,none⟩=some (.slice A8 m8 c8):=(by rw[hQ];simp[go_sem,x3]);have sQ:=chQ.size;have eQ:Q.heap.size=w3.heap.size:=(by rw[hQ];simp);have own3:=(own2.below Br3 (Nat.le_refl _)).chg chQ (fun b hb (e:b=_)=>by have:=hb.2;omega);have G3:=(G.below Br3 (by omega)).row chQ (by omega) (fun b (hb:b=_)=>by omega);have hm:m8=(zbc fs (zbn nd n2)).length:=hm8.symm;have on:tN.O Q (Iv V.heap.size w3.heap.size) [.int .i64 kk,.int .i64 ka,.int .i64 kb,.slice A8 m8 c8] (kk,ka,kb,zbc fs (zbn nd n2)):=tN_O.2 ⟨A8,m8,c8,_,rfl,tS_O.2 ((OI.os o8).chg chQ (fun b hb (e:b=_)=>by have:=hb.1;omega)),fun b hb=>hb⟩;have gc:=G3.cel;have HQ:=Lib.hid hQ;have hpt:=Lib.hid (M.take_at hTX.out);have EQ:=Lib.hid eQ;clear hQ hm hm8 eQ;go_upto_region 13 with fail
     rw[<-HQ.out];clear x0 x1 x2 x3 xf xf3 z0 z1 z2 z3 zf y0 y1 y2 y3 e1;go_wp2_with (at_builtin;refine zc2 zgh #[.int .i64 kk,.int .i64 ka,.int .i64 kb,.slice A8 m8 c8] rfl _ _ rfl own3 on (fun b hb hb2=>by have:=hb.2;have:=hb2.1;omega) rfl rfl (by unfold maxLen;omega) (by omega) ?_;intro v3 w4 own4 ch4;obtain⟨A7,c7,e7⟩:=own4.shape;obtain⟨n7,hn7⟩:∃n7,n7=((zcs nd p.1).take t++[(kk,ka,kb,zbc fs (zbn nd n2))]).length:=⟨_,rfl⟩;rw[<-hn7]at e7;subst e7;have HN7:=Lib.hid hn7;clear hn7;have G4:=G3.row ch4 (by omega) (fun b hb=>⟨hb.1,by have:=hb.1;omega⟩);have hc4:=G4.cel;have hf4:w4.frozen? ⟨g,2,none⟩=false:=(by rw[G4.fro];exact gfr));go_roundw
     case rel=>
      have s4:=ch4.size;refine⟨t+1,_,by go_num,by omega,?_,G4.set gfr _⟩;rw[hpt.out];refine(own4.chg (Chg.set (F:=fun b=>b=g) w4 g 2 _ rfl) (fun b hb (e:b=g)=>?_)).wide (fun b hb=>?_)
      ·rcases hb with hb|hb|hb
       ·have:=hb.1;omega
       ·have:=hb.1;omega
       omega
      have e9:(w4.setCell ⟨g,2,none⟩ (.slice A7 n7 c7)).heap.size=w4.heap.size:=(by simp);rcases hb with hb|hb|hb
      ·exact⟨hb.1,by have:=hb.2;omega⟩
      ·exact⟨by have:=hb.1;omega,by have:=hb.2;omega⟩
      exact⟨by omega,by omega⟩
     case measure=>simp[intOf];omega
    obtain rfl:t=k:=by omega
    rw[List.take_of_length_le (by rw[HTL.out];exact Nat.le_refl _)]at own2;obtain⟨A2',c2',e2'⟩:=own2.shape;rw[HTL.out]at e2';subst e2';have b0:wr.cell? ⟨g,0,none⟩=some (.int .i64 a0):=(by rw[G.oth 0 (by decide)];exact GX.c0);have b1_:wr.cell? ⟨g,1,none⟩=some (.slice A1' n1' c1'):=(by rw[G.oth 1 (by decide)];exact GX.c1);have b2_:=G.cel;have b3_:wr.cell? ⟨g,3,none⟩=some (.slice A3' n3' c3'):=(by rw[G.oth 3 (by decide)];exact GX.c3);have Zr:=(ZX.later Ba).below Bar (by omega);obtain⟨U,hU,ZU,chU,sU⟩:=Zr.set (.int .i64 a0) (.slice A1' n1' c1') (.slice A2' t c2') (.slice A3' n3' c3');have HU:=Lib.hid hU;have BU:Below w.heap.size w U:=((B0.trans (Ba.mono (by omega))).trans (Bar.mono (by omega))).trans (chU.toBelow (fun b (hb:b=_)=>by omega) (by omega));have hz:∀b,(Iv w0.heap.size wr.heap.size) b->¬b=w.heap.size+1:=fun b hb e=>by have:=hb.1;omega
    have hr1:∀b,F1 b->¬b=w.heap.size+1:=fun b hb e=>by have:=(HF1.out b hb).1;omega
    have hr3:∀b,F3 b->¬b=w.heap.size+1:=fun b hb e=>by have:=(HF3.out b hb).1;omega
    have o1:=tSS.ochg (tSS.ochg O1 G.chg (fun b hb (e:b=g)=>(HF1.out b hb).2.2 e)) chU hr1;have o3:=tS.ochg (tS.ochg O3 G.chg (fun b hb (e:b=g)=>(HF3.out b hb).2.2 e)) chU hr3;have o2:=tNS.ochg (sl_O.2 own2) chU hz
    have hOUT:=Lib.hid (show tP.O U (Iv w.heap.size U.heap.size) [.int .i64 a0,.slice A1' n1' c1',.slice A2' t c2',.slice A3' n3' c3'] (a0,tb,(zbo nd p).1,(zbo nd p).2)from by
     have e3:zbc p.2 (zbn nd n2)=(zbo nd p).2:=(by rw[zbo,HL.out]);rw[e3]at o3;exact tP_O.2 ⟨_,_,_,_,_,_,_,_,_,F1,Iv w0.heap.size wr.heap.size,F3,rfl,o1,o2,o3,fun b hb=>⟨by have:=(HF1.out b hb).1;omega,by have:=(HF1.out b hb).2.1;omega⟩,fun b hb=>⟨by have:=hb.1;omega,by have:=hb.2;omega⟩,fun b hb=>⟨by have:=(HF3.out b hb).1;omega,by have:=(HF3.out b hb).2.1;omega⟩,fun b hb hb2=>by have:=(HF1.out b hb).2.1;have:=hb2.1;omega,H13.out,fun b hb hb2=>by have:=(HF3.out b hb2).2.1;have:=hb.1;omega⟩)
    obtain⟨t0,t1,t2,t3,tf,tl⟩:=Zr;have u0:=tf 0;have u1:=tf 1;have u2:=tf 2;have u3:=tf 3;obtain⟨d0,d1,d2,d3,df,dl⟩:=ZU;have f0:=df 0;have f1:=df 1;have f2:=df 2;have f3:=df 3;clear hU sU o1 o2 o3 hz hr1 hr3;go_wp2_with fail;rw[<-HU.out];refine bodyPost_ret (v:=.agg #[.int .i64 a0,.slice A1' n1' c1',.slice A2' t c2',.slice A3' n3' c3']) (by simp[results,Tryz.results95,go_sem,d0,d1,d2,d3,f0,f1,f2,f3]) rfl ?_;exact⟨_,_,_,_,_,_,_,_,_,rfl,hOUT.out,BU⟩
end
end
section
theorem znz:EI Tryz.prog 76 134 (.agg #[.int .i64 0,.int .i64 0]) 2 16:=⟨Tryz.underlying76,by kernel_rfl,rfl,by decide⟩
theorem zu0{w w':Yw}{F:Nat->Prop}{base size n:Nat}{e:TypeId}{v:Value}{cs:List Value}(h:w.ownsRow base e size v n cs)(hc:Chg F w w')(hF:∀b,F b->b<base):w'.ownsRow base e size v n cs:=by
 refine⟨h.1,?_⟩;rcases h.2 with h2|⟨g,cap,cur,hv,hg,hh,r⟩
 ·exact .inl h2
 exact .inr ⟨g,cap,cur,hv,hg,by rw[hc.block g (Array.getElem?_eq_some_iff.1 hh).1 (fun hf=>by have:=hF g hf;omega)];exact hh,r⟩
section
variable {tb:List (List Int)} {p:NO} {R:Nat->Nat} {w:Yw} {ND:NO->Nat->Bool}
theorem zva(h:M.WP tb p R)(ho:p.2.length<=1000)(hND:∀p j,ND p j=true↔M.Rch p.1 p.2 j){N:Nat}(hN1:N<=1000000000)(hN:zbk ND tb (zah ND tb p N)=none)(a0:Int)(A1:Yo)(n1 c1:Nat)(A2:Yo)(n2 c2:Nat)(A3:Yo)(n3 c3:Nat)(k1:tSS.R w w.heap.size [.slice A1 n1 c1] tb)(k2:tNS.R w w.heap.size [.slice A2 n2 c2] p.1)(k3:tS.R w w.heap.size [.slice A3 n3 c3] p.2):
 Calls Tryz.prog 37 #[.agg #[.int .i64 a0,.slice A1 n1 c1,.slice A2 n2 c2,.slice A3 n3 c3]] w fun e w'=>∃A1' n1' c1' A2' n2' c2' A3' n3' c3' lv,e=.returned (.tuple #[.agg #[.int .i64 a0,.slice A1' n1' c1',.slice A2' n2' c2',.slice A3' n3' c3'],lv])/\tP.O w' (Iv w.heap.size w'.heap.size) [.int .i64 a0,.slice A1' n1' c1',.slice A2' n2' c2',.slice A3' n3' c3'] (a0,tb,(zbo (ND (zah ND tb p N)) (zah ND tb p N)).1,(zbo (ND (zah ND tb p N)) (zah ND tb p N)).2)/\Below w.heap.size w w':=by
 obtain⟨W,hW,B0,sW,PX,ZX⟩:=zfz w (.int .i64 a0) (.slice A1 n1 c1) (.slice A2 n2 c2) (.slice A3 n3 c3) (.int .i64 0) (.slice none 0 0) (.slice none 0 0) (.slice none 0 0) 67 67;have HW:=Lib.hid hW;obtain⟨V,hV⟩:∃V,V=W.alloc (.cells #[] 134):=⟨_,rfl⟩;have BV:Below W.heap.size W V:=by rw[hV];exact zaf _ _
 have O0:V.ownsRow W.heap.size 134 2 (.slice (some ⟨w.heap.size+1+1,0,none⟩) 0 0) 0 []:=by
  rw[hV,show w.heap.size+1+1=W.heap.size by omega];exact World.ownsRow_made _ _ _ (Nat.le_refl _) (by simp[maxLen]) rfl
 have HV:=Lib.hid hV;have B1:=zaa B0 BV;have PV:=PX.later BV;have ZV:=ZX.later BV;have q0:PRd A1 n1 c1 A2 n2 c2 A3 n3 c3 tb p V:=⟨tSS.later k1 B1,tNS.later k2 B1,tS.later k3 B1⟩;have lW:w.heap.size+1<W.heap.size:=by omega
 have sV:=BV.size;have HO:=Lib.hid ho;have HND:=Lib.hid hND;have HN:=Lib.hid hN;clear hW hV sW k1 k2 k3 ho hND hN PX ZX
 go_enter Tryz.func37,Tryz.ntmps37
 go_wp2_with fail;rw[<-HW.out,<-HV.out]
 go_loopg [4] N (fun gk v wr=>∃(s:Nat) (xs:List Value) (A1':Yo) (n1' c1':Nat) (A2':Yo) (n2' c2':Nat) (A3':Yo) (n3' c3':Nat),s+gk=N/\wr.ownsRow W.heap.size 134 2 v s xs/\PRd A1' n1' c1' A2' n2' c2' A3' n3' c3' tb (zah ND tb p s) wr/\BX wr w.heap.size (.int .i64 a0) (.slice A1' n1' c1') (.slice A2' n2' c2') (.slice A3' n3' c3')/\BX wr (w.heap.size+1) (.int .i64 0) (.slice none 0 0) (.slice none 0 0) (.slice none 0 0)/\Below w.heap.size w wr/\W.heap.size<=wr.heap.size)
 case atStart=>exact⟨0,[],A1,n1,c1,A2,n2,c2,A3,n3,c3,by omega,O0,q0,PV,ZV,B1,sV⟩
 case round=>
  obtain⟨s,xs,A1',n1',c1',A2',n2',c2',A3',n3',c3',hs,own,PR,PB,ZB,Bw,sw⟩:=hrel;obtain⟨R',hW',hl1,hl2⟩:=zhp HND.out h s;obtain⟨pp,hpp⟩:∃q,zah ND tb p s=q:=⟨_,rfl⟩;rw[hpp]at hW' hl2 PR;have HPP:=Lib.hid hpp;have ho2:pp.2.length<=1000:=by rw[hl2];exact HO.out
  have CX:=Lib.hid (zuu hW' ho2 HND.out a0 A1' n1' c1' A2' n2' c2' A3' n3' c3' PR.1 PR.2.1 PR.2.2);obtain⟨z0,z1,z2,z3,zf,zl⟩:=PB;have PB:BX wr w.heap.size (.int .i64 a0) (.slice A1' n1' c1') (.slice A2' n2' c2') (.slice A3' n3' c3'):=⟨z0,z1,z2,z3,zf,zl⟩;clear hpp hl1 hl2;go_wp2_with fail;refine CX.out.mono ?_;rintro e w2 ⟨⟨hst,rfl⟩|⟨q,r,i,A1'',n1'',c1'',A2'',n2'',c2'',A3'',n3'',c3'',hst,rfl,RK⟩,b2⟩
  ·obtain⟨Q,hQ⟩:∃Q,Q=(w2.alloc (.cells #[.int .i64 0,.int .i64 0] 134)).alloc (.cells #[.int .i64 a0,.slice A1' n1' c1',.slice A2' n2' c2',.slice A3' n3' c3'] 67):=⟨_,rfl⟩;have BQ:Below w2.heap.size w2 Q:=(by rw[hQ];exact zaa (zaf _ _) (zaf _ _));have HQ:=Lib.hid hQ;have Br:=zaa b2 BQ;have CT:=Lib.hid (zuz hW' ho2 (HND.out pp) a0 A1' n1' c1' A2' n2' c2' A3' n3' c3' (tSS.later PR.1 Br) (tNS.later PR.2.1 Br) (tS.later PR.2.2 Br));have hE:=Lib.hid (show zah ND tb p N=pp by rw[<-HPP.out];exact(zhs (by rw[HPP.out];exact hst) HN.out).symm);clear hQ z0 z1 z2 z3 zf;obtain⟨z0,z1,z2,z3,zf,zl⟩:=PB.later b2;go_wp2_with fail;rw[<-HQ.out];refine CT.out.mono ?_;rintro e w3 ⟨B1',m1,d1,B2',m2,d2,B3',m3,d3,rfl,ot,b3⟩;have Br3:=zaa Br b3;have Z3:=ZB.later Br3;obtain⟨U,hU,ZU,chU,sU⟩:=Z3.set (.int .i64 a0) (.slice B1' m1 d1) (.slice B2' m2 d2) (.slice B3' m3 d3);have sB:=Br.size;have BU:Below w.heap.size w U:=(Bw.trans (Br3.mono (by omega))).trans (chU.toBelow (fun b (hb:b=_)=>by omega) (by have:=Br3.size;omega))
   have OU:=Lib.hid (show tP.O U (Iv w.heap.size U.heap.size) [.int .i64 a0,.slice B1' m1 d1,.slice B2' m2 d2,.slice B3' m3 d3] (a0,tb,(zbo (ND (zah ND tb p N)) (zah ND tb p N)).1,(zbo (ND (zah ND tb p N)) (zah ND tb p N)).2)by
    rw[hE.out];exact tP.oiv (tP.ochg ot chU (fun b hb (e:b=_)=>by have:=hb.1;omega)) (by omega) (by omega))
   have HU:=Lib.hid hU;obtain⟨t0,t1,t2,t3,tf,tl⟩:=Z3;have tf0:=tf 0;have tf1:=tf 1;have tf2:=tf 2;have tf3:=tf 3;obtain⟨d0_,d1_,d2_,d3_,df,dl⟩:=ZU;have f0:=df 0;have f1:=df 1;have f2:=df 2;have f3:=df 3;clear hU sU ot z0 z1 z2 z3 zf;go_wp2_with fail;rw[<-HU.out];refine bodyPost_ret (v:=.tuple #[.agg #[.int .i64 a0,.slice B1' m1 d1,.slice B2' m2 d2,.slice B3' m3 d3],u4]) (by simp[results,Tryz.results37,go_sem,d0_,d1_,d2_,d3_,f0,f1,f2,f3]) rfl ?_;exact⟨_,_,_,_,_,_,_,_,_,_,rfl,OU.out,BU⟩
  have hsN:=zmj HN.out (show zbk ND tb (zah ND tb p s)=some q by rw[HPP.out];exact hst);have HS:=Lib.hid (show zah ND tb p (s+1)=q by rw[zah,HPP.out,hst];rfl);obtain⟨Q1,hQ1⟩:∃Q,Q=w2.alloc (.cells #[.int .i64 r,.int .i64 i] 134):=⟨_,rfl⟩;obtain⟨Q,hQ⟩:∃Q,Q=Q1.alloc (.cells #[.int .i64 a0,.slice A1'' n1'' c1'',.slice A2'' n2'' c2'',.slice A3'' n3'' c3''] 67):=⟨_,rfl⟩;have s2:=b2.size;have BQ1:Below w2.heap.size w2 Q1:=by rw[hQ1];exact zaf _ _
  have BQ2:Below Q1.heap.size Q1 Q:=by rw[hQ];exact zaf _ _
  have sQ1:Q1.heap.size=w2.heap.size+1:=by rw[hQ1];simp
  have BQ:=zaa BQ1 BQ2
  have QX:BX2 Q w2.heap.size (.int .i64 r) (.int .i64 i):=by
   refine BX2.later ?_ BQ2;rw[hQ1];exact⟨by simp[go_sem],by simp[go_sem],fun j=>by simp[go_sem],by simp⟩
  have QA:BX Q (w2.heap.size+1) (.int .i64 a0) (.slice A1'' n1'' c1'') (.slice A2'' n2'' c2'') (.slice A3'' n3'' c3''):=by
   rw[hQ,<-sQ1];exact BX.new _ _ _ _ _ _
  rw[hQ1]at hQ;have HQ:=Lib.hid hQ;have Br:=zaa b2 BQ;have PQ:=PB.later Br;have ZQ:=ZB.later Br;have own2:=zj0 own Br;have hob:=fun k (hk:u4.ownBlock=some k)=>World.ownsRow.lt own k hk
  have HOB:=Lib.hid hob;have HST:=Lib.hid hst;have sQ:=BQ.size;have hlo:W.heap.size<=Q.heap.size:=by omega
  have hxs:s+1<=maxLen:=by unfold maxLen;omega
  have hxb:(s+1)*16<=140737488355328:=by omega
  have RK:=Lib.hid RK;obtain⟨x0,x1,xf,xl⟩:=QX;clear hQ hQ1 sQ1 z0 z1 z2 z3 zf hob hst;go_upto_region 5 with fail
  rw[<-HQ.out];go_wp2_with (at_builtin;refine zj2 znz #[.int .i64 r,.int .i64 i] rfl _ _ rfl own2 rfl rfl rfl (by simp[Value.oneCell']) hxs hxb hlo ?_;intro v3 w4 own4 gr4 bel4;have ch4:Chg (fun b=>W.heap.size<=b/\b<wr.heap.size) Q w4:=Chg.of_grown gr4 (fun k hk=>⟨(HOB.out k hk).1,(HOB.out k hk).2⟩);obtain⟨y0,y1,y2,y3,yf,yl⟩:=QA.chg ch4 (fun hf=>(by omega));obtain⟨z0,z1,z2,z3,zf,zl⟩:=PQ.chg ch4 (fun hf=>(by omega));have zf0:=zf 0;have zf1:=zf 1;have zf2:=zf 2;have zf3:=zf 3;clear x0 x1 xf);have P4:BX w4 w.heap.size (.int .i64 a0) (.slice A1' n1' c1') (.slice A2' n2' c2') (.slice A3' n3' c3'):=⟨z0,z1,z2,z3,zf,zl⟩;obtain⟨U,hU,PU,chU,sU⟩:=P4.set (.int .i64 a0) (.slice A1'' n1'' c1'') (.slice A2'' n2'' c2'') (.slice A3'' n3'' c3'')
  go_roundg (gk-1)
  case measure=>omega
  case rel=>
   rw[<-hU];have s4:=ch4.size;have cT:Chg (fun b=>b<wr.heap.size) w2 U:=(Chg.of_below BQ _).trans ((ch4.wide (fun b hb=>hb.2)).trans (chU.wide (fun b (hb:b=_)=>by omega)));exact⟨s+1,_,A1'',n1'',c1'',A2'',n2'',c2'',A3'',n3'',c3'',by omega,zu0 own4 chU (fun b (hb:b=_)=>by omega),by rw[HS.out];exact RK.out U cT,PU,(ZQ.chg ch4 (fun hf=>by omega)).chg chU (by omega),(Bw.trans (Br.mono (by omega))).trans ((ch4.toBelow (fun b hb=>by omega) (by omega)).trans (chU.toBelow (fun b (hb:b=_)=>by omega) (by omega))),by omega⟩
end
end
end Go.Proofs.YtifeldeikhmckaaGreat
