import Derived.Test.YtifeldeikhmckaaGreatFnMutedG10
import Derived.Test.YtifeldeikhmckaaGreatFnMutedG9
import Derived.Test.YtifeldeikhmckaaGreatFnMutedG8
import Derived.Test.YtifeldeikhmckaaGreatFnMutedG7
import Derived.Test.YtifeldeikhmckaaGreatFnMutedG5
set_option linter.unusedVariables false
set_option linter.unusedSimpArgs false
set_option maxRecDepth 100000
set_option maxHeartbeats 4000000
namespace Go.Proofs.YtifeldeikhmckaaGreat
open Go.RowKit Go.Sort
section
structure BX2 (w:Yw) (g:Nat) (z0 z1:Value):Prop where
 c0:w.cell? ⟨g,0,none⟩=some z0
 c1:w.cell? ⟨g,1,none⟩=some z1
 fr:∀j,w.frozen? ⟨g,j,none⟩=false
 lt:g<w.heap.size
theorem BX2.later{w w':Yw}{g:Nat}{z0 z1:Value}(h:BX2 w g z0 z1)(hb:Below w.heap.size w w'):BX2 w' g z0 z1:=
 ⟨(hb.cell (by exact h.lt)).trans h.c0,(hb.cell (by exact h.lt)).trans h.c1,fun j=>(hb.frozen (by exact h.lt)).trans (h.fr j),Cq h.lt hb.size⟩
theorem BX2.chg{w w':Yw}{F:Nat->Prop}{g:Nat}{z0 z1:Value}(h:BX2 w g z0 z1)(hc:Chg F w w')(hn:¬F g):BX2 w' g z0 z1:=
 ⟨(hc.cell h.lt hn).trans h.c0,(hc.cell h.lt hn).trans h.c1,fun j=>(hc.frozen h.lt hn).trans (h.fr j),Cq h.lt hc.size⟩
theorem BX2.set{w:Yw}{g:Nat}{z0 z1:Value}(h:BX2 w g z0 z1)(v0 v1:Value):∃U,U=(w.setCell ⟨g,0,none⟩ v0).setCell ⟨g,1,none⟩ v1/\BX2 U g v0 v1/\Chg (fun b=>b=g) w U/\U.heap.size=w.heap.size:=by
 refine⟨_,rfl,⟨by simp[go_sem,h.c0],by simp[go_sem,h.c1],fun j=>by simp[go_sem,h.fr],by simpa using h.lt⟩,(Chg.set (F:=fun b=>b=g) _ g 0 v0 rfl).trans (Chg.set _ g 1 v1 rfl),by simp⟩
theorem BX2.drew{w:Yw}{g:Nat}{z0 z1:Value}(h:BX2 w g z0 z1):BX2 w.drew g z0 z1:=⟨h.c0,h.c1,h.fr,h.lt⟩
theorem zwb(w:Yw)(z0 z1 z2 z3 x0 x1 y0 y1 y2 y3:Value)(t t' t'':TypeId):∃W,W=((w.alloc (.cells #[z0,z1,z2,z3] t)).alloc (.cells #[x0,x1] t')).alloc (.cells #[y0,y1,y2,y3] t'')/\Below w.heap.size w W/\W.heap.size=w.heap.size+3/\BX W w.heap.size z0 z1 z2 z3/\BX2 W (w.heap.size+1) x0 x1/\BX W (w.heap.size+1+1) y0 y1 y2 y3:=by
 refine⟨_,rfl,zaa (zaa (zar w _) (zar _ _)) (zar _ _),by simp,(((BX.new w z0 z1 z2 z3 t).later (zar _ _)).later (zar _ _)),?_,?_⟩
 ·exact⟨by simp[go_sem],by simp[go_sem],fun j=>by simp[go_sem],by simp⟩
 have:=BX.new ((w.alloc (.cells #[z0,z1,z2,z3] t)).alloc (.cells #[x0,x1] t')) y0 y1 y2 y3 t'';simpa using this
section
variable {ND:NO->Nat->Bool} {tb:List (List Int)} {p:NO}
theorem zwc(h:∀j,j<p.1.length->zbb (ND p) p.1 j=0):zbs ND tb p=none:=by
 rw[zbs,Option.map_eq_none_iff,zha,List.find?_eq_none];intro j hj;rw[h j (Gj.1 hj)];decide
theorem zwd{i:Nat}(hi:i<p.1.length)(h:zbb (ND p) p.1 i≠0)(h0:∀j,j<i->zbb (ND p) p.1 j=0):zbs ND tb p=some (zbz (ND p) tb p i (zbb (ND p) p.1 i)):=by
 have:zha (ND p) p.1=some i:=by
  rw[zha,List.find?_range_eq_some];exact⟨by simpa using h,Gj.2 hi,fun j hj=>by simp[h0 j hj]⟩
 rw[zbs,this]
 rfl
end
theorem Chg.drewL{F:Nat->Prop}{w T:Yw}(h:Chg F w.drew T):Chg F w T:=⟨h.os,h.tape,h.output,h.size,h.block⟩
theorem zo2{w W:Yw}(B0:Below w.heap.size w W)(lW:w.heap.size+1+1<W.heap.size){x0 x1 y0 y1 y2 y3:Value}(RX:BX2 W (w.heap.size+1) x0 x1)(ZX:BX W (w.heap.size+1+1) y0 y1 y2 y3)(u0 u1 v0 v1 v2 v3:Value)(V:Yw)(BV:Below W.heap.size W V):
 ∃U,U=(((((V.setCell ⟨w.heap.size+1,0,none⟩ u0).setCell ⟨w.heap.size+1,1,none⟩ u1).setCell ⟨w.heap.size+1+1,0,none⟩ v0).setCell ⟨w.heap.size+1+1,1,none⟩ v1).setCell ⟨w.heap.size+1+1,2,none⟩ v2).setCell ⟨w.heap.size+1+1,3,none⟩ v3/\BX2 U.drew (w.heap.size+1) u0 u1/\BX U.drew (w.heap.size+1+1) v0 v1 v2 v3/\Below w.heap.size w U.drew/\Chg (fun b=>b=w.heap.size+1\/b=w.heap.size+1+1) V U:=by
 have RV:=RX.later BV;have ZV:=ZX.later BV;obtain⟨U1,hU1,R1,ch1,s1⟩:=RV.set u0 u1;obtain⟨U2,hU2,Z2,ch2,s2⟩:=(ZV.chg ch1 (by omega)).set v0 v1 v2 v3;have c:Chg (fun b=>b=w.heap.size+1\/b=w.heap.size+1+1) V U2:=(ch1.wide (fun b (hb:b=_)=>.inl hb)).trans (ch2.wide (fun b (hb:b=_)=>.inr hb));have sV:=BV.size;exact⟨U2,by rw[hU2,hU1],(R1.chg ch2 (by omega)).drew,Z2.drew,zad ((B0.trans (BV.mono (by omega))).trans (c.toBelow (fun b hb=>by omega) (by omega))) 1,c⟩
section
variable {tb:List (List Int)} {p:NO} {R:Nat->Nat} {w:Yw} {ND:NO->Nat->Bool}
theorem zwe(h:M.WP tb p R)(ho:p.2.length<=1000)(hND:∀p j,ND p j=true↔M.Rch p.1 p.2 j)(a0:Int)(A1:Yo)(n1 c1:Nat)(A2:Yo)(n2 c2:Nat)(A3:Yo)(n3 c3:Nat)(k1:tSS.R w w.heap.size [.slice A1 n1 c1] tb)(k2:tNS.R w w.heap.size [.slice A2 n2 c2] p.1)(k3:tS.R w w.heap.size [.slice A3 n3 c3] p.2):
 Calls Tryz.prog 94 #[.agg #[.int .i64 a0,.slice A1 n1 c1,.slice A2 n2 c2,.slice A3 n3 c3]] w fun e w'=>((zbs ND tb p=none/\e=.returned (.tuple #[.agg #[.int .i64 0,.int .i64 0],.agg #[.int .i64 a0,.slice A1 n1 c1,.slice A2 n2 c2,.slice A3 n3 c3],.bool false]))\/
  (∃(q:NO) (r i:Int) (A1':Yo) (n1' c1':Nat) (A2':Yo) (n2' c2':Nat) (A3':Yo) (n3' c3':Nat),zbs ND tb p=some q/\e=.returned (.tuple #[.agg #[.int .i64 r,.int .i64 i],.agg #[.int .i64 a0,.slice A1' n1' c1',.slice A2' n2' c2',.slice A3' n3' c3'],.bool true])/\∀T,Chg (fun b=>b<w.heap.size) w' T->PRd A1' n1' c1' A2' n2' c2' A3' n3' c3' tb q T))/\Below w.heap.size w w':=by
 have hl:=(sl_R.1 k2).cap.1;have hlen:=h.len;have hn2:n2<=24:=by omega
 obtain⟨W,hW,B0,sW,PX,RX,ZX⟩:=zwb w (.int .i64 a0) (.slice A1 n1 c1) (.slice A2 n2 c2) (.slice A3 n3 c3) (.int .i64 0) (.int .i64 0) (.int .i64 0) (.slice none 0 0) (.slice none 0 0) (.slice none 0 0) 67 134 67;have HW:=Aq hW;have lW:w.heap.size+1+1<W.heap.size:=by omega
 have q1:=tSS.later k1 B0;have q2:=tNS.later k2 B0;have q3:=tS.later k3 B0;have HL:=Aq hl;have HO:=Aq ho;have HND:=Aq hND;clear hW sW k1 k2 k3 hl ho hND
 go_enter Tryz.func94,Tryz.ntmps94
 go_wp2_with fail;rw[<-HW.out];refine(zfm _ _ _ _).mono ?_;rintro e w' ⟨rfl,rfl⟩;go_wp2_with fail
 go_loopw [11] (fun j wr=>∃k:Nat,j=.int .i64 k/\k<=n2/\Hid (∀j,j<k->zbb (ND p) p.1 j=0)/\Below W.heap.size W wr) (fun j _=>n2-(intOf j).toNat)
 case atStart=>exact⟨0,rfl,by omega,Aq (fun j hj=>by omega),Aw _ _⟩
 case round=>
  obtain⟨k,rfl,hk,H,Bw⟩:=hrel;obtain⟨z0,z1,z2,z3,zf,zl⟩:=PX.later Bw;have sw:=Bw.size
  by_cases hlt:k<n2
  ·have CR:=Aq (zwa h HO.out (HND.out p) a0 A1 n1 c1 A2 n2 c2 A3 n3 c3 k (tSS.later q1 Bw) (tNS.later q2 Bw) (tS.later q3 Bw) hlt);have hkn:(k:Int)<(n2:Int):=(by omega);go_wp2_with fail;refine CR.out.mono ?_;rintro e w2 ⟨⟨hr,rfl⟩|⟨hr,A1',n1',c1',A2',n2',c2',A3',n3',c3',rfl,RK⟩,b2⟩
   ·have HN:=Aq (show ∀j,j<k+1->zbb (ND p) p.1 j=0 from fun j hj=>by
     rcases Nat.lt_or_eq_of_le (Nat.le_of_lt_succ hj)with h1|rfl
     ·exact H.out j h1
     exact hr)
    clear hr;go_wp2_with fail;go_roundw
    case rel=>exact⟨k+1,by go_num,by omega,HN,zaa (zaa Bw b2) (zar _ _)⟩
    case measure=>simp[intOf];omega
   have HS:=Aq (zwd (tb:=tb) (by have:=HL.out;omega) hr H.out);obtain⟨r,hr_⟩:∃r,zbb (ND p) p.1 k=r:=⟨_,rfl⟩;rw[hr_]at hr RK HS ⊢;have g:(r != 0)=true:=(by simpa using hr);have HR_:=Aq hr_;have B2:=zaa Bw b2;have RK:=Aq RK;obtain⟨V,hV⟩:∃V,V=w2.alloc (.cells #[.int .i64 a0,.slice A1' n1' c1',.slice A2' n2' c2',.slice A3' n3' c3'] 67):=⟨_,rfl⟩;have BV:Below w2.heap.size w2 V:=(by rw[hV];exact zar _ _);have VX:BX V w2.heap.size (.int .i64 a0) (.slice A1' n1' c1') (.slice A2' n2' c2') (.slice A3' n3' c3'):=(by rw[hV];exact BX.new _ _ _ _ _ _);have HV:=Aq hV;have B3:=zaa B2 BV;clear hr_ hV z0 z1 z2 z3 zf;obtain⟨v0,v1,v2,v3,vf,vl⟩:=VX;obtain⟨x0,x1,xf,xl⟩:=RX.later B3;obtain⟨y0,y1,y2,y3,yf,yl⟩:=ZX.later B3;have xf0:=xf 0;have xf1:=xf 1;have yf0:=yf 0;have yf1:=yf 1;have yf2:=yf 2;have yf3:=yf 3;have s3:=B2.size;obtain⟨U,hU,RU,ZU,BU,cU⟩:=zo2 B0 lW RX ZX (.int .i64 r) (.int .i64 k) (.int .i64 a0) (.slice A1' n1' c1') (.slice A2' n2' c2') (.slice A3' n3' c3') V B3;have HU:=Aq hU
   have PR:=Aq (show ∀T,Chg (fun b=>b<w.heap.size) U.drew T->PRd A1' n1' c1' A2' n2' c2' A3' n3' c3' tb (zbz (ND p) tb p k r) T from fun T hT=>
    RK.out T ((Chg.of_below BV _).trans ((cU.wide (fun b hb=>by rcases hb with hb|hb <;> omega)).trans (hT.drewL.wide (fun b (hb:b<_)=>by omega)))))
   clear hU;have ne1:¬w2.heap.size=w.heap.size+1:=(by omega);have ne2:¬w2.heap.size=w.heap.size+1+1:=(by omega);have ne3:¬w.heap.size+1=w2.heap.size:=(by omega);have ne4:¬w.heap.size+1+1=w2.heap.size:=(by omega);go_upto_region 5 with fail
   rw[<-HV.out];go_wp2_with fail;go_region;rw[<-HU.out];clear x0 x1 xf xf0 xf1 y0 y1 y2 y3 yf yf0 yf1 yf2 yf3 v0 v1 v2 v3 vf;obtain⟨x0,x1,xf,xl⟩:=RU;obtain⟨y0,y1,y2,y3,yf,yl⟩:=ZU;have xf0:=xf 0;have xf1:=xf 1;have yf0:=yf 0;have yf1:=yf 1;have yf2:=yf 2;have yf3:=yf 3;go_wp2_with fail;refine Cy (v:=.tuple #[.agg #[.int .i64 r,.int .i64 (k:Int)],.agg #[.int .i64 a0,.slice A1' n1' c1',.slice A2' n2' c2',.slice A3' n3' c3'],.bool true]) (by simp[results,Tryz.results94,go_sem,x0,x1,y0,y1,y2,y3,xf0,xf1,yf0,yf1,yf2,yf3]) rfl ?_;exact⟨.inr ⟨_,r,k,A1',n1',c1',A2',n2',c2',A3',n3',c3',HS.out,rfl,PR.out⟩,BU⟩
  obtain rfl:k=n2:=by omega
  have HS:=Aq (zwc (ND:=ND) (tb:=tb) (p:=p) (fun j hj=>H.out j (by have:=HL.out;omega)));obtain⟨U,hU,RU,ZU,BU,cU⟩:=zo2 B0 lW RX ZX (.int .i64 0) (.int .i64 0) (.int .i64 a0) (.slice A1 n1 c1) (.slice A2 k c2) (.slice A3 n3 c3) wr Bw;have HU:=Aq hU;obtain⟨x0,x1,xf,xl⟩:=RX.later Bw;obtain⟨y0,y1,y2,y3,yf,yl⟩:=ZX.later Bw;have xf0:=xf 0;have xf1:=xf 1;have yf0:=yf 0;have yf1:=yf 1;have yf2:=yf 2;have yf3:=yf 3;have ne5:¬w.heap.size=w.heap.size+1+1:=by omega
  have ne6:¬w.heap.size=w.heap.size+1:=by omega
  clear hU;go_wp2_with fail;go_region;rw[<-HU.out];clear x0 x1 xf xf0 xf1 y0 y1 y2 y3 yf yf0 yf1 yf2 yf3 z0 z1 z2 z3 zf;obtain⟨x0,x1,xf,xl⟩:=RU;obtain⟨y0,y1,y2,y3,yf,yl⟩:=ZU;have xf0:=xf 0;have xf1:=xf 1;have yf0:=yf 0;have yf1:=yf 1;have yf2:=yf 2;have yf3:=yf 3;go_wp2_with fail;refine Cy (v:=.tuple #[.agg #[.int .i64 0,.int .i64 0],.agg #[.int .i64 a0,.slice A1 n1 c1,.slice A2 k c2,.slice A3 n3 c3],.bool false]) (by simp[results,Tryz.results94,go_sem,x0,x1,y0,y1,y2,y3,xf0,xf1,yf0,yf1,yf2,yf3]) rfl ?_;exact⟨.inl ⟨HS.out,rfl⟩,BU⟩
end
end
section
def M.nl (nd:Nat->Bool) (n:Nat):List Int:=(zcr nd n).map Int.ofNat
theorem zwf(nd:Nat->Bool)(k:Nat):M.nl nd (k+1)=M.nl nd k++(if nd k then[(k:Int)]else[]):=by
 rw[M.nl,M.nl,zcr,zcr,List.range_succ,List.filter_append,List.map_append];cases e:nd k <;> simp[e]
theorem zjm(nd:Nat->Bool)(n:Nat):(M.nl nd n).length=zat nd n:=by rw[M.nl,Ff,zn9]
section
variable {tb:List (List Int)} {p:NO} {R:Nat->Nat} {w:Yw} {nd:Nat->Bool}
theorem zwg(h:M.WP tb p R)(ho:p.2.length<=1000)(hnd:∀j,nd j=true↔M.Rch p.1 p.2 j)(a0:Int)(A1:Yo)(n1 c1:Nat)(A2:Yo)(n2 c2:Nat)(A3:Yo)(n3 c3:Nat)(hr:RS tN w w.heap.size (.slice A2 n2 c2) p.1)(k3:tS.R w w.heap.size [.slice A3 n3 c3] p.2):
 Calls Tryz.prog 152 #[.agg #[.int .i64 a0,.slice A1 n1 c1,.slice A2 n2 c2,.slice A3 n3 c3]] w (Ret1 2 w (M.nl nd n2)):=by
 have hl:=hr.cap.1;have hlen:=h.len;have hn2:n2<=24:=by omega
 obtain⟨W,hW,B0,sW,p0,p1,p2,p3,pf⟩:=zdm w (.int .i64 a0) (.slice A1 n1 c1) (.slice A2 n2 c2) (.slice A3 n3 c3) 67;have HW:=Aq hW;have lW:w.heap.size<W.heap.size:=by omega
 obtain⟨V,hV⟩:∃V,V=W.alloc (.cells #[] 2):=⟨_,rfl⟩;have BV:Below W.heap.size W V:=by rw[hV];exact zar _ _
 have O0:OI 2 W.heap.size V (.slice (some ⟨w.heap.size+1,0,none⟩) 0 0) []:=by
  rw[hV,<-sW];exact OI.made _ W
 have HV:=Aq hV;have B1:=zaa B0 BV;have CM:=Aq (zo0 h ho hnd a0 A1 n1 c1 A2 n2 c2 A3 n3 c3 (hr.later B1) (tS.later k3 B1));have hV1:=BV.size;have LW2:=Aq sW;clear hW sW hV hr k3 hl ho hnd
 go_enter Tryz.func152,Tryz.ntmps152
 go_wp2_with fail;rw[<-HW.out,<-HV.out];refine CM.out.mono ?_;rintro e w2 ⟨Am,cm,rfl,rm,b2,hAm⟩;have HAM:=Aq hAm;clear hAm;have OS2:OS tI 2 w2 (fun b=>b=W.heap.size\/w2.heap.size<=b) (.slice (some ⟨w.heap.size+1,0,none⟩) 0 0) []:=(OS.of_oi (hi:=W.heap.size+1) (O0.below b2) (fun k hk=>by simp only[Value.ownBlock,Dq]at hk;have:=LW2.out;omega)).wide (fun b hb=>by have:=hb.1;have:=hb.2;omega);have B2:=zaa BV b2;go_wp2_with fail
 go_loopw [3,10] (fun v j wr=>∃k:Nat,j=.int .i64 k/\k<=n2/\OS tI 2 wr (fun b=>b=W.heap.size\/w2.heap.size<=b) v (M.nl nd k)/\Chg (fun b=>b=W.heap.size) w2 wr) (fun _ j _=>n2-(intOf j).toNat)
 case atStart=>exact⟨0,rfl,by omega,OS2,Chg.refl _ _⟩
 case round=>
  obtain⟨k,rfl,hk,own,Bw⟩:=hrel;have sw:=Bw.size
  by_cases hlt:k<n2
  ·obtain⟨bm,om,rfl,hbm,m0⟩:=zjl rm hlt;have m1:=(Bw.cell (by exact hbm) (fun(e:bm=_)=>by have h1:=HAM.out _ rfl;simp only at h1;omega)).trans m0;have hkn:(k:Int)<(n2:Int):=(by omega);have HE:=Aq (zwf nd k);clear m0;cases hn:nd k
   ·rw[hn]at m1 HE;clear hn;go_wp2_with fail;go_roundw
    case rel=>exact⟨k+1,by go_num,by omega,by rw[HE.out];simpa using own,Bw⟩
    case measure=>simp[intOf];omega
   rw[hn]at m1 HE;clear hn;have hk1:(M.nl nd k).length<=1000000:=(by rw[zjm];have:=zh8 nd k;omega);have s2:=B2.size;have hWr:W.heap.size<=wr.heap.size:=(by omega);go_wp2_with (at_builtin;refine za8 zbu #[.int .i64 k] rfl _ _ rfl own (show tI.O wr (fun _=>False) [.int .i64 (k:Int)] (k:Int)from rfl) (fun _ _ h=>h) rfl rfl (by unfold maxLen;omega) (by omega) ?_;intro v1 w1 own1 ch1);go_roundw
   case rel=>
    exact⟨k+1,by go_num,by omega,by rw[HE.out];exact own1.wide (fun b hb=>by rcases hb with hb|hb|hb;exact hb;exact hb.elim;exact .inr (by omega)),⟨ch1.os.trans Bw.os,ch1.tape.trans Bw.tape,ch1.output.trans Bw.output,Nat.le_trans Bw.size ch1.size,fun b hb hn=>(ch1.block b (by omega) (fun h=>by rcases h with h|h;exact hn h;omega)).trans (Bw.block b hb hn)⟩⟩
   case measure=>simp[intOf];omega
  obtain rfl:k=n2:=by omega
  go_wp2;go_ret;have B3:=B2.size;have hB:Below w.heap.size w wr:=(B0.trans (B2.mono (by omega))).trans (Bw.toBelow (fun b (hb:b=_)=>by omega) (by omega));exact⟨_,rfl,(own.real.wide (F':=Iv w.heap.size wr.heap.size) (fun b hb=>⟨by rcases hb.1 with h|h <;> omega,hb.2⟩)).oi,hB⟩
end
end
section
theorem zo3{nd:Nat->Bool}{n k:Nat}{x:Int}(h:(M.nl nd n)[k]?=some x):∃j:Nat,x=(j:Int)/\(zcr nd n)[k]?=some j/\j<n/\nd j=true/\zat nd j=k:=by
 rw[M.nl,Fv,Option.map_eq_some_iff]at h;obtain⟨j,h1,h2⟩:=h;obtain⟨h3,h4⟩:=zoa h1;refine⟨j,h2.symm,h1,h3,h4,?_⟩;have h5:=zhd nd h3 h4;have hn:(zcr nd n).Nodup:=List.nodup_range.filter _;exact(List.getElem?_inj (Bk.1 h5).1 hn).1 (h5.trans h1.symm)
def zdy (nd:Nat->Bool) (n k:Nat):List Int:=(List.range n).map fun j=>if nd j=true/\zat nd j<k then(zat nd j:Int)else 0
theorem zwh(nd:Nat->Bool)(n k:Nat):(zdy nd n k).length=n:=by simp[zdy]
theorem zwi(nd:Nat->Bool)(n:Nat):zdy nd n 0=List.replicate n 0:=by
 apply List.ext_getElem (by simp[zdy]);intro i h1 h2;simp[zdy]
theorem zwj{nd:Nat->Bool}{n i j:Nat}(hi:i<n)(hj:j<n)(h1:nd i=true)(h2:nd j=true)(h:zat nd i=zat nd j):i=j:=by
 have e1:=zhd nd hi h1;have e2:=zhd nd hj h2;rw[h,e2]at e1;exact(Option.some.inj e1).symm
theorem zwk{nd:Nat->Bool}{n k j:Nat}(hj:j<n)(hn:nd j=true)(hk:zat nd j=k):zdy nd n (k+1)=(zdy nd n k).set j (k:Int):=by
 apply List.ext_getElem (by simp[zdy]);intro i h1 h2;have hi:i<n:=by simpa [zdy]using h1
 rw[List.getElem_set]
 by_cases e:j=i
 ·subst e;simp[zdy,hn,hk]
 rw[if_neg e];simp only[zdy,List.getElem_map,List.getElem_range]
 by_cases hni:nd i=true
 ·have:zat nd i≠k:=fun h=>e (zwj hj hi hn hni (by rw[hk,h]))
  by_cases hlt:zat nd i<k
  ·rw[if_pos ⟨hni,by omega⟩,if_pos ⟨hni,hlt⟩]
  rw[if_neg (fun h=>by omega),if_neg (fun h=>by omega)]
 rw[if_neg (fun h=>hni h.1),if_neg (fun h=>hni h.1)]
theorem zwl(nd:Nat->Bool)(n:Nat):zdy nd n (zat nd n)=zb7 nd n:=by
 rw[zdy,zb7];apply List.map_congr_left;intro j hj;have hj:=Gj.1 hj
 by_cases hn:nd j=true
 ·have:=zjc nd (show j+1<=n by omega);rw[zh7,hn]at this;simp at this;rw[if_pos ⟨hn,by omega⟩,if_pos hn]
 rw[if_neg (fun h=>hn h.1),if_neg hn]
theorem zwm(nd:Nat->Bool)(n:Nat):(zb7 nd n).length=n:=by simp[zb7]
def TB (a0:Int) (tb:List (List Int)) (os:List Int) (wa:Yw) (g:Nat) (w:Yw):Prop:=
 ∃(A1:Yo) (n1 c1:Nat) (A3:Yo) (n3 c3:Nat) (F1 F3:Nat->Prop),BX w g (.int .i64 a0) (.slice A1 n1 c1) (.slice none 0 0) (.slice A3 n3 c3)/\tSS.O w F1 [.slice A1 n1 c1] tb/\tS.O w F3 [.slice A3 n3 c3] os/\Below wa.heap.size wa w/\wa.heap.size<=g/\(∀b,F1 b->wa.heap.size<=b/\b<w.heap.size/\b≠g)/\(∀b,F3 b->wa.heap.size<=b/\b<w.heap.size/\b≠g)/\∀b,F1 b->¬F3 b
theorem TB.mk_{a0:Int}{tb:List (List Int)}{os:List Int}{wa wz:Yw}{g:Nat}{A1:Yo}{n1 c1:Nat}{A3:Yo}{n3 c3:Nat}{F1 F3:Nat->Prop}(Z:BX wz g (.int .i64 0) (.slice none 0 0) (.slice none 0 0) (.slice none 0 0))(O1:tSS.O wz F1 [.slice A1 n1 c1] tb)(O3:tS.O wz F3 [.slice A3 n3 c3] os)(B:Below wa.heap.size wa wz)(hg:wa.heap.size<=g)(h1:∀b,F1 b->wa.heap.size<=b/\b<wz.heap.size/\b≠g)(h3:∀b,F3 b->wa.heap.size<=b/\b<wz.heap.size/\b≠g)(h13:∀b,F1 b->¬F3 b):
 ∃U,U=(((wz.setCell ⟨g,0,none⟩ (.int .i64 a0)).setCell ⟨g,1,none⟩ (.slice A1 n1 c1)).setCell ⟨g,2,none⟩ (.slice none 0 0)).setCell ⟨g,3,none⟩ (.slice A3 n3 c3)/\TB a0 tb os wa g U:=by
 obtain⟨U,hU,ZU,chU,sU⟩:=Z.set (.int .i64 a0) (.slice A1 n1 c1) (.slice none 0 0) (.slice A3 n3 c3);exact⟨U,hU,A1,n1,c1,A3,n3,c3,F1,F3,ZU,tSS.ochg O1 chU (fun b hb (e:b=g)=>(h1 b hb).2.2 e),tS.ochg O3 chU (fun b hb (e:b=g)=>(h3 b hb).2.2 e),B.trans (chU.toBelow (fun b (hb:b=g)=>by omega) B.size),hg,fun b hb=>⟨(h1 b hb).1,by have:=(h1 b hb).2.1;omega,(h1 b hb).2.2⟩,fun b hb=>⟨(h3 b hb).1,by have:=(h3 b hb).2.1;omega,(h3 b hb).2.2⟩,h13⟩
section
variable {tb:List (List Int)} {p:NO} {R:Nat->Nat} {w:Yw} {nd:Nat->Bool}
theorem zwn(h:M.WP tb p R)(ho:p.2.length<=1000)(hnd:∀j,nd j=true↔M.Rch p.1 p.2 j)(a0:Int)(A1:Yo)(n1 c1:Nat)(A2:Yo)(n2 c2:Nat)(A3:Yo)(n3 c3:Nat)(k1:tSS.R w w.heap.size [.slice A1 n1 c1] tb)(k2:tNS.R w w.heap.size [.slice A2 n2 c2] p.1)(k3:tS.R w w.heap.size [.slice A3 n3 c3] p.2):
 Calls Tryz.prog 95 #[.agg #[.int .i64 a0,.slice A1 n1 c1,.slice A2 n2 c2,.slice A3 n3 c3]] w fun e w'=>∃A1' n1' c1' A2' n2' c2' A3' n3' c3',e=.returned (.agg #[.int .i64 a0,.slice A1' n1' c1',.slice A2' n2' c2',.slice A3' n3' c3'])/\tP.O w' (Iv w.heap.size w'.heap.size) [.int .i64 a0,.slice A1' n1' c1',.slice A2' n2' c2',.slice A3' n3' c3'] (a0,tb,(zbw nd p).1,(zbw nd p).2)/\Below w.heap.size w w':=by
 have hl:=(sl_R.1 k2).cap.1;have hlen:=h.len;have hn2:n2<=24:=by omega
 obtain⟨W,hW,B0,sW,PX,ZX⟩:=zhf w (.int .i64 a0) (.slice A1 n1 c1) (.slice A2 n2 c2) (.slice A3 n3 c3) (.int .i64 0) (.slice none 0 0) (.slice none 0 0) (.slice none 0 0) 67 67;have HW:=Aq hW;have lW:w.heap.size+1<W.heap.size:=by omega
 have q1:=tSS.later k1 B0;have q2:=tNS.later k2 B0;have q3:=tS.later k3 B0;have HL:=Aq hl;have HO:=Aq ho;have HND:=Aq hnd;have D1:Below W.heap.size W W.drew:=zad (Aw _ _) 1;have gy0:=Ag PX.c0;have gy1:=Ag PX.c1;have gy2:=Ag PX.c2;have gy3:=Ag PX.c3;clear hW sW k1 k2 k3 hl ho hnd;have CN:=Aq (zwg h HO.out HND.out a0 A1 n1 c1 A2 n2 c2 A3 n3 c3 (sl_R.1 (tNS.later q2 D1)) (tS.later q3 D1))
 go_enter Tryz.func95,Tryz.ntmps95
 go_wp2_with fail;rw[<-HW.out]
 (refine zct [2] [0,3] 3 (.one 1 (.one 4 (.one 5 .rest))) [6] [6,7] (by kernel_rfl) (by kernel_rfl) ?_;simp only[zak];simp only[List.filterMap,By,Bg];(repeat (go_big_quiet_step (fail)));refine Cv ?_;(repeat (go_big_quiet_step (fail)));refine Cv ?_)
 refine zai rfl ?_;go_wp2_with fail;refine CN.out.mono ?_;rintro e w1 ⟨v1,rfl,ol,b1⟩;obtain⟨A4,c4,e4,rl⟩:=ol.shape;obtain⟨cn,hcn⟩:∃cn,(M.nl nd n2).length=cn:=⟨_,rfl⟩;rw[hcn]at e4 rl;subst e4;have HCN:=Aq hcn;have hcn2:cn<=24:=by rw[<-hcn,zjm];have:=zh8 nd n2;omega
 clear hcn;have B1:=zaa D1 b1;go_wp2_with fail;refine⟨Bz B1,zai rfl ?_⟩;go_wp2_with fail;refine(zfm _ _ _ _).mono ?_;rintro e w' ⟨rfl,rfl⟩;go_wp2_with fail;refine⟨Bz B1,zai rfl ?_⟩;go_wp2_with fail;refine(zc5 (n2:Int) _ (by omega) (by omega)).mono ?_;rintro e w2 ⟨v2,rfl,oz,b2⟩;rw[Fq,<-zwi nd]at oz;obtain⟨A5,c5,e5,-⟩:=oz.shape;rw[zwh]at e5;subst e5;have B2:=zaa B1 b2;have s1:=B1.size;have s2:=b2.size;go_wp2_with fail;refine⟨Bz B2,zbc ?_⟩;clear gy0 gy1 gy2 gy3;go_wp2_with fail
 go_loopw [19] (fun j wr=>∃k:Nat,j=.int .i64 k/\k<=cn/\OI 2 w1.heap.size wr (.slice A5 n2 c5) (zdy nd n2 k)/\Below w1.heap.size w2 wr) (fun j _=>cn-(intOf j).toNat)
 case atStart=>exact⟨0,rfl,by omega,oz,Aw _ _⟩
 case round=>
  obtain⟨k,rfl,hk,own,Bw⟩:=hrel;have sw:=Bw.size;have B12:Below w1.heap.size w1 wr:=b2.trans Bw
  by_cases hlt:k<cn
  ·have X:=Ak (show k<(M.nl nd n2).length by rw[HCN.out];exact hlt);generalize (M.nl nd n2)[k]'(by rw[HCN.out];exact hlt)=x at X;obtain⟨j,rfl,hj1,hj2,hj3,hj4⟩:=zo3 X;obtain⟨bx,ox,rfl,hbx,hcx⟩:=zau rl (by omega);have e1:=(B12.cell (by exact hbx)).trans (hcx k _ X);obtain⟨g,rfl,hg1,hg2⟩:=own.form' (show 0<n2 by omega);obtain⟨y,-,c0,f0,-,-⟩:=own.at' (k:=j) hj2;have S:=Aq (own.stored' j (k:Int));have HS:=Aq (zwk hj2 hj3 hj4);have hjn:(j:Int)<(n2:Int):=(by omega);have hkn:(k:Int)<(cn:Int):=(by omega);clear hcx X hj1 hj3 hj4 oz;go_wp2_with fail;go_roundw
   case rel=>exact⟨k+1,by go_num,by omega,by rw[HS.out];exact S.out,Bw.setCell hg1 _⟩
   case measure=>simp[intOf];omega
  obtain rfl:k=cn:=by omega
  obtain⟨wa,rfl⟩:∃wa:Yw,wa=wr:=⟨_,rfl⟩;rw[show k=zat nd n2 by rw[<-HCN.out,zjm],zwl]at own;have Ba:Below W.heap.size W wa:=B1.trans (B12.mono s1);have PXa:=PX.later Ba;have gy0:=Ag PXa.c0;have gy1:=Ag PXa.c1;have gy3:=Ag PXa.c3;have Da:Below wa.heap.size wa wa.drew:=zad (Aw _ _) 1
  have rto:RI wa wa.heap.size A5 n2 (zb7 nd n2):=by
   have own':=own;unfold OI at own';rw[zwm]at own';exact Reads.of_own own'
  have ha1:=Ba.size;have hmb:=Aq (show ∀f∈p.2,0<=f/\f<(n2:Int)from fun f hf=>by rw[<-HL.out];exact h.outs f hf);have L3:=Aq (zcu q3);have hn3:n3<=1000:=by rw[<-L3.out];exact HO.out
  have CC:=Aq (fun W' (B':Below wa.heap.size wa W')=>zhe A1 n1 c1 tb W' (tSS.later (tSS.later q1 Ba) B') (by have:=h.szP HO.out a0;rw[zea]at this;omega));have CMP:=Aq (fun W' (B':Below wa.heap.size wa W')=>zi7 A3 A5 n3 c3 n2 c5 p.2 (zb7 nd n2) W' ((tS_R.1 (tS.later q3 Ba)).ri.later B') (rto.later B') (by omega) (by omega) hmb);go_upto_region 7 with fail
  go_cut [7] (fun q7 wx=>∃g,q7=.pointer (some ⟨g,0,none⟩)/\TB a0 tb (zbh p.2 (zb7 nd n2)) wa g wx)
  case first=>
   clear CN PXa oz;go_wp2_with fail
   (refine zct [0,2,5,7] [1,3,6] 4 (.two 4 (.two 8 (.first 9 (.one 10 .rest)) 10 (.one 8 (.first 9 .rest))) 10 (.one 4 (.one 8 (.first 9 .rest)))) [11] [11] (by kernel_rfl) (by kernel_rfl) ?_;simp only[zak];simp only[List.filterMap,By,Bg];(repeat (go_big_quiet_step (fail)));refine Cv ?_;(repeat (go_big_quiet_step (fail)));refine Cv ?_)
   refine zjk rfl rfl ?_ ?_
   ·go_wp2_with fail;refine(CC.out wa.drew Da).mono ?_;rintro e w3 ⟨v3,rfl,o3,b3⟩;obtain⟨A7,c7,rfl⟩:=o3.shape;have B3:=zaa Da b3;have s3:=b3.size;have hda:wa.drew.heap.size=wa.heap.size:=rfl;go_wp2_with fail;refine⟨Bz B3,zjk rfl rfl ?_ ?_⟩
    ·go_wp2_with fail;refine(CMP.out w3 B3).mono ?_;rintro e w4 ⟨v4,rfl,o4,b4⟩;obtain⟨A8,c8,rfl,-⟩:=o4.shape;have B4:=zaa B3 b4;have s4:=b4.size;go_wp2_with fail;refine⟨Bz B4,?_⟩
     (refine za6 rfl ?_;(repeat (go_big_quiet_step (fail)));refine Cv ?_)
     refine zai rfl ?_;obtain⟨V,hV⟩:∃V,V=w4.alloc (.cells #[.int .i64 0,.slice none 0 0,.slice none 0 0,.slice none 0 0] 67):=⟨_,rfl⟩;have BV:Below w4.heap.size w4 V:=(by rw[hV];exact zar _ _);have VX:BX V w4.heap.size (.int .i64 0) (.slice none 0 0) (.slice none 0 0) (.slice none 0 0):=(by rw[hV];exact BX.new _ _ _ _ _ _);have B5:=zaa B4 BV;go_wp2_with fail;rw[<-hV];clear hV;refine⟨Bz B5,?_⟩;obtain⟨x0,x1,x2,x3,xf,xl⟩:=VX;have VX:BX V w4.heap.size (.int .i64 0) (.slice none 0 0) (.slice none 0 0) (.slice none 0 0):=⟨x0,x1,x2,x3,xf,xl⟩;have xf0:=xf 0;have xf1:=xf 1;have xf2:=xf 2;have xf3:=xf 3;refine zbc ?_;go_wp2_with fail
     try refine⟨rfl,?_⟩
     go_meet
     obtain⟨U_,hU_,TU⟩:=TB.mk_ (a0:=a0) VX (sl_O.2 ((o3.below b4 (by omega)).below BV (by omega))) (tS_O.2 ((OI.os o4).below BV (by omega))) B5 (by omega) (fun b hb=>by have:=hb.1;have:=hb.2;omega) (fun b hb=>by have:=hb.1;have:=hb.2;omega) (fun b hb hb2=>by have:=hb.1;have:=hb.2;have:=hb2.1;have:=hb2.2;omega);rw[<-hU_];exact⟨w4.heap.size,rfl,TU⟩
    obtain⟨V,hV⟩:∃V,V=w3.alloc (.cells #[.int .i64 0,.slice none 0 0,.slice none 0 0,.slice none 0 0] 67):=⟨_,rfl⟩;have BV:Below w3.heap.size w3 V:=(by rw[hV];exact zar _ _);have VX:BX V w3.heap.size (.int .i64 0) (.slice none 0 0) (.slice none 0 0) (.slice none 0 0):=(by rw[hV];exact BX.new _ _ _ _ _ _);have B4:=zaa B3 BV;have s4:=BV.size;have s4':=VX.lt;go_wp2_with fail;rw[<-hV];clear hV;refine⟨Bz B4,zai rfl ?_⟩;go_wp2_with fail;refine(CMP.out V B4).mono ?_;rintro e w4 ⟨v4,rfl,o4,b4⟩;obtain⟨A8,c8,rfl,-⟩:=o4.shape;have B5:=zaa B4 b4;go_wp2_with fail;refine⟨Bz B5,?_⟩
    (refine za6 rfl ?_;(repeat (go_big_quiet_step (fail)));refine Cv ?_)
    replace VX:=VX.later b4;obtain⟨x0,x1,x2,x3,xf,xl⟩:=VX;have VX:BX w4 w3.heap.size (.int .i64 0) (.slice none 0 0) (.slice none 0 0) (.slice none 0 0):=⟨x0,x1,x2,x3,xf,xl⟩;have xf0:=xf 0;have xf1:=xf 1;have xf2:=xf 2;have xf3:=xf 3;have s5:=b4.size;refine zbc ?_;go_wp2_with fail
    try refine⟨rfl,?_⟩
    go_meet
    obtain⟨U_,hU_,TU⟩:=TB.mk_ (a0:=a0) VX (sl_O.2 ((o3.below BV (by omega)).below b4 (by omega))) (tS_O.2 (OI.os o4)) B5 (by omega) (fun b hb=>by have:=hb.1;have:=hb.2;omega) (fun b hb=>by have:=hb.1;have:=hb.2;omega) (fun b hb hb2=>by have:=hb.1;have:=hb.2;have:=hb2.1;have:=hb2.2;omega);rw[<-hU_];exact⟨w3.heap.size,rfl,TU⟩
   obtain⟨V,hV⟩:∃V,V=(wa.alloc (.cells #[.int .i64 0,.slice none 0 0,.slice none 0 0,.slice none 0 0] 67)).drew:=⟨_,rfl⟩;have BV:Below wa.heap.size wa V:=(by rw[hV];exact zad (zar _ _) 1);have VX:BX V wa.heap.size (.int .i64 0) (.slice none 0 0) (.slice none 0 0) (.slice none 0 0):=(by rw[hV];exact(BX.new _ _ _ _ _ _).drew);have s4':=VX.lt;go_wp2_with fail;rw[<-hV];clear hV;refine⟨Bz BV,zai rfl ?_⟩;go_wp2_with fail;refine(CC.out V BV).mono ?_;rintro e w3 ⟨v3,rfl,o3,b3⟩;obtain⟨A7,c7,rfl⟩:=o3.shape;have B3:=zaa BV b3;have s3:=b3.size;go_wp2_with fail;refine⟨Bz B3,zai rfl ?_⟩;go_wp2_with fail;refine(CMP.out w3 B3).mono ?_;rintro e w4 ⟨v4,rfl,o4,b4⟩;obtain⟨A8,c8,rfl,-⟩:=o4.shape;have B5:=zaa B3 b4;have s4:=b4.size;go_wp2_with fail;refine⟨Bz B5,?_⟩
   (refine za6 rfl ?_;(repeat (go_big_quiet_step (fail)));refine Cv ?_)
   replace VX:=(VX.later b3).later b4;obtain⟨x0,x1,x2,x3,xf,xl⟩:=VX;have VX:BX w4 wa.heap.size (.int .i64 0) (.slice none 0 0) (.slice none 0 0) (.slice none 0 0):=⟨x0,x1,x2,x3,xf,xl⟩;have xf0:=xf 0;have xf1:=xf 1;have xf2:=xf 2;have xf3:=xf 3;refine zbc ?_;go_wp2_with fail
   try refine⟨rfl,?_⟩
   go_meet
   obtain⟨U_,hU_,TU⟩:=TB.mk_ (a0:=a0) VX (sl_O.2 (o3.below b4 (by omega))) (tS_O.2 (OI.os o4)) B5 (by omega) (fun b hb=>by have:=hb.1;have:=hb.2;omega) (fun b hb=>by have:=hb.1;have:=hb.2;omega) (fun b hb hb2=>by have:=hb.1;have:=hb.2;have:=hb2.1;have:=hb2.2;omega);rw[<-hU_];exact⟨wa.heap.size,rfl,TU⟩
  case rest=>
   obtain⟨w0,rfl⟩:∃u_:Yw,u_=wc:=⟨_,rfl⟩;obtain⟨g,rfl,A1',n1',c1',A3',n3',c3',F1,F3,GX,O1,O3,Bw0,hg,hF1,hF3,h13⟩:=hcut;have hgl:=GX.lt;have sw0:=Bw0.size;have HF1:=Aq hF1;have HF3:=Aq hF3;have H13:=Aq h13;have gfr:=GX.fr 2;have hns:=sl_R.1 (tNS.later q2 Ba);have hTL:(zex nd p.1).length=k:=(by rw[zk4,HL.out,<-zjm,HCN.out]);have HTL:=Aq hTL;clear hF1 hF3 h13 hTL CC CMP CN PXa gy0 gy1 gy3 oz;have v2_:=GX.c2;go_wp2_with fail
   go_loopw [41] (fun j wr=>∃(t:Nat) (v:Value),j=.int .i64 t/\t<=k/\OS tN 169 wr (Iv w0.heap.size wr.heap.size) v ((zex nd p.1).take t)/\Gr g 2 w0 wr v) (fun j _=>k-(intOf j).toNat)
   case atStart=>exact⟨0,_,rfl,by omega,OS.nil _ _ _ _,Gr.start v2_⟩
   case round=>
    obtain⟨t,v,rfl,ht,own2,G⟩:=hrel;have sr:=G.chg.size;have Bar:Below wa.heap.size wa wr:=Bw0.trans (G.chg.toBelow (fun b (hb:b=g)=>by omega) (by omega))
    by_cases hlt2:t<k
    ·have X:=Ak (show t<(M.nl nd n2).length by rw[HCN.out];exact hlt2);generalize (M.nl nd n2)[t]'(by rw[HCN.out];exact hlt2)=x at X;obtain⟨j,rfl,hj1,hj2,hj3,hj4⟩:=zo3 X;obtain⟨bx,ox,rfl,hbx,hcx⟩:=zau rl (by omega);have e1:=((B12.trans (Bar.mono (by omega))).cell (by exact hbx)).trans (hcx t _ X);obtain⟨bb,o,kk,ka,kb,A6,c6,fs,rfl,hb,Y,y0,y1,y2,y3,hr6,hl6⟩:=zd4 h (hns.below Bar) hj2
     have hTX:=Aq (show (zex nd p.1)[t]?=some (kk,ka,kb,zbh fs (zb7 nd n2))by
      rw[zex,HL.out,Fv,hj1];show some ((zab p.1 j).1,_,_,_)=_
      rw[Y.out])
     have hfb:=Aq (show ∀f∈fs,0<=f/\f<(n2:Int)from fun f hf=>by
      rw[<-HL.out];exact h.frs j (by rw[HL.out];exact hj2) f (by rw[Y.out];exact hf))
     obtain⟨V,hV⟩:∃V,V=wr.alloc (.cells #[.int .i64 kk,.int .i64 ka,.int .i64 kb,.slice A6 fs.length c6] 169):=⟨_,rfl⟩;have BV:Below wr.heap.size wr V:=(by rw[hV];exact zar _ _);have VX:BX V wr.heap.size (.int .i64 kk) (.int .i64 ka) (.int .i64 kb) (.slice A6 fs.length c6):=(by rw[hV];exact BX.new _ _ _ _ _ _);have HV:=Aq hV;have BaV:Below wa.heap.size wa V:=Bar.trans (BV.mono (by omega));have CM2:=Aq (zi7 A6 A5 fs.length c6 n2 c5 fs (zb7 nd n2) V ((hr6.more Bar.size).later BV) (rto.later BaV) (by omega) (by omega) hfb);have hjn:(j:Int)<(n2:Int):=(by omega);have htk:(t:Int)<(k:Int):=(by omega);have hxl:((zex nd p.1).take t).length<=100000000:=(by rw[Ey];omega);have hbw:bb<wr.heap.size:=(by omega);have PXr:=(PX.later Ba).below Bar (by omega);obtain⟨z0,z1,z2,z3,zf,zl⟩:=PXr;clear hV X hcx hj1 hj3 hj4;go_wp2_with fail;rw[<-HV.out];refine CM2.out.mono ?_;rintro e w3 ⟨v8,rfl,o8,b8⟩;obtain⟨A8,c8,e8,-⟩:=o8.shape;obtain⟨m8,hm8⟩:∃m,(zbh fs (zb7 nd n2)).length=m:=⟨_,rfl⟩;rw[hm8]at e8;subst e8;have HM8:=Aq hm8;have Br3:Below wr.heap.size wr w3:=BV.trans (b8.mono BV.size);have V3:=VX.later b8;have s3:=b8.size;have sV:=BV.size;have vl:=VX.lt;obtain⟨x0,x1,x2,x3,xf,xl⟩:=V3;have xf3:=xf 3;obtain⟨Q,hQ⟩:∃Q,Q=w3.setCell ⟨wr.heap.size,3,none⟩ (.slice A8 m8 c8):=⟨_,rfl⟩;have chQ:Chg (fun b=>b=wr.heap.size) w3 Q:=(by rw[hQ];exact Chg.set _ _ _ _ rfl);have u0:Q.cell? ⟨wr.heap.size,0,none⟩=some (.int .i64 kk):=(by rw[hQ];simp[go_sem,x0]);have u1:Q.cell? ⟨wr.heap.size,1,none⟩=some (.int .i64 ka):=(by rw[hQ];simp[go_sem,x1]);have u2:Q.cell? ⟨wr.heap.size,2,none⟩=some (.int .i64 kb):=(by rw[hQ];simp[go_sem,x2]);have u3:Q.cell? ⟨wr.heap.size,3,none⟩=some (.slice A8 m8 c8):=(by rw[hQ];simp[go_sem,x3]);have sQ:=chQ.size;have eQ:Q.heap.size=w3.heap.size:=(by rw[hQ];simp);have own3:=(own2.below Br3 (Aj _)).chg chQ (fun b hb (e:b=_)=>by have:=hb.2;omega);have G3:=(G.below Br3 (by omega)).row chQ (by omega) (fun b (hb:b=_)=>by omega);have hm:m8=(zbh fs (zb7 nd n2)).length:=hm8.symm;have on:tN.O Q (Iv V.heap.size w3.heap.size) [.int .i64 kk,.int .i64 ka,.int .i64 kb,.slice A8 m8 c8] (kk,ka,kb,zbh fs (zb7 nd n2)):=tN_O.2 ⟨A8,m8,c8,_,rfl,tS_O.2 ((OI.os o8).chg chQ (fun b hb (e:b=_)=>by have:=hb.1;omega)),fun b hb=>hb⟩;have gc:=G3.cel;have HQ:=Aq hQ;have hpt:=Aq (M.take_at hTX.out);have EQ:=Aq eQ;clear hQ hm hm8 eQ;go_upto_region 13 with fail
     rw[<-HQ.out];clear x0 x1 x2 x3 xf xf3 z0 z1 z2 z3 zf y0 y1 y2 y3 e1;go_wp2_with (at_builtin;refine za8 zg1 #[.int .i64 kk,.int .i64 ka,.int .i64 kb,.slice A8 m8 c8] rfl _ _ rfl own3 on (fun b hb hb2=>by have:=hb.2;have:=hb2.1;omega) rfl rfl (by unfold maxLen;omega) (by omega) ?_;intro v3 w4 own4 ch4;obtain⟨A7,c7,e7⟩:=own4.shape;obtain⟨n7,hn7⟩:∃n7,n7=((zex nd p.1).take t++[(kk,ka,kb,zbh fs (zb7 nd n2))]).length:=⟨_,rfl⟩;rw[<-hn7]at e7;subst e7;have HN7:=Aq hn7;clear hn7;have G4:=G3.row ch4 (by omega) (fun b hb=>⟨hb.1,by have:=hb.1;omega⟩);have hc4:=G4.cel;have hf4:w4.frozen? ⟨g,2,none⟩=false:=(by rw[G4.fro];exact gfr));go_roundw
     case rel=>
      have s4:=ch4.size;refine⟨t+1,_,by go_num,by omega,?_,G4.set gfr _⟩;rw[hpt.out];refine(own4.chg (Chg.set (F:=fun b=>b=g) w4 g 2 _ rfl) (fun b hb (e:b=g)=>?_)).wide (fun b hb=>?_)
      ·rcases hb with hb|hb|hb
       ·have:=hb.1;omega
       ·have:=hb.1;omega
       omega
      have e9:(w4.setCell ⟨g,2,none⟩ (.slice A7 n7 c7)).heap.size=w4.heap.size:=(by simp);rcases hb with hb|hb|hb
      ·exact⟨hb.1,by have:=hb.2;omega⟩
      ·exact⟨by have:=hb.1;omega,by have:=hb.2;omega⟩
      exact⟨by omega,by omega⟩
     case measure=>simp[intOf];omega
    obtain rfl:t=k:=by omega
    rw[Cg (by rw[HTL.out];exact Aj _)]at own2;obtain⟨A2',c2',e2'⟩:=own2.shape;rw[HTL.out]at e2';subst e2';have b0:wr.cell? ⟨g,0,none⟩=some (.int .i64 a0):=(by rw[G.oth 0 (by decide)];exact GX.c0);have b1_:wr.cell? ⟨g,1,none⟩=some (.slice A1' n1' c1'):=(by rw[G.oth 1 (by decide)];exact GX.c1);have b2_:=G.cel;have b3_:wr.cell? ⟨g,3,none⟩=some (.slice A3' n3' c3'):=(by rw[G.oth 3 (by decide)];exact GX.c3);have Zr:=(ZX.later Ba).below Bar (by omega);obtain⟨U,hU,ZU,chU,sU⟩:=Zr.set (.int .i64 a0) (.slice A1' n1' c1') (.slice A2' t c2') (.slice A3' n3' c3');have HU:=Aq hU;have BU:Below w.heap.size w U:=((B0.trans (Ba.mono (by omega))).trans (Bar.mono (by omega))).trans (chU.toBelow (fun b (hb:b=_)=>by omega) (by omega));have hz:∀b,(Iv w0.heap.size wr.heap.size) b->¬b=w.heap.size+1:=fun b hb e=>by have:=hb.1;omega
    have hr1:∀b,F1 b->¬b=w.heap.size+1:=fun b hb e=>by have:=(HF1.out b hb).1;omega
    have hr3:∀b,F3 b->¬b=w.heap.size+1:=fun b hb e=>by have:=(HF3.out b hb).1;omega
    have o1:=tSS.ochg (tSS.ochg O1 G.chg (fun b hb (e:b=g)=>(HF1.out b hb).2.2 e)) chU hr1;have o3:=tS.ochg (tS.ochg O3 G.chg (fun b hb (e:b=g)=>(HF3.out b hb).2.2 e)) chU hr3;have o2:=tNS.ochg (sl_O.2 own2) chU hz
    have hOUT:=Aq (show tP.O U (Iv w.heap.size U.heap.size) [.int .i64 a0,.slice A1' n1' c1',.slice A2' t c2',.slice A3' n3' c3'] (a0,tb,(zbw nd p).1,(zbw nd p).2)from by
     have e3:zbh p.2 (zb7 nd n2)=(zbw nd p).2:=(by rw[zbw,HL.out]);rw[e3]at o3;exact tP_O.2 ⟨_,_,_,_,_,_,_,_,_,F1,Iv w0.heap.size wr.heap.size,F3,rfl,o1,o2,o3,fun b hb=>⟨by have:=(HF1.out b hb).1;omega,by have:=(HF1.out b hb).2.1;omega⟩,fun b hb=>⟨by have:=hb.1;omega,by have:=hb.2;omega⟩,fun b hb=>⟨by have:=(HF3.out b hb).1;omega,by have:=(HF3.out b hb).2.1;omega⟩,fun b hb hb2=>by have:=(HF1.out b hb).2.1;have:=hb2.1;omega,H13.out,fun b hb hb2=>by have:=(HF3.out b hb2).2.1;have:=hb.1;omega⟩)
    obtain⟨t0,t1,t2,t3,tf,tl⟩:=Zr;have u0:=tf 0;have u1:=tf 1;have u2:=tf 2;have u3:=tf 3;obtain⟨d0,d1,d2,d3,df,dl⟩:=ZU;have f0:=df 0;have f1:=df 1;have f2:=df 2;have f3:=df 3;clear hU sU o1 o2 o3 hz hr1 hr3;go_wp2_with fail;rw[<-HU.out];refine Cy (v:=.agg #[.int .i64 a0,.slice A1' n1' c1',.slice A2' t c2',.slice A3' n3' c3']) (by simp[results,Tryz.results95,go_sem,d0,d1,d2,d3,f0,f1,f2,f3]) rfl ?_;exact⟨_,_,_,_,_,_,_,_,_,rfl,hOUT.out,BU⟩
end
end
section
theorem zwo:EI Tryz.prog 76 134 (.agg #[.int .i64 0,.int .i64 0]) 2 16:=⟨Tryz.underlying76,by kernel_rfl,rfl,by decide⟩
theorem zwp{w w':Yw}{F:Nat->Prop}{base size n:Nat}{e:TypeId}{v:Value}{cs:List Value}(h:w.ownsRow base e size v n cs)(hc:Chg F w w')(hF:∀b,F b->b<base):w'.ownsRow base e size v n cs:=by
 refine⟨h.1,?_⟩;rcases h.2 with h2|⟨g,cap,cur,hv,hg,hh,r⟩
 ·exact .inl h2
 exact .inr ⟨g,cap,cur,hv,hg,by rw[hc.block g (Array.getElem?_eq_some_iff.1 hh).1 (fun hf=>by have:=hF g hf;omega)];exact hh,r⟩
section
variable {tb:List (List Int)} {p:NO} {R:Nat->Nat} {w:Yw} {ND:NO->Nat->Bool}
theorem zwq(h:M.WP tb p R)(ho:p.2.length<=1000)(hND:∀p j,ND p j=true↔M.Rch p.1 p.2 j){N:Nat}(hN1:N<=1000000000)(hN:zbs ND tb (zan ND tb p N)=none)(a0:Int)(A1:Yo)(n1 c1:Nat)(A2:Yo)(n2 c2:Nat)(A3:Yo)(n3 c3:Nat)(k1:tSS.R w w.heap.size [.slice A1 n1 c1] tb)(k2:tNS.R w w.heap.size [.slice A2 n2 c2] p.1)(k3:tS.R w w.heap.size [.slice A3 n3 c3] p.2):
 Calls Tryz.prog 37 #[.agg #[.int .i64 a0,.slice A1 n1 c1,.slice A2 n2 c2,.slice A3 n3 c3]] w fun e w'=>∃A1' n1' c1' A2' n2' c2' A3' n3' c3' lv,e=.returned (.tuple #[.agg #[.int .i64 a0,.slice A1' n1' c1',.slice A2' n2' c2',.slice A3' n3' c3'],lv])/\tP.O w' (Iv w.heap.size w'.heap.size) [.int .i64 a0,.slice A1' n1' c1',.slice A2' n2' c2',.slice A3' n3' c3'] (a0,tb,(zbw (ND (zan ND tb p N)) (zan ND tb p N)).1,(zbw (ND (zan ND tb p N)) (zan ND tb p N)).2)/\Below w.heap.size w w':=by
 obtain⟨W,hW,B0,sW,PX,ZX⟩:=zhf w (.int .i64 a0) (.slice A1 n1 c1) (.slice A2 n2 c2) (.slice A3 n3 c3) (.int .i64 0) (.slice none 0 0) (.slice none 0 0) (.slice none 0 0) 67 67;have HW:=Aq hW;obtain⟨V,hV⟩:∃V,V=W.alloc (.cells #[] 134):=⟨_,rfl⟩;have BV:Below W.heap.size W V:=by rw[hV];exact zar _ _
 have O0:V.ownsRow W.heap.size 134 2 (.slice (some ⟨w.heap.size+1+1,0,none⟩) 0 0) 0 []:=by
  rw[hV,show w.heap.size+1+1=W.heap.size by omega];exact World.ownsRow_made _ _ _ (Aj _) (by simp[maxLen]) rfl
 have HV:=Aq hV;have B1:=zaa B0 BV;have PV:=PX.later BV;have ZV:=ZX.later BV;have q0:PRd A1 n1 c1 A2 n2 c2 A3 n3 c3 tb p V:=⟨tSS.later k1 B1,tNS.later k2 B1,tS.later k3 B1⟩;have lW:w.heap.size+1<W.heap.size:=by omega
 have sV:=BV.size;have HO:=Aq ho;have HND:=Aq hND;have HN:=Aq hN;clear hW hV sW k1 k2 k3 ho hND hN PX ZX
 go_enter Tryz.func37,Tryz.ntmps37
 go_wp2_with fail;rw[<-HW.out,<-HV.out]
 go_loopg [4] N (fun gk v wr=>∃(s:Nat) (xs:List Value) (A1':Yo) (n1' c1':Nat) (A2':Yo) (n2' c2':Nat) (A3':Yo) (n3' c3':Nat),s+gk=N/\wr.ownsRow W.heap.size 134 2 v s xs/\PRd A1' n1' c1' A2' n2' c2' A3' n3' c3' tb (zan ND tb p s) wr/\BX wr w.heap.size (.int .i64 a0) (.slice A1' n1' c1') (.slice A2' n2' c2') (.slice A3' n3' c3')/\BX wr (w.heap.size+1) (.int .i64 0) (.slice none 0 0) (.slice none 0 0) (.slice none 0 0)/\Below w.heap.size w wr/\W.heap.size<=wr.heap.size)
 case atStart=>exact⟨0,[],A1,n1,c1,A2,n2,c2,A3,n3,c3,by omega,O0,q0,PV,ZV,B1,sV⟩
 case round=>
  obtain⟨s,xs,A1',n1',c1',A2',n2',c2',A3',n3',c3',hs,own,PR,PB,ZB,Bw,sw⟩:=hrel;obtain⟨R',hW',hl1,hl2⟩:=zja HND.out h s;obtain⟨pp,hpp⟩:∃q,zan ND tb p s=q:=⟨_,rfl⟩;rw[hpp]at hW' hl2 PR;have HPP:=Aq hpp;have ho2:pp.2.length<=1000:=by rw[hl2];exact HO.out
  have CX:=Aq (zwe hW' ho2 HND.out a0 A1' n1' c1' A2' n2' c2' A3' n3' c3' PR.1 PR.2.1 PR.2.2);obtain⟨z0,z1,z2,z3,zf,zl⟩:=PB;have PB:BX wr w.heap.size (.int .i64 a0) (.slice A1' n1' c1') (.slice A2' n2' c2') (.slice A3' n3' c3'):=⟨z0,z1,z2,z3,zf,zl⟩;clear hpp hl1 hl2;go_wp2_with fail;refine CX.out.mono ?_;rintro e w2 ⟨⟨hst,rfl⟩|⟨q,r,i,A1'',n1'',c1'',A2'',n2'',c2'',A3'',n3'',c3'',hst,rfl,RK⟩,b2⟩
  ·obtain⟨Q,hQ⟩:∃Q,Q=(w2.alloc (.cells #[.int .i64 0,.int .i64 0] 134)).alloc (.cells #[.int .i64 a0,.slice A1' n1' c1',.slice A2' n2' c2',.slice A3' n3' c3'] 67):=⟨_,rfl⟩;have BQ:Below w2.heap.size w2 Q:=(by rw[hQ];exact zaa (zar _ _) (zar _ _));have HQ:=Aq hQ;have Br:=zaa b2 BQ;have CT:=Aq (zwn hW' ho2 (HND.out pp) a0 A1' n1' c1' A2' n2' c2' A3' n3' c3' (tSS.later PR.1 Br) (tNS.later PR.2.1 Br) (tS.later PR.2.2 Br));have hE:=Aq (show zan ND tb p N=pp by rw[<-HPP.out];exact(zog (by rw[HPP.out];exact hst) HN.out).symm);clear hQ z0 z1 z2 z3 zf;obtain⟨z0,z1,z2,z3,zf,zl⟩:=PB.later b2;go_wp2_with fail;rw[<-HQ.out];refine CT.out.mono ?_;rintro e w3 ⟨B1',m1,d1,B2',m2,d2,B3',m3,d3,rfl,ot,b3⟩;have Br3:=zaa Br b3;have Z3:=ZB.later Br3;obtain⟨U,hU,ZU,chU,sU⟩:=Z3.set (.int .i64 a0) (.slice B1' m1 d1) (.slice B2' m2 d2) (.slice B3' m3 d3);have sB:=Br.size;have BU:Below w.heap.size w U:=(Bw.trans (Br3.mono (by omega))).trans (chU.toBelow (fun b (hb:b=_)=>by omega) (by have:=Br3.size;omega))
   have OU:=Aq (show tP.O U (Iv w.heap.size U.heap.size) [.int .i64 a0,.slice B1' m1 d1,.slice B2' m2 d2,.slice B3' m3 d3] (a0,tb,(zbw (ND (zan ND tb p N)) (zan ND tb p N)).1,(zbw (ND (zan ND tb p N)) (zan ND tb p N)).2)by
    rw[hE.out];exact tP.oiv (tP.ochg ot chU (fun b hb (e:b=_)=>by have:=hb.1;omega)) (by omega) (by omega))
   have HU:=Aq hU;obtain⟨t0,t1,t2,t3,tf,tl⟩:=Z3;have tf0:=tf 0;have tf1:=tf 1;have tf2:=tf 2;have tf3:=tf 3;obtain⟨d0_,d1_,d2_,d3_,df,dl⟩:=ZU;have f0:=df 0;have f1:=df 1;have f2:=df 2;have f3:=df 3;clear hU sU ot z0 z1 z2 z3 zf;go_wp2_with fail;rw[<-HU.out];refine Cy (v:=.tuple #[.agg #[.int .i64 a0,.slice B1' m1 d1,.slice B2' m2 d2,.slice B3' m3 d3],u4]) (by simp[results,Tryz.results37,go_sem,d0_,d1_,d2_,d3_,f0,f1,f2,f3]) rfl ?_;exact⟨_,_,_,_,_,_,_,_,_,_,rfl,OU.out,BU⟩
  have hsN:=zug HN.out (show zbs ND tb (zan ND tb p s)=some q by rw[HPP.out];exact hst);have HS:=Aq (show zan ND tb p (s+1)=q by rw[zan,HPP.out,hst];rfl);obtain⟨Q1,hQ1⟩:∃Q,Q=w2.alloc (.cells #[.int .i64 r,.int .i64 i] 134):=⟨_,rfl⟩;obtain⟨Q,hQ⟩:∃Q,Q=Q1.alloc (.cells #[.int .i64 a0,.slice A1'' n1'' c1'',.slice A2'' n2'' c2'',.slice A3'' n3'' c3''] 67):=⟨_,rfl⟩;have s2:=b2.size;have BQ1:Below w2.heap.size w2 Q1:=by rw[hQ1];exact zar _ _
  have BQ2:Below Q1.heap.size Q1 Q:=by rw[hQ];exact zar _ _
  have sQ1:Q1.heap.size=w2.heap.size+1:=by rw[hQ1];simp
  have BQ:=zaa BQ1 BQ2
  have QX:BX2 Q w2.heap.size (.int .i64 r) (.int .i64 i):=by
   refine BX2.later ?_ BQ2;rw[hQ1];exact⟨by simp[go_sem],by simp[go_sem],fun j=>by simp[go_sem],by simp⟩
  have QA:BX Q (w2.heap.size+1) (.int .i64 a0) (.slice A1'' n1'' c1'') (.slice A2'' n2'' c2'') (.slice A3'' n3'' c3''):=by
   rw[hQ,<-sQ1];exact BX.new _ _ _ _ _ _
  rw[hQ1]at hQ;have HQ:=Aq hQ;have Br:=zaa b2 BQ;have PQ:=PB.later Br;have ZQ:=ZB.later Br;have own2:=zlm own Br;have hob:=fun k (hk:u4.ownBlock=some k)=>Gq own k hk
  have HOB:=Aq hob;have HST:=Aq hst;have sQ:=BQ.size;have hlo:W.heap.size<=Q.heap.size:=by omega
  have hxs:s+1<=maxLen:=by unfold maxLen;omega
  have hxb:(s+1)*16<=140737488355328:=by omega
  have RK:=Aq RK;obtain⟨x0,x1,xf,xl⟩:=QX;clear hQ hQ1 sQ1 z0 z1 z2 z3 zf hob hst;go_upto_region 5 with fail
  rw[<-HQ.out];go_wp2_with (at_builtin;refine zgl zwo #[.int .i64 r,.int .i64 i] rfl _ _ rfl own2 rfl rfl rfl (by simp[Value.oneCell']) hxs hxb hlo ?_;intro v3 w4 own4 gr4 bel4;have ch4:Chg (fun b=>W.heap.size<=b/\b<wr.heap.size) Q w4:=Chg.of_grown gr4 (fun k hk=>⟨(HOB.out k hk).1,(HOB.out k hk).2⟩);obtain⟨y0,y1,y2,y3,yf,yl⟩:=QA.chg ch4 (fun hf=>(by omega));obtain⟨z0,z1,z2,z3,zf,zl⟩:=PQ.chg ch4 (fun hf=>(by omega));have zf0:=zf 0;have zf1:=zf 1;have zf2:=zf 2;have zf3:=zf 3;clear x0 x1 xf);have P4:BX w4 w.heap.size (.int .i64 a0) (.slice A1' n1' c1') (.slice A2' n2' c2') (.slice A3' n3' c3'):=⟨z0,z1,z2,z3,zf,zl⟩;obtain⟨U,hU,PU,chU,sU⟩:=P4.set (.int .i64 a0) (.slice A1'' n1'' c1'') (.slice A2'' n2'' c2'') (.slice A3'' n3'' c3'')
  go_roundg (gk-1)
  case measure=>omega
  case rel=>
   rw[<-hU];have s4:=ch4.size;have cT:Chg (fun b=>b<wr.heap.size) w2 U:=(Chg.of_below BQ _).trans ((ch4.wide (fun b hb=>hb.2)).trans (chU.wide (fun b (hb:b=_)=>by omega)));exact⟨s+1,_,A1'',n1'',c1'',A2'',n2'',c2'',A3'',n3'',c3'',by omega,zwp own4 chU (fun b (hb:b=_)=>by omega),by rw[HS.out];exact RK.out U cT,PU,(ZQ.chg ch4 (fun hf=>by omega)).chg chU (by omega),(Bw.trans (Br.mono (by omega))).trans ((ch4.toBelow (fun b hb=>by omega) (by omega)).trans (chU.toBelow (fun b (hb:b=_)=>by omega) (by omega))),by omega⟩
end
end
section
section
variable {F F':Nat->Prop} {w w':Yw} {A :Yo} {n g k c:Nat} {xs:List Int} {e:TypeId} {base:Nat} {v:Value} {cs:List (List Int)}
def RN (F:Nat->Prop) (w:Yw) (A:Yo) (n:Nat) (xs:List Int):Prop:=RI w w.heap.size A n xs/\∀ad,0<n->A=some ad->¬F ad.block
theorem RN.chg(h:RN F w A n xs)(hc:Chg F w w'):RN F w' A n xs:=by
 refine⟨⟨h.1.1,fun hn=>?_⟩,h.2⟩;obtain⟨ad,e,hb,hk⟩:=h.1.2 hn;refine⟨ad,e,Cq hb hc.size,fun j u hu=>?_⟩;have h2:=h.2 ad hn e;rw[Ek (hc.block (ad.add j).block (by rw[zgk];exact hb) (by rw[zgk];exact h2))];exact hk j u hu
theorem RN.sub(h:RN F w A n xs)(hf:∀k,F' k->F k):RN F' w A n xs:=⟨h.1,fun ad hn e hF=>h.2 ad hn e (hf _ hF)⟩
theorem RN.below(h:RN F w A n xs)(hb:Below w.heap.size w w'):RN F w' A n xs:=h.chg (Chg.of_below hb F)
theorem RN.of_ri{B:Nat}(h:RI w B A n xs)(hB:B<=w.heap.size)(hF:∀k,F k->B<=k):RN F w A n xs:=by
 refine⟨h.more hB,fun ad hn e hf=>?_⟩;obtain⟨ad',e',hb,_⟩:=h.2 hn;rw[e]at e';injection e' with e'
 subst e';have:=hF _ hf;omega
theorem RN.of_oi{B:Nat}(h:OI e B w (.slice A n c) xs)(hF:∀k,F k->k<B):RN F w A n xs:=by
 have hl:xs.length=n:=by
  rcases h.2 with⟨h0,h1⟩|⟨g,cap,cur,h0,_⟩
  ·simp only[Cz]at h0;rw[h0.2.1];exact h1
  simp only[Cz]at h0;exact h0.2.1.symm
 subst hl;refine⟨h.ri,fun ad hn e hf=>?_⟩;obtain⟨g,hA,hB,hg⟩:=h.form' hn;rw[e]at hA;injection hA with hA
 subst hA;have:=hF _ hf;simp only at this;omega
theorem RN.at(h:RN F w A n xs){k:Nat}(hk:k<n):∃b o x,A=some ⟨b,o,none⟩/\b<w.heap.size/\¬F b/\xs[k]?=some x/\w.cell? ⟨b,o+k,none⟩=some (.int .i64 x):=by
 obtain⟨b,o,rfl,hb,hc⟩:=zau h.1 (by omega);have hl:k<xs.length:=by rw[h.1.len];exact hk
 exact⟨b,o,xs[k],rfl,hb,h.2 _ (by omega) rfl,Ak hl,hc k _ (Ak hl)⟩
theorem OI.chg{B:Nat}(h:OI e B w v xs)(hc:Chg F w w')(hn:∀k,v.ownBlock=some k->¬F k):OI e B w' v xs:=by
 refine⟨h.1,?_⟩;rcases h.2 with h2|⟨g,cap,cur,rfl,hb,hg,rest⟩
 ·exact .inl h2
 exact .inr ⟨g,cap,cur,rfl,hb,by rw[hc.block g (Array.getElem?_eq_some_iff.1 hg).1 (hn g rfl)];exact hg,rest⟩
def CR (F:Nat->Prop) (e:TypeId) (base:Nat) (w:Yw) (v:Value) (cs:List (List Int)):Prop:=
 ∃us:List Value,w.ownsRow base e 1 v cs.length us/\∀(k:Nat) (x:List Int),cs[k]?=some x->∃A c,us[k]?=some (Value.slice A x.length c)/\x.length<=c/\RN F w A x.length x
theorem CR.form(h:CR F e base w v cs)(hn:0<cs.length):∃g cap,v=.slice (some ⟨g,0,none⟩) cs.length cap/\base<=g/\g<w.heap.size:=by
 obtain⟨us,h1,_⟩:=h;exact World.ownsRow.form h1 hn
theorem CR.lenV{A:Yo}(h:CR F e base w (.slice A n c) cs):n=cs.length:=by
 obtain⟨us,h1,_⟩:=h;rcases h1.2 with⟨h0,h2⟩|⟨g',cap,cur,h0,_⟩
 ·simp only[Cz]at h0;rw[h0.2.1,h2]
 simp only[Cz]at h0;exact h0.2.1
theorem CR.at(h:CR F e base w (.slice (some ⟨g,0,none⟩) n c) cs){k:Nat}(hk:k<n):∃A' c' x,cs[k]?=some x/\x.length<=c'/\RN F w A' x.length x/\w.cell? ⟨g,k,none⟩=some (.slice A' x.length c')/\w.frozen? ⟨g,k,none⟩=false:=by
 have hn:=h.lenV;subst hn;obtain⟨us,h1,h2⟩:=h;obtain⟨A',c',hu,hle,hr⟩:=h2 k _ (Ak hk);exact⟨A',c',_,Ak hk,hle,hr,by rw[World.ownsRow.cellAt h1 k (by omega)];exact hu,World.ownsRow.frozenAt h1 k⟩
theorem CR.set(h:CR F e base w (.slice (some ⟨g,0,none⟩) n c) cs)(hg:F g)(k:Nat){A':Yo}{c':Nat}{y:List Int}(hc:y.length<=c')(hr:RN F w A' y.length y):
 CR F e base (w.setCell ⟨g,k,none⟩ (.slice A' y.length c')) (.slice (some ⟨g,0,none⟩) n c) (cs.set k y):=by
 have hn:=h.lenV;subst hn;obtain⟨us,h1,h2⟩:=h;have hch:Chg F w (w.setCell ⟨g,k,none⟩ (.slice A' y.length c')):=Chg.set w g k _ hg;refine⟨us.set k (.slice A' y.length c'),by rw[Fx];exact(World.ownsRow.stored h1 k _).1,fun i x hx=>?_⟩
 by_cases hik:k=i
 ·subst hik;have hlt:k<cs.length:=by have:=(Bk.1 hx).1;rwa [Fx]at this
  rw[List.getElem?_set_self hlt]at hx;injection hx with hx
  subst hx;have hus:us.length=cs.length:=by have:=h1.1;omega
  exact⟨A',c',List.getElem?_set_self (by omega),hc,hr.chg hch⟩
 rw[List.getElem?_set_ne hik]at hx;obtain⟨A2,c2,hu,hle,hr2⟩:=h2 i x hx;exact⟨A2,c2,by rw[List.getElem?_set_ne hik];exact hu,hle,hr2.chg hch⟩
theorem CR.chg(h:CR F e base w v cs)(hc:Chg F' w w')(h1:∀k,F' k->F k)(h2:∀k,v.ownBlock=some k->¬F' k):CR F e base w' v cs:=by
 obtain⟨us,g1,g2⟩:=h;refine⟨us,⟨g1.1,?_⟩,fun i x hx=>?_⟩
 ·rcases g1.2 with hn|⟨g,cap,cur,rfl,hb,hg,rest⟩
  ·exact .inl hn
  exact .inr ⟨g,cap,cur,rfl,hb,by rw[hc.block g (Array.getElem?_eq_some_iff.1 hg).1 (h2 g rfl)];exact hg,rest⟩
 obtain⟨A2,c2,hu,hle,hr2⟩:=g2 i x hx;exact⟨A2,c2,hu,hle,hr2.chg (hc.wide h1)⟩
theorem CR.below(h:CR F e base w v cs)(hb:Below w.heap.size w w'):CR F e base w' v cs:=h.chg (Chg.of_below hb (fun _=>False)) (fun _ h=>h.elim) (fun _ _ h=>h)
theorem RN.more(h:RN F w A n xs)(hF:∀k,F' k->F k\/w.heap.size<=k):RN F' w A n xs:=⟨h.1,fun ad hn e hf=>by
 obtain⟨ad',e',hb,_⟩:=h.1.2 hn;rw[e]at e';injection e' with e'
 subst e';rcases hF _ hf with h2|h2
 ·exact h.2 ad hn e h2
 omega⟩
theorem CR.sub(h:CR F e base w v cs)(hF:∀k,F' k->F k):CR F' e base w v cs:=by
 obtain⟨us,h1,h2⟩:=h;refine⟨us,h1,fun k x hx=>?_⟩;obtain⟨A,c,e1,e2,e3⟩:=h2 k x hx;exact⟨A,c,e1,e2,e3.sub hF⟩
theorem CR.more(h:CR F e base w v cs)(hF:∀k,F' k->F k\/w.heap.size<=k):CR F' e base w v cs:=by
 obtain⟨us,h1,h2⟩:=h;refine⟨us,h1,fun k x hx=>?_⟩;obtain⟨A,c,e1,e2,e3⟩:=h2 k x hx;exact⟨A,c,e1,e2,e3.more hF⟩
theorem CR.of_os{G:Nat->Prop}(h:OS tS e w G v cs)(hF:∀k,F k->G k->v.ownBlock=some k)(hb:∀k,v.ownBlock=some k->base<=k):CR F e base w v cs:=by
 obtain⟨css,Fs,h1,h2,h3,h4,h5,h6⟩:=h
 have hsing:∀k (hk:k<cs.length),∃A c,css[k]'(by omega)=[.slice A cs[k].length c]/\cs[k].length<=c/\RN F w A cs[k].length cs[k]:=by
  intro k hk;obtain⟨u,hu,ho⟩:=h6 k hk (by omega);obtain⟨A,c,rfl⟩:=ho.shape;have hcap:=ho.read.cap;refine⟨A,c,hu,hcap.2.1,ho.read.ri,fun ad hn he hf=>?_⟩;subst he;obtain⟨css2,Fs2,k1,k2,k3,_⟩:=ho;have hFs:=k3 ad.block rfl;have h7:=h4 k _ hFs;exact h7.2 (hF _ hf h7.1)
 refine⟨css.flatten,⟨h1.1,?_⟩,fun k x hx=>?_⟩
 ·rcases h1.2 with hn|⟨g,cap,cur,rfl,hb',rest⟩
  ·exact .inl hn
  exact .inr ⟨g,cap,cur,rfl,hb g rfl,rest⟩
 have hk:=(Bk.1 hx).1;have hx2:cs[k]'hk=x:=(Bk.1 hx).2;subst hx2;obtain⟨A,c,e1,e2,e3⟩:=hsing k hk;refine⟨A,c,?_,e2,e3⟩
 have hs:∀c∈css,c.length=1:=fun c hc=>by
  obtain⟨i,hi,rfl⟩:=List.getElem_of_mem hc;obtain⟨A',c',e1',_⟩:=hsing i (by omega);rw[e1']
  rfl
 have:=zin (s:=1) hs (k:=k) (Ak (by omega)) 0 (by omega);rw[Nat.mul_one,Nat.add_zero]at this;rw[this,e1]
 rfl
def RSN (F:Nat->Prop) (w:Yw) (v:Value) (cs:List (List Int)):Prop:=
 ∃(A:Yo) (c:Nat) (us:List Value),v=.slice A cs.length c/\cs.length<=c/\c<=maxLen/\us.length=cs.length/\Reads w w.heap.size 1 A cs.length us/\(∀ad,0<cs.length->A=some ad->¬F ad.block)/\
  ∀(k:Nat) (x:List Int),cs[k]?=some x->∃A' c',us[k]?=some (Value.slice A' x.length c')/\x.length<=c'/\RN F w A' x.length x
theorem RSN.chg(h:RSN F w v cs)(hc:Chg F w w'):RSN F w' v cs:=by
 obtain⟨A,c,us,rfl,h1,h2,h3,h4,h5,h6⟩:=h;refine⟨A,c,us,rfl,h1,h2,h3,⟨h4.1,fun hn=>?_⟩,h5,fun k x hx=>?_⟩
 ·obtain⟨ad,e,hb,hk⟩:=h4.2 hn;refine⟨ad,e,Cq hb hc.size,fun j u hu=>?_⟩;have h2:=h5 ad hn e;rw[Ek (hc.block (ad.add j).block (by rw[zgk];exact hb) (by rw[zgk];exact h2))];exact hk j u hu
 obtain⟨A',c',e1,e2,e3⟩:=h6 k x hx;exact⟨A',c',e1,e2,e3.chg hc⟩
theorem RSN.below(h:RSN F w v cs)(hb:Below w.heap.size w w'):RSN F w' v cs:=h.chg (Chg.of_below hb F)
theorem RSN.at(h:RSN F w v cs){k:Nat}(hk:k<cs.length):∃b o c A' c' x,v=.slice (some ⟨b,o,none⟩) cs.length c/\b<w.heap.size/\¬F b/\cs[k]?=some x/\x.length<=c'/\RN F w A' x.length x/\w.cell? ⟨b,o+k,none⟩=some (.slice A' x.length c'):=by
 obtain⟨A,c,us,rfl,h1,h2,h3,h4,h5,h6⟩:=h;obtain⟨ad,e,hb,hc⟩:=h4.2 (by omega);subst e;obtain⟨A',c',e1,e2,e3⟩:=h6 k _ (Ak hk);have h0:0<us.length:=by omega
 have hsp:=zim (hc 0 _ (Ak h0));have hsp':ad=⟨ad.block,ad.off,none⟩:=by simpa [Addr.add]using hsp
 refine⟨ad.block,ad.off,c,A',c',_,by rw[<-hsp'],hb,h5 ad (by omega) rfl,Ak hk,e2,e3,?_⟩;have:=hc k _ e1;rwa [hsp',Addr.add_lit]at this
theorem RSN.of_cr{base:Nat}(h:CR F e base w v cs)(hF:∀k,v.ownBlock=some k->¬F k):RSN F w v cs:=by
 obtain⟨us,h1,h2⟩:=h;obtain⟨A,c,rfl,hc,hm,hr⟩:=zb0 h1;exact⟨A,c,us,rfl,hc,hm,by have:=h1.1;omega,hr,fun ad hn he=>hF _ (by rw[he];rfl),h2⟩
theorem RSN.shape(h:RSN F w v cs):∃A c,v=.slice A cs.length c:=by
 obtain⟨A,c,us,rfl,_⟩:=h;exact⟨A,c,rfl⟩
end
end
theorem zwr{x:Node}(h:x.1=1)(fr vs:List Int):zbf x fr vs=[M.i_ fr x.2.1.toNat]:=by rw[zbf,if_pos h]
theorem zws{x:Node}(h:x.1≠1)(fr vs:List Int):zbf x fr vs=zbh x.2.2.2 vs:=by rw[zbf,if_neg h];rfl
theorem zo4(b:Nat)(Av:Yo)(nv cv:Nat)(vs:List Int)(a0 a1 a2:Int)(A:Yo)(n c:Nat)(xs:List Int)(Af:Yo)(nf cf:Nat)(fr:List Int)(w:Yw)
 (p5:w.cell? ⟨b,5,none⟩=some (.slice Av nv cv)) (hv:RI w w.heap.size Av nv vs) (hx:RI w w.heap.size A n xs) (hf:RI w w.heap.size Af nf fr) (hn:n<=1000000000) (hnv:nv<=1000000000) (hnf:nf<=1000000000)
 (h1:a0=1->0<=a1/\a1<nf) (hr:Hid (∀f∈xs,0<=f/\f<nv)) :
 Calls Tryz.prog 246 #[.pointer (some ⟨b,0,none⟩),.agg #[.int .i64 a0,.int .i64 a1,.int .i64 a2,.slice A n c],.slice Af nf cf] w (Ret1 2 w (zbf (a0,a1,a2,xs) fr vs)):=by
 have lb:b<w.heap.size:=Cj w _ p5;obtain⟨W,hW,B0,sW,q0,q1,q2,q3,qf⟩:=zdm w (.int .i64 a0) (.int .i64 a1) (.int .i64 a2) (.slice A n c) 169;have p5':W.cell? ⟨b,5,none⟩=some (.slice Av nv cv):=by rw[B0.cell (by show b<_;omega)];exact p5
 have lW:w.heap.size<W.heap.size:=by omega
 have HW:=Aq hW;clear hW sW
 by_cases h:a0=1
 ·have h1':=h1 h;subst h;obtain⟨j,rfl⟩:∃j:Nat,a1=(j:Int):=⟨a1.toNat,by omega⟩;obtain⟨bf,of,rfl,hbf,hcf⟩:=zau hf (by omega);obtain⟨_,y,e,_,Y,_⟩:=hf.at (k:=j) (by omega);have cy:w.cell? ⟨bf,of+j,none⟩=some (.int .i64 y):=hcf j y Y.out;have cy':W.cell? ⟨bf,of+j,none⟩=some (.int .i64 y):=by rw[B0.cell (by show bf<_;omega)];exact cy
  have hj0:(0:Int)<=(j:Int):=by omega
  have hjn:(j:Int)<(nf:Int):=by omega
  have E:=Aq (show zbf (1,(j:Int),a2,xs) fr vs=[y]by rw[zwr rfl];show [M.i_ fr (j:Int).toNat]=_;rw[Fq,zi6 Y.out]);have O1:=zfo W y;have B1:Below w.heap.size w (W.alloc (.cells #[.int .i64 y] 2)):=B0.alloc B0.size _;rw[HW.out]at O1 B1;have hz:(w.alloc (.cells #[.int .i64 1,.int .i64 (j:Int),.int .i64 a2,.slice A n c] 169)).heap.size=w.heap.size+1:=by simp
  rw[hz]at O1;clear hz;clear h1 h1' hcf e hr hv hx hf
  go_enter Tryz.func246,Tryz.ntmps246
  go_wp2_with fail;go_ret;rw[E.out];exact⟨_,rfl,O1.base (B':=w.heap.size) (by simp),B1⟩
 have E:=Aq (show zbf (a0,a1,a2,xs) fr vs=zbh xs vs from zws h fr vs);have hne:(a0 == 1)=false:=by simpa using h
 have pq:=Ag p5';have pq3:=Ag q3;have D1:Below W.heap.size W W.drew:=zad (Aw _ _) 1;have hd0:W.drew.heap.size=W.heap.size:=rfl;have B1:Below w.heap.size w W.drew:=zad B0 1;clear h1
 go_enter Tryz.func246,Tryz.ntmps246
 go_wp2_with fail;rw[<-HW.out]
 (refine zec [0,2,3,4] [1,5] 1 (.one 6 .rest) [7] (by kernel_rfl) (by kernel_rfl) ?_;simp only[zak];simp only[List.filterMap,By,Bg];(repeat (go_big_quiet_step (fail)));refine Cv ?_;(repeat (go_big_quiet_step (fail)));refine Cv ?_)
 refine za9 rfl ?_;go_wp2_with fail;refine(zi7 _ _ _ _ _ _ _ _ _ (hx.later B1) (hv.later B1) hn hnv hr).mono ?_;rintro e w2 ⟨v4,rfl,own1,bel1⟩;have B2:=zaa D1 bel1;go_wp2_with fail;refine⟨Bz B2,zb9 ?_⟩;go_wp2_with fail;refine⟨rfl,v4,by simp[results,Tryz.results246,go_sem],?_⟩;rw[E.out];exact⟨_,rfl,own1.base (by have:=B1.size;omega),zaa B1 bel1⟩
theorem zwt(b:Nat)(Av:Yo)(nv cv:Nat)(vs:List Int)(A3:Yo)(n3 c3:Nat)(outs:List Int)(w:Yw)
 (p3:w.cell? ⟨b,3,none⟩=some (.slice A3 n3 c3)) (p5:w.cell? ⟨b,5,none⟩=some (.slice Av nv cv)) (hv:RI w w.heap.size Av nv vs) (hx:RI w w.heap.size A3 n3 outs) (hn:n3<=1000000000) (hnv:nv<=1000000000) (hr:Hid (∀f∈outs,0<=f/\f<nv)) :
 Calls Tryz.prog 220 #[.pointer (some ⟨b,0,none⟩)] w (Ret1 2 w (zbh outs vs)):=by
 have pq:=Ag p5;have pq3:=Ag p3;have D1:Below w.heap.size w w.drew:=zad (Aw _ _) 1;have hd0:w.drew.heap.size=w.heap.size:=rfl
 go_enter Tryz.func220,Tryz.ntmps220
 go_wp2_with fail
 (refine zec [0,1,2,3,5,6,7] [4,8] 1 (.one 9 .rest) [10] (by kernel_rfl) (by kernel_rfl) ?_;simp only[zak];simp only[List.filterMap,By,Bg];(repeat (go_big_quiet_step (fail)));refine Cv ?_;(repeat (go_big_quiet_step (fail)));refine Cv ?_)
 refine za9 rfl ?_;go_wp2_with fail;refine(zi7 _ _ _ _ _ _ _ _ _ (hx.later D1) (hv.later D1) hn hnv hr).mono ?_;rintro e w2 ⟨v4,rfl,own1,bel1⟩;have B2:=zaa D1 bel1;go_wp2_with fail;refine⟨Bz B2,zb9 ?_⟩;go_wp2_with fail;refine⟨rfl,v4,by simp[results,Tryz.results220,go_sem],?_⟩;exact⟨_,rfl,own1.base (by omega),zaa D1 bel1⟩
section
def F2 (bv bc:Nat):Nat->Prop:=fun k=>k=bv\/k=bc
structure Pl (b bv bc L:Nat) (pi:Int) (A1:Yo) (n1 c1:Nat) (A2:Yo) (n2 c2:Nat) (A3:Yo) (n3 c3:Nat) (Ao:Yo) (no co cv cc:Nat) (ns:List Node) (tb:List (List Int)) (outs O:List Int) (w:Yw):Prop where
 p0:w.cell? ⟨b,0,none⟩=some (.int .i64 pi)
 p1:w.cell? ⟨b,1,none⟩=some (.slice A1 n1 c1)
 p2:w.cell? ⟨b,2,none⟩=some (.slice A2 n2 c2)
 p3:w.cell? ⟨b,3,none⟩=some (.slice A3 n3 c3)
 p4:w.cell? ⟨b,4,none⟩=some (.slice Ao no co)
 p5:w.cell? ⟨b,5,none⟩=some (.slice (some ⟨bv,0,none⟩) n2 cv)
 p6:w.cell? ⟨b,6,none⟩=some (.slice (some ⟨bc,0,none⟩) n2 cc)
 h1:RS tS w L (.slice A1 n1 c1) tb
 h2:RS tN w L (.slice A2 n2 c2) ns
 h3:RI w L A3 n3 outs
 h4:RI w L Ao no O
 lv:L<=bv
 lc:L<=bc
 ne:bv≠bc
 nbv:b≠bv
 nbc:b≠bc
 lL:L<=w.heap.size
section
variable {b bv bc L:Nat} {pi:Int} {A1 :Yo} {n1 c1:Nat} {A2 :Yo} {n2 c2:Nat} {A3 :Yo} {n3 c3:Nat} {Ao :Yo} {no co cv cc:Nat} {ns:List Node} {tb:List (List Int)} {outs O:List Int} {w w':Yw}
theorem Pl.chg(h:Pl b bv bc L pi A1 n1 c1 A2 n2 c2 A3 n3 c3 Ao no co cv cc ns tb outs O w)(hc:Chg (F2 bv bc) w w'):Pl b bv bc L pi A1 n1 c1 A2 n2 c2 A3 n3 c3 Ao no co cv cc ns tb outs O w':=by
 have lb:b<w.heap.size:=Cj w _ h.p0;have hn:¬F2 bv bc b:=fun e=>e.elim h.nbv h.nbc
 have hB:Below L w w':=hc.toBelow (fun k hk=>hk.elim (fun e=>e▸h.lv) (fun e=>e▸h.lc)) h.lL;have key:∀j,w'.cell? ⟨b,j,none⟩=w.cell? ⟨b,j,none⟩:=fun j=>hc.cell lb hn
 exact⟨(key 0).trans h.p0,(key 1).trans h.p1,(key 2).trans h.p2,(key 3).trans h.p3,(key 4).trans h.p4,(key 5).trans h.p5,(key 6).trans h.p6,h.h1.below hB,h.h2.below hB,h.h3.below hB,h.h4.below hB,h.lv,h.lc,h.ne,h.nbv,h.nbc,Nat.le_trans h.lL hc.size⟩
end
theorem zo5{w:Yw}{b o:Nat}{x:Int}(h:w.cell? ⟨b,o,none⟩=some (.int .i64 x)):RI w w.heap.size (some ⟨b,o,none⟩) 1 [x]:=by
 refine⟨rfl,fun _=>⟨_,rfl,Cj w _ h,fun j u hu=>?_⟩⟩
 match j,hu with
 | 0,hu=>
  simp at hu;subst hu;simpa [Addr.add]using h
theorem ri_x{w:Yw}{B b o n:Nat}{xs:List Int}(h:RI w B (some ⟨b,o,none⟩) n xs){k:Nat}{x:Int}(hx:xs[k]?=some x):w.cell? ⟨b,o+k,none⟩=some (.int .i64 x):=by
 have hk:k<n:=by rw[<-h.len];exact(Bk.1 hx).1
 obtain⟨b',o',e,-,hc⟩:=zau h (by omega);simp only[Dq,Addr.mk.injEq]at e;obtain⟨rfl,rfl,-⟩:=e;exact hc k x hx
theorem OI.ri'{e:TypeId}{B:Nat}{w:Yw}{A:Yo}{n c:Nat}{xs:List Int}(h:OI e B w (.slice A n c) xs):RI w w.heap.size A n xs:=(RN.of_oi (F:=fun _=>False) h (fun _ h=>h.elim)).1
theorem zk8{cs:List (List Int)}{i:Nat}{s:List Int}(h:cs[i]?=some s):zal cs i=s:=by rw[zal,h];rfl
theorem zee{F:Nat->Prop}{w U:Yw}(h:Below w.heap.size w U):Chg F w U:=Chg.of_below h F
theorem zwu(b bv bc L:Nat)(pi:Int)(A1:Yo)(n1 c1:Nat)(A2:Yo)(n2 c2:Nat)(A3:Yo)(n3 c3:Nat)(Ao:Yo)(no co cv cc:Nat)(ns:List Node)(tb:List (List Int))(outs O vs:List Int)(cs:List (List Int))(bf of cf:Nat)(x:Int)(G:Nat->Prop)(w:Yw)(hG:∀k,F2 bv bc k->G k)(hGs:∀k,G k->k<w.heap.size)
 (hP:Pl b bv bc L pi A1 n1 c1 A2 n2 c2 A3 n3 c3 Ao no co cv cc ns tb outs O w) (hF:M.PF ns tb O) (hx:M.smp x=true) (h0:0<n2) (hnz:hNS.sz ns<=100000000)
 (hv:OI 2 L w (.slice (some ⟨bv,0,none⟩) n2 cv) vs) (hvs:vs.all M.smp=true) (hc:CR G 24 L w (.slice (some ⟨bc,0,none⟩) n2 cc) cs) (hco:M.CO ns cs)
 (cf0:w.cell? ⟨bf,of,none⟩=some (.int .i64 x)) (hbf:bf≠bv/\bf≠bc) :
 Calls Tryz.prog 219 #[.pointer (some ⟨b,0,none⟩),.slice (some ⟨bf,of,none⟩) 1 cf] w fun e w'=>e=.returned (.tuple #[])/\Chg (F2 bv bc) w w'/\OI 2 L w' (.slice (some ⟨bv,0,none⟩) n2 cv) (zcg ns tb [x] O cs)/\CR G 24 L w' (.slice (some ⟨bc,0,none⟩) n2 cc) (zd2 ns tb [x] O cs):=by
 have hl2:ns.length=n2:=hP.h2.cap.1;have hl1:tb.length=n1:=hP.h1.cap.1;have hlo:O.length=no:=hP.h4.len;have hno:no=n2:=by rw[<-hlo,hF.top.len,hl2]
 have hlv:vs.length=n2:=hv.n_eq.symm;have hlc:cs.length=n2:=hc.lenV.symm;have hxs:[x].all M.smp=true:=by simpa using hx
 have hnb:n2<=24:=by rw[<-hl2];exact hF.len
 have lbf:bf<w.heap.size:=Cj w _ cf0;have lbv:bv<w.heap.size:=(Gq hv _ rfl).2;have lbc:bc<w.heap.size:=by obtain⟨us,h1,_⟩:=hc;exact(Gq h1 _ rfl).2
 have lb:b<w.heap.size:=Cj w _ hP.p0;have hne:=hP.ne;have nbv:=hP.nbv;have nbc:=hP.nbc;have lv:=hP.lv;have lc:=hP.lc;have nf:¬F2 bv bc bf:=fun e=>e.elim hbf.1 hbf.2
 obtain⟨E1,E2⟩:=zrl (tb:=tb) (fr:=[x]) hF.top vs cs (by rw[hlv,hl2]) (by rw[hlc,hl2]);rw[hlo]at E1 E2;obtain⟨bo,oo,rfl,hbo,-⟩:=zau hP.h4 (by omega);have p1_:=hP.p1;have p2_:=hP.p2;have p4_:=hP.p4;have HL2:=Aq hl2;have HL1:=Aq hl1;have HLO:=Aq hlo;have HNO:=Aq hno;have HLV:=Aq hlv;have HE1:=Aq E1;have HE2:=Aq E2;have HX:=Aq hxs;have HVS:=Aq hvs;have hno':no<=n2:=by omega
 have hno2:n2<=no:=by omega
 clear hl2 hl1 hlo hno hlv hlc E1 E2 hxs hvs hx
 go_enter Tryz.func219,Tryz.ntmps219
 go_wp2_with fail
 go_loopw [14] (fun i wr=>∃t:Nat,i=.int .i64 t/\t<=no/\Chg (F2 bv bc) w wr/\OI 2 L wr (.slice (some ⟨bv,0,none⟩) n2 cv) (zbl ns tb [x] O vs cs t).1/\CR G 24 L wr (.slice (some ⟨bc,0,none⟩) n2 cc) (zbl ns tb [x] O vs cs t).2) (fun i _=>no-(intOf i).toNat)
 case atStart=>exact⟨0,rfl,by omega,Chg.refl _ _,hv,hc⟩
 case round=>
  obtain⟨t,rfl,ht,hch,ov,oc⟩:=hrel
  by_cases hlt:t<no
  ·obtain⟨xn,hxn,eN,eO,hi⟩:=hF.ord (t:=t) (by rw[HLO.out];exact hlt);obtain⟨r1,r2⟩:=znp hF HX.out hco HVS.out t (by rw[HLO.out];omega);have HR:=Aq (show zbl ns tb [x] O vs cs (t+1)=_ from by rw[zbl]);generalize hri:zao O t=i at *;generalize hrv:(zbl ns tb [x] O vs cs t).1=V at *;generalize hrc:(zbl ns tb [x] O vs cs t).2=C at *;rw[HL2.out]at hi;have hok:=hF.ok _ _ hxn;have hfr:=hF.fr _ _ hxn;have hinp:=hF.inp _ _ hxn;have hcx:=r2.at_ _ _ hxn;clear hri hrv hrc;obtain⟨bb,o,a0,a1,a2,A6,c6,x3,rfl,hbb,X,e0,e1,e2,e3,hr3,h3b⟩:=zfl (hP.chg hch).h2 hnz hi;obtain rfl:xn=(a0,a1,a2,x3):=Option.some.inj (hxn.symm.trans X.out)
   have hot:O[t]?=some (i:Int):=by
    have h2:t<O.length:=(by rw[HLO.out];exact hlt);rw[M.i_,Ak h2]at eO;rw[Ak h2];exact congrArg some eO
   have co1:wr.cell? ⟨bo,oo+t,none⟩=some (.int .i64 (i:Int)):=ri_x (hP.chg hch).h4 hot;obtain⟨U,hU,GU,sU,q0,q1,q2,q3,qf⟩:=zdm wr (.int .i64 a0) (.int .i64 a1) (.int .i64 a2) (.slice A6 x3.length c6) 169;have HU:=Aq hU;have hchU:Chg (F2 bv bc) w U:=hch.trans (zee GU);have hPU:=hP.chg hchU;have ovU:=ov.below GU;have ocU:=oc.below GU;obtain⟨A',c',s,hs1,hs2,hs3,hs4,hs5⟩:=ocU.at (k:=i) hi;obtain⟨y,hy1,hy2,hy3,-,-⟩:=ovU.at' (k:=i) hi;have hcs:zal C i=s:=zk8 hs1;rw[hcs]at hcx;have cfU:U.cell? ⟨bf,of,none⟩=some (.int .i64 x):=(by rw[hchU.cell lbf nf];exact cf0);have hszr:=hch.size;have hszU:=GU.size;have p1:=hPU.p1;have p2:=hPU.p2;have p5:=hPU.p5;have p6:=hPU.p6;have p2r:=(hP.chg hch).p2;have i0:(0:Int)<=(i:Int):=(by omega);have i1:(i:Int)<(n2:Int):=(by omega);have t0:(0:Int)<=(t:Int):=(by omega);have t1:(t:Int)<(no:Int):=(by omega);have HCX:=Aq hcx;have HCS:=Aq hcs;have HXN:=Aq hxn;have HEN:=Aq eN;have HOK:=Aq hok;have HFR:=Aq hfr;have lblk:wr.heap.size<U.heap.size:=(by omega);have D1:Below U.heap.size U U.drew:=zad (Aw _ _) 1;have hd0:U.drew.heap.size=U.heap.size:=rfl;clear hU sU hcx hcs hxn eN hok hfr eO hs1
   by_cases h6:a0=6
   ·subst h6;have h6':=(zcx HOK.out).2.1 rfl;simp only at h6';have hsl:1<=s.length:=(by rw[HCX.out.1];simp[zbk];omega);obtain⟨bs,os,s0,rfl,hbs,hnF,hs0,cs0⟩:=hs3.at (k:=0) (by omega);rw[Nat.add_zero]at cs0;have HT:=Aq (show zbl ns tb [x] O vs cs (t+1)=(V.set i s0,C)by rw[HR.out,HEN.out,if_pos rfl,HCS.out,zi6 hs0]);have nsv:bs≠bv:=fun e=>hnF (hG _ (Or.inl e))
    have nsc:bs≠bc:=fun e=>hnF (hG _ (Or.inr e))
    have pp5:=Ag p5;have pp6:=Ag p6;have ppc:=Ag hs4;have pps:=Ag cs0;have zv:U.drew.cell? ⟨bv,i,none⟩=some (.int .i64 y):=hy2;have zf:U.drew.frozen? ⟨bv,i,none⟩=false:=hy3;have hs0':=Aq hs0;have hl1s:(0:Int)<(s.length:Int):=(by omega);clear HR HCS hs0 h6' hinp;go_wp2_with fail;rw[<-HU.out];go_wp2_with fail
    (refine zct [0,1,2,4,5,6,7,9] [3,8,10,11,12,13] 1 (.first 14 .rest) [15] [15] (by kernel_rfl) (by kernel_rfl) ?_;simp only[zak];simp only[List.filterMap,By,Bg];(repeat (go_big_quiet_step (fail)));refine Cv ?_;(repeat (go_big_quiet_step (fail)));refine Cv ?_)
    (refine za6 rfl ?_;(repeat (go_big_quiet_step (fail)));refine Cv ?_)
    refine zbc ?_;go_wp2_with fail;have O2:=(ovU.stored' i s0).below (zad (Aw _ _) 1);have C2:=(ocU.chg (Chg.set (F:=fun k=>k=bv) U bv i (.int .i64 s0) rfl) (fun k hk=>hG _ (Or.inl hk)) (fun k hk hk2=>by simp only[Value.ownBlock,Dq]at hk;omega)).below (zad (Aw _ _) 1);refine⟨⟨t+1,by go_num,by omega,(hchU.trans (Chg.set U bv i (.int .i64 s0) (Or.inl rfl))).trans (zee (zad (Aw _ _) 1)),?_,?_⟩,by simp[intOf];omega⟩
    ·rw[HT.out];exact O2
    rw[HT.out];exact C2
   have hne6:(a0 == 6)=false:=(by simpa using h6);have HIL:=Aq (znn (x:=(a0,a1,a2,x3)) HOK.out [x] V);have HIA:=Aq (zgt (x:=(a0,a1,a2,x3)) HX.out r1);have HT:=Aq (show zbl ns tb [x] O vs cs (t+1)=(V.set i (zah (a0,a1,a2,x3) tb (zbf (a0,a1,a2,x3) [x] V) s),C.set i (zaq (a0,a1,a2,x3) (zbf (a0,a1,a2,x3) [x] V) s (zah (a0,a1,a2,x3) tb (zbf (a0,a1,a2,x3) [x] V) s)))by rw[HR.out,HEN.out,if_neg h6,HCS.out]);have pp1:=Ag p1;have pp5:=Ag p5;have pp6:=Ag p6;have ppc:=Ag hs4;have pq0:=Ag q0;have pq1:=Ag q1;have pq2:=Ag q2;have pq3:=Ag q3;have hfrU:RI U.drew U.drew.heap.size (some ⟨bf,of,none⟩) 1 [x]:=zo5 (by show U.cell? _=_;exact cfU);have hvU:=(ovU.below D1).ri';generalize hI:zbf (a0,a1,a2,x3) [x] V=I at *;clear HR HCS;go_wp2_with fail;rw[<-HU.out];go_wp2_with fail
   (refine zct [0,1,2,4,5,6,7,9,11,12,13,14,16,18,20,21,22,24] [3,8,10,15,17,23,25,26] 6 (.one 19 (.one 27 (.first 28 (.first 29 (.first 30 (.first 31 .rest)))))) [32,34] [32,33,34] (by kernel_rfl) (by kernel_rfl) ?_;simp only[zak];simp only[List.filterMap,By,Bg];(repeat (go_big_quiet_step (fail)));refine Cv ?_;(repeat (go_big_quiet_step (fail)));refine Cv ?_)
   refine zai rfl ?_;go_wp2_with fail;refine(zo4 b _ _ cv V a0 a1 a2 _ _ c6 x3 _ _ cf [x] _ (show U.drew.cell? _=_ from p5) hvU ((hr3.more (by omega)).later (zaa GU D1)) hfrU (by omega) (by omega) (by omega) (fun e=>by have:a1=0:=hinp e;omega) (Aq (fun f hf=>by have:=HFR.out f hf;rw[HL2.out]at this;exact this))).mono ?_;rintro e w2 ⟨v4,rfl,own1,bel1⟩;rw[hI]at own1;obtain⟨A4,c4,rfl,hri4⟩:=own1.shape;have B2:=zaa D1 bel1;have s2:=bel1.size;go_wp2_with fail;refine⟨Bz B2,?_⟩;refine zai rfl ?_;go_wp2_with fail;refine(ztf a0 a1 a2 _ _ c6 x3 _ _ c1 tb _ _ c4 I _ _ c' s _ ((hPU.h1.below (B2.mono (by omega))).more (by omega)) hF.tabs hri4 (hs3.below B2).1 (by omega) (by rw[<-HL1.out];exact HOK.out) HIL.out HIA.out HCX.out.1 HCX.out.2).mono ?_;rintro e w3 ⟨v5,rfl,own2,bel2⟩;obtain⟨A5,c5,rfl,hle5,-,-⟩:=zb0 own2;have B3:=zaa B2 bel2;have s3:=bel2.size;go_wp2_with fail;refine⟨Bz B3,?_⟩
   (refine za6 rfl ?_;(repeat (go_big_quiet_step (fail)));refine Cv ?_)
   (refine za6 rfl ?_;(repeat (go_big_quiet_step (fail)));refine Cv ?_)
   (refine za6 rfl ?_;(repeat (go_big_quiet_step (fail)));refine Cv ?_)
   (refine za6 rfl ?_;(repeat (go_big_quiet_step (fail)));refine Cv ?_)
   refine zbc ?_;have zv:w3.cell? ⟨bv,i,none⟩=some (.int .i64 y):=(by rw[B3.cell (by show bv<_;omega)];exact hy2);have zf:w3.frozen? ⟨bv,i,none⟩=false:=(by rw[B3.frozen (by show bv<_;omega)];exact hy3);have zc:w3.cell? ⟨bc,i,none⟩=some (.slice A' s.length c'):=(by rw[B3.cell (by show bc<_;omega)];exact hs4);have zcf:w3.frozen? ⟨bc,i,none⟩=false:=(by rw[B3.frozen (by show bc<_;omega)];exact hs5);generalize hOut:zah (a0,a1,a2,x3) tb I s=out at *;generalize hNx:zaq (a0,a1,a2,x3) I s out=nx at *;go_wp2_with fail;have hRN:RN G w3 A5 nx.length nx:=RN.of_oi own2 (fun k hk=>by have:=hGs k hk;omega);have O2:=((ovU.below B3).stored' i out).kept (zc0 _ bc i (.slice A5 nx.length c5)) (.inr (by simp only[Value.ownBlock,ne_eq,Dq];exact hne));have C2:=((ocU.below B3).chg (Chg.set (F:=fun k=>k=bv) w3 bv i (.int .i64 out) rfl) (fun k hk=>hG _ (Or.inl hk)) (fun k hk hk2=>by simp only[Value.ownBlock,Dq]at hk;omega)).set (hG _ (Or.inr rfl)) i hle5 (hRN.chg (Chg.set _ bv i _ (hG _ (Or.inl rfl))));refine⟨⟨t+1,by go_num,by omega,((hchU.trans (zee B3)).trans (Chg.set w3 bv i _ (Or.inl rfl))).trans (Chg.set _ bc i _ (Or.inr rfl)),?_,?_⟩,by simp[intOf];omega⟩
   ·rw[HT.out];exact O2
   rw[HT.out];exact C2
  have htn:t=no:=by omega
  obtain⟨r1,r2⟩:=znp hF HX.out hco HVS.out no (by rw[HLO.out];omega);rw[htn]at ov oc;rw[HE1.out]at ov r1;clear htn;generalize hV:zcg ns tb [x] O cs=V at *;generalize hC:(zbl ns tb [x] O vs cs no).2=C at *;have hPr:=hP.chg hch;have hszr:=hch.size;have p2:=hPr.p2;have HV:=Aq hV;clear hV hC hv hc p1_ p2_ p4_ HE1;go_wp2_with fail;obtain⟨wo,rfl⟩:∃wo:Yw,wo=wr:=⟨_,rfl⟩
  go_loopw [84] (fun i wr=>∃t:Nat,i=.int .i64 t/\t<=n2/\Chg (F2 bv bc) w wr/\OI 2 L wr (.slice (some ⟨bv,0,none⟩) n2 cv) V/\CR G 24 L wr (.slice (some ⟨bc,0,none⟩) n2 cc) (zc8 ns [x] V C t)) (fun i _=>n2-(intOf i).toNat)
  case atStart=>exact⟨0,rfl,by omega,hch,ov,oc⟩
  case round=>
   clear hch ov oc hPr hszr p2;obtain⟨t,rfl,ht,hch,ov,oc⟩:=hrel
   by_cases hlt:t<n2
   ·have r3:=ztm hF HX.out r2 r1 t (by rw[HL2.out];omega);have HR:=Aq (show zc8 ns [x] V C (t+1)=_ from by rw[zc8]);have hxn:=zcd (ns:=ns) (i:=t) (by rw[HL2.out];exact hlt);generalize hrd:zc8 ns [x] V C t=C1 at *;obtain⟨xn,hN⟩:∃xn,zab ns t=xn:=⟨_,rfl⟩;rw[hN]at hxn;have hok:=hF.ok _ _ hxn;have hfr:=hF.fr _ _ hxn;have hcx:=r3.at_ _ _ hxn;clear hrd;obtain⟨bb,o,a0,a1,a2,A6,c6,x3,rfl,hbb,X,e0,e1,e2,e3,hr3,h3b⟩:=zfl (hP.chg hch).h2 hnz hlt;obtain rfl:xn=(a0,a1,a2,x3):=Option.some.inj (hxn.symm.trans X.out);obtain⟨U,hU,GU,sU,q0,q1,q2,q3,qf⟩:=zdm wr (.int .i64 a0) (.int .i64 a1) (.int .i64 a2) (.slice A6 x3.length c6) 169;have HU:=Aq hU;have hchU:Chg (F2 bv bc) w U:=hch.trans (zee GU);have hPU:=hP.chg hchU;have ovU:=ov.below GU;have ocU:=oc.below GU;obtain⟨A',c',s,hs1,hs2,hs3,hs4,hs5⟩:=ocU.at (k:=t) hlt;have hcs:zal C1 t=s:=zk8 hs1;rw[hcs]at hcx;have cfU:U.cell? ⟨bf,of,none⟩=some (.int .i64 x):=(by rw[hchU.cell lbf nf];exact cf0);have hszr:=hch.size;have hszU:=GU.size;have p5:=hPU.p5;have p6:=hPU.p6;have i0:(0:Int)<=(t:Int):=(by omega);have i1:(t:Int)<(n2:Int):=(by omega);have HCX:=Aq hcx;have HCS:=Aq hcs;have HNN:=Aq hN;have HOK:=Aq hok;have HFR:=Aq hfr;have lblk:wr.heap.size<U.heap.size:=(by omega);have D1:Below U.heap.size U U.drew:=zad (Aw _ _) 1;have hd0:U.drew.heap.size=U.heap.size:=rfl;clear hU sU hcx hcs hxn hN hok hfr hs1
    by_cases h6:a0=6
    ·subst h6;have h6':=(zcx HOK.out).2.1 rfl;simp only at h6';have hsl:1<=s.length:=(by rw[HCX.out.1];simp[zbk];omega);have HIL:=Aq (znn (x:=(6,a1,a2,x3)) HOK.out [x] V);have HIA:=Aq (zgt (x:=(6,a1,a2,x3)) HX.out r1);have HT:=Aq (show zc8 ns [x] V C (t+1)=C1.set t (zaq (6,a1,a2,x3) (zbf (6,a1,a2,x3) [x] V) s 0)by rw[HR.out,HNN.out,if_pos rfl,HCS.out]);have pp5:=Ag p5;have pp6:=Ag p6;have ppc:=Ag hs4;have pq0:=Ag q0;have pq1:=Ag q1;have pq2:=Ag q2;have pq3:=Ag q3;have hfrU:RI U.drew U.drew.heap.size (some ⟨bf,of,none⟩) 1 [x]:=zo5 (by show U.cell? _=_;exact cfU);have hvU:=(ovU.below D1).ri';generalize hI:zbf (6,a1,a2,x3) [x] V=I at *;clear HR HCS h6';obtain⟨s0,ss,rfl⟩:=zkq hsl;go_wp2_with fail;rw[<-HU.out];go_wp2_with fail
     (refine zct [0,1,2,4,6,8,10,11,12,14] [3,5,7,13,15,16] 6 (.one 9 (.one 17 (.first 18 (.first 19 (.first 20 (.first 21 .rest)))))) [22] [22] (by kernel_rfl) (by kernel_rfl) ?_;simp only[zak];simp only[List.filterMap,By,Bg];(repeat (go_big_quiet_step (fail)));refine Cv ?_;(repeat (go_big_quiet_step (fail)));refine Cv ?_)
     refine zai rfl ?_;go_wp2_with fail;refine(zo4 b _ _ cv V 6 a1 a2 _ _ c6 x3 _ _ cf [x] _ (show U.drew.cell? _=_ from p5) hvU ((hr3.more (by omega)).later (zaa GU D1)) hfrU (by omega) (by omega) (by omega) (fun e=>absurd e (by decide)) (Aq (fun f hf=>by have:=HFR.out f hf;rw[HL2.out]at this;exact this))).mono ?_;rintro e w2 ⟨v4,rfl,own1,bel1⟩;rw[hI]at own1;have hil:I.length=1:=HIL.out;obtain⟨x0,rfl⟩:=len1 hil;obtain⟨g4,cap4,hA4,-,-⟩:=own1.form (by simp);subst hA4;obtain⟨y4,hy4,cy4,-,-,-⟩:=own1.at' (k:=0) (by simp);obtain rfl:y4=x0:=by have:=hy4.out;simpa using this.symm
     have B2:=zaa D1 bel1;have s2:=bel1.size;clear hil hy4;go_wp2_with fail;refine⟨Bz B2,?_⟩;refine zai rfl ?_;obtain⟨bs,os,rfl,hbs,hcs0⟩:=zau hs3.1 (by simp);go_wp2_with fail;refine(znm a1 a2 _ _ c6 _ _ _ cap4 _ _ _ c' y4 s0 ss _ cy4 (hs3.below B2).1 (by have:=HCX.out.1;have h6':=(zcx HOK.out).2.1 rfl;simp[zbk]at this h6';simp;omega) hs2).mono ?_;rintro e w3 ⟨v5,rfl,own2,bel2⟩;obtain⟨A5,c5,rfl,hle5,-,-⟩:=zb0 own2;have B3:=zaa B2 bel2;have s3:=bel2.size;go_wp2_with fail;refine⟨Bz B3,?_⟩
     (refine za6 rfl ?_;(repeat (go_big_quiet_step (fail)));refine Cv ?_)
     (refine za6 rfl ?_;(repeat (go_big_quiet_step (fail)));refine Cv ?_)
     (refine za6 rfl ?_;(repeat (go_big_quiet_step (fail)));refine Cv ?_)
     (refine za6 rfl ?_;(repeat (go_big_quiet_step (fail)));refine Cv ?_)
     refine zbc ?_;have zc:w3.cell? ⟨bc,t,none⟩=some (.slice (some ⟨bs,os,none⟩) (s0::ss).length c'):=(by rw[B3.cell (by show bc<_;omega)];exact hs4);have zcf:w3.frozen? ⟨bc,t,none⟩=false:=(by rw[B3.frozen (by show bc<_;omega)];exact hs5);have HNX:=Aq (show zaq (6,a1,a2,x3) [y4] (s0::ss) 0=ss++[y4]by simp[zaq,M.i_]);have hln:(ss++[y4]).length=ss.length+1:=(by simp);have hRN:RN G w3 A5 (ss++[y4]).length (ss++[y4]):=RN.of_oi own2 (fun k hk=>by have:=hGs k hk;omega);have C2:=(ocU.below B3).set (hG _ (Or.inr rfl)) t hle5 hRN;rw[hln]at C2;have HLN:=Aq hln;have O2:=(ovU.below B3).kept (zc0 _ bc t (.slice A5 (ss.length+1) c5)) (.inr (by simp only[Value.ownBlock,ne_eq,Dq];exact hne));clear hln;go_wp2_with fail;refine⟨⟨t+1,by go_num,by omega,(hchU.trans (zee B3)).trans (Chg.set w3 bc t _ (Or.inr rfl)),O2,?_⟩,by simp[intOf];omega⟩;rw[HT.out,HNX.out];exact C2
    have hne6:(a0 == 6)=false:=(by simpa using h6);have HT:=Aq (show zc8 ns [x] V C (t+1)=C1 by rw[HR.out,HNN.out,if_neg h6]);clear HR;go_wp2_with fail;rw[<-HU.out];go_wp2_with fail;exact⟨⟨t+1,by go_num,by omega,hchU,ovU,by rw[HT.out];exact ocU⟩,by simp[intOf];omega⟩
   have htn:t=n2:=(by omega);subst htn;have HE:=HE2.out;rw[HL2.out]at HE;rw[HE]at oc;go_wp2_with fail
   go_end0
   exact⟨rfl,hch,by rw[HV.out];exact ov,oc⟩
end
theorem zwv{x:Node}{t:Int}(h:zaj x t=true):(zbe x).length<=16:=by
 rw[(zno h).1];obtain⟨k,a,b,l⟩:=x;obtain⟨hk,h6,h17⟩:=zcx h;simp only at hk h6 h17;rw[zbk];dsimp only
 by_cases e6:k=6
 ·have:=h6 e6;rw[if_pos e6];omega
 rw[if_neg e6]
 by_cases e17:k=17
 ·have:=h17 e17;rw[if_pos e17];omega
 rw[if_neg e17]
 repeat' split
 all_goals omega
theorem zww{ns:List Node}{k:Nat}{x:Node}(h:ns[k]?=some x):(ns.map zbe).take (k+1)=(ns.map zbe).take k++[zbe x]:=by
 rw[M.take_at];simp[h]
theorem zwx(a0:Int)(A1:Yo)(n1 c1:Nat)(A2:Yo)(n2 c2:Nat)(A3:Yo)(n3 c3:Nat)(ns:List Node)(tb:Int)(w:Yw)(h2:RS tN w w.heap.size (.slice A2 n2 c2) ns)(hnz:hNS.sz ns<=100000000)(hok:Hid (∀x∈ns,zaj x tb=true)):
 Calls Tryz.prog 171 #[.agg #[.int .i64 a0,.slice A1 n1 c1,.slice A2 n2 c2,.slice A3 n3 c3]] w fun e w'=>∃v,e=.returned (.agg #[v])/\OS tS 24 w' (Iv w.heap.size w'.heap.size) v (ns.map zbe)/\Below w.heap.size w w':=by
 obtain⟨W0,hW0,B0_,s0,p0,p1,p2,p3,pf⟩:=zdm w (.int .i64 a0) (.slice A1 n1 c1) (.slice A2 n2 c2) (.slice A3 n3 c3) 67;obtain⟨W1,hW1,B1_,s1,r0,rf⟩:=zfv W0 (.slice none 0 0) 213;obtain⟨W,hW,B2_,s2,d0,df⟩:=zfv W1 (.slice none 0 0) 213;have BW:=zaa (zaa B0_ B1_) B2_;have q2:W.cell? ⟨w.heap.size,2,none⟩=some (.slice A2 n2 c2):=by rw[(zaa B1_ B2_).cell (by show w.heap.size<_;omega)];exact p2
 have R0:W.cell? ⟨w.heap.size+1,0,none⟩=some (.slice none 0 0):=by rw[s0]at r0;rw[B2_.cell (by show w.heap.size+1<_;omega)];exact r0
 have RF:W.frozen? ⟨w.heap.size+1,0,none⟩=false:=by have:=rf 0;rw[s0]at this;rw[B2_.frozen (by show w.heap.size+1<_;omega)];exact this
 have e1:W1.heap.size=w.heap.size+1+1:=by omega
 rw[e1]at d0 df;have df0:=df 0;rw[hW0]at hW1;rw[hW1]at hW;have HW:=Aq hW;have lW:w.heap.size+1+1<W.heap.size:=by omega
 have hl:=Aq h2.cap.1;have hnb:n2<=100000000:=by have e:ns.length+hN.szL ns=hNS.sz ns:=rfl;have:=hl.out;omega
 clear hW0 hW1 hW s0 s1 s2 e1 p0 p1 p2 p3 pf r0 rf df B0_ B1_ B2_
 go_enter Tryz.func171,Tryz.ntmps171
 go_wp2_with fail;rw[<-HW.out];go_wp2_with fail
 go_loopw [10] (fun i wr=>∃(k:Nat) (v:Value),i=.int .i64 k/\k<=n2/\OS tS 24 wr (Iv W.heap.size wr.heap.size) v ((ns.map zbe).take k)/\Gr (w.heap.size+1+1) 0 W wr v) (fun i _=>n2-(intOf i).toNat)
 case atStart=>exact⟨0,_,rfl,by omega,OS.nil _ _ _ _,Gr.start d0⟩
 case round=>
  obtain⟨k,v,rfl,hk,own,G⟩:=hrel;have sr:=G.chg.size;have Cwr:Below w.heap.size w wr:=BW.trans (G.chg.toBelow (fun b (hb:b=_)=>by omega) (by omega))
  by_cases hlt:k<n2
  ·obtain⟨bb,o,b0,b1,b2,A5,c5,y3,rfl,hbb,X,e0,e1,e2,e3,hr3,h3b⟩:=zfl (h2.below Cwr) hnz hlt;have hbw:bb<wr.heap.size:=(by omega);obtain⟨V,hV,BV,sV,n0,n1,n2_,n3_,nf⟩:=zdm wr (.int .i64 b0) (.int .i64 b1) (.int .i64 b2) (.slice A5 y3.length c5) 169;have hvg:V.cell? ⟨w.heap.size+1+1,0,none⟩=some v:=(by rw[BV.cell (by show w.heap.size+1+1<_;omega)];exact G.cel);have m0:=Ag n0;have m1:=Ag n1;have m2:=Ag n2_;have m3:=Ag n3_;have mg:=Ag hvg;have HV:=Aq hV;have DV:Below wr.heap.size wr V.drew:=zad BV 1;have DD:Below V.heap.size V V.drew:=zad (Aw _ _) 1;have hdv:V.drew.heap.size=V.heap.size:=rfl;have hpt:=Aq (zww X.out);have hxl:((ns.map zbe).take k).length<=100000000:=(by rw[Ey];omega);have hokx:=hok.out _ (Eg X.out);have HOK:=Aq hokx;clear hV hokx;go_wp2_with fail;rw[<-HV.out]
   (refine zec [0] [1,2] 2 (.one 3 (.one 4 .rest)) [5,6,7] (by kernel_rfl) (by kernel_rfl) ?_;simp only[zak];simp only[List.filterMap,By,Bg];(repeat (go_big_quiet_step (fail)));refine Cv ?_;(repeat (go_big_quiet_step (fail)));refine Cv ?_)
   refine za9 rfl ?_;go_wp2_with fail;refine(zs1 b0 b1 b2 _ _ c5 y3 tb _ HOK.out).mono ?_;rintro e w2 ⟨v1,rfl,on,bel2⟩;generalize hS:zbe (b0,b1,b2,y3)=st at *;obtain⟨A6,c6,rfl,-⟩:=on.shape;have s2_:=bel2.size;have Bw2:=zaa DV bel2;have BVw:=zaa DD bel2;have own2:=own.below Bw2 (Aj _);have G2:=G.below Bw2 (by omega);have os2:=tS_O.2 (OI.os on);go_wp2_with fail;refine⟨Bz BVw,za9 rfl ?_⟩;go_wp2_with fail;refine⟨Bz (zaa BVw ((Aw _ _).alloc (Aj _) _)),zb9 ?_⟩;go_wp2_with (at_builtin;refine za8 ei_S #[.slice A6 st.length c6] rfl _ _ rfl own2 os2 (Iv.apart (by omega)) rfl rfl (by unfold maxLen;omega) (by omega) ?_;intro v3 w4 own4 ch4;obtain⟨A7,c7,e7⟩:=own4.shape;obtain⟨n7,hn7⟩:∃n7,n7=((ns.map zbe).take k++[st]).length:=⟨_,rfl⟩;rw[<-hn7]at e7;subst e7;have HN7:=Aq hn7;clear hn7;have G4:=G2.row ch4 (by omega) (fun b hb=>⟨hb.1,by have:=hb.1;omega⟩);have hc4:=G4.cel;have hf4:w4.frozen? ⟨w.heap.size+1+1,0,none⟩=false:=(by rw[G4.fro];exact df0));go_roundw
   case rel=>
    have s4:=ch4.size;refine⟨k+1,_,by go_num,by omega,?_,G4.set df0 _⟩;rw[hpt.out];refine(own4.chg (Chg.set (F:=fun b=>b=w.heap.size+1+1) w4 (w.heap.size+1+1) 0 _ rfl) (fun b hb (e:b=_)=>?_)).wide (fun b hb=>?_)
    ·rcases hb with hb|hb|hb
     ·have:=hb.1;omega
     ·have:=hb.1;omega
     omega
    have e9:(w4.setCell ⟨w.heap.size+1+1,0,none⟩ (.slice A7 n7 c7)).heap.size=w4.heap.size:=(by simp);rcases hb with hb|hb|hb
    ·exact⟨hb.1,by have:=hb.2;omega⟩
    ·exact⟨by have:=hb.1;omega,by have:=hb.2;omega⟩
    exact⟨by omega,by omega⟩
   case measure=>simp[intOf];omega
  obtain rfl:k=n2:=by omega
  rw[Cg (by rw[Ff,hl.out];exact Aj _)]at own;obtain⟨A2',c2',rfl⟩:=own.shape;have gc:=G.cel;have R1:wr.cell? ⟨w.heap.size+1,0,none⟩=some (.slice none 0 0):=by rw[G.chg.cell (by omega) (by omega)];exact R0
  have S1:wr.frozen? ⟨w.heap.size+1,0,none⟩=false:=by rw[G.chg.frozen (by omega) (by omega)];exact RF
  generalize hsl:(ns.map zbe).length=sl at *;go_wp2;refine Cy (v:=.agg #[.slice A2' sl c2']) (by simp[results,Tryz.results171,go_sem,R1,S1]) rfl ?_;refine⟨_,rfl,?_,?_⟩
  ·exact((own.chg (Chg.set (F:=fun b=>b=w.heap.size+1) wr (w.heap.size+1) 0 _ rfl) (fun b hb (e:b=_)=>by have:=hb.1;omega))).wide (fun b hb=>⟨by have:=hb.1;omega,by have:=hb.2;simpa using this⟩)
  exact Cwr.setCell (by simp) _
end Go.Proofs.YtifeldeikhmckaaGreat
