import Derived.Test.YtifeldeikhmckaaGreatFnMutedG11
import Derived.Test.YtifeldeikhmckaaGreatFnMutedG4
import Derived.Test.YtifeldeikhmckaaGreatFnMutedG6
import Derived.Test.YtifeldeikhmckaaGreatFnMutedG5
import Derived.StillTailTactics
import Derived.Deep.RegionWith
import Derived.Deep.RegionHeld3
import Derived.Test.YtifeldeikhmckaaGreatFnMutedG7
set_option linter.unusedVariables false
set_option linter.unusedSimpArgs false
set_option maxRecDepth 100000
set_option maxHeartbeats 4000000
namespace Go.Proofs.YtifeldeikhmckaaGreat
open Go.RowKit Go.Sort
abbrev Dj := @World.cell?_setCell_same
abbrev Dw := @List.length_singleton
theorem zwy(w:Yw)(z0 z1 z2 z3 z4 z5 z6:Value)(t:TypeId):∃U,U=w.alloc (.cells #[z0,z1,z2,z3,z4,z5,z6] t)/\Below w.heap.size w U/\U.heap.size=w.heap.size+1/\U.cell? ⟨w.heap.size,0,none⟩=some z0/\U.cell? ⟨w.heap.size,1,none⟩=some z1/\U.cell? ⟨w.heap.size,2,none⟩=some z2/\U.cell? ⟨w.heap.size,3,none⟩=some z3/\U.cell? ⟨w.heap.size,4,none⟩=some z4/\U.cell? ⟨w.heap.size,5,none⟩=some z5/\U.cell? ⟨w.heap.size,6,none⟩=some z6:=
 ⟨_,rfl,(Aw _ _).alloc (Aj _) _,by simp,by simp[go_sem],by simp[go_sem],by simp[go_sem],by simp[go_sem],by simp[go_sem],by simp[go_sem],by simp[go_sem]⟩
theorem zwz(pi:Int)(A1:Yo)(n1 c1:Nat)(A2:Yo)(n2 c2:Nat)(A3:Yo)(n3 c3:Nat)(Av:Yo)(nv cv:Nat)(ns:List Node)(tb:List (List Int))(outs:List Int)(cs:List (List Int))(w:Yw)
 (h1:RS tS w w.heap.size (.slice A1 n1 c1) tb) (h2:RS tN w w.heap.size (.slice A2 n2 c2) ns) (h3:RI w w.heap.size A3 n3 outs) (hS:tSS.R w w.heap.size [.slice Av nv cv] cs) (hF:M.PF ns tb (zbj ns)) (h0:0<n2) (hnz:hNS.sz ns<=100000000) (hcz:hSS.sz cs<=100000000) (hcl:cs.length=ns.length) :
 Calls Tryz.prog 170 #[.agg #[.int .i64 pi,.slice A1 n1 c1,.slice A2 n2 c2,.slice A3 n3 c3],.agg #[.slice Av nv cv]] w fun e w'=>∃(b bv bc L:Nat) (Ao:Yo) (co cv' cc:Nat),e=.returned (.pointer (some ⟨b,0,none⟩))/\
  Pl b bv bc L pi A1 n1 c1 A2 n2 c2 A3 n3 c3 Ao n2 co cv' cc ns tb outs (zbj ns) w'/\OI 2 L w' (.slice (some ⟨bv,0,none⟩) n2 cv') (List.replicate n2 0)/\CR (F2 bv bc) 24 L w' (.slice (some ⟨bc,0,none⟩) n2 cc) cs/\Below w.heap.size w w'/\w.heap.size<=bv/\w.heap.size<=bc:=by
 have hl:=Aq h2.cap.1;have hnb:n2<=100000000:=by have e:ns.length+hN.szL ns=hNS.sz ns:=rfl;have:=hl.out;omega
 obtain⟨W0,hW0,B0_,s0,p0,p1,p2,p3,pf⟩:=zdm w (.int .i64 pi) (.slice A1 n1 c1) (.slice A2 n2 c2) (.slice A3 n3 c3) 67;obtain⟨W,hW,B1_,s1,r0,rf⟩:=zfv W0 (.slice Av nv cv) 213;have B0:=zaa B0_ B1_;have q0:W.cell? ⟨w.heap.size,0,none⟩=some (.int .i64 pi):=by rw[B1_.cell (by show w.heap.size<_;omega)];exact p0
 have q1:W.cell? ⟨w.heap.size,1,none⟩=some (.slice A1 n1 c1):=by rw[B1_.cell (by show w.heap.size<_;omega)];exact p1
 have q2:W.cell? ⟨w.heap.size,2,none⟩=some (.slice A2 n2 c2):=by rw[B1_.cell (by show w.heap.size<_;omega)];exact p2
 have q3:W.cell? ⟨w.heap.size,3,none⟩=some (.slice A3 n3 c3):=by rw[B1_.cell (by show w.heap.size<_;omega)];exact p3
 rw[s0]at r0;rw[hW0]at hW;have HW:=Aq hW;have lW:w.heap.size+1<W.heap.size:=by omega
 have m0:=Ag q0;have m1:=Ag q1;have m2:=Ag q2;have m3:=Ag q3;have m4:=Ag r0;have D1:Below W.heap.size W W.drew:=zad (Aw _ _) 1;have hd0:W.drew.heap.size=W.heap.size:=rfl;have BD:Below w.heap.size w W.drew:=zad B0 1
 have hid1:=Aq (fun(x:Node) (hx:x∈ns) (f:Int) (hf:f∈x.2.2.2)=>show za7 n2 f=true from by
  obtain⟨i,hi⟩:=Fk hx;have:=hF.fr i x hi f hf;rw[hl.out]at this;exact za3.2 (by omega))
 have HO:=Aq hF.top.len;have HCL:=Aq hcl;clear hW0 hW s0 s1 p0 p1 p2 p3 pf rf B0_ B1_ q0 q1 q2 q3 r0 hcl
 go_enter Tryz.func170,Tryz.ntmps170
 go_wp2_with fail;rw[<-HW.out]
 (refine zct [3,7] [0,1,4,8] 4 (.one 2 (.one 5 (.one 6 (.one 9 .rest)))) [10] [10,11,12] (by kernel_rfl) (by kernel_rfl) ?_;simp only[zak];simp only[List.filterMap,By,Bg];(repeat (go_big_quiet_step (fail)));refine Cv ?_;(repeat (go_big_quiet_step (fail)));refine Cv ?_)
 refine zai rfl ?_;go_wp2_with fail;refine(zm9 _ _ _ _ _ _ _ _ _ _ ns _ (h2.later BD) hnz hid1).mono ?_;rintro e w1 ⟨v1,rfl,own1,bel1⟩;have hln:(zbj ns).length=n2:=by rw[HO.out,hl.out]
 obtain⟨A4,c4,rfl,-⟩:=own1.shape;rw[hln]at own1 ⊢;have HLN:=Aq hln;have B1:=zaa D1 bel1;have s1:=bel1.size;clear hln;go_wp2_with fail;refine⟨Bz B1,?_⟩;refine zai rfl ?_;go_wp2_with (go_at_call 150;refine(zfm _ _ _ _).mono ?_;rintro e w' ⟨rfl,rfl⟩);refine⟨Bz B1,?_⟩;refine zai rfl ?_;go_wp2_with fail;refine(zc5 _ _ (by omega) (by omega)).mono ?_;rintro e w2 ⟨v2,rfl,own2,bel2⟩;rw[Fq]at own2;have B2:=zaa B1 bel2;have s2:=bel2.size;obtain⟨bv,cv',e2,hbv1,hbv2⟩:=own2.form (by simp;omega);rw[Fz]at e2;subst e2;go_wp2_with fail;refine⟨Bz B2,?_⟩;refine zai rfl ?_;go_wp2_with fail;refine(zhe _ _ _ cs _ (tSS.later hS (zaa B0 B2)) hcz).mono ?_;rintro e w3 ⟨v3,rfl,own3,bel3⟩;have B3:=zaa B2 bel3;have s3:=bel3.size
 obtain⟨bc,cc,e3,hbc1,hbc2⟩:∃bc cc,v3=.slice (some ⟨bc,0,none⟩) cs.length cc/\w2.heap.size<=bc/\bc<w3.heap.size:=by
  obtain⟨css,Fs,g1,g2,g3,_⟩:=own3;obtain⟨g,cap,hv,_,hg⟩:=World.ownsRow.form g1 (by rw[HCL.out,hl.out];omega);exact⟨g,cap,hv,(g3 g (by rw[hv];rfl)).1,hg⟩
 have C3:CR (F2 bv bc) 24 w1.heap.size w3 v3 cs:=CR.of_os own3 (fun k hk hG=>by
  rcases hk with rfl|rfl
  ·have:=hG.1;omega
  rw[e3];rfl) (fun k hk=>by rw[e3]at hk;simp only[Value.ownBlock,Dq]at hk;omega)
 rw[HCL.out,hl.out]at e3;subst e3;obtain⟨U,hU,BU,sU,u0,u1,u2,u3,u4,u5,u6⟩:=zwy w3 (.int .i64 pi) (.slice A1 n1 c1) (.slice A2 n2 c2) (.slice A3 n3 c3) (.slice A4 n2 c4) (.slice (some ⟨bv,0,none⟩) n2 cv') (.slice (some ⟨bc,0,none⟩) n2 cc) 251;have BB:=zaa (zaa B0 B3) BU;have sW:=B0.size;have o1:=(own1.base (show 0<=_ by omega)).below ((zaa bel2 bel3).trans (BU.mono (by omega)))
 have R1:RI U w1.heap.size A4 n2 (zbj ns):=by
  have h:=own1.ri';exact h.below ((zaa bel2 bel3).trans (BU.mono (by omega)))
 have HU:=Aq hU;clear hU o1;go_wp2_with fail;refine⟨Bz B3,?_⟩;refine zbc ?_;go_wp2_with fail;rw[<-HU.out];go_ret
 exact⟨w3.heap.size,bv,bc,w1.heap.size,A4,c4,cv',cc,rfl,⟨u0,u1,u2,u3,u4,u5,u6,(h1.below BB).more (by omega),(h2.below BB).more (by omega),(h3.below BB).more (by omega),R1,hbv1,by omega,by omega,by omega,by omega,by omega⟩,
  own2.below (zaa bel3 BU),C3.below BU,BB,by omega,by omega⟩
section
section
variable {P:Program} {t e:TypeId} {z:Value} {bytes:Nat}
theorem zo6(hE:EI P t e z 1 bytes){w:Yw}{ops:Array Oper}{rest:List Oper}{o:Oper}{a:Act}{Q:Exit->Act->Yw->Prop}{u:Value}
 (hgd:o.guard=none) (s x:Operand)
 (ho:o.op=.call { callee:=.builtin .append,args:=#[s,x],argTypes:=#[t,t] })
 {B:Nat} {v:Value} {n:Nat} {xs:List Value} (hown:w.ownsRow B e 1 v n xs) (hs:a.eval s=v)
 (hx:a.eval x=.slice (some ⟨w.heap.size,0,none⟩) 1 1) (h1:u.oneCell'=true)
 (hn:n+1<=maxLen) (hbytes:(n+1)*bytes<=140737488355328) (hbase:B<=w.heap.size)
 (K:∀v' w',w'.ownsRow B e 1 v' (n+1) (xs++[u])->w.grownBy w' v.ownBlock->Below B w w'->(v'.ownBlock=v.ownBlock\/∀k,v'.ownBlock=some k->w.heap.size<=k)->wpList P ops Q rest (a.put o.dst v') w') :
 wpList P ops Q (o::rest) a (w.alloc (.cells #[u] e)):=by
 obtain⟨ht,hinfo,hzs,hsz⟩:=hE;obtain⟨i0,hi,hz0,hz1,hz2⟩:=info_parts hinfo;refine wpList_append_own_at _ hgd s x t ho B e i0 z 1 bytes ht hi hz0 hz1 hz2 hzs hsz v n xs hs (hown.alloc _) ⟨w.heap.size,0,none⟩ 1 1 [u] hx rfl ?_ (by simpa using h1) hn hbytes (by simp;omega) ?_
 ·intro j u2 hj;have hadd:(⟨w.heap.size,0,none⟩:Addr).add j=⟨w.heap.size,j,none⟩:=by unfold Addr.add;split <;> simp_all
  rw[hadd,cell_of_row _ w.heap.size j #[u] e (0,0) (Df w _)];simpa using hj
 intro v' w' h2 h3 _ g4
 have h4:w.grownBy w' v.ownBlock:=by
  have:=World.grownBy_alloc w (.cells #[u] e) none
  exact⟨h3.os.trans this.os,h3.tape.trans this.tape,h3.output.trans this.output,Nat.le_trans this.size h3.size,fun k hk hne=>by
   rw[h3.block k (by simp;omega) hne];exact this.block k hk (by simp)⟩
 refine K v' w' h2 h4 ((Aw _ _).grown h4 hbase fun k hk=>(hown.lt k hk).1) ?_;rcases g4 with h|h
 ·exact .inl h
 refine .inr fun k hk=>?_
 rw[h]at hk;have hsz':(w.alloc (.cells #[u] e)).heap.size=w.heap.size+1:=by simp
 rw[hsz',Dq]at hk;omega
end
theorem zw0(b bv bc L:Nat)(A1:Yo)(n1 c1:Nat)(A2:Yo)(n2 c2:Nat)(A3:Yo)(c3:Nat)(Ao:Yo)(no co_ cv cc:Nat)(ns:List Node)(tb:List (List Int))(o:Int)(O vs:List Int)(bi oi ci:Nat)(A:Yo)(m c:Nat)(xs:List Int)(n:Nat)(w:Yw)
 (hP:Pl b bv bc L 1 A1 n1 c1 A2 n2 c2 A3 1 c3 Ao no co_ cv cc ns tb [o] O w) (hF:M.PF ns tb O) (h0:0<n2) (hnz:hNS.sz ns<=100000000) (ho:0<=o/\o<n2)
 (hv:OI 2 L w (.slice (some ⟨bv,0,none⟩) n2 cv) vs) (hvs:vs.all M.smp=true) (hc:CR (F2 bv bc) 24 L w (.slice (some ⟨bc,0,none⟩) n2 cc) (ns.map zbe))
 (ci0:w.cell? ⟨bi,oi,none⟩=some (.slice A m c)) (hbi:bi≠bv/\bi≠bc) (hx:RN (F2 bv bc) w A m xs) (hxs:xs.all M.smp=true) (hm:m<=1000000) (hn:n<=4000) :
 Calls Tryz.prog 172 #[.pointer (some ⟨b,0,none⟩),.slice (some ⟨bi,oi,none⟩) 1 ci,.int .i64 0,.int .i64 n] w fun e w'=>∃(g c':Nat) (A':Yo) (c'':Nat),e=.returned (.slice (some ⟨g,0,none⟩) 1 c')/\w'.cell? ⟨g,0,none⟩=some (.slice A' n c'')/\RI w' w'.heap.size A' n (zcl ns tb O xs o n)/\Chg (F2 bv bc) w w':=by
 have lbv:bv<w.heap.size:=(Gq hv _ rfl).2;have lbc:bc<w.heap.size:=by obtain⟨us,h1,_⟩:=hc;exact(Gq h1 _ rfl).2
 have lb:b<w.heap.size:=Cj w _ hP.p0;have lbi:bi<w.heap.size:=Cj w _ ci0;have nbi:¬F2 bv bc bi:=fun e=>e.elim hbi.1 hbi.2
 have lL:=hP.lL;have lv:=hP.lv;have lc:=hP.lc;have nbv:=hP.nbv;have nbc:=hP.nbc;have p0:=hP.p0;have p3:=hP.p3;have hx1:=Aq hx.1.len;have HXS:=Aq hxs;have HL2:=Aq hP.h2.cap.1;have hnb:n2<=24:=by rw[<-HL2.out];exact hF.len
 clear hxs
 go_enter Tryz.func172,Tryz.ntmps172
 go_wp2_with (at_make;refine zhm ei_S rfl _ _ rfl 1 _ _ rfl rfl rfl rfl (by omega) (by unfold maxLen;omega) ?_;intro w1 own1 bel1;have p0':w1.cell? ⟨b,0,none⟩=some (.int .i64 1):=(by rw[bel1.cell (by show b<_;omega)];exact p0));have z1:=(Gq own1 _ rfl).2;have s1:=bel1.size;have oc0:w1.cell? ⟨w.heap.size,0,none⟩=some (.slice none 0 0):=by rw[World.ownsRow.cellAt own1 0 (by omega)];simp[madeCells,Value.cells]
 have of0:w1.frozen? ⟨w.heap.size,0,none⟩=false:=World.ownsRow.frozenAt own1 0;clear own1 p0;refine(zc5 1 _ (by omega) (by omega)).mono ?_;rintro e w2 ⟨v2,rfl,own2,bel2⟩;obtain⟨bf,cf,e2,hbf1,hbf2⟩:=own2.form (by decide);rw[show (List.replicate (1:Int).toNat (0:Int)).length=1 from rfl]at e2;subst e2;have s2:=bel2.size;replace own2:OI 2 w1.heap.size w2 (.slice (some ⟨bf,0,none⟩) 1 cf) [0]:=own2;have oc2:w2.cell? ⟨w.heap.size,0,none⟩=some (.slice none 0 0):=by rw[bel2.cell (by show w.heap.size<_;omega)];exact oc0
 have of2:w2.frozen? ⟨w.heap.size,0,none⟩=false:=by rw[bel2.frozen (by show w.heap.size<_;omega)];exact of0
 have B2:=zaa bel1 bel2
 have hcG:CR (fun k=>k=bv\/k=bc\/k=bf\/k=w.heap.size) 24 L w2 (.slice (some ⟨bc,0,none⟩) n2 cc) (ns.map zbe):=(hc.more (F':=fun k=>k=bv\/k=bc\/k=bf\/k=w.heap.size) (fun k hk=>by
  rcases hk with h|h|h|h
  ·exact .inl (.inl h)
  ·exact .inl (.inr h)
  ·exact .inr (by omega)
  exact .inr (by omega))).below B2
 clear oc0 of0 p0' bel1 bel2 p3;go_wp2_with fail
 go_loopw [11] (fun i wr=>∃t:Nat,i=.int .i64 t/\t<=n/\∃(V:List Int) (y:Int) (vo:Value),Hid (V.all M.smp=true)/\Chg (F2 bv bc) w wr/\w2.heap.size<=wr.heap.size/\OI 2 L wr (.slice (some ⟨bv,0,none⟩) n2 cv) V/\CR (fun k=>k=bv\/k=bc\/k=bf\/k=w.heap.size\/vo.ownBlock=some k) 24 L wr (.slice (some ⟨bc,0,none⟩) n2 cc) (zed ns tb O xs t)/\
  OI 2 w1.heap.size wr (.slice (some ⟨bf,0,none⟩) 1 cf) [y]/\wr.cell? ⟨w.heap.size,0,none⟩=some vo/\wr.frozen? ⟨w.heap.size,0,none⟩=false/\OI 2 w2.heap.size wr vo (zcl ns tb O xs o t)) (fun i _=>n-(intOf i).toNat)
 case atStart=>exact⟨0,rfl,by omega,vs,0,_,Aq hvs,zee B2,Aj _,hv.below B2,hcG.more (fun k hk=>by rcases hk with h|h|h|h|h;(exact .inl (.inl h));(exact .inl (.inr (.inl h)));(exact .inl (.inr (.inr (.inl h))));(exact .inl (.inr (.inr (.inr h))));cases h),own2,oc2,of2,OI.nil _ _ _⟩
 case round=>
  obtain⟨t,rfl,ht,V,y,vo,HV,hch,hsz,ov,oc,ofr,co,fo,oo⟩:=hrel;obtain⟨wo,rfl⟩:∃wo:Yw,wo=wr:=⟨_,rfl⟩
  by_cases hlt:t<n
  ·have HC:=znt hF HXS.out t;have hP1:=hP.chg hch;have HS:=Aq (zto ns tb O xs o t);have HN:=Aq (show zed ns tb O xs (t+1)=zd2 ns tb [M.at_ xs (t:Int)] O (zed ns tb O xs t)from rfl);have HW:=Aq (show zet ns tb O xs t=zcg ns tb [M.at_ xs (t:Int)] O (zed ns tb O xs t)from rfl);have HVL:=Aq (zkw hF HXS.out t);have hax:=zkv HXS.out (t:Int);have hxo:=hx.chg hch;have cio:wo.cell? ⟨bi,oi,none⟩=some (.slice A m c):=(by rw[hch.cell lbi nbi];exact ci0);have t0:(0:Int)<=(t:Int):=(by omega);have t1:(t:Int)<(n:Int):=(by omega);obtain⟨cy,hcy⟩:∃cy,cy=M.at_ xs (t:Int):=⟨_,rfl⟩;have fz:=World.ownsRow.frozenAt ofr 0;have fc:wo.cell? ⟨bf,0,none⟩=some (.int .i64 y):=(by rw[World.ownsRow.cellAt ofr 0 (by simp)];rfl);go_wp2_with fail
   go_loopw [38] (fun i wr=>∃k:Nat,i=.int .i64 k/\((k=0/\wr=wo)\/(k=1/\wr=wo.setCell ⟨bf,0,none⟩ (.int .i64 cy)))) (fun i _=>1-(intOf i).toNat)
   case atStart=>exact⟨0,rfl,.inl ⟨rfl,rfl⟩⟩
   case round=>
    obtain⟨k,rfl,hor⟩:=hrel;rcases hor with⟨rfl,rfl⟩|⟨rfl,rfl⟩
    ·have HCY:=Aq hcy;clear hcy;go_wp2_with fail;refine(zhn _ _ _ xs _ _ hxo.1 (by omega) (by omega)).mono ?_;rw[<-HCY.out];rintro e w' ⟨rfl,rfl⟩;go_wp2_with fail;go_roundw
     case rel=>exact⟨1,by go_num,.inr ⟨rfl,by trivial⟩⟩
     case measure=>simp[intOf]
    have ofr2:OI 2 w1.heap.size (wo.setCell ⟨bf,0,none⟩ (.int .i64 cy)) (.slice (some ⟨bf,0,none⟩) 1 cf) [cy]:=ofr.stored' 0 cy;have hcf:Chg (fun x=>x=bf) wo (wo.setCell ⟨bf,0,none⟩ (.int .i64 cy)):=Chg.set wo bf 0 _ rfl;have cfc:(wo.setCell ⟨bf,0,none⟩ (.int .i64 cy)).cell? ⟨bf,0,none⟩=some (.int .i64 cy):=(by rw[World.ownsRow.cellAt ofr2 0 (by simp)];rfl);have ov2:=ov.kept (zc0 wo bf 0 (.int .i64 cy)) (.inr (by simp only[Value.ownBlock,ne_eq,Dq];omega));have oo2:=oo.kept (zc0 wo bf 0 (.int .i64 cy)) (.inr (fun e=>by have:=(Gq oo _ e).1;omega));have hch2:Chg (F2 bv bc) w (wo.setCell ⟨bf,0,none⟩ (.int .i64 cy)):=hch.up hcf (fun x hx e=>by omega);have oc2:CR (fun k=>k=bv\/k=bc\/k=bf\/k=w.heap.size\/vo.ownBlock=some k) 24 L (wo.setCell ⟨bf,0,none⟩ (.int .i64 cy)) (.slice (some ⟨bc,0,none⟩) n2 cc) (zed ns tb O xs t):=oc.chg hcf (fun k hk=>.inr (.inr (.inl hk))) (fun k hk hk2=>by simp only[Value.ownBlock,Dq]at hk;omega);have co2:(wo.setCell ⟨bf,0,none⟩ (.int .i64 cy)).cell? ⟨w.heap.size,0,none⟩=some vo:=(by rw[hcf.cell (by omega) (by omega)];exact co);have fo2:(wo.setCell ⟨bf,0,none⟩ (.int .i64 cy)).frozen? ⟨w.heap.size,0,none⟩=false:=(by rw[hcf.frozen (by omega) (by omega)];exact fo);obtain⟨wp,hwp⟩:∃wp,wp=wo.setCell ⟨bf,0,none⟩ (.int .i64 cy):=⟨_,rfl⟩;have swp:wo.heap.size<=wp.heap.size:=(by rw[hwp];simp);have hP2:=hP.chg hch2;rw[<-hwp]at ofr2 cfc ov2 oo2 hch2 oc2 co2 fo2 hP2 ⊢;clear hwp hcf;rw[<-hcy]at hax;have HCY:=Aq hcy;clear hcy;go_wp2_with fail;refine(zwu b bv bc L 1 _ _ c1 _ _ c2 _ _ c3 _ _ co_ cv cc ns tb [o] O V (zed ns tb O xs t) bf 0 cf cy (fun k=>k=bv\/k=bc\/k=bf\/k=w.heap.size\/vo.ownBlock=some k) wp (fun k hk=>hk.elim .inl (fun h=>.inr (.inl h))) (fun k hk=>by rcases hk with h|h|h|h|h;omega;omega;omega;omega;exact(Gq oo2 _ h).2) hP2 hF hax h0 hnz ov2 HV.out oc2 HC cfc (by omega)).mono ?_;rintro e w3 ⟨rfl,ch3,ov3,oc3⟩;rw[<-HCY.out]at HN HW;rw[<-HW.out]at ov3;rw[<-HN.out]at oc3;have hch3:=hch2.trans ch3;have hP3:=hP.chg hch3;have s3:=ch3.size;have p3_3:=hP3.p3;have p5_3:=hP3.p5;have ofr3:=ofr2.chg ch3 (fun k hk h=>by simp only[Value.ownBlock,Dq]at hk;rcases h with h|h <;> omega);have oo3:=oo2.chg ch3 (fun k hk h=>by have:=(Gq oo2 _ hk).1;rcases h with h|h <;> omega);have co3:w3.cell? ⟨w.heap.size,0,none⟩=some vo:=(by rw[ch3.cell (by omega) (fun h=>by rcases h with h|h <;> omega)];exact co2);have fo3:w3.frozen? ⟨w.heap.size,0,none⟩=false:=(by rw[ch3.frozen (by omega) (fun h=>by rcases h with h|h <;> omega)];exact fo2);have HMI:=Aq (show zbh [o] (zet ns tb O xs t)=[M.i_ (zet ns tb O xs t) o.toNat]from rfl);clear ov2 oc2 oo2 ofr2 co2 fo2 hP2 hch2 cfc ov oc ofr co fo oo fz fc hP1 hxo cio;go_wp2_with fail
    refine(zwt b _ n2 cv (zet ns tb O xs t) _ 1 c3 [o] w3 p3_3 p5_3 ov3.ri' (hP3.h3.more hP3.lL) (by omega) (by omega) (Aq (fun f hf=>by
     obtain rfl:f=o:=by simpa using hf
     omega))).mono ?_
    rintro e w4 ⟨v4,rfl,own4,bel4⟩;rw[HMI.out]at own4;obtain⟨g4,cap4,e4,hg4,hg4'⟩:=own4.form (by simp);rw[Dw]at e4;subst e4;obtain⟨x4,hx4⟩:∃x4,x4=M.i_ (zet ns tb O xs t) o.toNat:=⟨_,rfl⟩;rw[<-hx4]at own4 HS;have s4:=bel4.size;have c4:w4.cell? ⟨g4,0,none⟩=some (.int .i64 x4):=(by rw[World.ownsRow.cellAt own4 0 (by simp)];rfl);have co4:w4.cell? ⟨w.heap.size,0,none⟩=some vo:=(by rw[bel4.cell (by show w.heap.size<_;omega)];exact co3);have fo4:w4.frozen? ⟨w.heap.size,0,none⟩=false:=(by rw[bel4.frozen (by show w.heap.size<_;omega)];exact fo3);have oo4:=oo3.below bel4;have hln:=Aq (zgb ns tb O xs o t);clear hx4;go_wp2_with fail;obtain⟨wq,rfl⟩:∃wq:Yw,wq=w4:=⟨_,rfl⟩
    go_loopw [57] (fun i wr=>∃k:Nat,i=.int .i64 k/\((k=0/\wr=wq)\/(k=1/\∃v',wr.cell? ⟨w.heap.size,0,none⟩=some v'/\wr.frozen? ⟨w.heap.size,0,none⟩=false/\OI 2 w2.heap.size wr v' (zcl ns tb O xs o (t+1))/\Chg (fun b=>b=w.heap.size\/vo.ownBlock=some b) wq wr/\(v'.ownBlock=vo.ownBlock\/∀k,v'.ownBlock=some k->wq.heap.size<=k)))) (fun i _=>1-(intOf i).toNat)
    case atStart=>exact⟨0,rfl,.inl ⟨rfl,rfl⟩⟩
    case round=>
     obtain⟨k,rfl,hor⟩:=hrel;rcases hor with⟨rfl,rfl⟩|⟨rfl,v5,co5,fo5,oo5,ch5,hb5⟩
     ·have hlp:=zgb ns tb O xs o t;have hlp':(zcl ns tb O xs o t).length<=1000000:=(by omega);clear hlp;go_wp2_with (at_builtin;refine zo6 zbu rfl _ _ rfl oo4 rfl rfl rfl (by unfold maxLen;omega) (by omega) (by omega) ?_;intro v5 w5 own5 gr5 bel5 hb5;have op5:=OI.push own5;obtain⟨A5,c5,e5,-⟩:=op5.shape;obtain⟨n5,hn5⟩:∃n5,n5=(zcl ns tb O xs o t++[x4]).length:=⟨_,rfl⟩;rw[<-hn5]at e5;subst e5;have HN5:=Aq hn5;clear hn5;have hc5:w5.cell? ⟨w.heap.size,0,none⟩=some vo:=(by rw[bel5.cell (by show w.heap.size<_;omega)];exact co4);have hf5:w5.frozen? ⟨w.heap.size,0,none⟩=false:=(by rw[bel5.frozen (by show w.heap.size<_;omega)];exact fo4));go_roundw
      case rel=>
       refine⟨1,by go_num,.inr ⟨rfl,.slice A5 n5 c5,Dj (h:=hc5) ..,by simp[go_sem,hf5],?_,?_,hb5⟩⟩
       ·rw[HS.out];exact op5.kept (zc0 _ _ 0 _) (.inr (fun e=>by have:=(Gq op5 _ e).1;omega))
       exact(Chg.of_grown gr5 (fun k hk=>.inr hk)).trans (Chg.set w5 _ 0 _ (.inl rfl))
      case measure=>simp[intOf]
     have s5:=ch5.size
     have hch5:Chg (F2 bv bc) w wr:=(hch3.trans (zee bel4)).up ch5 (fun x hx e=>by
      rcases e with e|e
      ·omega
      have:=(Gq oo4 _ e).1;omega)
     have nF:∀x,x<w2.heap.size->x≠w.heap.size->¬(x=w.heap.size\/vo.ownBlock=some x):=fun x hx hne e=>by
      rcases e with e|e
      ·exact hne e
      have:=(Gq oo4 _ e).1;omega
     have ov5:=(ov3.below bel4).chg ch5 (fun k hk=>by simp only[Value.ownBlock,Dq]at hk;exact nF k (by omega) (by omega))
     have oc5:=(oc3.below bel4).more (F':=fun k=>k=bv\/k=bc\/k=bf\/k=w.heap.size\/v5.ownBlock=some k\/vo.ownBlock=some k) (fun k hk=>by
      rcases hk with h|h|h|h|h|h
      ·exact .inl (.inl h)
      ·exact .inl (.inr (.inl h))
      ·exact .inl (.inr (.inr (.inl h)))
      ·exact .inl (.inr (.inr (.inr (.inl h))))
      ·rcases hb5 with h5|h5
       ·exact .inl (.inr (.inr (.inr (.inr (h5▸h)))))
       exact .inr (h5 k h)
      exact .inl (.inr (.inr (.inr (.inr h)))))
     have oc6:=(oc5.chg ch5 (fun k hk=>by
      rcases hk with h|h
      ·exact .inr (.inr (.inr (.inl h)))
      ·exact .inr (.inr (.inr (.inr (.inr h))))) (fun k hk=>by simp only[Value.ownBlock,Dq]at hk;exact nF k (by omega) (by omega))).sub (F':=fun k=>k=bv\/k=bc\/k=bf\/k=w.heap.size\/v5.ownBlock=some k) (fun k hk=>by
      rcases hk with h|h|h|h|h
      ·exact .inl h
      ·exact .inr (.inl h)
      ·exact .inr (.inr (.inl h))
      ·exact .inr (.inr (.inr (.inl h)))
      exact .inr (.inr (.inr (.inr (.inl h)))))
     have ofr5:=(ofr3.below bel4).chg ch5 (fun k hk=>by simp only[Value.ownBlock,Dq]at hk;exact nF k (by omega) (by omega));clear ov3 oc3 oc5 oo3 co3 fo3 ofr3 oo4 co4 fo4;go_wp2_with fail;go_roundw
     case rel=>exact⟨t+1,by go_num,by omega,_,_,v5,HVL,hch5,by omega,ov5,oc6,ofr5,co5,fo5,oo5⟩
     case measure=>simp[intOf];omega
  obtain rfl:t=n:=by omega
  obtain⟨A5,c5,e5,hri⟩:=oo.shape;rw[zgb]at e5 hri;subst e5;go_wp2_with fail;go_ret;exact⟨_,_,A5,c5,rfl,co,hri,hch⟩
end
theorem zw1{xs:List (List Int)}{m:Nat}(h:∀x∈xs,x.length<=m):hS.szL xs<=m*xs.length:=by
 induction xs with
 | nil=>simp[Hs.szL]
 | cons x xs ih=>
  have h1:=h x (by simp);have h2:=ih (fun y hy=>h y (by simp[hy]));have e:hS.szL (x::xs)=hS.sz x+hS.szL xs:=rfl;rw[e,zb3,Dk,Nat.mul_succ];omega
theorem zw2{ns:List Node}{tb:List (List Int)}{O:List Int}(hF:M.PF ns tb O):hSS.sz (ns.map zbe)<=1000:=by
 have h1:=zw1 (xs:=ns.map zbe) (m:=16) (fun x hx=>by
  obtain⟨y,hy,rfl⟩:=List.mem_map.1 hx;obtain⟨i,hi⟩:=Fk hy;exact zwv (hF.ok i y hi))
 have e:hSS.sz (ns.map zbe)=(ns.map zbe).length+hS.szL (ns.map zbe):=rfl;have h2:=hF.len;rw[e];rw[Ff]at h1 ⊢;omega
theorem zo7(A1:Yo)(n1 c1:Nat)(A2:Yo)(n2 c2:Nat)(A3:Yo)(c3:Nat)(ns:List Node)(tb:List (List Int))(o:Int)(bi oi ci:Nat)(A:Yo)(m c:Nat)(xs:List Int)(n:Nat)(w:Yw)
 (h1:RS tS w w.heap.size (.slice A1 n1 c1) tb) (h2:RS tN w w.heap.size (.slice A2 n2 c2) ns) (h3:RI w w.heap.size A3 1 [o]) (hF:M.PF ns tb (zbj ns)) (ho:0<=o/\o<n2) (hnz:hNS.sz ns<=100000000)
 (ci0:w.cell? ⟨bi,oi,none⟩=some (.slice A m c)) (hx:RI w w.heap.size A m xs) (hxs:xs.all M.smp=true) (hm:m<=1000000) (hn:n<=4000) :
 Calls Tryz.prog 120 #[.agg #[.int .i64 1,.slice A1 n1 c1,.slice A2 n2 c2,.slice A3 1 c3],.slice (some ⟨bi,oi,none⟩) 1 ci,.int .i64 n] w fun e w'=>∃(g c':Nat) (A':Yo) (c'':Nat),e=.returned (.slice (some ⟨g,0,none⟩) 1 c')/\w'.cell? ⟨g,0,none⟩=some (.slice A' n c'')/\RI w' w'.heap.size A' n (zcl ns tb (zbj ns) xs o n)/\Below w.heap.size w w':=by
 have lbi:bi<w.heap.size:=Cj w _ ci0;obtain⟨W,hW,B0,s0,p0,p1,p2,p3,pf⟩:=zdm w (.int .i64 1) (.slice A1 n1 c1) (.slice A2 n2 c2) (.slice A3 1 c3) 67;have m0:=Ag p0;have m1:=Ag p1;have m2:=Ag p2;have m3:=Ag p3;have HW:=Aq hW;have lW:w.heap.size<W.heap.size:=by omega
 have D1:Below W.heap.size W W.drew:=zad (Aw _ _) 1;have hd0:W.drew.heap.size=W.heap.size:=rfl;have BD:Below w.heap.size w W.drew:=zad B0 1;have HXS:=Aq hxs;have HSZ:=Aq (zw2 hF)
 have HOK:=Aq (fun(x:Node) (hx:x∈ns)=>show zaj x tb.length=true from by
  obtain⟨i,hi⟩:=Fk hx;exact hF.ok i x hi)
 clear hW s0 p0 p1 p2 p3 pf hxs
 go_enter Tryz.func120,Tryz.ntmps120
 go_wp2_with fail;rw[<-HW.out]
 (refine zct [4,5] [0,1] 2 (.one 2 (.one 3 .rest)) [6] [6,7] (by kernel_rfl) (by kernel_rfl) ?_;simp only[zak];simp only[List.filterMap,By,Bg];(repeat (go_big_quiet_step (fail)));refine Cv ?_;(repeat (go_big_quiet_step (fail)));refine Cv ?_)
 refine zai rfl ?_;go_wp2_with fail;refine(zwx _ _ _ _ _ _ _ _ _ _ ns tb.length _ (h2.later BD) hnz HOK).mono ?_;rintro e w1 ⟨v1,rfl,own1,bel1⟩;obtain⟨Av,cv,e1⟩:=own1.shape;rw[show (ns.map zbe).length=n2 by rw[Ff];exact h2.cap.1]at e1;subst e1;have B1:=zaa D1 bel1;have BB1:=zaa B0 B1;have s1:=bel1.size;have r1:tSS.R w1 w1.heap.size [.slice Av n2 cv] (ns.map zbe):=sl_R.2 own1.read;have hcl:(ns.map zbe).length=ns.length:=Ff ..;have HCL:=Aq hcl;clear hcl;go_wp2_with fail;refine⟨Bz B1,?_⟩;refine zai rfl ?_;go_wp2_with fail;refine(zwz 1 _ _ c1 _ _ c2 _ _ c3 _ _ cv ns tb [o] (ns.map zbe) _ (h1.later BB1) (h2.later BB1) (h3.later BB1) r1 hF (by omega) hnz (by have:=HSZ.out;omega) HCL.out).mono ?_;rintro e w2 ⟨b,bv,bc,L,Ao,co,cv',cc,rfl,hP,ov,oc,bel2,hbv,hbc⟩;have B2:=zaa B1 bel2;have BB2:=zaa B0 B2;have s2:=bel2.size;have ci2:w2.cell? ⟨bi,oi,none⟩=some (.slice A m c):=by rw[BB2.cell (by show bi<_;omega)];exact ci0
 have hx2:RN (F2 bv bc) w2 A m xs:=RN.of_ri (B:=w.heap.size) (hx.below BB2) BB2.size (fun k hk=>by rcases hk with h|h <;> omega)
 have hrp:(List.replicate n2 (0:Int)).all M.smp=true:=by
  rw[Ef];intro z hz;rw[List.eq_of_mem_replicate hz]
  rfl
 have HRP:=Aq hrp;clear hrp;go_wp2_with fail;refine⟨Bz B2,?_⟩;refine zbc ?_;go_wp2_with fail;refine(zw0 b bv bc L _ _ c1 _ _ c2 _ c3 _ _ co cv' cc ns tb o (zbj ns) _ bi oi ci A m c xs n w2 hP hF (by omega) hnz ho ov HRP.out oc ci2 (by omega) hx2 HXS.out hm hn).mono ?_;rintro e w3 ⟨g,c',A',c'',rfl,cg,rg,ch⟩;go_wp2_with fail;go_ret;exact⟨g,c',A',c'',rfl,cg,rg,BB2.trans (ch.toBelow (fun k hk=>by rcases hk with h|h <;> omega) (by omega))⟩
theorem RSN.of_os{F G:Nat->Prop}{e:TypeId}{w:Yw}{v:Value}{cs:List (List Int)}(h:OS tS e w G v cs)(hF:∀k,F k->¬G k):RSN F w v cs:=by
 have h2:=h;obtain⟨css,Fs,h1,_,h3,_⟩:=h;exact RSN.of_cr (CR.of_os (base:=0) h2 (fun k hk hG=>absurd hG (hF k hk)) (fun _ _=>Nat.zero_le _)) (fun k hk hf=>hF k hf (h3 k hk))
theorem OS.one{e:TypeId}{w:Yw}{lo hi:Nat}{v:Value}{x:List Int}(h:OS tS e w (Iv lo hi) v [x]):
 ∃bo cO vo,v=.slice (some ⟨bo,0,none⟩) 1 cO/\lo<=bo/\bo<w.heap.size/\w.cell? ⟨bo,0,none⟩=some vo/\w.frozen? ⟨bo,0,none⟩=false/\OI 2 lo w vo x/\vo.ownBlock≠some bo:=by
 obtain⟨A,c,rfl⟩:=h.shape;obtain⟨css,Fs,hO,cs,hcs,ho⟩:=h.open (k:=0) (by simp);obtain⟨g,rfl,hF,hn,hg,-⟩:=hO.form (by simp);obtain⟨vo,rfl,hvo⟩:=ho;have hc:=hO.cell hcs (j:=0) (u:=vo) rfl;rw[Nat.zero_mul,Nat.add_zero]at hc;refine⟨g,c,vo,rfl,hF.1,hg,hc.1,hc.2,(hvo.wide (F':=Iv lo hi) hO.fits).oi,fun e=>hn (hvo.lt g e).1⟩
theorem RSN.more{F F':Nat->Prop}{w:Yw}{v:Value}{cs:List (List Int)}(h:RSN F w v cs)(hF:∀k,F' k->F k\/w.heap.size<=k):RSN F' w v cs:=by
 obtain⟨A,c,us,rfl,h1,h2,h3,h4,h5,h6⟩:=h;refine⟨A,c,us,rfl,h1,h2,h3,h4,fun ad hn he hf=>?_,fun k x hx=>?_⟩
 ·obtain⟨ad',e',hb,_⟩:=h4.2 hn;rw[he]at e';injection e' with e'
  subst e';rcases hF _ hf with h|h
  ·exact h5 ad hn he h
  omega
 obtain⟨A',c',e1,e2,e3⟩:=h6 k x hx;exact⟨A',c',e1,e2,e3.more hF⟩
def zci (k:Nat) (l:Int) (acc:List Int) (p:Int×Int):List Int:=acc.set p.1.toNat (max ((acc[p.1.toNat]?).getD 0) ((acc[k]?).getD 0+l))
def zco (xs:List zag):Nat->List Int
 | 0=>List.replicate xs.length 0
 | k+1=>((xs[k]?).getD M.sz).2.2.foldl (zci k ((xs[k]?).getD M.sz).2.1) (zco xs k)
def zfw (xs:List zag) (k:Nat) (l:Int) (us:List (Int×Int)) (j:Nat):List Int:=(us.take j).foldl (zci k l) (zco xs k)
def zcj (xs:List zag):List Int:=zco xs xs.length
theorem zo8(k:Nat)(l:Int)(acc:List Int)(p:Int×Int):(zci k l acc p).length=acc.length:=by simp[zci]
theorem zw3(k:Nat)(l:Int)(us:List (Int×Int)):∀acc,(us.foldl (zci k l) acc).length=acc.length:=by
 induction us with
 | nil=>intro acc;rfl
 | cons u us ih=>intro acc;rw[List.foldl_cons,ih,zo8]
theorem zk9(xs:List zag):∀k,(zco xs k).length=xs.length:=by
 intro k
 induction k with
 | zero=>simp[zco]
 | succ k ih=>rw[zco,zw3,ih]
theorem zw4{xs:List zag}{k:Nat}{l:Int}{us:List (Int×Int)}{j:Nat}{p:Int×Int}(h:us[j]?=some p):zfw xs k l us (j+1)=zci k l (zfw xs k l us j) p:=by
 rw[zfw,M.take_at h,List.foldl_append];rfl
theorem zw5{xs:List zag}{k:Nat}{s:ByteArray}{l:Int}{us:List (Int×Int)}(h:xs[k]?=some (s,l,us)):zfw xs k l us us.length=zco xs (k+1):=by
 rw[zfw,zco,h,Cg (Aj _)];rfl
def zez (b:Int) (acc:List Int):Prop:=∀v∈acc,0<=v/\v<=b
theorem zhh{b:Int}{acc:List Int}{i:Nat}{v:Int}(h:zez b acc)(hv:acc[i]?=some v):0<=v/\v<=b:=h v (Eg hv)
theorem zjn{b:Int}{acc:List Int}(hb:0<=b)(h:zez b acc)(i:Nat):0<=(acc[i]?).getD 0/\(acc[i]?).getD 0<=b:=by
 cases hv:acc[i]? with
 | none=>simp;exact hb
 | some v=>exact zhh h hv
theorem zjo{b b':Int}{acc:List Int}(h:zez b acc)(hb:b<=b'):zez b' acc:=fun v hv=>⟨(h v hv).1,Int.le_trans (h v hv).2 hb⟩
theorem zw6{b:Int}{acc:List Int}{k:Nat}{l:Int}{p:Int×Int}(hb:0<=b)(h:zez b acc)(hl:0<=l/\l<=32):zez (b+32) (zci k l acc p):=by
 intro v hv;rcases List.mem_or_eq_of_mem_set hv with h1|rfl
 ·have:=h v h1;omega
 have h1:=zjn hb h p.1.toNat;have h2:=zjn hb h k;omega
theorem zo9{k:Nat}{l:Int}(hl:0<=l/\l<=32)(us:List (Int×Int)):∀{b:Int} {acc:List Int},0<=b->zez b acc->zez (b+32*us.length) (us.foldl (zci k l) acc):=by
 induction us with
 | nil=>intro b acc _ h;simpa using h
 | cons u us ih=>
  intro b acc hb h;have:=ih (b:=b+32) (acc:=zci k l acc u) (by omega) (zw6 hb h hl);refine zjo this ?_;simp only[Dk];omega
theorem zfa{xs:List zag}(h:zay xs=true):1<=xs.length/\xs.length<=8:=by
 rw[zay,Cx]at h;have:=zdt.1 h.1;omega
theorem zgw{xs:List zag}(h:zay xs=true){k:Nat}{s:ByteArray}{l:Int}{us:List (Int×Int)}(hk:xs[k]?=some (s,l,us)):(0<=l/\l<=32)/\us.length<=4/\zb4 xs.length k us=true:=by
 rw[zay,Cx,Ef]at h;have h1:=h.2 k (Gj.2 (Bk.1 hk).1);rw[zhs hk,Cx]at h1;have h2:=h1.1;rw[zby,Cx,Cx,zb5,Cx]at h2;refine⟨zdt.1 h2.1.2,?_,h2.2.1⟩;have h3:=h2.2.2
 split at h3
 ·have:us.length=0:=by simpa using h3
  omega
 have:=zdt.1 h3;simp only at this;omega
theorem zla{m:Int}{us:List (Int×Int)}:∀{last:Int} {j:Nat} {p0 p1:Int},zb4 m last us=true->us[j]?=some (p0,p1)->last<p0/\p0<=m-1/\M.smp p1=true:=by
 induction us with
 | nil=>intro last j p0 p1 _ h;simp at h
 | cons u us ih=>
  intro last j p0 p1 h hj;rw[zb4,Cx,Cx]at h;have h1:=zdt.1 h.1.1;cases j with
  | zero=>
   simp only[Bg,Dq]at hj;subst hj;exact⟨by simp only at h1;omega,h1.2,h.1.2⟩
  | succ j=>
   simp only[By]at hj;have:=ih h.2 hj;exact⟨by omega,this.2⟩
theorem zjp{xs:List zag}(h:zay xs=true):∀k,k<=xs.length->zez (128*k) (zco xs k):=by
 intro k
 induction k with
 | zero=>intro _ v hv;rw[zco]at hv;have:=(List.mem_replicate.1 hv).2;omega
 | succ k ih=>
  intro hk;have hx:xs[k]?=some xs[k]:=Ak (by omega);generalize xs[k]=x at hx;obtain⟨s,l,us⟩:=x;obtain⟨h1,h2,_⟩:=zgw h hx;rw[zco,hx];refine zjo (zo9 h1 us (by omega) (ih (by omega))) ?_;omega
theorem zw7{xs:List zag}(h:zay xs=true){k:Nat}{s:ByteArray}{l:Int}{us:List (Int×Int)}(hx:xs[k]?=some (s,l,us))(j:Nat):zez 2000 (zfw xs k l us j):=by
 obtain⟨h1,h2,_⟩:=zgw h hx;have h3:=zjp h k (by have:=(Bk.1 hx).1;omega);have h4:=zfa h;have h5:=(Bk.1 hx).1;refine zjo (zo9 (k:=k) h1 (us.take j) (by omega) h3) ?_;have:(us.take j).length<=4:=by rw[Ey];omega
 omega
theorem zw8{acc:List Int}{k q:Nat}{l g a b:Int}(ha:acc[q]?=some a)(hb:acc[k]?=some b):zci k l acc ((q:Int),g)=acc.set q (max a (b+l)):=by
 rw[zci];simp only[Fq];rw[ha,hb];rfl
theorem zlb(A:Yo)(n c:Nat)(xs:List zag)(w:Yw)(hx:tM.R w w.heap.size [.slice A n c] xs)(hok:zay xs=true):
 Calls Tryz.prog 114 #[.agg #[.slice A n c]] w (Ret1 2 w (zcj xs)):=by
 have rx:=sl_R.1 hx;have hlx:=rx.cap.1;have hmn:=zfa hok;have hnb:1<=n/\n<=8:=by omega
 have HLX:=Aq hlx;have HOK:=Aq hok;have B0:Below w.heap.size w (w.alloc (.cells #[.slice A n c] 36)):=(Aw _ _).alloc (Aj _) _;have hself:(w.alloc (.cells #[.slice A n c] 36)).cell? ⟨w.heap.size,0,none⟩=some (.slice A n c):=by simp[go_sem]
 have hsz:(w.alloc (.cells #[.slice A n c] 36)).heap.size=w.heap.size+1:=by simp
 have HSZ:=Aq hsz;clear hsz hlx hmn hok
 go_enter Tryz.func114,Tryz.ntmps114
 go_wp2_with (first|(go_at_call 80;refine(ze3 _ _ _ _).mono ?_;rintro e w' ⟨rfl,rfl⟩)|(go_at_call 116;refine(zc5 _ _ (by omega) (by omega)).mono ?_;rintro e w1 ⟨v1,rfl,own1,bel1⟩;have hv1:w1.cell? ⟨w.heap.size,0,none⟩=some (.slice A n c):=(by rw[bel1.cell (by rw[HSZ.out];simp)];exact hself)));rw[Fq]at own1;obtain⟨A1,c1,rfl,-⟩:=own1.shape;rw[Fz]at own1 ⊢
 have own1':OI 2 (w.heap.size+1) w1 (.slice A1 n c1) (zco xs 0):=by
  have h1:=own1;rw[HSZ.out]at h1;show OI 2 (w.heap.size+1) w1 (.slice A1 n c1) (List.replicate xs.length 0)
  rw[HLX.out];exact h1
 have B1:=zaa B0 bel1;clear own1 bel1 hself B0 hv1
 go_loopw [4,5,15] (fun _ _ i wr=>∃k:Nat,i=.int .i64 k/\k<=n/\OI 2 (w.heap.size+1) wr (.slice A1 n c1) (zco xs k)/\Below w.heap.size w wr) (fun _ _ i _=>n-(intOf i).toNat)
 case atStart=>exact⟨0,rfl,by omega,own1',B1⟩
 case round=>
  obtain⟨k,rfl,hk,own,Bw⟩:=hrel
  by_cases hlt:k<n
  ·have hX:=Aq (Ak (l:=xs) (i:=k) (by rw[HLX.out];exact hlt));obtain⟨b,o1,cc,cs,hv,hab,-,hE,hcc⟩:=(rx.below Bw).atX hX.out;simp only[Cz]at hv;obtain⟨rfl,-,rfl⟩:=hv;generalize xs[k]'(by rw[HLX.out];exact hlt)=x at hX hE;obtain⟨s,l,us⟩:=x;obtain⟨A2,n2,c2,rfl,-,hE⟩:=st_R.1 hE;have e0:wr.cell? ⟨b,o1+k*3,none⟩=some (.string s):=hcc 0 _ rfl;have e1:wr.cell? ⟨b,o1+k*3+1,none⟩=some (.int .i64 l):=hcc 1 _ rfl;have e2:wr.cell? ⟨b,o1+k*3+2,none⟩=some (.slice A2 n2 c2):=hcc 2 _ rfl;have hbr:b<wr.heap.size:=Cq hab Bw.size;have rs:=(zd8 hE).1;have hn2:=rs.1;obtain⟨hlat,hu4,hsb⟩:=zgw HOK.out hX.out;have HN2:=Aq hn2;have HSB:=Aq hsb;have HUP:=Aq (fun j=>zw7 HOK.out hX.out j);obtain⟨g,rfl,hg1,hg2⟩:=own.form' (by omega);have Bu:=Bw.alloc Bw.size (.cells #[.string s,.int .i64 l,.slice A2 n2 c2] 117);have ownu:=own.below ((Aw wr.heap.size wr).alloc (Aj _) (.cells #[.string s,.int .i64 l,.slice A2 n2 c2] 117));have lb:(wr.alloc (.cells #[.string s,.int .i64 l,.slice A2 n2 c2] 117)).cell? ⟨wr.heap.size,1,none⟩=some (.int .i64 l):=(by rw[cell_of_row _ wr.heap.size 1 _ 117 (0,0) (Df wr _)];rfl);have hlu:(wr.alloc (.cells #[.string s,.int .i64 l,.slice A2 n2 c2] 117)).heap.size=wr.heap.size+1:=(by simp);have n2b:n2<=4:=(by omega);clear hcc hE hn2 hu4 hsb;go_wp2;obtain⟨wo,rfl⟩:∃wo:Yw,wo=wr:=⟨_,rfl⟩
   go_loopw [7,23] (fun _ i wr=>∃j:Nat,i=.int .i64 j/\j<=n2/\OI 2 (w.heap.size+1) wr (.slice (some ⟨g,0,none⟩) n c1) (zfw xs k l us j)/\wr.cell? ⟨wo.heap.size,1,none⟩=some (.int .i64 l)/\wo.heap.size+1<=wr.heap.size/\Below w.heap.size w wr/\Below w.heap.size wo wr) (fun _ i _=>n2-(intOf i).toNat)
   case atStart=>exact⟨0,rfl,by omega,ownu,lb,by omega,Bu,(Aw _ _).alloc Bw.size _⟩
   case round=>
    obtain⟨j,rfl,hj,ownj,lj,hszj,Bj,Bo⟩:=hrel
    by_cases hlt2:j<n2
    ·obtain⟨b2,o2,⟨p0,p1⟩,rfl,hab2,X2,hdd⟩:=(rs.below Bo).at zf6 (by decide) hlt2;have f0:wr.cell? ⟨b2,o2+j*2,none⟩=some (.int .i64 p0):=hdd 0 _ rfl;have f1:wr.cell? ⟨b2,o2+j*2+1,none⟩=some (.int .i64 p1):=hdd 1 _ rfl;obtain⟨hp1,hp2,-⟩:=zla HSB.out X2.out;obtain⟨q,rfl⟩:∃q:Nat,p0=q:=⟨p0.toNat,by omega⟩;have hqn:q<n:=(by have:=HLX.out;omega);obtain⟨x,hxx,cx,fx,-,-⟩:=ownj.at' hqn;obtain⟨y,hyy,cy,fy,-,-⟩:=ownj.at' hlt;have bx:=zhh (HUP.out j) hxx.out;have by_:=zhh (HUP.out j) hyy.out;have hgw:g<wr.heap.size:=(by omega);have hng:¬g=wo.heap.size:=(by omega);have hE2:=Aq (zw4 (xs:=xs) (k:=k) (l:=l) X2.out);have hE3:=Aq (zw8 (k:=k) (l:=l) (g:=p1) hxx.out hyy.out);have lw:wo.heap.size<wr.heap.size:=(by omega);have hb2w:b2<wr.heap.size:=Cq hab2 Bj.size;clear hdd hp1 hp2;obtain⟨U,hU⟩:∃U,U=wr.alloc (.cells #[.int .i64 (q:Int),.int .i64 p1] 160):=⟨_,rfl⟩;have G0:Below wr.heap.size wr U:=(by rw[hU];exact(Aw _ _).alloc (Aj _) _);have u0:U.cell? ⟨wr.heap.size,0,none⟩=some (.int .i64 (q:Int)):=(by rw[hU,cell_of_row _ wr.heap.size 0 _ 160 (0,0) (Df wr _)];rfl);have ux:U.cell? ⟨g,q,none⟩=some (.int .i64 x):=(by rw[G0.cell hgw];exact cx);have vx:U.frozen? ⟨g,q,none⟩=false:=(by rw[G0.frozen hgw];exact fx);have uy:U.cell? ⟨g,k,none⟩=some (.int .i64 y):=(by rw[G0.cell hgw];exact cy);have ul:U.cell? ⟨wo.heap.size,1,none⟩=some (.int .i64 l):=(by rw[G0.cell lw];exact lj);have ownU:=ownj.below G0;have HU:=Aq hU;have hqn2:(q:Int)<(n:Int):=(by omega);have hkn2:(k:Int)<(n:Int):=(by omega);clear hU;go_wp2;rw[<-HU.out];refine wp_region_still_tail 17 (by kernel_rfl) (by kernel_rfl) ?_;simp only[List.take_succ_cons,List.take_zero,List.drop_succ_cons,List.drop_zero]
     iterate 17 still_step
     refine wpStill_nil ?_;change wpList _ _ _ _ _ U.drew;go_wp2;go_roundw
     case rel=>
      have h3:=OI.stored' ownU q (if x<y+l then y+l else x)
      have e3:(zfw xs k l us j).set q (if x<y+l then y+l else x)=zfw xs k l us (j+1):=by
       rw[hE2.out,hE3.out];congr 1
       split <;> omega
      rw[e3]at h3;have z0:w.heap.size<=wr.heap.size:=(by omega);have z1:=G0.size;have z2:(U.setCell ⟨g,q,none⟩ (.int .i64 (if x<y+l then y+l else x))).heap.size=U.heap.size:=(by simp)
      have z3:(U.setCell ⟨g,q,none⟩ (.int .i64 (if x<y+l then y+l else x))).cell? ⟨wo.heap.size,1,none⟩=some (.int .i64 l):=by
       rw[Ek (Fg U ⟨g,q,none⟩ wo.heap.size _ (fun e=>hng e.symm))];exact ul
      exact⟨j+1,by go_num,by omega,h3,z3,by show wo.heap.size+1<=(U.setCell ⟨g,q,none⟩ (.int .i64 (if x<y+l then y+l else x))).heap.size;omega,((Bj.trans (G0.mono z0)).setCell (Nat.le_trans (Nat.le_succ _) hg1) _).drew,((Bo.trans (G0.mono z0)).setCell (Nat.le_trans (Nat.le_succ _) hg1) _).drew⟩
     case measure=>simp[intOf];omega
    obtain rfl:j=n2:=by omega
    have hend:=zw5 hX.out;rw[HN2.out]at hend;have HE:=Aq hend;clear hend;go_wp2;go_roundw
    case rel=>exact⟨k+1,by go_num,by omega,by rw[<-HE.out];exact ownj,Bj⟩
    case measure=>simp[intOf];omega
  obtain rfl:k=n:=by omega
  go_wp2;go_ret;exact⟨_,rfl,by rw[zcj,HLX.out];exact own.base (by omega),Bw⟩
def zd6 (xs:List zag):Int:=((zcj xs)[xs.length-1]?).getD 0+((xs[xs.length-1]?).getD M.sz).2.1
theorem zjq(xs:List zag):(zcj xs).length=xs.length:=zk9 _ _
theorem zpa{xs:List zag}(h:zay xs=true):zez 2000 (zcj xs):=zjo (zjp h xs.length (Aj _)) (by have:=zfa h;omega)
theorem zw9(A:Yo)(n c:Nat)(xs:List zag)(w:Yw)(hx:tM.R w w.heap.size [.slice A n c] xs)(hok:zay xs=true):
 Calls Tryz.prog 113 #[.agg #[.slice A n c]] w fun e w'=>e=.returned (.int .i64 (zd6 xs))/\Below w.heap.size w w':=by
 have rx:=sl_R.1 hx;have hlx:=rx.cap.1;have hmn:=zfa hok;have hnb:1<=n/\n<=8:=by omega
 have HLX:=Aq hlx;have HOK:=Aq hok;obtain⟨W,hW⟩:∃W,W=w.alloc (.cells #[.slice A n c] 36):=⟨_,rfl⟩;have B0:Below w.heap.size w W:=by rw[hW];exact(Aw _ _).alloc (Aj _) _
 have hself:W.cell? ⟨w.heap.size,0,none⟩=some (.slice A n c):=by rw[hW];simp[go_sem]
 have lx:w.heap.size<W.heap.size:=by rw[hW];simp
 have HW:=Aq hW;have hX:=Aq (Ak (l:=xs) (i:=n-1) (by omega));obtain⟨b,o1,cc,cs,hv,hab,-,hE,hcc⟩:=(rx.below B0).atX hX.out;simp only[Cz]at hv;obtain⟨rfl,-,rfl⟩:=hv;generalize xs[n-1]'(by omega)=x at hX hE;obtain⟨s,l,us⟩:=x;obtain⟨A2,n2,c2,rfl,-,-⟩:=st_R.1 hE;have e1:W.cell? ⟨b,o1+(n-1)*3+1,none⟩=some (.int .i64 l):=hcc 1 _ rfl;obtain⟨hlat,-,-⟩:=zgw HOK.out hX.out;have hEl:=Aq (Ak (l:=zcj xs) (i:=n-1) (by rw[zjq];omega));generalize (zcj xs)[n-1]'(by rw[zjq];omega)=t at hEl;have hbt:=zhh (zpa HOK.out) hEl.out;have HT:=Aq (show zd6 xs=t+l by rw[zd6,HLX.out,hEl.out,hX.out];rfl);have hkk:IntKind.i64.wrap ((n:Int)-1)=((n-1:Nat):Int):=by rw[IntWalk.i64_in _ (by omega)];omega
 have i0:(0:Int)<=((n-1:Nat):Int):=by omega
 have i1:((n-1:Nat):Int)<(n:Int):=by omega
 have i2:n-1<n:=by omega
 have htl:IntKind.i64.wrap (t+l)=t+l:=IntWalk.i64_in _ (by omega);have D1:Below W.heap.size W (W.drewN 1):=zad (Aw _ _) 1;have hxd:=tM.later hx (zaa B0 D1);have lb:b<W.heap.size:=Cq hab B0.size;clear hcc hE hlx hmn hok hW
 go_enter Tryz.func113,Tryz.ntmps113
 go_wp2;rw[<-HW.out]
 go_region_with
  (first|(go_at_call 114;refine(zlb _ _ _ _ _ hxd HOK.out).mono ?_;rintro e w2 ⟨v2,rfl,own2,bel2⟩;obtain⟨A3,c3,rfl,-⟩:=own2.shape;have hl3:=zjq xs;rw[HLX.out]at hl3;rw[hl3]at own2 ⊢;clear hl3;obtain⟨g,rfl,-,-⟩:=own2.form' (show 0<n by omega);obtain⟨t2,hT2,hct,-,-,-⟩:=own2.at' i2;have e9:=hT2.out;rw[hEl.out]at e9;injection e9 with e9;rw[<-e9]at hct;clear e9;have G2:=zaa D1 bel2;have hself2:w2.cell? ⟨w.heap.size,0,none⟩=some (.slice (some ⟨b,o1,none⟩) n c):=(by rw[G2.cell lx];exact hself);have e12:w2.cell? ⟨b,o1+(n-1)*3+1,none⟩=some (.int .i64 l):=(by rw[G2.cell lb];exact e1)))
 all_goals
  go_wp2;go_ret;exact⟨zb1 (by rw[HT.out]),zaa B0 G2⟩
def zpb (es:List Int) (k:Nat) (l:Int) (p:Int×Int):Int:=(es[p.1.toNat]?).getD 0-(es[k]?).getD 0-l
def zc2 (xs:List zag) (k:Nat):List Int:=((xs[k]?).getD M.sz).2.2.map (zpb (zcj xs) k ((xs[k]?).getD M.sz).2.1)
def zdn (xs:List zag):List (List Int):=(List.range xs.length).map (zc2 xs)
theorem zpc(xs:List zag):(zdn xs).length=xs.length:=by simp[zdn]
theorem zpd{xs:List zag}{k:Nat}(h:k<xs.length):(zdn xs)[k]?=some (zc2 xs k):=by simp[zdn,h]
theorem zxa{xs:List zag}{k:Nat}{s:ByteArray}{l:Int}{us:List (Int×Int)}(h:xs[k]?=some (s,l,us)):(zc2 xs k).length=us.length:=by simp[zc2,h]
theorem zxb{xs:List zag}{k:Nat}{s:ByteArray}{l:Int}{us:List (Int×Int)}(h:xs[k]?=some (s,l,us)){j q:Nat}{g x y:Int}(hj:us[j]?=some ((q:Int),g))(hx:(zcj xs)[q]?=some x)(hy:(zcj xs)[k]?=some y):(zc2 xs k)[j]?=some (x-y-l):=by
 simp[zc2,h,hj,zpb,hx,hy]
theorem zxc(A:Yo)(n c:Nat)(xs:List zag)(w:Yw)(hx:tM.R w w.heap.size [.slice A n c] xs)(hok:zay xs=true):
 Calls Tryz.prog 115 #[.agg #[.slice A n c]] w fun e w'=>∃v,e=.returned v/\OS tS 24 w' (Iv w.heap.size w'.heap.size) v (zdn xs)/\Below w.heap.size w w':=by
 have rx:=sl_R.1 hx;have hlx:=rx.cap.1;have hmn:=zfa hok;have hnb:1<=n/\n<=8:=by omega
 have HLX:=Aq hlx;have HOK:=Aq hok;have hel:=zjq xs;rw[hlx]at hel;have HEL:=Aq hel;have HUP:=Aq (zpa hok);have hdl:(zdn xs).length=n:=by rw[zpc];exact hlx
 have HDL:=Aq hdl;obtain⟨W,hW⟩:∃W,W=w.alloc (.cells #[.slice A n c] 36):=⟨_,rfl⟩;have B0:Below w.heap.size w W:=by rw[hW];exact(Aw _ _).alloc (Aj _) _
 have hself:W.cell? ⟨w.heap.size,0,none⟩=some (.slice A n c):=by rw[hW];simp[go_sem]
 have lx:w.heap.size<W.heap.size:=by rw[hW];simp
 have hxW:=tM.later hx B0;have HW:=Aq hW;clear hlx hmn hok hel hdl hW
 go_enter Tryz.func115,Tryz.ntmps115
 go_wp2_with fail;rw[<-HW.out];go_wp2_with (go_at_call 114;refine(zlb _ _ _ _ _ hxW HOK.out).mono ?_;rintro e w3 ⟨v3,rfl,own3,bel3⟩;obtain⟨A3,c3,rfl,-⟩:=own3.shape;rw[HEL.out]at own3 ⊢;obtain⟨g,rfl,hg1,hg2⟩:=own3.form' (show 0<n by omega);have hs3:w3.cell? ⟨w.heap.size,0,none⟩=some (.slice A n c):=(by rw[bel3.cell lx];exact hself);have lw3:w.heap.size<w3.heap.size:=Cq lx bel3.size);have B03:Below w.heap.size w w3:=zaa B0 bel3;have hw3:=B03.size;clear bel3 hself B0 hxW
 go_loopw [4,5,6,7,9,16,25] (fun v _ _ _ _ i _ wr=>∃k:Nat,i=.int .i64 k/\k<=n/\OS tS 24 wr (Iv w3.heap.size wr.heap.size) v ((zdn xs).take k)/\Below w3.heap.size w3 wr) (fun _ _ _ _ _ i _ _=>n-(intOf i).toNat)
 case atStart=>exact⟨0,rfl,by omega,OS.made0 _ _ _,(Aw _ _).alloc (Aj _) _⟩
 case round=>
  obtain⟨k,rfl,hk,own,Bw⟩:=hrel;have hsb:=Bw.size;have BW:=zaa B03 Bw;have hpl:((zdn xs).take k).length<=8:=by rw[Ey];omega
  by_cases hlt:k<n
  ·have hX:=Aq (Ak (l:=xs) (i:=k) (by rw[HLX.out];exact hlt));obtain⟨b,o1,cc,cs,hv,hab,-,hE,hcc⟩:=(rx.below BW).atX hX.out;simp only[Cz]at hv;obtain⟨rfl,-,rfl⟩:=hv;generalize xs[k]'(by rw[HLX.out];exact hlt)=x at hX hE;obtain⟨s,l,us⟩:=x;obtain⟨A2,n2,c2,rfl,-,hE⟩:=st_R.1 hE;have e0:wr.cell? ⟨b,o1+k*3,none⟩=some (.string s):=hcc 0 _ rfl;have e1:wr.cell? ⟨b,o1+k*3+1,none⟩=some (.int .i64 l):=hcc 1 _ rfl;have e2:wr.cell? ⟨b,o1+k*3+2,none⟩=some (.slice A2 n2 c2):=hcc 2 _ rfl;have hbr:b<wr.heap.size:=Cq hab BW.size;have rs:=(zd8 hE).1;have hn2:=rs.1;obtain⟨hlat,hu4,hsb2⟩:=zgw HOK.out hX.out;have HSB:=Aq hsb2;have n2b:n2<=4:=(by omega);have hkn2:(k:Int)<(n:Int):=(by omega);have hrl:(zc2 xs k).length=n2:=(by rw[zxa hX.out];exact hn2);have HRL:=Aq hrl;have hpt:=Aq (M.take_at (zpd (xs:=xs) (k:=k) (by rw[HLX.out];exact hlt)));clear hcc hE hn2 hu4 hsb2 hrl;go_wp2;obtain⟨wo,rfl⟩:∃wo:Yw,wo=wr:=⟨_,rfl⟩;obtain⟨U,hU⟩:∃U,U=wo.alloc (.cells #[.string s,.int .i64 l,.slice A2 n2 c2] 117):=⟨_,rfl⟩;rw[<-hU];have BUo:Below wo.heap.size wo U:=(by rw[hU];exact(Aw _ _).alloc (Aj _) _);have HSU:U.heap.size=wo.heap.size+1:=(by rw[hU];simp);have lb:U.cell? ⟨wo.heap.size,1,none⟩=some (.int .i64 l):=(by rw[hU,cell_of_row _ wo.heap.size 1 _ 117 (0,0) (Df wo _)];rfl);have own0:=OI.made 2 U;have BU0:Below U.heap.size U (U.alloc (.cells #[] 2)):=(Aw _ _).alloc (Aj _) _;rw[HSU]at own0
   go_loopw [7,9,25] (fun v _ i wr=>∃j:Nat,i=.int .i64 j/\j<=n2/\OI 2 (wo.heap.size+1) wr v ((zc2 xs k).take j)/\Below (wo.heap.size+1) U wr) (fun _ _ i _=>n2-(intOf i).toNat)
   case atStart=>exact⟨0,rfl,by omega,own0,by rw[<-HSU];exact BU0⟩
   case round=>
    obtain⟨j,rfl,hj,ownj,BU⟩:=hrel;have hszj:wo.heap.size+1<=wr.heap.size:=(by have:=BU.size;omega);have Bo:Below wo.heap.size wo wr:=BUo.trans (BU.mono (Nat.le_succ _));have lj:wr.cell? ⟨wo.heap.size,1,none⟩=some (.int .i64 l):=(by rw[BU.cell (Nat.lt_succ_self _)];exact lb);have ownE:=own3.below (Bw.trans (Bo.mono hsb));have hpj:((zc2 xs k).take j).length<=4:=by rw[Ey];omega
    by_cases hlt2:j<n2
    ·obtain⟨b2,o2,⟨p0,p1⟩,rfl,hab2,X2,hdd⟩:=(rs.below (Bo.mono BW.size)).at zf6 (by decide) hlt2;have f0:wr.cell? ⟨b2,o2+j*2,none⟩=some (.int .i64 p0):=hdd 0 _ rfl;have f1:wr.cell? ⟨b2,o2+j*2+1,none⟩=some (.int .i64 p1):=hdd 1 _ rfl;obtain⟨hp1,hp2,-⟩:=zla HSB.out X2.out;obtain⟨q,rfl⟩:∃q:Nat,p0=q:=⟨p0.toNat,by omega⟩;have hqn:q<n:=(by have:=HLX.out;omega);have hqn2:(q:Int)<(n:Int):=(by omega);obtain⟨x,hxx,cx,-,-,gw⟩:=ownE.at' hqn;obtain⟨y,hyy,cy,-,-,-⟩:=ownE.at' hlt;have bx:=zhh HUP.out hxx.out;have by_:=zhh HUP.out hyy.out;have hP:=Aq (M.take_at (zxb hX.out X2.out hxx.out hyy.out));have w1_:IntKind.i64.wrap (x-y)=x-y:=IntWalk.i64_in _ (by omega);have w2_:IntKind.i64.wrap (x-y-l)=x-y-l:=IntWalk.i64_in _ (by omega);clear hdd hp1 hp2;obtain⟨V,hV⟩:∃V,V=wr.alloc (.cells #[.int .i64 (q:Int),.int .i64 p1] 160):=⟨_,rfl⟩;have G0:Below wr.heap.size wr V:=(by rw[hV];exact(Aw _ _).alloc (Aj _) _);have u0:V.cell? ⟨wr.heap.size,0,none⟩=some (.int .i64 (q:Int)):=(by rw[hV,cell_of_row _ wr.heap.size 0 _ 160 (0,0) (Df wr _)];rfl);have ux:V.cell? ⟨g,q,none⟩=some (.int .i64 x):=(by rw[G0.cell gw];exact cx);have uy:V.cell? ⟨g,k,none⟩=some (.int .i64 y):=(by rw[G0.cell gw];exact cy);have ul:V.cell? ⟨wo.heap.size,1,none⟩=some (.int .i64 l):=(by rw[G0.cell (show (⟨wo.heap.size,1,none⟩:Addr).block<_ from hszj)];exact lj);have ownV:=ownj.below G0;have lV:wr.heap.size<V.heap.size:=(by rw[hV];simp);have HV:=Aq hV;have hsV:=G0.size;have BA:∀us,Below V.heap.size V (V.alloc (.cells us 2)).drew:=fun us=>((Aw _ _).alloc (Aj _) _).drew
     have gV:g<V.heap.size:=(by omega);have oV:wo.heap.size<V.heap.size:=(by omega);have gB:g<wo.heap.size+1:=(by omega);have oB:wo.heap.size<wo.heap.size+1:=Nat.lt_succ_self _;have ownV0:V.ownsRow (wo.heap.size+1) 2 1 _ ((zc2 xs k).take j).length (((zc2 xs k).take j).map (.int .i64)):=ownV;have c1_:((zc2 xs k).take j).length+1<=maxLen:=(by unfold maxLen;omega);have c2_:(((zc2 xs k).take j).length+1)*8<=140737488355328:=(by omega);have c3_:wo.heap.size+1<=V.heap.size:=(by omega);clear hV;go_wp2;rw[<-HV.out];have hne:∀{v:Value},OI 2 (wo.heap.size+1) wr v ((zc2 xs k).take j)->v.ownBlock≠some wr.heap.size:=fun h h2=>Nat.lt_irrefl _ (Gq h _ h2).2
     go_region_held3 (fun w'=>w'.cell? ⟨wr.heap.size,0,none⟩=some (.int .i64 (q:Int))/\w'.cell? ⟨g,q,none⟩=some (.int .i64 x)/\w'.cell? ⟨g,k,none⟩=some (.int .i64 y)/\w'.cell? ⟨wo.heap.size,1,none⟩=some (.int .i64 l))
      (first|exact⟨u0,ux,uy,ul⟩|exact⟨((BA _).cell lV).trans u0,((BA _).cell gV).trans ux,((BA _).cell gV).trans uy,((BA _).cell oV).trans ul⟩|exact⟨z0,z1,z2,z3⟩)
      (first|(refine zqj (o:=⟨some 44,_,_,_,_,_⟩) zbu rfl (.tmp 29) (.tmp 43) rfl (World.ownsRow.drew (World.ownsRow.alloc ownV0 _)) rfl rfl (zln _ _ _) rfl c1_ c2_ (zqk c3_) ?_;intro v1 w1 own1 gr1 bel1;have z0:w1.cell? ⟨wr.heap.size,0,none⟩=some (.int .i64 (q:Int)):=(by rw[Ek (gr1.block wr.heap.size (Cq lV (BA _).size) (hne ownj).symm),(BA _).cell (show (⟨wr.heap.size,0,none⟩:Addr).block<_ from lV)];exact u0);have z1:w1.cell? ⟨g,q,none⟩=some (.int .i64 x):=(by rw[bel1.cell (show (⟨g,q,none⟩:Addr).block<_ from gB),(BA _).cell (show (⟨g,q,none⟩:Addr).block<_ from gV)];exact ux);have z2:w1.cell? ⟨g,k,none⟩=some (.int .i64 y):=(by rw[bel1.cell (show (⟨g,k,none⟩:Addr).block<_ from gB),(BA _).cell (show (⟨g,k,none⟩:Addr).block<_ from gV)];exact uy);have z3:w1.cell? ⟨wo.heap.size,1,none⟩=some (.int .i64 l):=(by rw[bel1.cell (show (⟨wo.heap.size,1,none⟩:Addr).block<_ from oB),(BA _).cell (show (⟨wo.heap.size,1,none⟩:Addr).block<_ from oV)];exact ul)))
     go_wp2;go_roundw
     case rel=>exact⟨j+1,by go_num,by omega,by rw[hP.out];exact OI.push own1,((BU.trans (G0.mono hszj)).trans ((BA _).mono c3_)).trans bel1⟩
     case measure=>simp[intOf];omega
    obtain rfl:j=n2:=by omega
    rw[Cg (by rw[HRL.out];exact Aj _)]at ownj;obtain⟨A4,c4,rfl,-⟩:=ownj.shape;have ow:=own.below Bo (Aj _);have os2:=tS_O.2 (OI.os (OI.base ownj (show wo.heap.size<=_ by omega)));have s2:=Bo.size;go_wp2_with (at_builtin;refine za8 ei_S #[.slice A4 (zc2 xs k).length c4] rfl _ _ rfl ow os2 (Iv.apart (Aj _)) rfl rfl (by unfold maxLen;omega) (by omega) ?_;intro v3 w4 own4 ch4);go_roundw
    case rel=>
     refine⟨k+1,by go_num,by omega,?_,(Bw.trans (Bo.mono hsb)).trans (ch4.toBelow (fun b hb=>hb.1) (by omega))⟩;rw[hpt.out];exact own4.wide (Iv.grow hsb s2 ch4.size)
    case measure=>simp[intOf];omega
  obtain rfl:k=n:=by omega
  go_wp2;go_ret;rw[Cg (by rw[HDL.out];exact Aj _)]at own;exact⟨_,rfl,own.wide (fun b hb=>⟨Nat.le_trans hw3 hb.1,hb.2⟩),BW⟩
def M.sl (a:List Int) (f:Int) (n:Nat):List Int:=(List.range n).map fun(i:Nat)=>M.at_ a (f+i)
def zcp (a:List Int) (b:Int) (n:Nat):List Int:=(List.range n).map fun(i:Nat)=>M.at_ a ((i:Int)-b)
theorem zif(a:List Int)(f:Int)(n:Nat):(M.sl a f n).length=n:=by simp[M.sl]
theorem zgd(a:List Int)(b:Int)(n:Nat):(zcp a b n).length=n:=by simp[zcp]
theorem zpe{a:List Int}{f:Int}{n k:Nat}(h:k<n):(M.sl a f n)[k]?=some (M.at_ a (f+k)):=by simp[M.sl,h]
theorem zxd{a:List Int}(h:a.all M.smp=true)(b:Int)(n:Nat):(zcp a b n).all M.smp=true:=by
 rw[zcp,List.all_map,Ef];intro i _;exact zkv h _
theorem zxe(a b:List Int)(g:Int):(zc9 a b g).all M.smp=true:=by
 rw[zc9,List.all_map,Ef];intro i _;exact M.smp_wrap _
theorem zxf(a:List Int)(b:Nat){i:Int}(h:0<=i):M.at_ (List.replicate b 0++a) i=M.at_ a (i-b):=by
 obtain⟨k,rfl⟩:=Int.eq_ofNat_of_zero_le h;rw[M.at_,M.at_];simp only[Cw,Fz]
 by_cases h1:k<b
 ·rw[if_neg (by omega:¬(0<=(k:Int)-b/\(k:Int)-b<a.length))]
  split
  ·rw[Fq,List.getElem?_append_left (by simpa using h1)];simp[h1]
  rfl
 by_cases h2:k<b+a.length
 ·rw[if_pos ⟨by omega,by omega⟩,if_pos ⟨by omega,by omega⟩,Fq,Gz (by simp;omega)];rw[Fz,show ((k:Int)-b).toNat=k-b by omega]
 rw[if_neg (by omega),if_neg (by omega)]
theorem zxg(a:List Int)(m:Nat)(i:Int):M.at_ (a++List.replicate m 0) i=M.at_ a i:=by
 rw[M.at_,M.at_];simp only[Cw,Fz]
 by_cases h1:0<=i/\i<a.length
 ·rw[if_pos ⟨h1.1,by omega⟩,if_pos h1,List.getElem?_append_left (by omega)]
 rw[if_neg h1]
 split
 ·rename_i h2
  rw[Gz (by omega),List.getElem?_replicate]
  split <;> rfl
 rfl
theorem zxh(a:List Int)(b n:Nat):M.sl (List.replicate b 0++a) 0 n=zcp a b n:=by
 rw[M.sl,zcp];refine List.map_congr_left fun i _=>?_
 rw[zxf a b (by omega)];congr 1;omega
theorem zxi(a:List Int)(b:Nat):(List.replicate b 0++a).take a.length=zcp a b a.length:=by
 rw[<-zxh];apply List.ext_getElem?
 intro k
 by_cases hk:k<a.length
 ·rw[zpe hk,List.getElem?_take,if_pos hk,M.at_,if_pos ⟨by omega,by simp;omega⟩,show ((0:Int)+(k:Int)).toNat=k by omega,Ak (by simp;omega)]
  rfl
 rw[List.getElem?_eq_none (by rw[Ey];omega),List.getElem?_eq_none (by rw[zif];omega)]
theorem zxj(a:List Int)(m n:Nat)(b:Int):zcp (a++List.replicate m 0) b n=zcp a b n:=by
 rw[zcp,zcp];exact List.map_congr_left fun i _=>zxg a m _
theorem OI.take{e:TypeId}{B:Nat}{w:Yw}{A:Yo}{m n c:Nat}{xs:List Int}(h:OI e B w (.slice A m c) xs)(hn:n<=m):OI e B w (.slice A n c) (xs.take n):=by
 have hl:xs.length=m:=by
  rcases h.2 with⟨h0,h1⟩|⟨g,cap,cur,h0,_⟩
  ·simp only[Cz]at h0;rw[h0.2.1];exact h1
  simp only[Cz]at h0;exact h0.2.1.symm
 have hl2:(xs.take n).length=n:=by rw[Ey];omega
 refine⟨by simp,?_⟩;rw[hl2];rcases h.2 with⟨h0,h1⟩|⟨g,cap,cur,h0,hb,hg,hnc,hcm,hcs,ht⟩
 ·simp only[Cz]at h0;obtain⟨rfl,rfl,rfl⟩:=h0;obtain rfl:n=0:=by omega
  exact .inl ⟨rfl,rfl⟩
 simp only[Cz]at h0;obtain⟨rfl,-,rfl⟩:=h0;refine .inr ⟨g,c,cur,rfl,hb,hg,by omega,hcm,hcs,?_⟩;rw[List.map_take,<-ht,List.take_take];congr 1;omega
theorem zpf(A:Yo)(n c:Nat)(xs:List Int)(f:Nat)(m:Nat)(w:Yw)(hx:RI w w.heap.size A n xs)(hn:n<=1000000)(hf:f<=1000000)(hm:m<=1000000):
 Calls Tryz.prog 59 #[.slice A n c,.int .i64 f,.int .i64 m] w (Ret1 2 w (M.sl xs f m)):=by
 go_enter Tryz.func59,Tryz.ntmps59
 go_wp2_with fail;refine(zc5 m _ (by omega) (by omega)).mono ?_;rintro e w1 ⟨v1,rfl,own1,bel1⟩;rw[Fq]at own1;obtain⟨A1,c1,e1,-⟩:=own1.shape;rw[Fz]at e1;subst e1;have s1:=bel1.size;go_wp2_with fail
 go_loopw [13] (fun i wr=>∃k:Nat,i=.int .i64 k/\k<=m/\OI 2 w.heap.size wr (.slice A1 m c1) ((M.sl xs f m).take k++List.replicate (m-k) 0)/\Below w.heap.size w wr/\w1.heap.size<=wr.heap.size) (fun i _=>m-(intOf i).toNat)
 case atStart=>exact⟨0,rfl,by omega,by simpa using own1,bel1,Aj _⟩
 case round=>
  obtain⟨k,rfl,hk,own,B,sz⟩:=hrel
  by_cases hlt:k<m
  ·obtain⟨g,rfl,hg1,hg2⟩:=own.form' (by omega);obtain⟨y,hy1,hy2,hy3,-,-⟩:=own.at' (k:=k) hlt
   have HT:=Aq (show ((M.sl xs f m).take k++List.replicate (m-k) 0).set k (M.at_ xs (f+k))=(M.sl xs f m).take (k+1)++List.replicate (m-(k+1)) 0 by
    rw[M.take_at (zpe hlt),List.set_append_right _ _ (by rw[Ey];omega)];rw[show k-((M.sl xs f m).take k).length=0 by rw[Ey,zif];omega,show m-k=(m-(k+1))+1 by omega,List.replicate_succ,List.set_cons_zero];simp)
   have fk:(0:Int)<=(f:Int)+(k:Int):=(by omega);have k0:(0:Int)<=(k:Int):=(by omega);have k1:(k:Int)<(m:Int):=(by omega);have rx:=(hx.below B).more B.size;go_wp2_with fail;refine(zhn _ _ _ xs _ _ rx (by omega) (by omega)).mono ?_;rintro e w' ⟨rfl,rfl⟩;go_wp2_with fail;go_roundw
   case rel=>exact⟨k+1,by go_num,by omega,by rw[<-HT.out];exact own.stored' k _,B.setCell hg1 _,by simp;omega⟩
   case measure=>simp[intOf];omega
  obtain rfl:k=m:=by omega
  rw[Cg (by rw[zif];omega),Nat.sub_self,List.replicate_zero,List.append_nil]at own;go_wp2_with fail;go_ret;exact⟨_,rfl,own,B⟩
theorem zxk(p x:Int):wrap32 (p+wrap64 x)=wrap32 (p+x):=by unfold wrap32 wrap64;omega
theorem zpg(A A':Yo)(n c n' c':Nat)(xs ys:List Int)(g:Int)(w:Yw)(hx:RI w w.heap.size A n xs)(hy:RI w w.heap.size A' n' ys)(hn:n<=1000000)(hn':n'<=1000000):
 Calls Tryz.prog 118 #[.slice A n c,.int .i64 g,.slice A' n' c'] w (Ret1 2 w (zc9 xs ys g)):=by
 have hl:=Aq hx.len;have hl':=Aq hy.len;obtain⟨m,hm⟩:∃m:Nat,m=max n n':=⟨_,rfl⟩;have HM:=Aq (show max xs.length ys.length=m by rw[hl.out,hl'.out,hm]);have hm2:m<=1000000:=by omega
 have hz:=Aq hm;rcases(show (n'<=n/\m=n)\/(n<n'/\m=n')by omega)with⟨hnn,rfl⟩|⟨hnn,rfl⟩
 all_goals
  clear hm hz
  go_enter Tryz.func118,Tryz.ntmps118
  go_wp2_with (first|(go_at_call 169;refine(zb2 _ _ _ _).mono ?_;rintro e w' ⟨rfl,rfl⟩));refine(zc5 m _ (by omega) (by omega)).mono ?_;rintro e w1 ⟨v1,rfl,own1,bel1⟩;rw[Fq]at own1;obtain⟨A1,c1,e1,-⟩:=own1.shape;rw[Fz]at e1;subst e1;have s1:=bel1.size;go_wp2_with fail
  go_loopw [17] (fun i wr=>∃k:Nat,i=.int .i64 k/\k<=m/\OI 2 w.heap.size wr (.slice A1 m c1) ((zc9 xs ys g).take k++List.replicate (m-k) 0)/\Below w.heap.size w wr/\w1.heap.size<=wr.heap.size) (fun i _=>m-(intOf i).toNat)
  case atStart=>exact⟨0,rfl,by omega,by simpa using own1,bel1,Aj _⟩
  case round=>
   obtain⟨k,rfl,hk,own,B,sz⟩:=hrel
   by_cases hlt:k<m
   ·obtain⟨q,rfl,hg1,hg2⟩:=own.form' (by omega);obtain⟨y,hy1,hy2,hy3,-,-⟩:=own.at' (k:=k) hlt
    have HT:=Aq (show ((zc9 xs ys g).take k++List.replicate (m-k) 0).set k (wrap32 (M.at_ xs (k:Int)+M.at_ ys (k:Int)*g))=(zc9 xs ys g).take (k+1)++List.replicate (m-(k+1)) 0 by
     rw[M.take_at (zsg (by rw[HM.out];exact hlt)),List.set_append_right _ _ (by rw[Ey];omega)];rw[show k-((zc9 xs ys g).take k).length=0 by rw[Ey,zh1,HM.out];omega,show m-k=(m-(k+1))+1 by omega,List.replicate_succ,List.set_cons_zero];simp)
    have k0:(0:Int)<=(k:Int):=(by omega);have k1:(k:Int)<(m:Int):=(by omega);have rx:=(hx.below B).more B.size;have ry:=(hy.below B).more B.size;obtain⟨p,hp⟩:∃p,p=M.at_ xs (k:Int):=⟨_,rfl⟩;obtain⟨r,hr⟩:∃r,r=M.at_ ys (k:Int):=⟨_,rfl⟩;have HP:=Aq hp;have HR:=Aq hr;clear hp hr;go_wp2_with fail;refine(zhn _ _ _ xs _ _ rx (by omega) (by omega)).mono ?_;rw[<-HP.out];rintro e w' ⟨rfl,rfl⟩;go_wp2_with fail;refine(zhn _ _ _ ys _ _ ry (by omega) (by omega)).mono ?_;rw[<-HR.out];rintro e w' ⟨rfl,rfl⟩;go_wp2_with fail;refine(zdq _ _).mono ?_;rintro e w' ⟨rfl,rfl⟩;go_wp2_with fail;go_roundw
    case rel=>
     refine⟨k+1,by go_num,by omega,?_,B.setCell hg1 _,by simp;omega⟩;rw[<-HT.out,<-HP.out,<-HR.out];have:=own.stored' k (wrap32 (p+r*g));rw[show wrap32 (p+r*g)=wrap32 (wrap64 (p+wrap64 (g*r)))by rw[M.wrap32_64,zxk,Int.mul_comm]]at this ⊢;exact this
    case measure=>simp[intOf];omega
   obtain rfl:k=m:=by omega
   rw[Cg (by rw[zh1,HM.out];omega),Nat.sub_self,List.replicate_zero,List.append_nil]at own;go_wp2_with fail;go_ret;exact⟨_,rfl,own,B⟩
theorem zlc(A:Yo)(n c:Nat)(xs:List Int)(b:Nat)(w:Yw)(hx:RI w w.heap.size A n xs)(hn:n<=1000000)(hb:b<=1000000):
 Calls Tryz.prog 119 #[.slice A n c,.int .i64 b] w (Ret1 2 w (zcp xs b n)):=by
 have hl:=Aq hx.len
 go_enter Tryz.func119,Tryz.ntmps119
 go_wp2_with fail;refine(zc5 b _ (by omega) (by omega)).mono ?_;rintro e w1 ⟨v1,rfl,own1,bel1⟩;rw[Fq]at own1;have hlr:=Fz (n:=b) (a:=(0:Int));have HLR:=Aq hlr;have rx:=hx.below bel1;have s1:=bel1.size;have hlb:(List.replicate b (0:Int)).length<=1000000:=by rw[Fz];omega
 clear hlr;go_wp2_with (at_builtin;refine zcz zbu rfl _ _ rfl own1 rfl rx rfl (ints_oneCell _ _) (by unfold maxLen;omega) (by omega) s1 ?_;intro v2 w2 own2 gr2 bel2;have op2:OI 2 w.heap.size w2 v2 (List.replicate b 0++xs):=(by unfold OI;rw[List.map_append,Cw,hl.out];exact own2);obtain⟨A2,c2,e2,-⟩:=op2.shape;obtain⟨n2,hn2⟩:∃n2,n2=(List.replicate b 0++xs).length:=⟨_,rfl⟩;rw[<-hn2]at e2;subst e2;have hnn:n<=n2:=(by rw[hn2,Cw,hl.out];omega);have hcc:n2<=c2:=(by obtain⟨A3,c3,e3,h3,-⟩:=zb0 op2;simp only[Cz]at e3;rw[e3.2.2,e3.2.1];exact h3);have HN2:=Aq hn2;clear hn2);go_ret;have op3:=op2.take hnn;have h:=zxi xs b;rw[hl.out]at h;rw[h]at op3;exact⟨_,rfl,op3,bel1.trans bel2⟩
section
set_option synthInstance.maxSize 2000
set_option synthInstance.maxHeartbeats 400000
section
variable (L:Nat) (src:List (List Int)) (ts:List (List zap)) (fs:List Int) (ps:List zae) (ms:List zag)
def M.nT:Nat:=L+(zd6 ms).toNat
def zjr (t:Nat):List zap:=(ts[t]?).getD []
def zfb (i:Nat):zae:=(ps[i]?).getD M.p0
def zbn (i:Nat):zag:=(ms[i]?).getD M.sz
def zbt (i:Nat):Int:=M.i_ (zcj ms) i
def zhi (ins:List (List Int)) (k:Nat) (ys:List Int) (g:Int):List (List Int):=ins.set k (zc9 (zal ins k) ys g)
def zge:Nat->List (List Int)
 | 0=>List.replicate ms.length (List.replicate (M.nT L ms) 0)
 | t+1=>zhi (zge t) (M.i_ fs t).toNat (zcp (zek src (zjr ts t) L) (zbt ms (M.i_ fs t).toNat) (M.nT L ms)) 1
def M.fx (p:zae) (xs:List Int) (n:Nat):List Int:=if p=M.p0 then xs else znr p xs n
def zfx (i:Nat) (ins:List (List Int)):List Int:=zcp (M.fx (zfb ps i) (zal ins i) (M.nT L ms)) (zbn ms i).2.1 (M.nT L ms)
def zfc (i:Nat) (out:List Int) (ins:List (List Int)):Nat->List (List Int)
 | 0=>ins
 | j+1=>zhi (zfc i out ins j) (((zbn ms i).2.2[j]?).getD (0,0)).1.toNat (zcp out (M.i_ (zal (zdn ms) i) j) (M.nT L ms)) (((zbn ms i).2.2[j]?).getD (0,0)).2
def zbx:Nat->List (List Int)×List (List Int)
 | 0=>(zge L src ts fs ms ts.length,[])
 | i+1=>(zfc L ms i (zfx L ps ms i (zbx i).1) (zbx i).1 (zbn ms i).2.2.length,(zbx i).2++[zfx L ps ms i (zbx i).1])
def zc3:List (List Int):=(zbx L src ts fs ps ms ms.length).2
def zef:List Int:=(List.range ms.length).map fun i=>zbt ms i+(zbn ms i).2.1
def zeg:List Int:=M.sl (zal (zc3 L src ts fs ps ms) (ms.length-1)) (zd6 ms) L
def zdo:List (List Int):=(List.range ms.length).map fun i=>M.sl (zal (zc3 L src ts fs ps ms) i) (zbt ms i+(zbn ms i).2.1) L
end
structure M.SO (L:Nat) (src:List (List Int)) (ts:List (List zap)) (fs:List Int) (ps:List zae) (ms:List zag):Prop where
 l:L<=1000
 so:zdz src=true
 mix:zay ms=true
 fl:fs.length=ts.length
 tl:ts.length<=6
 fr:∀f∈fs,0<=f/\f<ms.length
 pl:ps.length=ms.length
 tr:∀t∈ts,za1 t=true/\zbq t src.length=true
 ef:∀p∈ps,zas p=true
theorem zjs{a0:Int}{src:List (List Int)}{ts:List (List zap)}{fs:List Int}{ps:List zae}{ms:List zag}(h:zbd (a0,src,ts,fs,ps,ms)=true):∃L:Nat,a0=L/\M.SO L src ts fs ps ms:=by
 rw[zbd]at h;simp only[Cx,Dg]at h;obtain⟨⟨⟨⟨⟨⟨⟨⟨h1,h2⟩,h3⟩,h4⟩,h5⟩,h6⟩,h7⟩,h8⟩,h9⟩:=h;have h1':=za3.1 h1;refine⟨a0.toNat,by omega,by omega,h2,h4,h5,h3,fun f hf=>?_,h7,fun t ht=>?_,fun p hp=>Ef.1 h9 p hp⟩
 ·have:=za3.1 (Ef.1 h6 f hf);omega
 have:=Ef.1 h8 t ht;rwa [Cx]at this
structure M.JO (m n:Nat) (ins:List (List Int)):Prop where
 len:ins.length=m
 at_:∀x∈ins,x.length=n/\x.all M.smp=true
theorem M.JO.cel{m n:Nat}{ins:List (List Int)}(h:M.JO m n ins){k:Nat}(hk:k<m):(zal ins k).length=n/\(zal ins k).all M.smp=true:=by
 have hk2:k<ins.length:=by rw[h.len];exact hk
 have e:zal ins k=ins[k]:=by rw[zal,Ak hk2];rfl
 rw[e];exact h.at_ _ (List.getElem_mem hk2)
theorem M.JO.add{m n:Nat}{ins:List (List Int)}(h:M.JO m n ins){k:Nat}(hk:k<m){ys:List Int}(hy:ys.length=n)(g:Int):M.JO m n (zhi ins k ys g):=by
 refine⟨by rw[zhi,Fx];exact h.len,fun x hx=>?_⟩;rcases List.mem_or_eq_of_mem_set hx with h1|rfl
 ·exact h.at_ x h1
 exact⟨by rw[zh1,(h.cel hk).1,hy,Nat.max_self],zxe _ _ _⟩
section
variable {L:Nat} {src:List (List Int)} {ts:List (List zap)} {fs:List Int} {ps:List zae} {ms:List zag}
theorem zjt(h:zay ms=true):0<=zd6 ms/\zd6 ms<=1100:=by
 obtain⟨h1,h2⟩:=zfa h;have hx:ms[ms.length-1]?=some (ms[ms.length-1]'(by omega)):=Ak (by omega);rw[zd6,hx];generalize ms[ms.length-1]'(by omega)=x at hx;obtain⟨s,l,us⟩:=x;obtain⟨h3,_,_⟩:=zgw h hx;have h4:=zjn (by omega) (zjp h ms.length (Aj _)) (ms.length-1);rw[zcj];simp only[Option.getD_some];omega
theorem zld(h:M.SO L src ts fs ps ms):M.nT L ms<=2100:=by
 have h1:=zjt h.mix;have h2:=h.l;rw[M.nT];omega
theorem zxl(h:M.SO L src ts fs ps ms):((M.nT L ms:Nat):Int)=(L:Int)+zd6 ms:=by
 have h1:=zjt h.mix;rw[M.nT];omega
theorem zgx(h:zay ms=true)(i:Nat):0<=zbt ms i/\zbt ms i<=1024:=by
 have h1:=zfa h;have h4:=zjn (by omega) (zjp h ms.length (Aj _)) i;rw[zbt,M.i_,zcj];omega
theorem zph{i:Nat}{x:zag}(h:ms[i]?=some x):zbn ms i=x:=by rw[zbn,h];rfl
theorem zpi{i:Nat}{x:zae}(h:ps[i]?=some x):zfb ps i=x:=by rw[zfb,h];rfl
theorem zxm{i:Nat}{x:List zap}(h:ts[i]?=some x):zjr ts i=x:=by rw[zjr,h];rfl
theorem zhj(h:zay ms=true){i:Nat}(hi:i<ms.length):(0<=(zbn ms i).2.1/\(zbn ms i).2.1<=32)/\(zbn ms i).2.2.length<=4/\∀(j:Nat) (p0 p1:Int),(zbn ms i).2.2[j]?=some (p0,p1)->(i:Int)<p0/\p0<ms.length/\M.smp p1=true:=by
 have hx:ms[i]?=some ms[i]:=Ak hi;rw[zph hx];generalize ms[i]=x at hx;obtain⟨s,l,us⟩:=x;obtain⟨h1,h2,h3⟩:=zgw h hx;refine⟨h1,h2,fun j p0 p1 hj=>?_⟩;have:=zla h3 hj;exact⟨this.1,by omega,this.2.2⟩
theorem zgy{p:zae}(h:zas p=true)(hp:p≠M.p0):zce p=true/\p.1=1/\p.2.2.2.length=1:=by
 rw[zas]at h;simp only[Bool.or_eq_true,Cx,Dg]at h;rcases h with h|h
 ·exact absurd h hp
 exact⟨h.1.1,h.1.2,h.2⟩
theorem zxn{p:zae}(h:zas p=true){xs:List Int}{n:Nat}(hl:xs.length=n)(hs:xs.all M.smp=true):(M.fx p xs n).length=n/\(M.fx p xs n).all M.smp=true:=by
 rw[M.fx]
 split
 ·exact⟨hl,hs⟩
 rename_i hp
 obtain⟨h1,h2,h3⟩:=zgy h hp;exact⟨by rw[znr,zgb],ztp (zgu h1 h2) hs _ _⟩
theorem zpj(h:M.SO L src ts fs ps ms):∀t,t<=ts.length->M.JO ms.length (M.nT L ms) (zge L src ts fs ms t):=by
 intro t
 induction t with
 | zero=>
  refine fun _=>⟨Fz ..,fun x hx=>?_⟩
  rw[List.eq_of_mem_replicate hx];refine⟨Fz ..,?_⟩;rw[Ef];intro z hz;rw[List.eq_of_mem_replicate hz]
  rfl
 | succ t ih=>
  intro ht
  have hf:fs[t]?=some (M.i_ fs t):=by
   have:t<fs.length:=(by rw[h.fl];omega);rw[M.i_,Ak this];rfl
  have hr:=h.fr _ (Eg hf);exact(ih (by omega)).add (by omega) (zgd _ _ _) 1
theorem zpk(h:zay ms=true){i:Nat}(hi:i<ms.length){out:List Int}{ins:List (List Int)}(hins:M.JO ms.length (M.nT L ms) ins):∀j,j<=(zbn ms i).2.2.length->M.JO ms.length (M.nT L ms) (zfc L ms i out ins j):=by
 intro j
 induction j with
 | zero=>exact fun _=>hins
 | succ j ih=>
  intro hj;obtain⟨_,_,h3⟩:=zhj h hi;have hx:(zbn ms i).2.2[j]?=some ((zbn ms i).2.2[j]'(by omega)):=Ak (by omega);generalize (zbn ms i).2.2[j]'(by omega)=u at hx;obtain⟨p0,p1⟩:=u;have h4:=h3 j p0 p1 hx;rw[zfc,hx];exact(ih (by omega)).add (by show p0.toNat<_;omega) (zgd _ _ _) _
theorem zju(h:M.SO L src ts fs ps ms):∀i,i<=ms.length->M.JO ms.length (M.nT L ms) (zbx L src ts fs ps ms i).1/\M.JO i (M.nT L ms) (zbx L src ts fs ps ms i).2:=by
 intro i
 induction i with
 | zero=>exact fun _=>⟨zpj h _ (Aj _),rfl,fun x hx=>by cases hx⟩
 | succ i ih=>
  intro hi;obtain⟨h1,h2⟩:=ih (by omega)
  have hp:zas (zfb ps i)=true:=by
   have hk:i<ps.length:=(by rw[h.pl];omega);rw[zpi (Ak hk)];exact h.ef _ (List.getElem_mem hk)
  obtain⟨c1,c2⟩:=h1.cel (k:=i) (by omega);obtain⟨f1,f2⟩:=zxn hp c1 c2;refine⟨zpk h.mix (by omega) h1 _ (Aj _),by rw[zbx,Cw,h2.len];rfl,fun x hx=>?_⟩;rw[zbx,Gx]at hx;rcases hx with hx|hx
  ·exact h2.at_ x hx
  obtain rfl:x=_:=List.mem_singleton.1 hx;exact⟨zgd _ _ _,zxd f2 _ _⟩
end
end
section
set_option synthInstance.maxSize 2000
set_option synthInstance.maxHeartbeats 400000
def zeh (ND:NO->Nat->Bool) (N:Nat) (p:zae):zae:=
 (p.1,p.2.1,(zbw (ND (zan ND p.2.1 (p.2.2.1,p.2.2.2) N)) (zan ND p.2.1 (p.2.2.1,p.2.2.2) N)).1,(zbw (ND (zan ND p.2.1 (p.2.2.1,p.2.2.2) N)) (zan ND p.2.1 (p.2.2.1,p.2.2.2) N)).2)
def zbp (ND:NO->Nat->Bool) (NN:zae->Nat) (p:zae):zae:=if p=M.p0 then M.p0 else zeh ND (NN p) p
theorem zxo{ND:NO->Nat->Bool}(hND:∀p j,ND p j=true↔M.Rch p.1 p.2 j):∃NN:zae->Nat,∀p:zae,zas p=true->p≠M.p0->zbs ND p.2.1 (zan ND p.2.1 (p.2.2.1,p.2.2.2) (NN p))=none:=by
 refine⟨fun p=>Classical.epsilon fun N=>zbs ND p.2.1 (zan ND p.2.1 (p.2.2.1,p.2.2.2) N)=none,fun p hp h0=>?_⟩;obtain⟨h1,h2,h3⟩:=zgy hp h0;obtain⟨R,hW⟩:=zjb (zgu h1 h2) (zh6 h1);obtain⟨N,hN⟩:=zn6 hND _ R hW;exact Classical.epsilon_spec (p:=fun N=>zbs ND p.2.1 (zan ND p.2.1 (p.2.2.1,p.2.2.2) N)=none) ⟨N,hN⟩
theorem zxp{tb:List (List Int)}{q:NO}{R:Nat->Nat}(h:M.WP tb q R)(h1:q.2.length=1):zas (1,tb,q.1,q.2)=true:=by
 have hp:zce (1,tb,q.1,q.2)=true:=by
  rw[zce,Cx];refine⟨?_,Dx (znu h.rk)⟩;rw[za4];simp only[Cx,Dg,Ef];refine⟨⟨⟨⟨⟨by decide,h.tabs⟩,h.len⟩,by omega⟩,fun o ho=>za3.2 (by have:=h.outs o ho;omega)⟩,fun x hx=>?_⟩;obtain⟨i,hi⟩:=List.mem_iff_getElem?.1 hx;rw[zbi,Cx,Cx];refine⟨⟨h.ok i x hi,Ef.2 fun f hf=>za3.2 (by have:=h.fr i x hi f hf;omega)⟩,?_⟩
  by_cases hk:x.1=1
  ·rw[h.inp i x hi hk];simp
  simp[hk]
 rw[zas,Bool.or_eq_true,Cx,Cx];exact .inr ⟨⟨hp,by simp⟩,by simpa using h1⟩
section
variable {ND:NO->Nat->Bool} {NN:zae->Nat}
theorem zle(hND:∀p j,ND p j=true↔M.Rch p.1 p.2 j){p:zae}(hp:zas p=true)(h0:p≠M.p0)(N:Nat):zas (zeh ND N p)=true/\zeh ND N p≠M.p0/\(zeh ND N p).1=1/\(zeh ND N p).2.1=p.2.1/\(zeh ND N p).2.2.1.length<=24/\(zeh ND N p).2.2.2.length=1:=by
 obtain⟨h1,h2,h3⟩:=zgy hp h0;obtain⟨R,hW⟩:=zjb (zgu h1 h2) (zh6 h1);obtain⟨R',w1,w2,w3⟩:=zja hND hW N;obtain⟨R2,hT⟩:=zob w1 (hND _)
 have hl:(zbw (ND (zan ND p.2.1 (p.2.2.1,p.2.2.2) N)) (zan ND p.2.1 (p.2.2.1,p.2.2.2) N)).2.length=1:=by
  show (zbh _ _).length=1
  rw[znc,w3];exact h3
 have he:=zxp hT hl;refine⟨?_,?_,h2,rfl,hT.len,hl⟩
 ·rw[zeh,h2];exact he
 intro e;have e1:(zeh ND N p).2.2.2=M.p0.2.2.2:=by rw[e]
 have e2:(zeh ND N p).2.2.2.length=0:=by rw[e1];rfl
 have:(zeh ND N p).2.2.2.length=1:=hl;omega
theorem zxq(hND:∀p j,ND p j=true↔M.Rch p.1 p.2 j){p:zae}(hp:zas p=true):zas (zbp ND NN p)=true:=by
 rw[zbp]
 split
 ·rename_i h;rw[h]at hp;exact hp
 rename_i h;exact(zle hND hp h _).1
end
def zfd (ND:NO->Nat->Bool) (NN:zae->Nat) (x:Sess):Sess:=(x.1,x.2.1,x.2.2.1,x.2.2.2.1,x.2.2.2.2.1.map (zbp ND NN),x.2.2.2.2.2)
theorem zxr{ND:NO->Nat->Bool}{NN:zae->Nat}(hND:∀p j,ND p j=true↔M.Rch p.1 p.2 j){x:Sess}(h:zbd x=true):zbd (zfd ND NN x)=true:=by
 rw[zbd]at h ⊢;simp only[Cx,Dg,Ef]at h ⊢;obtain⟨⟨⟨⟨⟨⟨⟨⟨h1,h2⟩,h3⟩,h4⟩,h5⟩,h6⟩,h7⟩,h8⟩,h9⟩:=h;refine⟨⟨⟨⟨⟨⟨⟨⟨h1,h2⟩,h3⟩,h4⟩,h5⟩,h6⟩,by simpa [zfd]using h7⟩,h8⟩,fun p hp=>?_⟩;rw[zfd]at hp;obtain⟨q,hq,rfl⟩:=List.mem_map.1 hp;exact zxq hND (h9 q hq)
end
end Go.Proofs.YtifeldeikhmckaaGreat
