import Derived.Test.YtifeldeikhmckaaGreatFnMutedG13
import Derived.Test.YtifeldeikhmckaaGreatFnMutedG14
import Derived.Test.YtifeldeikhmckaaGreatFnMutedG17
import Derived.Test.YtifeldeikhmckaaGreatFnMutedG15
import Derived.Test.YtifeldeikhmckaaGreatFnMutedG16
import Derived.Test.YtifeldeikhmckaaGreatFnMutedG8
import Derived.Deep.DeepCutAuto
import Derived.Test.YtifeldeikhmckaaGreatFnMutedG12
set_option linter.unusedVariables false
set_option linter.unusedSimpArgs false
set_option maxRecDepth 100000
set_option maxHeartbeats 4000000
namespace Go.Proofs.YtifeldeikhmckaaGreat
open Go.RowKit Go.Sort
section
theorem zzr{ND:NO->Nat->Bool}{NN:zae->Nat}(hND:∀p j,ND p j=true↔M.Rch p.1 p.2 j)(hNN:∀p:zae,zas p=true->p≠M.p0->zbs ND p.2.1 (zan ND p.2.1 (p.2.2.1,p.2.2.2) (NN p))=none)(p:Int)(A:Yo)(n c:Nat)(Ab:Yo)(nb cb:Nat)(Ac:Yo)(nc cc:Nat)(Ad:Yo)(nd cd:Nat)(Ae:Yo)(ne ce:Nat)(x:Sess)(w:Yw)(hx:tZ.R w w.heap.size [.int .i64 p,.slice A n c,.slice Ab nb cb,.slice Ac nc cc,.slice Ad nd cd,.slice Ae ne ce] x)(hn:hZ.sz x<=100000000):
 Calls Tryz.prog 8 #[.agg #[.int .i64 p,.slice A n c,.slice Ab nb cb,.slice Ac nc cc,.slice Ad nd cd,.slice Ae ne ce]] w fun e w'=>∃p' A' n' c' Ab' nb' cb' Ac' nc' cc' Ad' nd' cd' Ae' ne' ce',e=.returned (.tuple #[.agg #[.int .i64 p',.slice A' n' c',.slice Ab' nb' cb',.slice Ac' nc' cc',.slice Ad' nd' cd',.slice Ae' ne' ce'],.int .i64 (zei ND NN x).2])/\tZ.O w' (Iv w.heap.size w'.heap.size) [.int .i64 p',.slice A' n' c',.slice Ab' nb' cb',.slice Ac' nc' cc',.slice Ad' nd' cd',.slice Ae' ne' ce'] (zei ND NN x).1/\Below w.heap.size w w':=by
 obtain⟨a0,x1,x2,x3,x4,x5⟩:=x;obtain⟨A1,n1,c1,A2,n2,c2,A3,n3,c3,A4,n4,c4,A5,n5,c5,hcs,h1,h2,h3,h4,h5⟩:=tZ_R.1 (hx);simp only[List.cons.injEq,Value.int.injEq,Cz,true_and,and_true]at hcs;obtain⟨rfl,⟨rfl,rfl,rfl⟩,⟨rfl,rfl,rfl⟩,⟨rfl,rfl,rfl⟩,⟨rfl,rfl,rfl⟩,⟨rfl,rfl,rfl⟩⟩:=hcs;exact zx2 hND hNN _ _ _ _ _ _ _ _ _ _ _ _ _ _ _ _ _ _ _ _ _ _ h1 h2 h3 h4 h5 hn
section
variable {ND:NO->Nat->Bool} {NN:zae->Nat}
theorem zzs(hND:∀p j,ND p j=true↔M.Rch p.1 p.2 j){p:zae}(hp:zas p=true):(zbp ND NN p).2.1=p.2.1/\((zbp ND NN p).2.2.1.length<=24/\∀y∈(zbp ND NN p).2.2.1,y.2.2.2.length<=3)/\(zbp ND NN p).2.2.2.length<=1:=by
 rw[zbp]
 split
 ·rename_i h;rw[h];exact⟨rfl,⟨by simp[M.p0],by simp[M.p0]⟩,by simp[M.p0]⟩
 rename_i h
 obtain⟨k1,k2,k3,k4,k5,k6⟩:=zle (N:=NN p) hND hp h;obtain⟨R,hW,-⟩:=zpq k1 k2;refine⟨k4,⟨k5,fun y hy=>?_⟩,by omega⟩;obtain⟨i,hi⟩:=Fk hy;exact zib (hW.ok i y hi)
theorem zzt(hND:∀p j,ND p j=true↔M.Rch p.1 p.2 j){x:Sess}(h:zbd x=true)(hf:M.fewZ x):M.fewZ (zfd ND NN x):=by
 have he:∀p∈x.2.2.2.2.1,zas p=true:=by
  rw[zbd]at h;simp only[Cx,Ef]at h;exact h.2
 have key:∀q∈(zfd ND NN x).2.2.2.2.1,∃p∈x.2.2.2.2.1,q.2.1=p.2.1/\(q.2.2.1.length<=24/\∀y∈q.2.2.1,y.2.2.2.length<=3)/\q.2.2.2.length<=1:=fun q hq=>by
  obtain⟨p,hp,rfl⟩:=List.mem_map.1 (show q∈x.2.2.2.2.1.map (zbp ND NN)from hq);exact⟨p,hp,zzs hND (he p hp)⟩
 refine⟨hf.sn,hf.tn,hf.fn,?_,fun q hq=>?_,fun q hq=>?_,fun q hq=>?_,hf.mn,hf.mt⟩
 ·show (x.2.2.2.2.1.map (zbp ND NN)).length<=30
  rw[Ff];exact hf.en
 ·obtain⟨p,hp,e,-⟩:=key q hq;rw[e];exact hf.e1 p hp
 ·obtain⟨p,hp,-,e,-⟩:=key q hq;exact⟨by omega,fun y hy=>by have:=e.2 y hy;omega⟩
 obtain⟨p,hp,-,-,e⟩:=key q hq;omega
theorem zzu(hND:∀p j,ND p j=true↔M.Rch p.1 p.2 j){x:Sess}(h:zbd x=true):zff (zfd ND NN x)=zff x:=by
 obtain⟨a0,src,ts,fs,ps,ms⟩:=x;obtain⟨L,rfl,hSO⟩:=zjs h;have h2:=zxr (NN:=NN) hND h;have e:zfd ND NN ((L:Int),src,ts,fs,ps,ms)=((L:Int),src,ts,fs,ps.map (zbp ND NN),ms):=rfl;rw[e]at h2 ⊢;rw[zjv h2,zjv h,zyj hND hSO]
end
def zd7 (n:Nat):List Int:=(List.range n).map fun i:Nat=>(i:Int)
theorem zqb(n:Nat):(zd7 n).length=n:=by simp[zd7]
theorem zzv(n:Nat):zd7 (n+1)=zd7 n++[(n:Int)]:=by simp[zd7,List.range_succ]
theorem zzw{n i:Nat}(h:i<n):zam (zd7 n) (i:Int)=true:=by
 rw[zam,List.any_eq_true];exact⟨(i:Int),List.mem_map.2 ⟨i,Gj.2 h,rfl⟩,by simp⟩
theorem zzx{x:Sess}(h:zbd x=true):zfe x (zd7 x.2.2.1.length)=(x,0):=by
 have hc:zfy x (zd7 x.2.2.1.length)=0:=by
  rw[zfy,if_pos h,if_pos];rw[Ef];intro y hy;obtain⟨i,hi,rfl⟩:=List.mem_map.1 hy;have:=Gj.1 hi;exact za3.2 (by omega)
 have hm:zca (zd7 x.2.2.1.length) x.2.2.1.length x.2.2.1=x.2.2.1:=by
  apply List.ext_getElem (by simp[zca]);intro i h1 h2;simp only[zca,List.getElem_mapIdx];rw[if_neg];rintro⟨a,b⟩;rw[zzw h2]at b;cases b
 rw[zfe,hc,if_pos rfl,zlf,hm]
theorem zjz(L:Nat)(src:List (List Int))(ts:List (List zap))(fs:List Int)(ps:List zae)(ms:List zag):(zeg L src ts fs ps ms).length=L:=by rw[zeg,zif]
theorem zzy{L:Nat}{src:List (List Int)}{ts:List (List zap)}{fs:List Int}{ps:List zae}{ms:List zag}(h:M.SO L src ts fs ps ms):(zdo L src ts fs ps ms).length=ms.length/\0<ms.length/\(zdo L src ts fs ps ms)[ms.length-1]?=some (zeg L src ts fs ps ms):=by
 have h0:0<ms.length:=by
  have:=h.mix;rw[zay]at this;rw[Cx]at this;have:=za3.1 this.1;omega
 refine⟨by simp[zdo],h0,?_⟩;rw[zdo,Fv,List.getElem?_range (by omega)]
 rfl
end
section
structure NB (w:Yw) (b lo:Nat) (A:Yo) (n c:Nat) (code:List UInt8) (g K:Nat) (k a bb:Int) (v:Value) (xs:List Int) (wr:Yw):Prop where
 d:DN w b lo A n c code g K k a bb v xs wr
 q0:wr.frozen? ⟨g,0,none⟩=false
 q1:wr.frozen? ⟨g,1,none⟩=false
section
variable {w wr w':Yw} {b lo:Nat} {A :Yo} {n c:Nat} {code:List UInt8} {g K K':Nat} {k a bb:Int} {v:Value} {xs:List Int}
theorem NB.step(h:NB w b lo A n c code g K k a bb v xs wr)(hb:b<w.heap.size)(hs:Src w' b lo A n c code K')(hm:Mid b (b+1) wr w'):NB w b lo A n c code g K' k a bb v xs w':=by
 have hz:=h.d.sz;have hl:=h.d.lo;exact⟨h.d.step hb hs hm,hm.frozK hz (.inr (by omega)) h.q0,hm.frozK hz (.inr (by omega)) h.q1⟩
theorem DN.off{w4:Yw}{o:Nat}{u:Value}{k' a' b':Int}(h:DN w b lo A n c code g K k a bb v xs wr)(hb:b<w.heap.size)(hw:w4=wr.setCell ⟨g,o,none⟩ u)(p0:w4.cell? ⟨g,0,none⟩=some (.int .i64 k'))(p1:w4.cell? ⟨g,1,none⟩=some (.int .i64 a'))(p2:w4.cell? ⟨g,2,none⟩=some (.int .i64 b'))(p3:w4.cell? ⟨g,3,none⟩=some v):DN w b lo A n c code g K k' a' b' v xs w4:=by
 have hz:=h.sz;have hl:=h.lo;subst hw
 have cW:∀o' u',wr.cell? ⟨w.heap.size,o',none⟩=u'->(wr.setCell ⟨g,o,none⟩ u).cell? ⟨w.heap.size,o',none⟩=u':=fun o' u' hu=>by
  rw[Ek (Fg wr ⟨g,o,none⟩ w.heap.size _ (by show w.heap.size≠g;omega))];exact hu
 have CB:Chg (fun z=>z=g) wr (wr.setCell ⟨g,o,none⟩ u):=Chg.set wr g o _ rfl;have MB:Below w.heap.size wr (wr.setCell ⟨g,o,none⟩ u):=CB.toBelow (fun z h=>by omega) (by omega)
 exact⟨cW _ _ h.e0,cW _ _ h.e1,cW _ _ h.e2,cW _ _ h.e3,(Bf _ _ _ _).trans h.f0,(Bf _ _ _ _).trans h.f1,(Bf _ _ _ _).trans h.f2,(Bf _ _ _ _).trans h.f3,
  p0,p1,p2,p3,(Bf _ _ _ _).trans h.q2,(Bf _ _ _ _).trans h.q3,
  h.own.chg CB (fun z h1 h2=>h1.2 h2),h.src.below MB hb,h.mid.thenB' MB (Aj _),by simpa using hz,hl⟩
theorem NB.set0(h:NB w b lo A n c code g K k a bb v xs wr)(hb:b<w.heap.size)(y:Int):NB w b lo A n c code g K y a bb v xs (wr.setCell ⟨g,0,none⟩ (.int .i64 y)):=
 ⟨h.d.off hb rfl (Dj _ _ _ h.d.p0) ((zaf wr g _ (by decide)).trans h.d.p1) ((zaf wr g _ (by decide)).trans h.d.p2) ((zaf wr g _ (by decide)).trans h.d.p3),(Bf _ _ _ _).trans h.q0,(Bf _ _ _ _).trans h.q1⟩
theorem NB.set1(h:NB w b lo A n c code g K k a bb v xs wr)(hb:b<w.heap.size)(y:Int):NB w b lo A n c code g K k y bb v xs (wr.setCell ⟨g,1,none⟩ (.int .i64 y)):=
 ⟨h.d.off hb rfl ((zaf wr g _ (by decide)).trans h.d.p0) (Dj _ _ _ h.d.p1) ((zaf wr g _ (by decide)).trans h.d.p2) ((zaf wr g _ (by decide)).trans h.d.p3),(Bf _ _ _ _).trans h.q0,(Bf _ _ _ _).trans h.q1⟩
theorem NB.set2(h:NB w b lo A n c code g K k a bb v xs wr)(hb:b<w.heap.size)(y:Int):NB w b lo A n c code g K k a y v xs (wr.setCell ⟨g,2,none⟩ (.int .i64 y)):=
 ⟨h.d.off hb rfl ((zaf wr g _ (by decide)).trans h.d.p0) ((zaf wr g _ (by decide)).trans h.d.p1) (Dj _ _ _ h.d.p2) ((zaf wr g _ (by decide)).trans h.d.p3),(Bf _ _ _ _).trans h.q0,(Bf _ _ _ _).trans h.q1⟩
end
theorem zzz(b lo:Nat)(A:Yo)(n c:Nat)(code:List UInt8)(K:Nat)(t:Int)(w:Yw)(h:Src w b lo A n c code K)(hK:K<=90000)(ht:0<=t/\t<=100):
 Calls Tryz.prog 167 #[.pointer (some ⟨b,0,none⟩),.int .i64 t] w (zli b lo A n c code (K+100) (fun x=>x.2.2.2.length<=4) w):=by
 have hbw:=h.lt;obtain⟨W0,hW0⟩:∃W,W=w.alloc (.cells #[.int .i64 0,.int .i64 0,.int .i64 0,.slice none 0 0] 169):=⟨_,rfl⟩;have B0:Below w.heap.size w W0:=by rw[hW0];exact(Aw _ _).alloc (Aj _) _
 have z0:W0.heap.size=w.heap.size+1:=by rw[hW0];simp
 have Q0:Hid (∀j,j<4->W0.cell? ⟨w.heap.size,j,none⟩=some (if j=3 then .slice none 0 0 else .int .i64 0)/\W0.frozen? ⟨w.heap.size,j,none⟩=false):=Aq fun j hj=>by
  rw[hW0];rcases(show j=0\/j=1\/j=2\/j=3 by omega)with rfl|rfl|rfl|rfl <;> exact⟨by simp[go_sem],by simp[go_sem]⟩
 have s0:=h.below B0 hbw;have HW0:=Aq hW0;have lz0:w.heap.size<W0.heap.size:=by omega
 clear hW0 z0
 go_enter Tryz.func167,Tryz.ntmps167
 go_wp2_with fail;rw[<-HW0.out];refine(zbg b lo A n c code K 17 W0 s0 (by omega) (by omega)).mono ?_;rintro e x1 ⟨y,rfl,hy,s1,m1⟩;have hy2:1<=1+y/\1+y<=17:=by omega
 obtain⟨kk,hkk⟩:∃kk,kk=1+y:=⟨_,rfl⟩;have HKK:=Aq hkk.symm;rw[<-hkk]at hy2;have t1:=m1.size;clear hkk;go_wp2_with fail;rw[HKK.out];clear hy;refine(zlj b lo A n c code _ kk t 6 x1 s1 (by omega) hy2 ht (by omega)).mono ?_;rintro e x2 ⟨k,a,bb,A1,n1,c1,xs,rfl,own2,hP,s2,m2⟩;obtain⟨A1',c1',e1⟩:=own2.shape;simp only[Cz]at e1;obtain⟨rfl,rfl,rfl⟩:=e1
 have hx3:xs.length<=3:=by
  have h1:=hP.out.len;have h2:=(zij kk hy2).2;dsimp only at h1;omega
 have t2:=m2.size;have m12:=m1.trans m2;obtain⟨X3,hX3⟩:∃W,W=x2.alloc (.cells #[.int .i64 k,.int .i64 a,.int .i64 bb,.slice A1 xs.length c1] 169):=⟨_,rfl⟩;have B3:Below x2.heap.size x2 X3:=by rw[hX3];exact(Aw _ _).alloc (Aj _) _
 have z3:x2.heap.size<X3.heap.size:=by rw[hX3];simp
 obtain⟨g,hg⟩:∃g,g=x2.heap.size:=⟨_,rfl⟩
 have D3:NB w b lo A n c code g (K+22) k a bb (.slice A1 xs.length c1) xs X3:=by
  have cP:∀j u,(#[Value.int .i64 k,.int .i64 a,.int .i64 bb,.slice A1 xs.length c1]:Array Value)[j]?=some u->X3.cell? ⟨g,j,none⟩=some u/\X3.frozen? ⟨g,j,none⟩=false:=fun j u hj=>by
   rw[hX3,hg];refine⟨?_,by simp[go_sem]⟩;rw[cell_of_row _ x2.heap.size j _ 169 (0,0) (Df x2 _)];exact hj
  have cW:∀j,j<4->X3.cell? ⟨w.heap.size,j,none⟩=some (if j=3 then .slice none 0 0 else .int .i64 0)/\X3.frozen? ⟨w.heap.size,j,none⟩=false:=fun j hj=>by
   obtain⟨h1,h2⟩:=Q0.out j hj;exact⟨by rw[B3.cell (by show w.heap.size<_;omega)];exact m12.cellK (by omega) (.inr (by omega)) h1,by rw[B3.frozen (by show w.heap.size<_;omega)];exact m12.frozK (by omega) (.inr (by omega)) h2⟩
  refine⟨⟨(cW 0 (by omega)).1,(cW 1 (by omega)).1,(cW 2 (by omega)).1,(cW 3 (by omega)).1,(cW 0 (by omega)).2,(cW 1 (by omega)).2,(cW 2 (by omega)).2,(cW 3 (by omega)).2,
   (cP 0 _ rfl).1,(cP 1 _ rfl).1,(cP 2 _ rfl).1,(cP 3 _ rfl).1,(cP 2 _ rfl).2,(cP 3 _ rfl).2,?_,(s2.below B3 s2.lt).more (by omega),((Mid.of_below B0 _ _).trans m12).thenB' B3 (by omega),by omega,by omega⟩,(cP 0 _ rfl).2,(cP 1 _ rfl).2⟩
  exact(own2.below B3 (Aj _)).wide (fun z h=>⟨by have h1:x1.heap.size<=z:=h.1;omega,by have h1:z<x2.heap.size:=h.2;omega⟩)
 have HX3:=Aq hX3;have HG:=Aq (show x2.heap.size=g from hg.symm);have s3:=D3.d.src;have HD3:=Aq D3;have lg:=D3.d.lo;clear hX3 hg D3 own2 s0 s1 s2 m1 m2 m12 B3 B0 hP;go_wp2_with fail;rw[<-HX3.out,HG.out];refine(zbg b lo A n c code _ 16 X3 s3 (by omega) (by omega)).mono ?_;rintro e X4 ⟨q,rfl,hq,s4,m4⟩;have D4:=HD3.out.step hbw s4 m4;clear s3 m4 HD3;rcases(show q=0\/q=1\/q=2\/q=3\/4<=q by omega)with rfl|rfl|rfl|rfl|hq4
 ·have HD4:=Aq D4;have SA:=Aq (ze0 [0,18,-1] #[.int .i64 0,.int .i64 18,.int .i64 (-1)] 3 rfl rfl (by omega) b lo A n c code _ X4 s4 (by omega));clear D4;go_wp2_with fail;refine SA.out.mono ?_;rintro e X5 ⟨y,rfl,hy5,s5,m5⟩;have D5:=HD4.out.step hbw s5 m5;have i0:=D5.d.p0;have i1:=D5.d.p1;have i2:=D5.d.p2;have j0:=D5.q0;have j1:=D5.q1;have j2:=D5.d.q2;have D6:=D5.set0 hbw y;obtain⟨X6,hX6⟩:∃u,u=X5.setCell ⟨g,0,none⟩ (.int .i64 y):=⟨_,rfl⟩;rw[<-hX6]at D6;have HX6:=Aq hX6;clear hX6 D5;have a0:=D6.d.p0;have a1:=D6.d.p1;have a2:=D6.d.p2;have a3:=D6.d.p3;have r0:=D6.d.e0;have r1:=D6.d.e1;have r2:=D6.d.e2;have r3:=D6.d.e3;have v0:=D6.d.f0;have v1:=D6.d.f1;have v2:=D6.d.f2;have v3:=D6.d.f3;have UX:=D6.d.sz;have UL:=D6.d.lo;have hne:g≠w.heap.size:=by omega
  have hne':w.heap.size≠g:=by omega
  have FIN:=Aq ((D6.d.more (K':=K+100) (by omega)).fin hbw (P:=fun x=>x.2.2.2.length<=4) (by show xs.length<=4;omega));clear D6;go_upto_region 11 with fail
  rw[<-HX6.out];go_wp2;refine Cy (v:=.agg #[.int .i64 y,.int .i64 a,.int .i64 bb,.slice A1 xs.length c1]) (by simp[results,Tryz.results167,go_sem,r0,r1,r2,r3,v0,v1,v2,v3,hne,hne']) rfl ?_;exact FIN.out
 ·have HD4:=Aq D4;have SA:=Aq (ze0 [2147483648,17,32,-1,4] #[.int .i64 2147483648,.int .i64 17,.int .i64 32,.int .i64 (-1),.int .i64 4] 5 rfl rfl (by omega) b lo A n c code _ X4 s4 (by omega));clear D4;go_wp2_with fail;refine SA.out.mono ?_;rintro e X5 ⟨y,rfl,hy5,s5,m5⟩;have D5:=HD4.out.step hbw s5 m5;have i0:=D5.d.p0;have i1:=D5.d.p1;have i2:=D5.d.p2;have j0:=D5.q0;have j1:=D5.q1;have j2:=D5.d.q2;have D6:=D5.set1 hbw y;obtain⟨X6,hX6⟩:∃u,u=X5.setCell ⟨g,1,none⟩ (.int .i64 y):=⟨_,rfl⟩;rw[<-hX6]at D6;have HX6:=Aq hX6;clear hX6 D5;have a0:=D6.d.p0;have a1:=D6.d.p1;have a2:=D6.d.p2;have a3:=D6.d.p3;have r0:=D6.d.e0;have r1:=D6.d.e1;have r2:=D6.d.e2;have r3:=D6.d.e3;have v0:=D6.d.f0;have v1:=D6.d.f1;have v2:=D6.d.f2;have v3:=D6.d.f3;have UX:=D6.d.sz;have UL:=D6.d.lo;have hne:g≠w.heap.size:=by omega
  have hne':w.heap.size≠g:=by omega
  have FIN:=Aq ((D6.d.more (K':=K+100) (by omega)).fin hbw (P:=fun x=>x.2.2.2.length<=4) (by show xs.length<=4;omega));clear D6;go_upto_region 11 with fail
  rw[<-HX6.out];go_wp2;refine Cy (v:=.agg #[.int .i64 k,.int .i64 y,.int .i64 bb,.slice A1 xs.length c1]) (by simp[results,Tryz.results167,go_sem,r0,r1,r2,r3,v0,v1,v2,v3,hne,hne']) rfl ?_;exact FIN.out
 ·have HD4:=Aq D4;have SA:=Aq (ze0 [0,1,16,17] #[.int .i64 0,.int .i64 1,.int .i64 16,.int .i64 17] 4 rfl rfl (by omega) b lo A n c code _ X4 s4 (by omega));clear D4;go_wp2_with fail;refine SA.out.mono ?_;rintro e X5 ⟨y,rfl,hy5,s5,m5⟩;have D5:=HD4.out.step hbw s5 m5;have i0:=D5.d.p0;have i1:=D5.d.p1;have i2:=D5.d.p2;have j0:=D5.q0;have j1:=D5.q1;have j2:=D5.d.q2;have D6:=D5.set2 hbw y;obtain⟨X6,hX6⟩:∃u,u=X5.setCell ⟨g,2,none⟩ (.int .i64 y):=⟨_,rfl⟩;rw[<-hX6]at D6;have HX6:=Aq hX6;clear hX6 D5;have a0:=D6.d.p0;have a1:=D6.d.p1;have a2:=D6.d.p2;have a3:=D6.d.p3;have r0:=D6.d.e0;have r1:=D6.d.e1;have r2:=D6.d.e2;have r3:=D6.d.e3;have v0:=D6.d.f0;have v1:=D6.d.f1;have v2:=D6.d.f2;have v3:=D6.d.f3;have UX:=D6.d.sz;have UL:=D6.d.lo;have hne:g≠w.heap.size:=by omega
  have hne':w.heap.size≠g:=by omega
  have FIN:=Aq ((D6.d.more (K':=K+100) (by omega)).fin hbw (P:=fun x=>x.2.2.2.length<=4) (by show xs.length<=4;omega));clear D6;go_upto_region 11 with fail
  rw[<-HX6.out];go_wp2;refine Cy (v:=.agg #[.int .i64 k,.int .i64 a,.int .i64 y,.slice A1 xs.length c1]) (by simp[results,Tryz.results167,go_sem,r0,r1,r2,r3,v0,v1,v2,v3,hne,hne']) rfl ?_;exact FIN.out
 ·obtain⟨U,hU⟩:∃U,U=X4:=⟨_,rfl⟩;rw[<-hU]at D4 s4 ⊢;have HD:=Aq D4;have UP3:=D4.d.p3;have UX:=D4.d.sz;obtain⟨G,hG⟩:∃G:Nat->Prop,G=fun z=>z=b\/(w.heap.size<z/\z≠g):=⟨_,rfl⟩
  have HG2:=Aq hG
  have GX:=Aq (show ¬G g from fun h=>by
   rw[hG]at h;rcases h with h|h
   ·omega
   exact h.2 rfl)
  have g3:=ChgTo.cell (F:=G) UP3 (fun h=>GX.out h);have bsU:=D4.d.src.lt;clear hU hG;have SD:=Aq (ze0 [0,23,24,-1] #[.int .i64 0,.int .i64 23,.int .i64 24,.int .i64 (-1)] 4 rfl rfl (by omega) b lo A n c code _ U.drew (D4.d.src.below (zad (Aw U.heap.size _) 1) bsU) (by omega));clear D4;go_wp2_with fail
  (refine zc4 G [0,2] [1] 5 (.one 3 (.one 4 (.one 5 (.one 6 (.first 7 .rest))))) [8] [8] (by kernel_rfl) (by kernel_rfl) ?_;simp only[zak];simp only[List.filterMap,By,Bg];(repeat (go_big_quiet_step (fail)));refine Cv ?_;(repeat (go_big_quiet_step (fail)));refine Cv ?_)
  refine zai rfl ?_;go_wp2_with fail;refine⟨⟨⟨_,Chg.of_below ((zad (Aw U.heap.size _) 1).alloc (Aj _) _) _⟩,rfl⟩,zai rfl ?_⟩;go_wp2_with fail;refine SD.out.mono ?_;rintro e x5 ⟨f,rfl,hf,s5,m5⟩;clear hf;have m5':Mid b (b+1) U x5:=(Mid.of_below (zad (Aw U.heap.size _) 1) b (b+1)).trans m5;have E5:=HD.out.step hbw s5 m5';have lt5:=m5'.size
  have C5:Chg G U x5:=⟨m5'.os,m5'.tape,m5'.output,m5'.size,fun i hi hn=>m5'.block i hi (by
   rw[HG2.out]at hn;rcases Fj i b with h|h
   ·exact .inl h
   exact .inr (by rcases Fj b i with h2|h2;exact h2;exact absurd (.inl (by omega)) hn))⟩
  have HE5:=Aq E5;have q3:=E5.d.p3;have r3:=E5.d.q3;have o5:=E5.d.own;have l0:=E5.q0;have l1:=E5.q1;clear E5;go_wp2_with fail;refine⟨⟨⟨x5,C5⟩,rfl⟩,zai rfl ?_⟩;go_wp2_with fail;refine⟨⟨⟨_,C5.trans (Chg.of_below ((Aw _ _).alloc (Aj _) _) _)⟩,rfl⟩,zai rfl ?_⟩;go_wp2_with (at_builtin;refine za8 zbu #[.int .i64 f] rfl _ _ rfl o5 (Fe:=fun _=>False) (y:=f) rfl (fun _ _ h=>h) rfl rfl (by unfold maxLen;omega) (by omega) ?_;intro v6 w6 own6 ch6;obtain⟨A6,c6,e6⟩:=own6.shape;rw[Cw,Dw]at e6;subst e6;have q6:w6.cell? ⟨g,3,none⟩=some (.slice A1 xs.length c1):=(by rw[ch6.cell1 (show g<x5.heap.size by omega) (fun h=>h.2 rfl)];exact q3);have r6:w6.frozen? ⟨g,3,none⟩=false:=(by rw[ch6.frozen1 (show g<x5.heap.size by omega) (fun h=>h.2 rfl)];exact r3));have CG6:Chg G U w6:=C5.trans (ch6.wide (fun z h=>by rw[HG2.out];exact .inr h));refine⟨⟨⟨w6,CG6⟩,rfl⟩,?_⟩
  (refine za6 rfl ?_;(repeat (go_big_quiet_step (fail)));refine Cv ?_)
  refine zbc ?_;have D6':=HE5.out.d.push hbw own6 ch6;obtain⟨X6,hX6⟩:∃u,u=w6.setCell ⟨g,3,none⟩ (.slice A6 (xs.length+1) c6):=⟨_,rfl⟩;rw[<-hX6]at D6';have k0:X6.frozen? ⟨g,0,none⟩=false:=by rw[hX6,Bf,ch6.frozen1 (show g<x5.heap.size by omega) (fun h=>h.2 rfl)];exact l0
  have k1:X6.frozen? ⟨g,1,none⟩=false:=by rw[hX6,Bf,ch6.frozen1 (show g<x5.heap.size by omega) (fun h=>h.2 rfl)];exact l1
  have D6:NB w b lo A n c code g _ k a bb (.slice A6 (xs.length+1) c6) (xs++[f]) X6:=⟨D6',k0,k1⟩;have HX6:=Aq hX6;clear hX6 D6' g3 UP3 UX;have a0:=D6.d.p0;have a1:=D6.d.p1;have a2:=D6.d.p2;have a3:=D6.d.p3;have r0:=D6.d.e0;have r1:=D6.d.e1;have r2:=D6.d.e2;have r3:=D6.d.e3;have v0:=D6.d.f0;have v1:=D6.d.f1;have v2:=D6.d.f2;have v3:=D6.d.f3;have UX:=D6.d.sz;have UL:=D6.d.lo;have hne:g≠w.heap.size:=by omega
  have hne':w.heap.size≠g:=by omega
  have FIN:=Aq ((D6.d.more (K':=K+100) (by omega)).fin hbw (P:=fun x=>x.2.2.2.length<=4) (by show (xs++[f]).length<=4;simp;omega));clear D6;go_upto_region 11 with fail
  rw[<-HX6.out];go_wp2;refine Cy (v:=.agg #[.int .i64 k,.int .i64 a,.int .i64 bb,.slice A6 (xs.length+1) c6]) (by simp[results,Tryz.results167,go_sem,r0,r1,r2,r3,v0,v1,v2,v3,hne,hne']) rfl ?_;exact FIN.out
 have e0:(q == 0)=false:=by simp;omega
 have e1:(q == 1)=false:=by simp;omega
 have e2:(q == 2)=false:=by simp;omega
 have e3:(q == 3)=false:=by simp;omega
 have a0:=D4.d.p0;have a1:=D4.d.p1;have a2:=D4.d.p2;have a3:=D4.d.p3;have r0:=D4.d.e0;have r1:=D4.d.e1;have r2:=D4.d.e2;have r3:=D4.d.e3;have v0:=D4.d.f0;have v1:=D4.d.f1;have v2:=D4.d.f2;have v3:=D4.d.f3;have UX:=D4.d.sz;have UL:=D4.d.lo;have hne:g≠w.heap.size:=by omega
 have hne':w.heap.size≠g:=by omega
 have FIN:=Aq ((D4.d.more (K':=K+100) (by omega)).fin hbw (P:=fun x=>x.2.2.2.length<=4) (by show xs.length<=4;omega));clear D4;go_wp2;refine Cy (v:=.agg #[.int .i64 k,.int .i64 a,.int .i64 bb,.slice A1 xs.length c1]) (by simp[results,Tryz.results167,go_sem,r0,r1,r2,r3,v0,v1,v2,v3,hne,hne']) rfl ?_;exact FIN.out
end
section
section
variable {w wr w' w4:Yw} {b lo:Nat} {A :Yo} {n c:Nat} {code:List UInt8} {g K K' M:Nat} {i:Int} {vT vN vO vT' vN' vO':Value} {T T':List (List Int)} {ns ns':List Node} {os os':List Int} {FT FN FO FT' FN' FO':Nat->Prop}
theorem DP.pushT(h:DP w b lo A n c code g K i vT vN vO T ns os FT FN FO wr)(hb:b<w.heap.size)(hc:Chg FT wr w4)(oT':OS tS 24 w4 FT' vT' T')(fd:FD w.heap.size g FT' FN FO):DP w b lo A n c code g K i vT' vN vO T' ns os FT' FN FO (w4.setCell ⟨g,1,none⟩ vT'):=by
 obtain⟨h1,h2,h3,h4,h5,h6⟩:=h.turn hb h.fd.t hc;have hl:=h.lo;have CB:Chg (fun z=>z=g) w4 (w4.setCell ⟨g,1,none⟩ vT'):=Chg.set w4 g 1 _ rfl;have MB:Below w.heap.size w4 (w4.setCell ⟨g,1,none⟩ vT'):=CB.toBelow (fun z h=>by omega) (by omega)
 refine⟨fun j hj=>⟨?_,(Bf _ _ _ _).trans (h1 j hj).2⟩,(zaf w4 g _ (by decide)).trans (h2 _ _ h.p0),Dj _ _ _ (h2 _ _ h.p1),(zaf w4 g _ (by decide)).trans (h2 _ _ h.p2),(zaf w4 g _ (by decide)).trans (h2 _ _ h.p3),fun j hj=>(Bf _ _ _ _).trans (h3 j hj),
  oT'.chg CB (fun z a b=>(fd.t z a).2 b),(h.oN.chg hc (fun z a b=>h.fd.tn z b a)).chg CB (fun z a b=>(h.fd.n z a).2 b),(h.oO.chg hc (fun z a b=>h.fd.tq z b a)).chg CB (fun z a b=>(h.fd.o z a).2 b),fd,h4.below MB hb,h5.thenB' MB (by have:=h.mid.size;omega),by simpa using h6,hl⟩
 rw[Ek (Fg w4 ⟨g,1,none⟩ w.heap.size _ (by show w.heap.size≠g;omega))];exact(h1 j hj).1
theorem DP.set0(h:DP w b lo A n c code g K i vT vN vO T ns os FT FN FO wr)(hb:b<w.heap.size)(y:Int):DP w b lo A n c code g K y vT vN vO T ns os FT FN FO (wr.setCell ⟨g,0,none⟩ (.int .i64 y)):=by
 have hl:=h.lo;have hz:=h.sz;have CB:Chg (fun z=>z=g) wr (wr.setCell ⟨g,0,none⟩ (.int .i64 y)):=Chg.set wr g 0 _ rfl;have MB:Below w.heap.size wr (wr.setCell ⟨g,0,none⟩ (.int .i64 y)):=CB.toBelow (fun z h=>by omega) (by omega)
 refine⟨fun j hj=>⟨?_,(Bf _ _ _ _).trans (h.e j hj).2⟩,Dj _ _ _ h.p0,(zaf wr g _ (by decide)).trans h.p1,(zaf wr g _ (by decide)).trans h.p2,(zaf wr g _ (by decide)).trans h.p3,fun j hj=>(Bf _ _ _ _).trans (h.q j hj),
  h.oT.chg CB (fun z a b=>(h.fd.t z a).2 b),h.oN.chg CB (fun z a b=>(h.fd.n z a).2 b),h.oO.chg CB (fun z a b=>(h.fd.o z a).2 b),h.fd,h.src.below MB hb,h.mid.thenB' MB (Aj _),by simpa using hz,hl⟩
 rw[Ek (Fg wr ⟨g,0,none⟩ w.heap.size _ (by show w.heap.size≠g;omega))];exact(h.e j hj).1
def DQ (w:Yw) (b lo:Nat) (A:Yo) (n c:Nat) (code:List UInt8) (g K M:Nat) (i:Int) (vT vN vO:Value) (T:List (List Int)) (ns:List Node) (os:List Int) (wr:Yw):Prop:=∃FT FN FO:Nat->Prop,DP w b lo A n c code g K i vT vN vO T ns os FT FN FO wr/\(∀z,FT z\/FN z\/FO z->z<M)/\M<=wr.heap.size/\g<M
theorem DQ.step(h:DQ w b lo A n c code g K M i vT vN vO T ns os wr)(hb:b<w.heap.size)(hs:Src w' b lo A n c code K')(hm:Mid b (b+1) wr w'):DQ w b lo A n c code g K' M i vT vN vO T ns os w':=by
 obtain⟨F1,F2,F3,h,hB,hM,hg⟩:=h;exact⟨F1,F2,F3,h.step hb hs hm,hB,Nat.le_trans hM hm.size,hg⟩
theorem DQ.more(h:DQ w b lo A n c code g K M i vT vN vO T ns os wr)(hK:K<=K'):DQ w b lo A n c code g K' M i vT vN vO T ns os wr:=by
 obtain⟨F1,F2,F3,h,hB,hM,hg⟩:=h;exact⟨F1,F2,F3,h.more hK,hB,hM,hg⟩
theorem DQ.up(h:DQ w b lo A n c code g K M i vT vN vO T ns os wr):DQ w b lo A n c code g K wr.heap.size i vT vN vO T ns os wr:=by
 obtain⟨F1,F2,F3,h,hB,hM,hg⟩:=h;exact⟨F1,F2,F3,h,fun z hz=>Cq (hB z hz) hM,Aj _,h.sz⟩
theorem DQ.src(h:DQ w b lo A n c code g K M i vT vN vO T ns os wr):Src wr b lo A n c code K:=by obtain⟨F1,F2,F3,h,hB,hM,hg⟩:=h;exact h.src
theorem DQ.sz(h:DQ w b lo A n c code g K M i vT vN vO T ns os wr):g<wr.heap.size/\w.heap.size<g/\g<M:=by obtain⟨F1,F2,F3,h,hB,hM,hg⟩:=h;exact⟨h.sz,h.lo,hg⟩
theorem DQ.p0(h:DQ w b lo A n c code g K M i vT vN vO T ns os wr):wr.cell? ⟨g,0,none⟩=some (.int .i64 i):=by obtain⟨F1,F2,F3,h,hB,hM,hg⟩:=h;exact h.p0
theorem DQ.p1(h:DQ w b lo A n c code g K M i vT vN vO T ns os wr):wr.cell? ⟨g,1,none⟩=some vT:=by obtain⟨F1,F2,F3,h,hB,hM,hg⟩:=h;exact h.p1
theorem DQ.p2(h:DQ w b lo A n c code g K M i vT vN vO T ns os wr):wr.cell? ⟨g,2,none⟩=some vN:=by obtain⟨F1,F2,F3,h,hB,hM,hg⟩:=h;exact h.p2
theorem DQ.p3(h:DQ w b lo A n c code g K M i vT vN vO T ns os wr):wr.cell? ⟨g,3,none⟩=some vO:=by obtain⟨F1,F2,F3,h,hB,hM,hg⟩:=h;exact h.p3
theorem DQ.q(h:DQ w b lo A n c code g K M i vT vN vO T ns os wr):∀j,j<4->wr.frozen? ⟨g,j,none⟩=false:=by obtain⟨F1,F2,F3,h,hB,hM,hg⟩:=h;exact h.q
theorem DQ.e(h:DQ w b lo A n c code g K M i vT vN vO T ns os wr):∀j,j<4->wr.cell? ⟨w.heap.size,j,none⟩=some (if j=0 then .int .i64 0 else .slice none 0 0)/\wr.frozen? ⟨w.heap.size,j,none⟩=false:=by obtain⟨F1,F2,F3,h,hB,hM,hg⟩:=h;exact h.e
theorem DQ.set0(h:DQ w b lo A n c code g K M i vT vN vO T ns os wr)(hb:b<w.heap.size)(y:Int):DQ w b lo A n c code g K M y vT vN vO T ns os (wr.setCell ⟨g,0,none⟩ (.int .i64 y)):=by
 obtain⟨F1,F2,F3,h,hB,hM,hg⟩:=h;exact⟨F1,F2,F3,h.set0 hb y,hB,by simpa using hM,hg⟩
theorem DQ.shapeT(h:DQ w b lo A n c code g K M i vT vN vO T ns os wr):∃A' c',vT=.slice A' T.length c':=by obtain⟨F1,F2,F3,h,hB,hM,hg⟩:=h;exact h.oT.shape
theorem DQ.shapeN(h:DQ w b lo A n c code g K M i vT vN vO T ns os wr):∃A' c',vN=.slice A' ns.length c':=by obtain⟨F1,F2,F3,h,hB,hM,hg⟩:=h;exact h.oN.shape
theorem DQ.shapeO(h:DQ w b lo A n c code g K M i vT vN vO T ns os wr):∃A' c',vO=.slice A' os.length c':=by obtain⟨F1,F2,F3,h,hB,hM,hg⟩:=h;exact h.oO.shape
theorem DQ.openT(h:DQ w b lo A n c code g K M i vT vN vO T ns os wr)(hb:b<w.heap.size):∃F:Nat->Prop,OS tS 24 wr F vT T/\(∀z,F z->w.heap.size<z/\z≠g/\z<M)/\∀(w4:Yw) (F':Nat->Prop) (v':Value) (x':List (List Int)),Chg F wr w4->OS tS 24 w4 F' v' x'->(∀z,F' z->F z\/M<=z)->DQ w b lo A n c code g K w4.heap.size i v' vN vO x' ns os (w4.setCell ⟨g,1,none⟩ v'):=by
 obtain⟨F1,F2,F3,h,hB,hM,hg⟩:=h;refine⟨F1,h.oT,fun z hz=>⟨(h.fd.t z hz).1,(h.fd.t z hz).2,hB z (.inl hz)⟩,fun w4 F' v' x' hc r' hF=>?_⟩;have hl:=h.lo;have hs:=hc.size;have fd:FD w.heap.size g (fun z=>F' z/\z<w4.heap.size) F2 F3:=⟨fun z a=>by rcases hF z a.1 with a|a;exact h.fd.t z a;omega,h.fd.n,h.fd.o,fun z a b=>by rcases hF z a.1 with a|a;exact h.fd.tn z a b;have:=hB z (.inr (.inl b));omega,fun z a b=>by rcases hF z a.1 with a|a;exact h.fd.tq z a b;have:=hB z (.inr (.inr b));omega,h.fd.nq⟩;refine⟨_,F2,F3,h.pushT hb hc r'.real fd,fun z hz=>?_,by simp,by omega⟩;rcases hz with hz|hz|hz
 ·exact hz.2
 ·have:=hB z (.inr (.inl hz));omega
 have:=hB z (.inr (.inr hz));omega
theorem DQ.openN(h:DQ w b lo A n c code g K M i vT vN vO T ns os wr)(hb:b<w.heap.size):∃F:Nat->Prop,OS tN 169 wr F vN ns/\(∀z,F z->w.heap.size<z/\z≠g/\z<M)/\(∀(w4:Yw) (F':Nat->Prop) (v':Value) (x':List Node),Chg F wr w4->OS tN 169 w4 F' v' x'->(∀z,F' z->F z\/M<=z)->DQ w b lo A n c code g K w4.heap.size i vT v' vO T x' os (w4.setCell ⟨g,2,none⟩ v'))/\
 ∀(w4:Yw) (F':Nat->Prop) (x':List Node),Chg F wr w4->OS tN 169 w4 F' vN x'->(∀z,F' z->F z\/M<=z)->DQ w b lo A n c code g K w4.heap.size i vT vN vO T x' os w4:=by
 obtain⟨F1,F2,F3,h,hB,hM,hg⟩:=h
 have FDN:∀(w4:Yw) (F':Nat->Prop),(∀z,F' z->F2 z\/M<=z)->FD w.heap.size g F1 (fun z=>F' z/\z<w4.heap.size) F3:=fun w4 F' hF=>by
  have hl:=h.lo;exact⟨h.fd.t,fun z a=>by rcases hF z a.1 with a|a;exact h.fd.n z a;omega,h.fd.o,fun z a b=>by rcases hF z b.1 with b|b;exact h.fd.tn z a b;have:=hB z (.inl a);omega,h.fd.tq,fun z a b=>by rcases hF z a.1 with a|a;exact h.fd.nq z a b;have:=hB z (.inr (.inr b));omega⟩
 refine⟨F2,h.oN,fun z hz=>⟨(h.fd.n z hz).1,(h.fd.n z hz).2,hB z (.inr (.inl hz))⟩,fun w4 F' v' x' hc r' hF=>?_,fun w4 F' x' hc r' hF=>?_⟩
 ·have hs:=hc.size;refine⟨F1,_,F3,h.pushN hb hc r'.real (FDN w4 F' hF),fun z hz=>?_,by simp,by omega⟩;rcases hz with hz|hz|hz
  ·have:=hB z (.inl hz);omega
  ·exact hz.2
  have:=hB z (.inr (.inr hz));omega
 have hs:=hc.size;obtain⟨h1,h2,h3,h4,h5,h6⟩:=h.turn hb h.fd.n hc;refine⟨F1,_,F3,⟨h1,h2 _ _ h.p0,h2 _ _ h.p1,h2 _ _ h.p2,h2 _ _ h.p3,h3,h.oT.chg hc (fun z a b=>h.fd.tn z a b),r'.real,h.oO.chg hc (fun z a b=>h.fd.nq z b a),FDN w4 F' hF,h4,h5,h6,h.lo⟩,fun z hz=>?_,Aj _,by omega⟩;rcases hz with hz|hz|hz
 ·have:=hB z (.inl hz);omega
 ·exact hz.2
 have:=hB z (.inr (.inr hz));omega
theorem DQ.openO(h:DQ w b lo A n c code g K M i vT vN vO T ns os wr)(hb:b<w.heap.size):∃F:Nat->Prop,OS tI 2 wr F vO os/\(∀z,F z->w.heap.size<z/\z≠g/\z<M)/\∀(w4:Yw) (F':Nat->Prop) (v':Value) (x':List Int),Chg F wr w4->OS tI 2 w4 F' v' x'->(∀z,F' z->F z\/M<=z)->DQ w b lo A n c code g K w4.heap.size i vT vN v' T ns x' (w4.setCell ⟨g,3,none⟩ v'):=by
 obtain⟨F1,F2,F3,h,hB,hM,hg⟩:=h;refine⟨F3,h.oO,fun z hz=>⟨(h.fd.o z hz).1,(h.fd.o z hz).2,hB z (.inr (.inr hz))⟩,fun w4 F' v' x' hc r' hF=>?_⟩;have hl:=h.lo;have hs:=hc.size;have fd:FD w.heap.size g F1 F2 (fun z=>F' z/\z<w4.heap.size):=⟨h.fd.t,h.fd.n,fun z a=>by rcases hF z a.1 with a|a;exact h.fd.o z a;omega,h.fd.tn,fun z a b=>by rcases hF z b.1 with b|b;exact h.fd.tq z a b;have:=hB z (.inl a);omega,fun z a b=>by rcases hF z b.1 with b|b;exact h.fd.nq z a b;have:=hB z (.inr (.inl a));omega⟩;refine⟨F1,F2,_,h.pushO hb hc r'.real fd,fun z hz=>?_,by simp,by omega⟩;rcases hz with hz|hz|hz
 ·have:=hB z (.inl hz);omega
 ·have:=hB z (.inr (.inl hz));omega
 exact hz.2
theorem DQ.fin{A1 A2 A3:Yo}{n1 c1 n2 c2 n3 c3:Nat}(h:DQ w b lo A n c code g K M i (.slice A1 n1 c1) (.slice A2 n2 c2) (.slice A3 n3 c3) T ns os wr)(hb:b<w.heap.size){P:zae->Prop}(hP:P (i,T,ns,os)):
 zjw b lo A n c code K P w (.returned (.agg #[.int .i64 i,.slice A1 n1 c1,.slice A2 n2 c2,.slice A3 n3 c3])) ((((wr.setCell ⟨w.heap.size,0,none⟩ (.int .i64 i)).setCell ⟨w.heap.size,1,none⟩ (.slice A1 n1 c1)).setCell ⟨w.heap.size,2,none⟩ (.slice A2 n2 c2)).setCell ⟨w.heap.size,3,none⟩ (.slice A3 n3 c3)):=by
 obtain⟨F1,F2,F3,h,hB,hM,hg⟩:=h;exact h.fin hb hP
end
structure M.fewP (p:zae):Prop where
 t:p.2.1.length<=30/\∀t∈p.2.1,t.length<=30
 n:p.2.2.1.length<=30/\∀y∈p.2.2.1,y.2.2.2.length<=30
 o:p.2.2.2.length<=30
end
set_option maxHeartbeats 40000000
theorem DQ.of{w x4 U:Yw}{b lo:Nat}{A:Yo}{n c:Nat}{code:List UInt8}{K B:Nat}{i:Int}{A1 A2 A3:Yo}{n1 c1 n2 c2 n3 c3:Nat}{p:zae}(hb:b<w.heap.size)(m:Mid b (b+1) w x4)(s:Src x4 b lo A n c code K)(hB:w.heap.size<B)(hB4:B<=x4.heap.size)
 (e:∀j,j<4->x4.cell? ⟨w.heap.size,j,none⟩=some (if j=0 then .int .i64 0 else .slice none 0 0)/\x4.frozen? ⟨w.heap.size,j,none⟩=false)
 (po:tP.O x4 (Iv B x4.heap.size) [.int .i64 i,.slice A1 n1 c1,.slice A2 n2 c2,.slice A3 n3 c3] p) (hU:U=x4.alloc (.cells #[.int .i64 i,.slice A1 n1 c1,.slice A2 n2 c2,.slice A3 n3 c3] 67)) :
 DQ w b lo A n c code x4.heap.size K U.heap.size i (.slice A1 n1 c1) (.slice A2 n2 c2) (.slice A3 n3 c3) p.2.1 p.2.2.1 p.2.2.2 U:=by
 obtain⟨a0,T,ns,os⟩:=p;obtain⟨_,_,_,_,_,_,_,_,_,F1,F2,F3,hcs,g1,g2,g3,q1,q2,q3,r12,r13,r23⟩:=tP_O.1 po;simp only[List.cons.injEq,Value.int.injEq,Cz,and_true,true_and]at hcs;obtain⟨rfl,⟨rfl,rfl,rfl⟩,⟨rfl,rfl,rfl⟩,⟨rfl,rfl,rfl⟩⟩:=hcs;have BU:Below x4.heap.size x4 U:=by rw[hU];exact(Aw _ _).alloc (Aj _) _
 have zU:x4.heap.size<U.heap.size:=by rw[hU];simp
 have eP:∀j u,(#[Value.int .i64 i,.slice A1 n1 c1,.slice A2 n2 c2,.slice A3 n3 c3]:Array Value)[j]?=some u->U.cell? ⟨x4.heap.size,j,none⟩=some u:=fun j u hj=>by
  rw[hU,cell_of_row _ x4.heap.size j _ 67 (0,0) (Df x4 _)];exact hj
 have hq:∀j,j<4->U.frozen? ⟨x4.heap.size,j,none⟩=false:=fun j _=>by rw[hU];simp[go_sem]
 have f:∀{F:Nat->Prop},(∀z,F z->Iv B x4.heap.size z)->∀z,F z->w.heap.size<z/\z≠x4.heap.size:=fun hF z hz=>by
  have h1:=hF z hz;have a1:B<=z:=h1.1;have a2:z<x4.heap.size:=h1.2;omega
 have CU:Chg (fun _=>False) x4 U:=Chg.of_below BU _;refine⟨F1,F2,F3,⟨fun j hj=>?_,eP 0 _ rfl,eP 1 _ rfl,eP 2 _ rfl,eP 3 _ rfl,hq,?_,?_,?_,⟨f q1,f q2,f q3,r12,r13,r23⟩,s.below BU s.lt,m.thenB' BU m.size,zU,by omega⟩,fun z hz=>?_,Aj _,zU⟩
 ·obtain⟨h1,h2⟩:=e j hj;exact⟨by rw[BU.cell (by show w.heap.size<_;omega)];exact h1,by rw[BU.frozen (by show w.heap.size<_;omega)];exact h2⟩
 ·exact(sl_O.1 g1).chg CU (fun _ _ h=>h)
 ·exact(sl_O.1 g2).chg CU (fun _ _ h=>h)
 ·exact(sl_O.1 g3).chg CU (fun _ _ h=>h)
 rcases hz with hz|hz|hz
 ·have a2:z<x4.heap.size:=(q1 z hz).2;omega
 ·have a2:z<x4.heap.size:=(q2 z hz).2;omega
 have a2:z<x4.heap.size:=(q3 z hz).2;omega
set_option maxHeartbeats 40000000
def zll (w:Yw) (g o:Nat):Nat:=match w.cell? ⟨g,o,none⟩with
 | some (.slice _ n _)=>n
 | _=>0
theorem zqc{w:Yw}{g o:Nat}{A:Yo}{n c:Nat}(h:w.cell? ⟨g,o,none⟩=some (.slice A n c)):zll w g o=n:=by rw[zll,h]
theorem zz0(w:Yw)(x:Int):OI 2 w.heap.size (w.alloc (.cells #[.int .i64 x] 2)) (.slice (some ⟨w.heap.size,0,none⟩) 1 1) [x]:=
 ⟨rfl,.inr ⟨w.heap.size,1,#[.int .i64 x],rfl,Aj _,Df w _,Aj _,by simp[maxLen],rfl,rfl⟩⟩
theorem zz1(w:Yw)(x y z:Int):OI 2 w.heap.size (w.alloc (.cells #[.int .i64 x,.int .i64 y,.int .i64 z] 2)) (.slice (some ⟨w.heap.size,0,none⟩) 3 3) [x,y,z]:=
 ⟨rfl,.inr ⟨w.heap.size,3,#[.int .i64 x,.int .i64 y,.int .i64 z],rfl,Aj _,Df w _,Aj _,by simp[maxLen],rfl,rfl⟩⟩
theorem zz2(b lo:Nat)(A:Yo)(n c:Nat)(code:List UInt8)(K:Nat)(w:Yw)(h:Src w b lo A n c code K)(hK:K<=50000):
 Calls Tryz.prog 110 #[.pointer (some ⟨b,0,none⟩)] w (zjw b lo A n c code (K+4000) M.fewP w):=by
 have hbw:=h.lt;obtain⟨W0,hW0⟩:∃W,W=w.alloc (.cells #[.int .i64 0,.slice none 0 0,.slice none 0 0,.slice none 0 0] 67):=⟨_,rfl⟩;have B0:Below w.heap.size w W0:=by rw[hW0];exact(Aw _ _).alloc (Aj _) _
 have z0:w.heap.size<W0.heap.size:=by rw[hW0];simp
 have Q0:Hid (∀j,j<4->W0.cell? ⟨w.heap.size,j,none⟩=some (if j=0 then .int .i64 0 else .slice none 0 0)/\W0.frozen? ⟨w.heap.size,j,none⟩=false):=Aq fun j hj=>by
  rw[hW0];rcases(show j=0\/j=1\/j=2\/j=3 by omega)with rfl|rfl|rfl|rfl <;> exact⟨by simp[go_sem],by simp[go_sem]⟩
 have s0:=h.below B0 hbw;have SA:=Aq (ze0 [1,1,2,0] #[.int .i64 1,.int .i64 1,.int .i64 2,.int .i64 0] 4 rfl rfl (by omega) b lo A n c code K W0 s0 (by omega));rw[show W0.heap.size=w.heap.size+1 from by rw[hW0];simp]at SA;have HW0:=Aq hW0;have HB0:=Aq B0;clear hW0 B0
 go_enter Tryz.func110,Tryz.ntmps110
 go_wp2_with fail;rw[<-HW0.out];refine SA.out.mono ?_;rintro e x1 ⟨y,rfl,hy,s1,m1⟩;have hy3:y=1\/y=2\/y=0:=by simp at hy;omega
 obtain⟨inp,rfl⟩:∃q:Nat,y=q:=⟨y.toNat,by omega⟩;have hinp:inp<=2:=by omega
 have t1:=m1.size;clear hy hy3 s0 HW0;go_upto_region 2 with fail
 go_cut [4] (fun q4 wx=>∃(g:Nat) (i:Int) (vT vN vO:Value) (T:List (List Int)) (ns:List Node) (os:List Int),q4=.pointer (some ⟨g,0,none⟩)/\Hid ((1<=ns.length/\ns.length<=10/\T.length<=2/\os.length<=2)/\(∀y∈ns,y.2.2.2.length<=3)/\∀t∈T,t.length<=8)/\DQ w b lo A n c code g (K+2000) wx.heap.size i vT vN vO T ns os wx)
 case first=>
  go_wp2_with fail;refine(zbg b lo A n c code _ 2 x1 s1 (by omega) (by omega)).mono ?_;rintro e x2 ⟨p,rfl,hp,s2,m2⟩;obtain⟨outp,hop⟩:∃q:Nat,1+p=(q:Int):=⟨(1+p).toNat,by omega⟩;have ho2:1<=outp/\outp<=2:=by omega
  have HOP:=Aq hop;clear hop;have t2:=m2.size;go_wp2_with fail
  try rw[HOP.out]
  refine(zfg b lo A n c code _ 3 x2 s2 (by omega) (by omega)).mono ?_;rintro e x3 ⟨r,rfl,s3,m3⟩;have t3:=m3.size;have m13:Mid b (b+1) w x3:=(((Mid.of_below HB0.out _ _).trans m1).trans m2).trans m3
  have Q3:Hid (∀j,j<4->x3.cell? ⟨w.heap.size,j,none⟩=some (if j=0 then .int .i64 0 else .slice none 0 0)/\x3.frozen? ⟨w.heap.size,j,none⟩=false):=Aq fun j hj=>by
   obtain⟨h1,h2⟩:=Q0.out j hj;have mm:=(m1.trans m2).trans m3;exact⟨mm.cellK (by omega) (.inr (by omega)) h1,mm.frozK (by omega) (.inr (by omega)) h2⟩
  have M13:=Aq m13;clear m1 m2 m3 m13 Q0 HB0 s1 s2 hp;cases r
  ·go_wp2_with fail
   try rw[HOP.out]
   refine(zjy b lo A n c code _ inp outp 9 false x3 s3 (by omega) (by omega) (by omega) (by omega) (fun e=>by cases e)).mono ?_;rintro e x4 ⟨i,A1,n1,c1,A2,n2,c2,A3,n3,c3,px,rfl,po,pd,s4,m4⟩;have t4:=m4.size;obtain⟨U,hU⟩:∃U,U=x4.alloc (.cells #[.int .i64 i,.slice A1 n1 c1,.slice A2 n2 c2,.slice A3 n3 c3] 67):=⟨_,rfl⟩;have DD:=(DQ.of (b:=b) hbw (M13.out.trans m4) s4 (show w.heap.size<x3.heap.size by omega) t4 (fun j hj=>⟨m4.cellK (by omega) (.inr (by omega)) (Q3.out j hj).1,m4.frozK (by omega) (.inr (by omega)) (Q3.out j hj).2⟩) po hU).more (K':=K+2000) (by omega);have HU:=Aq hU;have HDD:=Aq DD;clear hU DD;go_wp2_with fail;rw[<-HU.out]
   go_meet
   exact⟨_,_,_,_,_,px.2.1,px.2.2.1,px.2.2.2,rfl,Aq ⟨⟨pd.out.n.1,pd.out.n.2,pd.out.t.1,by rw[pd.out.o];omega⟩,pd.out.f,pd.out.t.2⟩,HDD.out⟩
  by_cases hin:0<inp
  ·have hini:(0:Int)<(inp:Int):=(by omega);have hinb:decide ((0:Int)<(inp:Int))=true:=(by simp;omega);go_wp2_with fail
   try rw[HOP.out]
   refine(zjy b lo A n c code _ inp outp 9 true x3 s3 (by omega) (by omega) (by omega) (by omega) (fun _=>hin)).mono ?_;rintro e x4 ⟨i,A1,n1,c1,A2,n2,c2,A3,n3,c3,px,rfl,po,pd,s4,m4⟩;have t4:=m4.size;obtain⟨U,hU⟩:∃U,U=x4.alloc (.cells #[.int .i64 i,.slice A1 n1 c1,.slice A2 n2 c2,.slice A3 n3 c3] 67):=⟨_,rfl⟩;have DD:=(DQ.of (b:=b) hbw (M13.out.trans m4) s4 (show w.heap.size<x3.heap.size by omega) t4 (fun j hj=>⟨m4.cellK (by omega) (.inr (by omega)) (Q3.out j hj).1,m4.frozK (by omega) (.inr (by omega)) (Q3.out j hj).2⟩) po hU).more (K':=K+2000) (by omega);have HU:=Aq hU;have HDD:=Aq DD;clear hU DD;go_wp2_with fail;rw[<-HU.out]
   go_meet
   exact⟨_,_,_,_,_,px.2.1,px.2.2.1,px.2.2.2,rfl,Aq ⟨⟨pd.out.n.1,pd.out.n.2,pd.out.t.1,by rw[pd.out.o];omega⟩,pd.out.f,pd.out.t.2⟩,HDD.out⟩
  have hini:¬(0:Int)<(inp:Int):=by omega
  have hinb:decide ((0:Int)<(inp:Int))=false:=by simp;omega
  go_wp2_with fail
  try rw[HOP.out]
  refine(zjy b lo A n c code _ inp outp 9 false x3 s3 (by omega) (by omega) (by omega) (by omega) (fun e=>by cases e)).mono ?_;rintro e x4 ⟨i,A1,n1,c1,A2,n2,c2,A3,n3,c3,px,rfl,po,pd,s4,m4⟩;have t4:=m4.size;obtain⟨U,hU⟩:∃U,U=x4.alloc (.cells #[.int .i64 i,.slice A1 n1 c1,.slice A2 n2 c2,.slice A3 n3 c3] 67):=⟨_,rfl⟩;have DD:=(DQ.of (b:=b) hbw (M13.out.trans m4) s4 (show w.heap.size<x3.heap.size by omega) t4 (fun j hj=>⟨m4.cellK (by omega) (.inr (by omega)) (Q3.out j hj).1,m4.frozK (by omega) (.inr (by omega)) (Q3.out j hj).2⟩) po hU).more (K':=K+2000) (by omega);have HU:=Aq hU;have HDD:=Aq DD;clear hU DD;go_wp2_with fail;rw[<-HU.out]
  go_meet
  exact⟨_,_,_,_,_,px.2.1,px.2.2.1,px.2.2.2,rfl,Aq ⟨⟨pd.out.n.1,pd.out.n.2,pd.out.t.1,by rw[pd.out.o];omega⟩,pd.out.f,pd.out.t.2⟩,HDD.out⟩
 case rest=>
  have hcut_:=hcut;clear hcut s1 m1 HB0 Q0 t1 SA;obtain⟨x,rfl⟩:∃u_:Yw,u_=wc:=⟨_,rfl⟩;obtain⟨g,i,vT,vN,vO,T,ns,os,rfl,hH,D⟩:=hcut_;obtain⟨AT,cT,rfl⟩:=D.shapeT;obtain⟨AN,cN,rfl⟩:=D.shapeN;obtain⟨AO,cO,rfl⟩:=D.shapeO;have hn1:=hH.out.1;have HD:=Aq D;have d2:=D.p2;have sx:=D.src;have zx:=D.sz;clear D;go_wp2_with fail;refine(zbg b lo A n c code _ (ns.length:Int) x sx (by omega) (by omega)).mono ?_;rintro e x5 ⟨k,rfl,hk,s5,m5⟩;obtain⟨k,rfl⟩:∃q:Nat,k=q:=⟨k.toNat,by omega⟩;have hk2:k<ns.length:=by omega
  have D5:=Aq (HD.out.step hbw s5 m5);have t5:=m5.size;clear hk m5 HD d2 sx;go_wp2_with fail;refine(zbg b lo A n c code _ 24 x5 s5 (by omega) (by omega)).mono ?_;rintro e x6 ⟨q,rfl,hq,s6,m6⟩;have D6:=(D5.out.step hbw s6 m6).up;have z6:=D6.sz;clear s5 m6 D5;rcases(show q=0\/q=1\/q=2\/q=3\/q=4\/q=5\/6<=q by omega)with rfl|rfl|rfl|rfl|rfl|rfl|hq6
  ·have HD6:=Aq D6;have SA:=Aq (ze0 [-1,0,5,4] #[.int .i64 (-1),.int .i64 0,.int .i64 5,.int .i64 4] 4 rfl rfl (by omega) b lo A n c code _ x6 s6 (by omega));clear D6;go_wp2_with fail;refine SA.out.mono ?_;rintro e x7 ⟨y,rfl,hy7,s7,m7⟩;have D7:=HD6.out.step hbw s7 m7;have i0:=D7.p0;have j0:=D7.q 0 (by omega);have D8:=D7.set0 hbw y;obtain⟨x8,hx8⟩:∃u,u=x7.setCell ⟨g,0,none⟩ (.int .i64 y):=⟨_,rfl⟩;rw[<-hx8]at D8;have HX8:=Aq hx8;clear hx8 D7;have a0:=D8.p0;have a1:=D8.p1;have a2:=D8.p2;have a3:=D8.p3;have r0:=(D8.e 0 (by omega)).1;have r1:=(D8.e 1 (by omega)).1;have r2:=(D8.e 2 (by omega)).1;have r3:=(D8.e 3 (by omega)).1;have v0:=(D8.e 0 (by omega)).2;have v1:=(D8.e 1 (by omega)).2;have v2:=(D8.e 2 (by omega)).2;have v3:=(D8.e 3 (by omega)).2;rw[if_pos rfl]at r0;rw[if_neg (by decide)]at r1 r2 r3;have UX:=D8.sz;have hne:g≠w.heap.size:=(by omega);have hne':w.heap.size≠g:=(by omega);have FIN:=Aq ((D8.more (K':=K+4000) (by omega)).fin hbw (P:=M.fewP) ⟨⟨by show T.length<=30;omega,fun t ht=>by have:=hH.out.2.2 t ht;omega⟩,⟨by show ns.length<=30;omega,fun y hy=>by have:=hH.out.2.1 y hy;omega⟩,by show os.length<=30;omega⟩);clear D8;go_upto_region 20 with fail
   rw[<-HX8.out];go_wp2;refine Cy (v:=.agg #[.int .i64 y,.slice AT T.length cT,.slice AN ns.length cN,.slice AO os.length cO]) (by simp[results,Tryz.results110,go_sem,r0,r1,r2,r3,v0,v1,v2,v3,hne,hne']) rfl ?_;exact FIN.out
  ·obtain⟨U,hU⟩:∃U,U=x6:=⟨_,rfl⟩;rw[<-hU]at D6 s6 z6 ⊢;have HD:=Aq D6;have UP2:=D6.p2;have UP3:=D6.p3;obtain⟨G,hG⟩:∃G:Nat->Prop,G=fun z=>z=b\/(w.heap.size<z/\z≠g):=⟨_,rfl⟩
   have HG2:=Aq hG
   have GX:=Aq (show ¬G g from fun h=>by
    rw[hG]at h;rcases h with h|h
    ·omega
    exact h.2 rfl)
   have g2:=ChgTo.cell (F:=G) UP2 (fun h=>GX.out h);have g3:=ChgTo.cell (F:=G) UP3 (fun h=>GX.out h);have bsU:=D6.src.lt;clear hU hG;have SD:=Aq (ze0 [(ns.length:Int),-1,0] #[.int .i64 (ns.length:Int),.int .i64 (-1),.int .i64 0] 3 rfl rfl (by omega) b lo A n c code _ U.drew (D6.src.below (zad (Aw U.heap.size _) 1) bsU) (by omega));clear D6;go_wp2_with fail
   (refine zc4 G [0,2,3] [1,4] 6 (.one 5 (.one 6 (.one 7 (.one 8 (.one 9 (.first 10 .rest)))))) [11] [11] (by kernel_rfl) (by kernel_rfl) ?_;simp only[zak];simp only[List.filterMap,By,Bg];(repeat (go_big_quiet_step (fail)));refine Cv ?_;(repeat (go_big_quiet_step (fail)));refine Cv ?_)
   refine zai rfl ?_;go_wp2_with fail;refine⟨⟨⟨_,Chg.of_below (zad (Aw U.heap.size _) 1) _⟩,rfl⟩,zai rfl ?_⟩;go_wp2_with fail;refine⟨⟨⟨_,Chg.of_below ((zad (Aw U.heap.size _) 1).alloc (Aj _) _) _⟩,rfl⟩,zai rfl ?_⟩;go_wp2_with fail;refine SD.out.mono ?_;rintro e x7 ⟨f,rfl,hf,s7,m7⟩;clear hf;have m7':Mid b (b+1) U x7:=(Mid.of_below (zad (Aw U.heap.size _) 1) b (b+1)).trans m7;have E7:=HD.out.step hbw s7 m7';have lt7:=m7'.size
   have C7:Chg G U x7:=⟨m7'.os,m7'.tape,m7'.output,m7'.size,fun i hi hn=>m7'.block i hi (by
    rw[HG2.out]at hn;rcases Fj i b with h|h
    ·exact .inl h
    exact .inr (by rcases Fj b i with h2|h2;exact h2;exact absurd (.inl (by omega)) hn))⟩
   obtain⟨F4,r4,hF4,K4⟩:=E7.openO hbw;have K4':=Aq K4;have q3:=E7.p3;have l3:=E7.q 3 (by omega);have z7:=E7.sz;clear E7 K4;go_wp2_with fail;refine⟨⟨⟨x7,C7⟩,rfl⟩,zai rfl ?_⟩;go_wp2_with fail;refine⟨⟨⟨_,C7.trans (Chg.of_below ((Aw _ _).alloc (Aj _) _) _)⟩,rfl⟩,zai rfl ?_⟩;go_wp2_with (at_builtin;refine za8 zbu #[.int .i64 f] rfl _ _ rfl r4 (Fe:=fun _=>False) (y:=f) rfl (fun _ _ h=>h) rfl rfl (by unfold maxLen;omega) (by omega) ?_;intro v8 w8 own8 ch8;obtain⟨A8,c8,e8⟩:=own8.shape;rw[Cw,Dw]at e8;subst e8;have P8:w8.cell? ⟨g,3,none⟩=some (.slice AO os.length cO):=(by rw[ch8.cell1 (show g<x7.heap.size by omega) (fun h=>(hF4 g h).2.1 rfl)];exact q3);have Q8:w8.frozen? ⟨g,3,none⟩=false:=(by rw[ch8.frozen1 (show g<x7.heap.size by omega) (fun h=>(hF4 g h).2.1 rfl)];exact l3));have C8:Chg G U w8:=C7.trans (ch8.wide (fun z h=>by rw[HG2.out];exact .inr ⟨(hF4 z h).1,(hF4 z h).2.1⟩));refine⟨⟨⟨w8,C8⟩,rfl⟩,?_⟩
   (refine za6 rfl ?_;(repeat (go_big_quiet_step (fail)));refine Cv ?_)
   refine zbc ?_
   have D8:=K4'.out w8 _ (.slice A8 (os.length+1) c8) (os++[f]) ch8 own8 (fun z h=>by
    rcases h with h|h|h
    ·exact .inl h
    ·exact h.elim
    have h3:=h.1;exact .inr (by omega))
   obtain⟨x8,hx8⟩:∃u,u=w8.setCell ⟨g,3,none⟩ (.slice A8 (os.length+1) c8):=⟨_,rfl⟩;rw[<-hx8]at D8;have HX8:=Aq hx8;clear hx8 g2 g3 UP2 UP3;have a0:=D8.p0;have a1:=D8.p1;have a2:=D8.p2;have a3:=D8.p3;have r0:=(D8.e 0 (by omega)).1;have r1:=(D8.e 1 (by omega)).1;have r2:=(D8.e 2 (by omega)).1;have r3:=(D8.e 3 (by omega)).1;have v0:=(D8.e 0 (by omega)).2;have v1:=(D8.e 1 (by omega)).2;have v2:=(D8.e 2 (by omega)).2;have v3:=(D8.e 3 (by omega)).2;rw[if_pos rfl]at r0;rw[if_neg (by decide)]at r1 r2 r3;have UX:=D8.sz;have hne:g≠w.heap.size:=(by omega);have hne':w.heap.size≠g:=(by omega);have FIN:=Aq ((D8.more (K':=K+4000) (by omega)).fin hbw (P:=M.fewP) ⟨⟨by show T.length<=30;omega,fun t ht=>by have:=hH.out.2.2 t ht;omega⟩,⟨by show ns.length<=30;omega,fun y hy=>by have:=hH.out.2.1 y hy;omega⟩,by show (os++[f]).length<=30;simp;omega⟩);clear D8;go_upto_region 20 with fail
   rw[<-HX8.out];go_wp2;refine Cy (v:=.agg #[.int .i64 i,.slice AT T.length cT,.slice AN ns.length cN,.slice A8 (os.length+1) c8]) (by simp[results,Tryz.results110,go_sem,r0,r1,r2,r3,v0,v1,v2,v3,hne,hne']) rfl ?_;exact FIN.out
  ·obtain⟨U,hU⟩:∃U,U=x6:=⟨_,rfl⟩;rw[<-hU]at D6 s6 z6 ⊢;have HD:=Aq D6;have UP2:=D6.p2;have UP3:=D6.p3;obtain⟨G,hG⟩:∃G:Nat->Prop,G=fun z=>z=b\/(w.heap.size<z/\z≠g):=⟨_,rfl⟩
   have HG2:=Aq hG
   have GX:=Aq (show ¬G g from fun h=>by
    rw[hG]at h;rcases h with h|h
    ·omega
    exact h.2 rfl)
   have g2:=ChgTo.cell (F:=G) UP2 (fun h=>GX.out h);have g3:=ChgTo.cell (F:=G) UP3 (fun h=>GX.out h);have bsU:=D6.src.lt;clear hU hG;have SD:=Aq (zzz b lo A n c code _ 1 U.drew (D6.src.below (zad (Aw U.heap.size _) 1) bsU) (by omega) (by omega));clear D6;go_wp2_with fail
   (refine zc4 G [0,2,3] [1] 2 (.one 4 (.first 5 .rest)) [6] [6] (by kernel_rfl) (by kernel_rfl) ?_;simp only[zak];simp only[List.filterMap,By,Bg];(repeat (go_big_quiet_step (fail)));refine Cv ?_;(repeat (go_big_quiet_step (fail)));refine Cv ?_)
   refine zai rfl ?_;go_wp2_with fail;refine SD.out.mono ?_;rintro e x7 ⟨nk,na,nb,B1,m1_,d1,nx,rfl,no,nP,s7,m7⟩;have m7':Mid b (b+1) U x7:=(Mid.of_below (zad (Aw U.heap.size _) 1) b (b+1)).trans m7;have E7:=HD.out.step hbw s7 m7';have lt7:=m7'.size
   have C7:Chg G U x7:=⟨m7'.os,m7'.tape,m7'.output,m7'.size,fun i hi hn=>m7'.block i hi (by
    rw[HG2.out]at hn;rcases Fj i b with h|h
    ·exact .inl h
    exact .inr (by rcases Fj b i with h2|h2;exact h2;exact absurd (.inl (by omega)) hn))⟩
   obtain⟨F4,r4,hF4,-,K4⟩:=E7.openN hbw;have K4':=Aq K4;have z7:=E7.sz;clear E7 K4;have hX:=Aq (Ak hk2);generalize ns[k]'hk2=x0 at hX;obtain⟨css,Fs,hole,cs,hcs,hE⟩:=r4.openAt hX.out;obtain⟨k0,a0,b0,l0⟩:=x0;obtain⟨E1,q1,e1,_,rfl,-,-⟩:=tN_O.1 hE;obtain⟨gr,rfl,hgF,hgn,hgl,-⟩:=hole.form hk2;have c0_:x7.cell? ⟨gr,k*4+0,none⟩=_:=(hole.cell hcs (j:=0) rfl).1;have c1_:x7.cell? ⟨gr,k*4+1,none⟩=_:=(hole.cell hcs (j:=1) rfl).1;have c2_:x7.cell? ⟨gr,k*4+2,none⟩=_:=(hole.cell hcs (j:=2) rfl).1;have c3_:x7.cell? ⟨gr,k*4+3,none⟩=_:=(hole.cell hcs (j:=3) rfl).1;have f0_:x7.frozen? ⟨gr,k*4+0,none⟩=_:=(hole.cell hcs (j:=0) rfl).2;have f1_:x7.frozen? ⟨gr,k*4+1,none⟩=_:=(hole.cell hcs (j:=1) rfl).2;have f2_:x7.frozen? ⟨gr,k*4+2,none⟩=_:=(hole.cell hcs (j:=2) rfl).2;have f3_:x7.frozen? ⟨gr,k*4+3,none⟩=_:=(hole.cell hcs (j:=3) rfl).2;rw[Nat.add_zero]at c0_ f0_;have hki:(k:Int)<(ns.length:Int):=(by omega);have hki0:(0:Int)<=(k:Int):=(by omega);have s0_:=hole.set hcs 0 (by decide) (.int .i64 nk);have s1_:=s0_.1.set s0_.2 1 (by decide) (.int .i64 na);have s2_:=s1_.1.set s1_.2 2 (by decide) (.int .i64 nb);have s3_:=s2_.1.set s2_.2 3 (by decide) (.slice B1 m1_ d1);obtain⟨X8,hX8⟩:∃u,u=(((x7.setCell ⟨gr,k*4,none⟩ (.int .i64 nk)).setCell ⟨gr,k*4+1,none⟩ (.int .i64 na)).setCell ⟨gr,k*4+2,none⟩ (.int .i64 nb)).setCell ⟨gr,k*4+3,none⟩ (.slice B1 m1_ d1):=⟨_,rfl⟩;have CH:Chg F4 x7 X8:=(by rw[hX8];exact(((Chg.set _ gr _ _ hgF).trans (Chg.set _ gr _ _ hgF)).trans (Chg.set _ gr _ _ hgF)).trans (Chg.set _ gr _ _ hgF));have yO:tN.O X8 (Iv U.drew.heap.size x7.heap.size) [.int .i64 nk,.int .i64 na,.int .i64 nb,.slice B1 m1_ d1] (nk,na,nb,nx):=tN_O.2 ⟨B1,m1_,d1,_,rfl,sl_O.2 ((no.chg CH (fun z h1 h2=>by have a1:=(hF4 z h2).2.2;have a2:U.heap.size<=z:=h1.1;omega)).wide (fun z h=>h)),fun z h=>h⟩;have s3':=s3_.1;rw[Nat.add_zero,show tN.s=4 from rfl,<-hX8]at s3';have own8:=s3'.fill' s3_.2 yO (fun z h1 h2=>by have a1:=(hF4 z h2).2.2;have a2:U.heap.size<=z:=h1.1;omega)
   have D8:=K4'.out X8 _ _ CH own8 (fun z h=>by
    rcases h with h|h
    ·exact .inl h
    exact .inr h.1)
   have HX8:=Aq hX8;have hnl:nx.length<=4:=nP.out;clear hX8 CH yO own8 s3' s0_ s1_ s2_ s3_ hole hE hcs r4;go_wp2_with fail;refine⟨⟨⟨x7,C7⟩,rfl⟩,?_⟩
   (refine za6 rfl ?_;(repeat (go_big_quiet_step (fail)));refine Cv ?_)
   refine zbc ?_;clear g2 g3 UP2 UP3;have a0:=D8.p0;have a1:=D8.p1;have a2:=D8.p2;have a3:=D8.p3;have r0:=(D8.e 0 (by omega)).1;have r1:=(D8.e 1 (by omega)).1;have r2:=(D8.e 2 (by omega)).1;have r3:=(D8.e 3 (by omega)).1;have v0:=(D8.e 0 (by omega)).2;have v1:=(D8.e 1 (by omega)).2;have v2:=(D8.e 2 (by omega)).2;have v3:=(D8.e 3 (by omega)).2;rw[if_pos rfl]at r0;rw[if_neg (by decide)]at r1 r2 r3;have UX:=D8.sz;have hne:g≠w.heap.size:=(by omega);have hne':w.heap.size≠g:=(by omega)
   have FIN:=Aq ((D8.more (K':=K+4000) (by omega)).fin hbw (P:=M.fewP) ⟨⟨by show T.length<=30;omega,fun t ht=>by have:=hH.out.2.2 t ht;omega⟩,⟨by show (ns.set k (nk,na,nb,nx)).length<=30;rw[Fx];omega,fun y hy=>by
    rcases List.mem_or_eq_of_mem_set hy with h1|h1
    ·have:=hH.out.2.1 y h1;omega
    rw[h1];show nx.length<=30;omega⟩,by show os.length<=30;omega⟩)
   clear D8;go_upto_region 20 with fail
   rw[<-HX8.out];go_wp2;refine Cy (v:=.agg #[.int .i64 i,.slice AT T.length cT,.slice (some ⟨gr,0,none⟩) ns.length cN,.slice AO os.length cO]) (by simp[results,Tryz.results110,go_sem,r0,r1,r2,r3,v0,v1,v2,v3,hne,hne']) rfl ?_;exact FIN.out
  ·obtain⟨X7,hX7⟩:∃u,u=x6.alloc (.cells #[.int .i64 ns.length] 2):=⟨_,rfl⟩;have B7:Below x6.heap.size x6 X7:=(by rw[hX7];exact(Aw _ _).alloc (Aj _) _);have sz7:X7.heap.size=x6.heap.size+1:=(by rw[hX7];simp);have E7:=D6.step hbw (D6.src.below B7 D6.src.lt) (Mid.of_below B7 b (b+1))
   have yO:tN.O X7 (fun z=>x6.heap.size<=z) [.int .i64 5,.int .i64 2,.int .i64 0,.slice (some ⟨x6.heap.size,0,none⟩) 1 1] (5,2,0,[(ns.length:Int)]):=by
    rw[hX7];exact tN_O.2 ⟨_,_,_,_,rfl,sl_O.2 (zz0 x6 _).os,fun z h=>h.1⟩
   obtain⟨F4,r4,hF4,K4,-⟩:=E7.openN hbw;have K4':=Aq K4;have q2:=E7.p2;have l2:=E7.q 2 (by omega);have z7:=E7.sz;have zl7:g<x6.heap.size:=(by have:=D6.sz;omega);have q2_:=D6.p2;have HX7:=Aq hX7;have HS7:=Aq sz7;clear hX7 E7 K4 B7 sz7 D6;go_upto_region 20 with(at_builtin;rw[<-HX7.out];refine za8 zg1 #[.int .i64 5,.int .i64 2,.int .i64 0,.slice (some ⟨x6.heap.size,0,none⟩) 1 1] rfl _ _ rfl r4 yO (fun z h1 h2=>by have a1:=(hF4 z h1).2.2;have a2:x6.heap.size<=z:=h2;omega) rfl (by rw[HS7.out];rfl) (by unfold maxLen;omega) (by omega) ?_;intro v8 w8 own8 ch8;obtain⟨A8,c8,e8⟩:=own8.shape;rw[Cw,Dw]at e8;subst e8;have P8:w8.cell? ⟨g,2,none⟩=some (.slice AN ns.length cN):=(by rw[ch8.cell1 (show g<X7.heap.size by omega) (fun h=>(hF4 g h).2.1 rfl)];exact q2);have Q8:w8.frozen? ⟨g,2,none⟩=false:=(by rw[ch8.frozen1 (show g<X7.heap.size by omega) (fun h=>(hF4 g h).2.1 rfl)];exact l2))
   have D8:=K4'.out w8 _ (.slice A8 (ns.length+1) c8) (ns++[(5,2,0,[(ns.length:Int)])]) ch8 own8 (fun z h=>by
    rcases h with h|h|h
    ·exact .inl h
    ·exact .inr h
    have h3:=h.1;have h4:=HS7.out;exact .inr (by omega))
   obtain⟨x8,hx8⟩:∃u,u=w8.setCell ⟨g,2,none⟩ (.slice A8 (ns.length+1) c8):=⟨_,rfl⟩;rw[<-hx8]at D8;have HX8:=Aq hx8;clear hx8;have a0:=D8.p0;have a1:=D8.p1;have a2:=D8.p2;have a3:=D8.p3;have r0:=(D8.e 0 (by omega)).1;have r1:=(D8.e 1 (by omega)).1;have r2:=(D8.e 2 (by omega)).1;have r3:=(D8.e 3 (by omega)).1;have v0:=(D8.e 0 (by omega)).2;have v1:=(D8.e 1 (by omega)).2;have v2:=(D8.e 2 (by omega)).2;have v3:=(D8.e 3 (by omega)).2;rw[if_pos rfl]at r0;rw[if_neg (by decide)]at r1 r2 r3;have UX:=D8.sz;have hne:g≠w.heap.size:=(by omega);have hne':w.heap.size≠g:=(by omega)
   have FIN:=Aq ((D8.more (K':=K+4000) (by omega)).fin hbw (P:=M.fewP) ⟨⟨by show T.length<=30;omega,fun t ht=>by have:=hH.out.2.2 t ht;omega⟩,⟨by show (ns++[(5,2,0,[(ns.length:Int)])]).length<=30;rw[Cw,Dw];omega,fun y hy=>by
    rcases Gx.1 hy with h1|h1
    ·have:=hH.out.2.1 y h1;omega
    rw[List.mem_singleton.1 h1];show List.length ([(ns.length:Int)]:List Int)<=30;simp⟩,by show os.length<=30;omega⟩)
   clear D8;rw[<-HX8.out];go_wp2;refine Cy (v:=.agg #[.int .i64 i,.slice AT T.length cT,.slice A8 (ns.length+1) c8,.slice AO os.length cO]) (by simp[results,Tryz.results110,go_sem,r0,r1,r2,r3,v0,v1,v2,v3,hne,hne']) rfl ?_;exact FIN.out
  ·obtain⟨X7,hX7⟩:∃u,u=x6.alloc (.cells #[.int .i64 1,.int .i64 2,.int .i64 3] 2):=⟨_,rfl⟩;have B7:Below x6.heap.size x6 X7:=(by rw[hX7];exact(Aw _ _).alloc (Aj _) _);have sz7:X7.heap.size=x6.heap.size+1:=(by rw[hX7];simp);have E7:=D6.step hbw (D6.src.below B7 D6.src.lt) (Mid.of_below B7 b (b+1))
   have yO:tS.O X7 (Iv x6.heap.size X7.heap.size) [.slice (some ⟨x6.heap.size,0,none⟩) 3 3] [1,2,3]:=by
    rw[hX7];exact sl_O.2 (zz1 x6 1 2 3).os
   obtain⟨F4,r4,hF4,K4⟩:=E7.openT hbw;have K4':=Aq K4;have q1:=E7.p1;have l1:=E7.q 1 (by omega);have z7:=E7.sz;have q1_:=D6.p1;have HX7:=Aq hX7;have HS7:=Aq sz7;have hT2:=hH.out.1;clear hX7 E7 K4 B7 sz7 D6;go_upto_region 20 with(at_builtin;rw[<-HX7.out];refine za8 (t:=tS) zke #[.slice (some ⟨x6.heap.size,0,none⟩) 3 3] rfl _ _ rfl r4 yO (fun z h1 h2=>by have a1:=(hF4 z h1).2.2;have a2:x6.heap.size<=z:=h2.1;omega) rfl (by rw[HS7.out];rfl) (by unfold maxLen;omega) (by omega) ?_;intro v8 w8 own8 ch8;obtain⟨A8,c8,e8⟩:=own8.shape;rw[Cw,Dw]at e8;subst e8;have P8:w8.cell? ⟨g,1,none⟩=some (.slice AT T.length cT):=(by rw[ch8.cell1 (show g<X7.heap.size by omega) (fun h=>(hF4 g h).2.1 rfl)];exact q1);have Q8:w8.frozen? ⟨g,1,none⟩=false:=(by rw[ch8.frozen1 (show g<X7.heap.size by omega) (fun h=>(hF4 g h).2.1 rfl)];exact l1))
   have D8:=K4'.out w8 _ (.slice A8 (T.length+1) c8) (T++[[1,2,3]]) ch8 own8 (fun z h=>by
    rcases h with h|h|h
    ·exact .inl h
    ·exact .inr h.1
    have h3:=h.1;have h4:=HS7.out;exact .inr (by omega))
   obtain⟨x8,hx8⟩:∃u,u=w8.setCell ⟨g,1,none⟩ (.slice A8 (T.length+1) c8):=⟨_,rfl⟩;rw[<-hx8]at D8;have HX8:=Aq hx8;clear hx8;have a0:=D8.p0;have a1:=D8.p1;have a2:=D8.p2;have a3:=D8.p3;have r0:=(D8.e 0 (by omega)).1;have r1:=(D8.e 1 (by omega)).1;have r2:=(D8.e 2 (by omega)).1;have r3:=(D8.e 3 (by omega)).1;have v0:=(D8.e 0 (by omega)).2;have v1:=(D8.e 1 (by omega)).2;have v2:=(D8.e 2 (by omega)).2;have v3:=(D8.e 3 (by omega)).2;rw[if_pos rfl]at r0;rw[if_neg (by decide)]at r1 r2 r3;have UX:=D8.sz;have hne:g≠w.heap.size:=(by omega);have hne':w.heap.size≠g:=(by omega)
   have FIN:=Aq ((D8.more (K':=K+4000) (by omega)).fin hbw (P:=M.fewP) ⟨⟨by show (T++[[1,2,3]]).length<=30;rw[Cw,Dw];omega,fun t ht=>by
    rcases Gx.1 ht with h1|h1
    ·have:=hH.out.2.2 t h1;omega
    rw[List.mem_singleton.1 h1];simp⟩,⟨by show ns.length<=30;omega,fun y hy=>by have:=hH.out.2.1 y hy;omega⟩,by show os.length<=30;omega⟩)
   clear D8;rw[<-HX8.out];go_wp2;refine Cy (v:=.agg #[.int .i64 i,.slice A8 (T.length+1) c8,.slice AN ns.length cN,.slice AO os.length cO]) (by simp[results,Tryz.results110,go_sem,r0,r1,r2,r3,v0,v1,v2,v3,hne,hne']) rfl ?_;exact FIN.out
  ·have D6':=Aq D6;clear D6;go_wp2_with fail
   go_loopw [] (fun wr=>∃(ms:List Node) (AM:Yo) (cM:Nat),ms.length<=24/\Hid (∀y∈ms,y.2.2.2.length<=3)/\DQ w b lo A n c code g (K+2004) wr.heap.size i (.slice AT T.length cT) (.slice AM ms.length cM) (.slice AO os.length cO) T ms os wr) (fun wr=>24-zll wr g 2)
   case atStart=>exact⟨ns,AN,cN,by omega,Aq hH.out.2.1,D6'.out.more (by omega)⟩
   case round=>
    clear D6';obtain⟨ms,AM,cM,hm24,hms,D⟩:=hrel;obtain⟨wo,rfl⟩:∃wo:Yw,wo=wr:=⟨_,rfl⟩;have LEN:=zqc D.p2
    by_cases hlt:ms.length<24
    ·have hlti:(ms.length:Int)<24:=(by omega);obtain⟨X7,hX7⟩:∃u,u=wo.alloc (.cells #[] 2):=⟨_,rfl⟩;have B7:Below wo.heap.size wo X7:=(by rw[hX7];exact(Aw _ _).alloc (Aj _) _);have sz7:X7.heap.size=wo.heap.size+1:=(by rw[hX7];simp);have E7:=D.step hbw (D.src.below B7 D.src.lt) (Mid.of_below B7 b (b+1))
     have yO:tN.O X7 (fun z=>wo.heap.size<=z) [.int .i64 2,.int .i64 1,.int .i64 0,.slice (some ⟨wo.heap.size,0,none⟩) 0 0] (2,1,0,[]):=by
      rw[hX7];exact tN_O.2 ⟨_,_,_,_,rfl,sl_O.2 (OI.made 2 wo).os,fun z h=>h.1⟩
     obtain⟨F4,r4,hF4,K4,-⟩:=E7.openN hbw;have K4':=Aq K4;have q2:=E7.p2;have l2:=E7.q 2 (by omega);have z7:=E7.sz;have zl7:g<wo.heap.size:=(by have:=D.sz;omega);have q2_:=D.p2;have HX7:=Aq hX7;have HS7:=Aq sz7;clear hX7 E7 K4 B7 sz7 D;go_wp2_with (at_builtin;rw[<-HX7.out];refine za8 zg1 #[.int .i64 2,.int .i64 1,.int .i64 0,.slice (some ⟨wo.heap.size,0,none⟩) 0 0] rfl _ _ rfl r4 yO (fun z h1 h2=>by have a1:=(hF4 z h1).2.2;have a2:wo.heap.size<=z:=h2;omega) rfl (by rw[HS7.out];rfl) (by unfold maxLen;omega) (by omega) ?_;intro v8 w8 own8 ch8;obtain⟨A8,c8,e8⟩:=own8.shape;rw[Cw,Dw]at e8;subst e8;have P8:w8.cell? ⟨g,2,none⟩=some (.slice AM ms.length cM):=(by rw[ch8.cell1 (show g<X7.heap.size by omega) (fun h=>(hF4 g h).2.1 rfl)];exact q2);have Q8:w8.frozen? ⟨g,2,none⟩=false:=(by rw[ch8.frozen1 (show g<X7.heap.size by omega) (fun h=>(hF4 g h).2.1 rfl)];exact l2))
     have D8:=K4'.out w8 _ (.slice A8 (ms.length+1) c8) (ms++[(2,1,0,[])]) ch8 own8 (fun z h=>by
      rcases h with h|h|h
      ·exact .inl h
      ·exact .inr h
      have h3:=h.1;have h4:=HS7.out;exact .inr (by omega))
     obtain⟨x8,hx8⟩:∃u,u=w8.setCell ⟨g,2,none⟩ (.slice A8 (ms.length+1) c8):=⟨_,rfl⟩;rw[<-hx8]at D8;have HX8:=Aq hx8;clear hx8;have LEN8:=zqc D8.p2;have D8':=Aq D8.up;clear D8
     try rw[<-HX8.out]
     go_roundw
     case rel=>
      exact⟨ms++[(2,1,0,[])],A8,c8,by rw[Cw,Dw];omega,Aq (fun y hy=>by
       rcases Gx.1 hy with h1|h1
       ·exact hms.out y h1
       rw[List.mem_singleton.1 h1];simp),by rw[Cw,Dw];exact D8'.out⟩
     case measure=>rw[LEN,LEN8];omega
    have hlti:¬(ms.length:Int)<24:=(by omega);have hml:ms.length=24:=(by omega);have D_:=Aq D;have s_:=D.src;have d2_:=D.p2;have z_:=D.sz;have HML:=Aq hml;clear D hml LEN;go_wp2_with fail;refine(zfg b lo A n c code _ 2 wo s_ (by omega) (by omega)).mono ?_;rintro e x9 ⟨r,rfl,s9,m9⟩;have D9:=(D_.out.step hbw s9 m9).up;have z9:=m9.size;clear D_ s_ m9 d2_;cases r
    ·have a0:=D9.p0;have a1:=D9.p1;have a2:=D9.p2;have a3:=D9.p3;have r0:=(D9.e 0 (by omega)).1;have r1:=(D9.e 1 (by omega)).1;have r2:=(D9.e 2 (by omega)).1;have r3:=(D9.e 3 (by omega)).1;have v0:=(D9.e 0 (by omega)).2;have v1:=(D9.e 1 (by omega)).2;have v2:=(D9.e 2 (by omega)).2;have v3:=(D9.e 3 (by omega)).2;rw[if_pos rfl]at r0;rw[if_neg (by decide)]at r1 r2 r3;have UX:=D9.sz;have hne:g≠w.heap.size:=(by omega);have hne':w.heap.size≠g:=(by omega);have FIN:=Aq ((D9.more (K':=K+4000) (by omega)).fin hbw (P:=M.fewP) ⟨⟨by show T.length<=30;omega,fun t ht=>by have:=hH.out.2.2 t ht;omega⟩,⟨by show ms.length<=30;omega,fun y hy=>by have:=hms.out y hy;omega⟩,by show os.length<=30;omega⟩);clear D9;go_wp2;refine Cy (v:=.agg #[.int .i64 i,.slice AT T.length cT,.slice AM ms.length cM,.slice AO os.length cO]) (by simp[results,Tryz.results110,go_sem,r0,r1,r2,r3,v0,v1,v2,v3,hne,hne']) rfl ?_;exact FIN.out
    obtain⟨X7,hX7⟩:∃u,u=x9.alloc (.cells #[] 2):=⟨_,rfl⟩;have B7:Below x9.heap.size x9 X7:=(by rw[hX7];exact(Aw _ _).alloc (Aj _) _);have sz7:X7.heap.size=x9.heap.size+1:=(by rw[hX7];simp);have E7:=D9.step hbw (D9.src.below B7 D9.src.lt) (Mid.of_below B7 b (b+1))
    have yO:tN.O X7 (fun z=>x9.heap.size<=z) [.int .i64 14,.int .i64 5,.int .i64 0,.slice (some ⟨x9.heap.size,0,none⟩) 0 0] (14,5,0,[]):=by
     rw[hX7];exact tN_O.2 ⟨_,_,_,_,rfl,sl_O.2 (OI.made 2 x9).os,fun z h=>h.1⟩
    obtain⟨F4,r4,hF4,K4,-⟩:=E7.openN hbw;have K4':=Aq K4;have q2:=E7.p2;have l2:=E7.q 2 (by omega);have z7:=E7.sz;have zl7:g<x9.heap.size:=(by have:=D9.sz;omega);have q2_:=D9.p2;have HX7:=Aq hX7;have HS7:=Aq sz7;clear hX7 E7 K4 B7 sz7 D9;go_upto_region 20 with(at_builtin;rw[<-HX7.out];refine za8 zg1 #[.int .i64 14,.int .i64 5,.int .i64 0,.slice (some ⟨x9.heap.size,0,none⟩) 0 0] rfl _ _ rfl r4 yO (fun z h1 h2=>by have a1:=(hF4 z h1).2.2;have a2:x9.heap.size<=z:=h2;omega) rfl (by rw[HS7.out];rfl) (by unfold maxLen;omega) (by omega) ?_;intro v8 w8 own8 ch8;obtain⟨A8,c8,e8⟩:=own8.shape;rw[Cw,Dw]at e8;subst e8;have P8:w8.cell? ⟨g,2,none⟩=some (.slice AM ms.length cM):=(by rw[ch8.cell1 (show g<X7.heap.size by omega) (fun h=>(hF4 g h).2.1 rfl)];exact q2);have Q8:w8.frozen? ⟨g,2,none⟩=false:=(by rw[ch8.frozen1 (show g<X7.heap.size by omega) (fun h=>(hF4 g h).2.1 rfl)];exact l2))
    have D8:=K4'.out w8 _ (.slice A8 (ms.length+1) c8) (ms++[(14,5,0,[])]) ch8 own8 (fun z h=>by
     rcases h with h|h|h
     ·exact .inl h
     ·exact .inr h
     have h3:=h.1;have h4:=HS7.out;exact .inr (by omega))
    obtain⟨x8,hx8⟩:∃u,u=w8.setCell ⟨g,2,none⟩ (.slice A8 (ms.length+1) c8):=⟨_,rfl⟩;rw[<-hx8]at D8;have HX8:=Aq hx8;clear hx8;have a0:=D8.p0;have a1:=D8.p1;have a2:=D8.p2;have a3:=D8.p3;have r0:=(D8.e 0 (by omega)).1;have r1:=(D8.e 1 (by omega)).1;have r2:=(D8.e 2 (by omega)).1;have r3:=(D8.e 3 (by omega)).1;have v0:=(D8.e 0 (by omega)).2;have v1:=(D8.e 1 (by omega)).2;have v2:=(D8.e 2 (by omega)).2;have v3:=(D8.e 3 (by omega)).2;rw[if_pos rfl]at r0;rw[if_neg (by decide)]at r1 r2 r3;have UX:=D8.sz;have hne:g≠w.heap.size:=(by omega);have hne':w.heap.size≠g:=(by omega)
    have FIN:=Aq ((D8.more (K':=K+4000) (by omega)).fin hbw (P:=M.fewP) ⟨⟨by show T.length<=30;omega,fun t ht=>by have:=hH.out.2.2 t ht;omega⟩,⟨by show (ms++[(14,5,0,[])]).length<=30;rw[Cw,Dw];omega,fun y hy=>by
     rcases Gx.1 hy with h1|h1
     ·have:=hms.out y h1;omega
     rw[List.mem_singleton.1 h1];show List.length ([]:List Int)<=30;simp⟩,by show os.length<=30;omega⟩)
    clear D8;rw[<-HX8.out];go_wp2;refine Cy (v:=.agg #[.int .i64 i,.slice AT T.length cT,.slice A8 (ms.length+1) c8,.slice AO os.length cO]) (by simp[results,Tryz.results110,go_sem,r0,r1,r2,r3,v0,v1,v2,v3,hne,hne']) rfl ?_;exact FIN.out
  have e0:(q == 0)=false:=by simp;omega
  have e1:(q == 1)=false:=by simp;omega
  have e2:(q == 2)=false:=by simp;omega
  have e3:(q == 3)=false:=by simp;omega
  have e4:(q == 4)=false:=by simp;omega
  have e5:(q == 5)=false:=by simp;omega
  have a0:=D6.p0;have a1:=D6.p1;have a2:=D6.p2;have a3:=D6.p3;have r0:=(D6.e 0 (by omega)).1;have r1:=(D6.e 1 (by omega)).1;have r2:=(D6.e 2 (by omega)).1;have r3:=(D6.e 3 (by omega)).1;have v0:=(D6.e 0 (by omega)).2;have v1:=(D6.e 1 (by omega)).2;have v2:=(D6.e 2 (by omega)).2;have v3:=(D6.e 3 (by omega)).2;rw[if_pos rfl]at r0;rw[if_neg (by decide)]at r1 r2 r3;have UX:=D6.sz;have hne:g≠w.heap.size:=by omega
  have hne':w.heap.size≠g:=by omega
  have FIN:=Aq ((D6.more (K':=K+4000) (by omega)).fin hbw (P:=M.fewP) ⟨⟨by show T.length<=30;omega,fun t ht=>by have:=hH.out.2.2 t ht;omega⟩,⟨by show ns.length<=30;omega,fun y hy=>by have:=hH.out.2.1 y hy;omega⟩,by show os.length<=30;omega⟩);clear D6;go_wp2;refine Cy (v:=.agg #[.int .i64 i,.slice AT T.length cT,.slice AN ns.length cN,.slice AO os.length cO]) (by simp[results,Tryz.results110,go_sem,r0,r1,r2,r3,v0,v1,v2,v3,hne,hne']) rfl ?_;exact FIN.out
section
section
variable {xs:List zag} (ok:zay xs=true)
include ok
end
end
section
set_option maxHeartbeats 40000000
section
variable {w wr w' x4 U:Yw} {b lo:Nat} {A :Yo} {n c:Nat} {code:List UInt8} {g K K' M B:Nat} {i:Int} {v1 v2 v3 v4 v5:Value} {x1:List (List Int)} {x2:List (List zap)} {x3:List Int} {p4:List zae} {x5:List zag}
theorem DS.of{A1 A2 A3 A4 A5:Yo}{n1 c1 n2 c2 n3 c3 n4 c4 n5 c5:Nat}{x:Sess}(hb:b<w.heap.size)(m:Mid b (b+1) w x4)(s:Src x4 b lo A n c code K)(hB:w.heap.size<B)(hB4:B<=x4.heap.size)
 (e:∀j,j<6->x4.cell? ⟨w.heap.size,j,none⟩=some (if j=0 then .int .i64 0 else .slice none 0 0)/\x4.frozen? ⟨w.heap.size,j,none⟩=false)
 (zo:tZ.O x4 (Iv B x4.heap.size) [.int .i64 i,.slice A1 n1 c1,.slice A2 n2 c2,.slice A3 n3 c3,.slice A4 n4 c4,.slice A5 n5 c5] x) (hU:U=x4.alloc (.cells #[.int .i64 i,.slice A1 n1 c1,.slice A2 n2 c2,.slice A3 n3 c3,.slice A4 n4 c4,.slice A5 n5 c5] 38)) :
 DS w b lo A n c code x4.heap.size K U.heap.size i (.slice A1 n1 c1) (.slice A2 n2 c2) (.slice A3 n3 c3) (.slice A4 n4 c4) (.slice A5 n5 c5) x.2.1 x.2.2.1 x.2.2.2.1 x.2.2.2.2.1 x.2.2.2.2.2 U/\x.1=i:=by
 obtain⟨a0,src,ts,fs,ps,ms⟩:=x;obtain⟨_,_,_,_,_,_,_,_,_,_,_,_,_,_,_,F1,F2,F3,F4,F5,hcs,g1,g2,g3,g4,g5,q1,q2,q3,q4,q5,r12,r13,r14,r15,r23,r24,r25,r34,r35,r45⟩:=tZ_O.1 zo;simp only[List.cons.injEq,Value.int.injEq,Cz,and_true,true_and]at hcs;obtain⟨rfl,⟨rfl,rfl,rfl⟩,⟨rfl,rfl,rfl⟩,⟨rfl,rfl,rfl⟩,⟨rfl,rfl,rfl⟩,⟨rfl,rfl,rfl⟩⟩:=hcs;have BU:Below x4.heap.size x4 U:=by rw[hU];exact(Aw _ _).alloc (Aj _) _
 have zU:x4.heap.size<U.heap.size:=by rw[hU];simp
 have eP:∀j u,(#[Value.int .i64 i,.slice A1 n1 c1,.slice A2 n2 c2,.slice A3 n3 c3,.slice A4 n4 c4,.slice A5 n5 c5]:Array Value)[j]?=some u->U.cell? ⟨x4.heap.size,j,none⟩=some u:=fun j u hj=>by
  rw[hU,cell_of_row _ x4.heap.size j _ 38 (0,0) (Df x4 _)];exact hj
 have hq:∀j,j<6->U.frozen? ⟨x4.heap.size,j,none⟩=false:=fun j _=>by rw[hU];simp[go_sem]
 have f:∀{F:Nat->Prop},(∀z,F z->Iv B x4.heap.size z)->∀z,F z->w.heap.size<z/\z≠x4.heap.size:=fun hF z hz=>by
  have h1:=hF z hz;have a1:B<=z:=h1.1;have a2:z<x4.heap.size:=h1.2;omega
 have CU:Chg (fun _=>False) x4 U:=Chg.of_below BU _;refine⟨⟨F1,F2,F3,F4,F5,⟨fun j hj=>?_,eP 0 _ rfl,eP 1 _ rfl,eP 2 _ rfl,eP 3 _ rfl,eP 4 _ rfl,eP 5 _ rfl,hq,(sl_O.1 g1).chg CU (fun _ _ h=>h),(sl_O.1 g2).chg CU (fun _ _ h=>h),(sl_O.1 g3).chg CU (fun _ _ h=>h),(sl_O.1 g4).chg CU (fun _ _ h=>h),(sl_O.1 g5).chg CU (fun _ _ h=>h),⟨f q1,f q2,f q3,f q4,f q5,r12,r13,r14,r15,r23,r24,r25,r34,r35,r45⟩,s.below BU s.lt,m.thenB' BU m.size,zU,by omega⟩,fun z hz=>?_,Aj _,zU⟩,rfl⟩
 ·obtain⟨h1,h2⟩:=e j hj;exact⟨by rw[BU.cell (by show w.heap.size<_;omega)];exact h1,by rw[BU.frozen (by show w.heap.size<_;omega)];exact h2⟩
 rcases hz with hz|hz|hz|hz|hz
 ·have a2:z<x4.heap.size:=(q1 z hz).2;omega
 ·have a2:z<x4.heap.size:=(q2 z hz).2;omega
 ·have a2:z<x4.heap.size:=(q3 z hz).2;omega
 ·have a2:z<x4.heap.size:=(q4 z hz).2;omega
 have a2:z<x4.heap.size:=(q5 z hz).2;omega
theorem DS.set0(h:DS w b lo A n c code g K M i v1 v2 v3 v4 v5 x1 x2 x3 p4 x5 wr)(hb:b<w.heap.size)(y:Int):DS w b lo A n c code g K M y v1 v2 v3 v4 v5 x1 x2 x3 p4 x5 (wr.setCell ⟨g,0,none⟩ (.int .i64 y)):=by
 obtain⟨F1,F2,F3,F4,F5,h,hB,hM,hg⟩:=h;have hl:=h.lo;have hz:=h.sz;have CB:Chg (fun z=>z=g) wr (wr.setCell ⟨g,0,none⟩ (.int .i64 y)):=Chg.set wr g 0 _ rfl;have MB:Below w.heap.size wr (wr.setCell ⟨g,0,none⟩ (.int .i64 y)):=CB.toBelow (fun z h=>by omega) (by omega)
 refine⟨F1,F2,F3,F4,F5,⟨fun j hj=>⟨?_,(Bf _ _ _ _).trans (h.e j hj).2⟩,Dj _ _ _ h.p0,(zaf wr g _ (by decide)).trans h.p1,(zaf wr g _ (by decide)).trans h.p2,(zaf wr g _ (by decide)).trans h.p3,(zaf wr g _ (by decide)).trans h.p4,(zaf wr g _ (by decide)).trans h.p5,fun j hj=>(Bf _ _ _ _).trans (h.q j hj),
  h.r1.chg CB (fun z a b=>(h.fd.o1 z a).2 b),h.r2.chg CB (fun z a b=>(h.fd.o2 z a).2 b),h.r3.chg CB (fun z a b=>(h.fd.o3 z a).2 b),h.r4.chg CB (fun z a b=>(h.fd.o4 z a).2 b),h.r5.chg CB (fun z a b=>(h.fd.o5 z a).2 b),h.fd,h.src.below MB hb,h.mid.thenB' MB (Aj _),by simpa using hz,hl⟩,hB,by simpa using hM,hg⟩
 rw[Ek (Fg wr ⟨g,0,none⟩ w.heap.size _ (by show w.heap.size≠g;omega))];exact(h.e j hj).1
theorem DS.in1(h:DS w b lo A n c code g K M i v1 v2 v3 v4 v5 x1 x2 x3 p4 x5 wr)(hb:b<w.heap.size):∃F:Nat->Prop,OS tS 24 wr F v1 x1/\(∀z,F z->w.heap.size<z/\z≠g/\z<M)/\∀(w4:Yw) (F':Nat->Prop) (x':List (List Int)),Chg F wr w4->OS tS 24 w4 F' v1 x'->(∀z,F' z->F z\/M<=z)->DS w b lo A n c code g K w4.heap.size i v1 v2 v3 v4 v5 x' x2 x3 p4 x5 w4:=by
 obtain⟨F1,F2,F3,F4,F5,h,hB,hM,hg⟩:=h;refine⟨F1,h.r1,fun z hz=>⟨(h.fd.o1 z hz).1,(h.fd.o1 z hz).2,hB z (by simp[hz])⟩,fun w4 F' x' hc r' hF=>?_⟩;have hl:=h.lo;have hs:=hc.size;obtain⟨h1,h2,h3,h4,h5,h6⟩:=h.turn hb h.fd.o1 hc;have fd:FZ w.heap.size g (fun z=>F' z/\z<w4.heap.size) F2 F3 F4 F5:=⟨fun z a=>by rcases hF z a.1 with a|a;exact h.fd.o1 z a;omega,h.fd.o2,h.fd.o3,h.fd.o4,h.fd.o5,fun z a b=>by rcases hF z a.1 with a|a;exact h.fd.a12 z a b;have:=hB z (by simp[b]);omega,fun z a b=>by rcases hF z a.1 with a|a;exact h.fd.a13 z a b;have:=hB z (by simp[b]);omega,fun z a b=>by rcases hF z a.1 with a|a;exact h.fd.a14 z a b;have:=hB z (by simp[b]);omega,fun z a b=>by rcases hF z a.1 with a|a;exact h.fd.a15 z a b;have:=hB z (by simp[b]);omega,h.fd.a23,h.fd.a24,h.fd.a25,h.fd.a34,h.fd.a35,h.fd.a45⟩;refine⟨_,F2,F3,F4,F5,⟨h1,h2 _ _ h.p0,h2 _ _ h.p1,h2 _ _ h.p2,h2 _ _ h.p3,h2 _ _ h.p4,h2 _ _ h.p5,h3,r'.real,h.r2.chg hc (fun z a b=>h.fd.a12 z b a),h.r3.chg hc (fun z a b=>h.fd.a13 z b a),h.r4.chg hc (fun z a b=>h.fd.a14 z b a),h.r5.chg hc (fun z a b=>h.fd.a15 z b a),fd,h4,h5,h6,h.lo⟩,fun z hz=>?_,Aj _,by omega⟩;rcases hz with hz|hz|hz|hz|hz
 ·exact hz.2
 ·have:=hB z (by simp[hz]);omega
 ·have:=hB z (by simp[hz]);omega
 ·have:=hB z (by simp[hz]);omega
 have:=hB z (by simp[hz]);omega
theorem DS.in4(h:DS w b lo A n c code g K M i v1 v2 v3 v4 v5 x1 x2 x3 p4 x5 wr)(hb:b<w.heap.size):∃F:Nat->Prop,OS tP 67 wr F v4 p4/\(∀z,F z->w.heap.size<z/\z≠g/\z<M)/\∀(w4:Yw) (F':Nat->Prop) (x':List zae),Chg F wr w4->OS tP 67 w4 F' v4 x'->(∀z,F' z->F z\/M<=z)->DS w b lo A n c code g K w4.heap.size i v1 v2 v3 v4 v5 x1 x2 x3 x' x5 w4:=by
 obtain⟨F1,F2,F3,F4,F5,h,hB,hM,hg⟩:=h;refine⟨F4,h.r4,fun z hz=>⟨(h.fd.o4 z hz).1,(h.fd.o4 z hz).2,hB z (by simp[hz])⟩,fun w4 F' x' hc r' hF=>?_⟩;have hl:=h.lo;have hs:=hc.size;obtain⟨h1,h2,h3,h4,h5,h6⟩:=h.turn hb h.fd.o4 hc;have fd:FZ w.heap.size g F1 F2 F3 (fun z=>F' z/\z<w4.heap.size) F5:=⟨h.fd.o1,h.fd.o2,h.fd.o3,fun z a=>by rcases hF z a.1 with a|a;exact h.fd.o4 z a;omega,h.fd.o5,h.fd.a12,h.fd.a13,fun z a b=>by rcases hF z b.1 with b|b;exact h.fd.a14 z a b;have:=hB z (by simp[a]);omega,h.fd.a15,h.fd.a23,fun z a b=>by rcases hF z b.1 with b|b;exact h.fd.a24 z a b;have:=hB z (by simp[a]);omega,h.fd.a25,fun z a b=>by rcases hF z b.1 with b|b;exact h.fd.a34 z a b;have:=hB z (by simp[a]);omega,h.fd.a35,fun z a b=>by rcases hF z a.1 with a|a;exact h.fd.a45 z a b;have:=hB z (by simp[b]);omega⟩;refine⟨F1,F2,F3,_,F5,⟨h1,h2 _ _ h.p0,h2 _ _ h.p1,h2 _ _ h.p2,h2 _ _ h.p3,h2 _ _ h.p4,h2 _ _ h.p5,h3,h.r1.chg hc (fun z a b=>h.fd.a14 z a b),h.r2.chg hc (fun z a b=>h.fd.a24 z a b),h.r3.chg hc (fun z a b=>h.fd.a34 z a b),r'.real,h.r5.chg hc (fun z a b=>h.fd.a45 z b a),fd,h4,h5,h6,h.lo⟩,fun z hz=>?_,Aj _,by omega⟩;rcases hz with hz|hz|hz|hz|hz
 ·have:=hB z (by simp[hz]);omega
 ·have:=hB z (by simp[hz]);omega
 ·have:=hB z (by simp[hz]);omega
 ·exact hz.2
 have:=hB z (by simp[hz]);omega
end
def zqd (b:Nat) (w:Yw) (e:Ending) (w':Yw):Prop:=
 ∃i A1 n1 c1 A2 n2 c2 A3 n3 c3 A4 n4 c4 A5 n5 c5 x,e=.returned (.agg #[.int .i64 i,.slice A1 n1 c1,.slice A2 n2 c2,.slice A3 n3 c3,.slice A4 n4 c4,.slice A5 n5 c5])/\(∀w2,Chg (fun z=>z<w.heap.size) w' w2->tZ.R w2 w2.heap.size [.int .i64 i,.slice A1 n1 c1,.slice A2 n2 c2,.slice A3 n3 c3,.slice A4 n4 c4,.slice A5 n5 c5] x)/\Hid (M.fewZ x)/\Mid b (b+1) w w'
theorem DrewZ.toR{b lo:Nat}{A:Yo}{n c:Nat}{code:List UInt8}{K:Nat}{w w':Yw}{e:Ending}(h:DrewZ b lo A n c code K M.fewZ w e w'):zqd b w e w':=by
 obtain⟨i,A1,n1,c1,A2,n2,c2,A3,n3,c3,A4,n4,c4,A5,n5,c5,x,h1,h2,h3,h4,h5⟩:=h;exact⟨i,A1,n1,c1,A2,n2,c2,A3,n3,c3,A4,n4,c4,A5,n5,c5,x,h1,fun w2 hc=>tZ.read (tZ.ochg h2 hc (fun z a b=>by have a1:w.heap.size<=z:=a.1;omega)),h3,h5⟩
end
section
section
variable {α:Type} {t:Ty α} {e:TypeId} {w w':Yw} {F F':Nat->Prop} {B B':Nat} {v:Value} {xs:List α} {css:List (List Value)} {Fs:Nat->Nat->Prop} {k:Nat}
theorem RS.tail{A:Yo}{n c:Nat}(h:RS t w B (.slice A n c) xs)(hn:1<=n):RS t w B (.slice (if c=1 then A else A.map (·.add (1*t.s))) (n-1) (c-1)) (xs.drop 1):=by
 obtain⟨A',c',css,hv,h1,h2,h3,h4,h5⟩:=h;simp only[Cz]at hv;obtain⟨rfl,rfl,rfl⟩:=hv;refine⟨_,_,css.drop 1,by rw[List.length_drop],by rw[List.length_drop];omega,by omega,by simp[h3],?_,fun k h h'=>?_⟩
 ·have:=h4.cut (k:=1) (cap:=c) hn h1
  have e:css.flatten.drop (1*t.s)=(css.drop 1).flatten:=by
   cases css with
   | nil=>simp
   | cons x l=>
    have hx:x.length=t.s:=t.rlen (h5 0 (by omega) (by simp));rw[Nat.one_mul,List.flatten_cons,List.drop_append_of_le_length (by omega),<-hx,List.drop_length];simp
  rw[e]at this;rw[List.length_drop];exact this
 rw[List.length_drop]at h h';have:=h5 (k+1) (by omega) (by omega);simpa [List.getElem_drop]using this
end
theorem DS.reads{w wr w':Yw}{b lo:Nat}{A:Yo}{n c:Nat}{code:List UInt8}{g K M:Nat}{i:Int}{v1 v2 v3 v4 v5:Value}{x1:List (List Int)}{x2:List (List zap)}{x3:List Int}{p4:List zae}{x5:List zag}
 (h:DS w b lo A n c code g K M i v1 v2 v3 v4 v5 x1 x2 x3 p4 x5 wr) (hc:Chg (fun z=>z<=w.heap.size\/z=g) wr w'):RS tS w' w'.heap.size v1 x1/\RS tT w' w'.heap.size v2 x2/\RS tI w' w'.heap.size v3 x3/\RS tP w' w'.heap.size v4 p4/\RS tSt w' w'.heap.size v5 x5:=by
 obtain⟨F1,F2,F3,F4,F5,h,hB,hM,hg⟩:=h
 have f:∀{F:Nat->Prop},(∀z,F z->w.heap.size<z/\z≠g)->∀z,F z->¬(z<=w.heap.size\/z=g):=fun hF z hz e=>by
  have:=hF z hz;rcases e with e|e
  ·omega
  exact this.2 e
 exact⟨(h.r1.chg hc (f h.fd.o1)).read,(h.r2.chg hc (f h.fd.o2)).read,(h.r3.chg hc (f h.fd.o3)).read,(h.r4.chg hc (f h.fd.o4)).read,(h.r5.chg hc (f h.fd.o5)).read⟩
end
section
structure BE (w:Yw) (b lo:Nat) (A:Yo) (n c:Nat) (code:List UInt8) (X K:Nat) (v:Value) (Y:Yw):Prop where
 q0:Y.cell? ⟨w.heap.size,0,none⟩=some (.slice none 0 0)
 f0:Y.frozen? ⟨w.heap.size,0,none⟩=false
 qX:Y.cell? ⟨X,0,none⟩=some v
 fX:Y.frozen? ⟨X,0,none⟩=false
 src:Src Y b lo A n c code K
 mid:Mid b (b+1) w Y
 sz:X<Y.heap.size
 lo:w.heap.size<X
theorem BE.step{w Y Y':Yw}{b lo:Nat}{A:Yo}{n c:Nat}{code:List UInt8}{X K K':Nat}{v:Value}(h:BE w b lo A n c code X K v Y)(hb:b<w.heap.size)(hs:Src Y' b lo A n c code K')(hm:Mid b (b+1) Y Y'):BE w b lo A n c code X K' v Y':=by
 have hz:=h.sz;have hl:=h.lo;exact⟨hm.cellK (by omega) (.inr (by omega)) h.q0,hm.frozK (by omega) (.inr (by omega)) h.f0,hm.cellK (by omega) (.inr (by omega)) h.qX,hm.frozK (by omega) (.inr (by omega)) h.fX,hs,h.mid.trans hm,Cq hz hm.size,hl⟩
theorem BE.chg{w Y Y':Yw}{b lo:Nat}{A:Yo}{n c:Nat}{code:List UInt8}{X K:Nat}{v:Value}(h:BE w b lo A n c code X K v Y)(hb:b<w.heap.size){G:Nat->Prop}(hG:∀z,G z->w.heap.size<z/\z≠X)(hc:Chg G Y Y'):BE w b lo A n c code X K v Y':=by
 have hz:=h.sz;have hl:=h.lo;have n0:¬G w.heap.size:=fun hg=>by have:=hG _ hg;omega
 have nX:¬G X:=fun hg=>(hG _ hg).2 rfl
 have MB:Below (w.heap.size+1) Y Y':=hc.toBelow (fun z h=>by have:=hG z h;omega) (by omega);exact⟨(hc.cell1 (show w.heap.size<_ by omega) n0).trans h.q0,(hc.frozen1 (show w.heap.size<_ by omega) n0).trans h.f0,(hc.cell1 hz nX).trans h.qX,(hc.frozen1 hz nX).trans h.fX,h.src.below MB (by omega),⟨MB.os.trans h.mid.os,MB.tape.trans h.mid.tape,MB.output.trans h.mid.output,Nat.le_trans h.mid.size MB.size,fun i hi' hm=>(MB.block i (by omega)).trans (h.mid.block i hi' hm)⟩,Cq hz MB.size,hl⟩
def zqe (b:Nat) (w:Yw) (e:Ending) (w':Yw):Prop:=
 ∃A1 c1 ms,e=.returned (.agg #[.slice A1 (List.length ms) c1])/\OS tSt 117 w' (fun z=>w.heap.size<z) (.slice A1 ms.length c1) ms/\ms.length<=6/\Hid (M.tiny 5 ms)/\Mid b (b+1) w w'
theorem BE.fin{w Y:Yw}{b lo:Nat}{A:Yo}{n c:Nat}{code:List UInt8}{X K:Nat}{v:Value}{A1:Yo}{m c1:Nat}{ms:List zag}{F:Nat->Prop}(h:BE w b lo A n c code X K v Y)
 (own:OS tSt 117 Y F (.slice A1 m c1) ms) (hF:∀z,F z->w.heap.size<z) (hl:m<=6) (ht:M.tiny 5 ms) (hm:ms.length=m) :
 zqe b w (.returned (.agg #[.slice A1 m c1])) (Y.setCell ⟨w.heap.size,0,none⟩ (.slice A1 m c1)):=by
 subst hm;have CB:Chg (fun b=>b=w.heap.size) Y (Y.setCell ⟨w.heap.size,0,none⟩ (.slice A1 ms.length c1)):=Chg.set Y w.heap.size 0 _ rfl;exact⟨A1,c1,ms,rfl,(own.chg CB (fun z h1 (h2:z=w.heap.size)=>by have:=hF z h1;omega)).wide hF,hl,Aq ht,h.mid.thenB' ((Aw w.heap.size _).setCell (Aj _) _) (Aj _)⟩
section
variable {Y:Yw} {F:Nat->Prop} {g m c k:Nat} {ms:List zag} {s0:ByteArray} {l0:Int} {us:List (Int×Int)}
theorem zz3(own:OS tSt 117 Y F (.slice (some ⟨g,0,none⟩) m c) ms)(hx:ms[k]?=some (s0,l0,us))(s:ByteArray)(hs:s.size<=maxLen):
 OS tSt 117 (Y.setCell ⟨g,k*3,none⟩ (.string s)) F (.slice (some ⟨g,0,none⟩) m c) (ms.set k (s,l0,us)):=by
 obtain⟨css,Fs,hole,cs,hcs,hE⟩:=own.openAt hx;obtain⟨A0,n0,c0,rfl,-,hE⟩:=st_O.1 hE;obtain⟨g',e,hFg,hFn,-,-⟩:=hole.form (Bk.1 hx).1;injection e with e;injection e with e _ _
 have h1:=hole.set hcs 0 (by decide) (.string s);exact h1.1.fill h1.2 (y:=(s,l0,us)) (st_O.2 ⟨A0,n0,c0,rfl,hs,tSdS.okeep (fun b hb=>Fg Y ⟨g,k*3,none⟩ b _ (fun e2=>hFn (by simp only at e2;rw[<-e,<-e2];exact hb))) hE⟩)
theorem zz4(own:OS tSt 117 Y F (.slice (some ⟨g,0,none⟩) m c) ms)(hx:ms[k]?=some (s0,l0,us))(l:Int):
 OS tSt 117 (Y.setCell ⟨g,k*3+1,none⟩ (.int .i64 l)) F (.slice (some ⟨g,0,none⟩) m c) (ms.set k (s0,l,us)):=by
 obtain⟨css,Fs,hole,cs,hcs,hE⟩:=own.openAt hx;obtain⟨A0,n0,c0,rfl,hs,hE⟩:=st_O.1 hE;obtain⟨g',e,hFg,hFn,-,-⟩:=hole.form (Bk.1 hx).1;injection e with e;injection e with e _ _
 have h1:=hole.set hcs 1 (by decide) (.int .i64 l);exact h1.1.fill h1.2 (y:=(s0,l,us)) (st_O.2 ⟨A0,n0,c0,rfl,hs,tSdS.okeep (fun b hb=>Fg Y ⟨g,k*3+1,none⟩ b _ (fun e2=>hFn (by simp only at e2;rw[<-e,<-e2];exact hb))) hE⟩)
theorem zz5(own:OS tSt 117 Y F (.slice (some ⟨g,0,none⟩) m c) ms)(hx:ms[k]?=some (s0,l0,us)):
 OS tSt 117 (Y.setCell ⟨g,k*3+2,none⟩ (.slice none 0 0)) F (.slice (some ⟨g,0,none⟩) m c) (ms.set k (s0,l0,[])):=by
 obtain⟨css,Fs,hole,cs,hcs,hE⟩:=own.openAt hx;obtain⟨A0,n0,c0,rfl,hs,hE⟩:=st_O.1 hE;have h1:=hole.set hcs 2 (by decide) (.slice none 0 0);exact h1.1.fill h1.2 (y:=(s0,l0,[])) (st_O.2 ⟨none,0,0,rfl,hs,sl_O.2 (OS.nil _ _ _ _)⟩)
theorem zj0{A:Yo}(own:OS tSt 117 Y F (.slice A m c) ms)(hx:ms[k]?=some (s0,l0,us)):
 ∃g A0 c0,A=some ⟨g,0,none⟩/\F g/\g<Y.heap.size/\(Y.cell? ⟨g,k*3,none⟩=some (.string s0)/\Y.frozen? ⟨g,k*3,none⟩=false)/\(Y.cell? ⟨g,k*3+1,none⟩=some (.int .i64 l0)/\Y.frozen? ⟨g,k*3+1,none⟩=false)/\(Y.cell? ⟨g,k*3+2,none⟩=some (.slice A0 us.length c0)/\Y.frozen? ⟨g,k*3+2,none⟩=false)/\
  ∃css Fs,OH tSt 117 Y F (.slice A m c) ms css Fs k/\css[k]?=some [.string s0,.int .i64 l0,.slice A0 us.length c0]/\OS tSd 160 Y (Fs k) (.slice A0 us.length c0) us/\¬Fs k g/\s0.size<=maxLen:=by
 obtain⟨css,Fs,hole,cs,hcs,hE⟩:=own.openAt hx;obtain⟨A0,n0,c0,rfl,hs,hE⟩:=st_O.1 hE;have ow:=sl_O.1 hE;obtain rfl:us.length=n0:=ow.read.cap.1;obtain⟨g,rfl,hFg,hFn,hgw,-⟩:=hole.form (Bk.1 hx).1;exact⟨g,A0,c0,rfl,hFg,hgw,hole.cell hcs (j:=0) rfl,hole.cell hcs (j:=1) rfl,hole.cell hcs (j:=2) rfl,css,Fs,hole,hcs,ow,hFn,hs⟩
end
theorem zz6(b lo:Nat)(A:Yo)(n c:Nat)(code:List UInt8)(K:Nat)(w:Yw)(h:Src w b lo A n c code K)(hK:K<=1000000000):
 Calls Tryz.prog 108 #[.pointer (some ⟨b,0,none⟩),.slice (some ⟨w.heap.size,0,none⟩) 3 3] (w.alloc (.cells #[.int .i64 (-1),.int .i64 32,.int .i64 33] 2)) (Drew b lo A n c code (K+2) (fun v=>True) w):=by
 have hB:Below w.heap.size w (w.alloc (.cells #[.int .i64 (-1),.int .i64 32,.int .i64 33] 2)):=(Aw _ _).alloc (Aj _) _;have hb:=h.lt;refine(zgs b lo A n c code K w.heap.size 3 3 [-1,32,33] _ (h.below hB hb) (by omega) rfl (by omega) (by omega) (by simp) ?_).mono ?_
 ·intro j x hx;rw[cell_of_row _ w.heap.size j _ 2 (0,0) (Df w _)]
  match j,hx with
  | 0,hx=>simp at hx;subst hx;rfl
  | 1,hx=>simp at hx;subst hx;rfl
  | 2,hx=>simp at hx;subst hx;rfl
  | j+3,hx=>simp at hx
 rintro e w2 ⟨x,rfl,-,s3,m3⟩;exact⟨x,rfl,trivial,s3,(Mid.of_below hB _ _).trans m3⟩
theorem zz7(b lo:Nat)(A:Yo)(n c:Nat)(code:List UInt8)(K:Nat)(w:Yw)(h:Src w b lo A n c code K)(hK:K<=1000000000):
 Calls Tryz.prog 166 #[.pointer (some ⟨b,0,none⟩),.slice (some ⟨w.heap.size,0,none⟩) 4 4] (w.alloc (.cells #[.string ⟨#[]⟩,.string ⟨#[100,114,117,109,115]⟩,.string ⟨#[77,97,115,116,101,114]⟩,.string ⟨#[97]⟩] 9)) fun e w'=>∃s:ByteArray,e=.returned (.string s)/\s.size<=6/\Src w' b lo A n c code (K+2)/\Mid b (b+1) w w':=by
 have hB:Below w.heap.size w (w.alloc (.cells #[.string ⟨#[]⟩,.string ⟨#[100,114,117,109,115]⟩,.string ⟨#[77,97,115,116,101,114]⟩,.string ⟨#[97]⟩] 9)):=(Aw _ _).alloc (Aj _) _;have hb:=h.lt;refine(zyl b lo A n c code K w.heap.size 4 4 _ (h.below hB hb) (by omega) (by omega) (by omega) (by simp) (zyt w _ _ 4 ?_)).mono ?_
 ·intro j hj
  match j,hj with
  | 0,_=>exact⟨_,by decide,rfl⟩
  | 1,_=>exact⟨_,by decide,rfl⟩
  | 2,_=>exact⟨_,by decide,rfl⟩
  | 3,_=>exact⟨_,by decide,rfl⟩
  | j+4,hj=>omega
 rintro e w2 ⟨x,rfl,h1,s3,m3⟩;exact⟨x,rfl,h1,s3,(Mid.of_below hB _ _).trans m3⟩
end
end Go.Proofs.YtifeldeikhmckaaGreat
