import Derived.Test.YtifeldeikhmckaaGreatFnMutedG3
import Derived.Test.YtifeldeikhmckaaGreatFnMutedG6
import Derived.Test.YtifeldeikhmckaaGreatFnMutedG4
import Derived.Deep.DeepCutAuto
import Derived.Deep.RegionWith
import Derived.Test.YtifeldeikhmckaaGreatFnMutedG2
set_option linter.unusedVariables false
set_option linter.unusedSimpArgs false
set_option maxRecDepth 100000
set_option maxHeartbeats 4000000
namespace Go.Proofs.YtifeldeikhmckaaGreat
open Go.RowKit Go.Sort
abbrev Cy := @bodyPost_ret
theorem zhe(A:Yo)(n c:Nat)(xs:List (List Int))(w:Yw)(hx:tSS.R w w.heap.size [.slice A n c] xs)(hn:hSS.sz xs<=100000000):
 Calls Tryz.prog 90 #[.slice A n c] w fun e w'=>∃v,e=.returned v/\OS tS 24 w' (Iv w.heap.size w'.heap.size) v xs/\Below w.heap.size w w':=by
 have rx:=sl_R.1 hx;have hl:=Aq rx.cap.1;have hq1:xs.length+hS.szL xs=hSS.sz xs:=rfl
 have hb1:Hid (∀x∈xs,x.length<=1000000000):=Aq (fun x hx=>by
  obtain⟨i,hi⟩:=Fk hx;have:=hS.szL_at hi;rw[zb3]at this;omega)
 have hnb:n<=100000000:=by have:=hl.out;omega
 have hxl:xs.length<=100000000:=by omega
 clear hx hn hq1
 go_enter Tryz.func90,Tryz.ntmps90
 go_wp2_with fail
 go_loopw [3,9] (fun v i wr=>∃k:Nat,i=.int .i64 k/\k<=n/\OS tS 24 wr (Iv w.heap.size wr.heap.size) v (xs.take k)/\Below w.heap.size w wr) (fun _ i _=>n-(intOf i).toNat)
 case atStart=>exact⟨0,rfl,by omega,OS.made0 _ _ _,(Aw _ _).alloc (Aj _) _⟩
 case round=>
  obtain⟨k,rfl,hk,own,Bw⟩:=hrel
  by_cases hlt:k<n
  ·obtain⟨bb,o,A1,c1,x,rfl,hbb,X,hc,hri,hxl2⟩:=zf7 (rx.below Bw) hb1 hlt;have hri2:=hri.more Bw.size;have hx9:=hb1.out x (Eg X.out);have hpt:=Aq (M.take_at X.out);have hpl:(xs.take k).length<=100000000:=(by rw[Ey];omega);have hsb:=Bw.size;go_wp2_with fail;refine(zdr _ _ _ _ _ hri2 (by omega)).mono ?_;rintro e w1 ⟨v1,rfl,own1,bel1⟩;obtain⟨A4,c4,rfl,-⟩:=own1.shape;have ow:=own.below bel1 (Aj _);have os2:=tS_O.2 (OI.os own1);have s2:=bel1.size;go_wp2_with (at_builtin;refine za8 ei_S #[.slice A4 x.length c4] rfl _ _ rfl ow os2 (Iv.apart (Aj _)) rfl rfl (by unfold maxLen;omega) (by omega) ?_;intro v3 w4 own4 ch4);go_roundw
   case rel=>
    refine⟨k+1,by go_num,by omega,?_,(Bw.trans (bel1.mono hsb)).trans (ch4.toBelow (fun b hb=>hb.1) (by omega))⟩;rw[hpt.out];exact own4.wide (Iv.grow hsb s2 ch4.size)
   case measure=>simp[intOf];omega
  obtain rfl:k=n:=by omega
  go_wp2;go_ret;rw[Cg (by rw[hl.out];exact Aj _)]at own;exact⟨_,rfl,own,Bw⟩
theorem zuh(a0 a1 a2:Int)(A:Yo)(n c:Nat)(xs:List Int)(w:Yw)(hx:RI w w.heap.size A n xs)(hn:n<=100000000):
 Calls Tryz.prog 146 #[.agg #[.int .i64 a0,.int .i64 a1,.int .i64 a2,.slice A n c]] w fun e w'=>∃A' n' c',e=.returned (.agg #[.int .i64 a0,.int .i64 a1,.int .i64 a2,.slice A' n' c'])/\tN.O w' (Iv w.heap.size w'.heap.size) [.int .i64 a0,.int .i64 a1,.int .i64 a2,.slice A' n' c'] (a0,a1,a2,xs)/\Below w.heap.size w w':=by
 obtain rfl:xs.length=n:=hx.len;obtain⟨W,hW⟩:∃W,W=(w.alloc (.cells #[.int .i64 a0,.int .i64 a1,.int .i64 a2,.slice A xs.length c] 169)).alloc (.cells #[.int .i64 0,.int .i64 0,.int .i64 0,.slice none 0 0] 169):=⟨_,rfl⟩;have B0:Below w.heap.size w W:=by rw[hW];exact((Aw _ _).alloc (Aj _) _).alloc (by simp) _
 have lW:w.heap.size+1<W.heap.size:=by rw[hW];simp
 have p0:W.cell? ⟨w.heap.size,0,none⟩=some (.int .i64 a0):=by rw[hW];simp[go_sem]
 have pf0:W.frozen? ⟨w.heap.size,0,none⟩=false:=by rw[hW];simp[go_sem]
 have r0:W.cell? ⟨w.heap.size+1,0,none⟩=some (.int .i64 0):=by rw[hW];simp[go_sem]
 have rf0:W.frozen? ⟨w.heap.size+1,0,none⟩=false:=by rw[hW];simp[go_sem]
 have p1:W.cell? ⟨w.heap.size,1,none⟩=some (.int .i64 a1):=by rw[hW];simp[go_sem]
 have pf1:W.frozen? ⟨w.heap.size,1,none⟩=false:=by rw[hW];simp[go_sem]
 have r1:W.cell? ⟨w.heap.size+1,1,none⟩=some (.int .i64 0):=by rw[hW];simp[go_sem]
 have rf1:W.frozen? ⟨w.heap.size+1,1,none⟩=false:=by rw[hW];simp[go_sem]
 have p2:W.cell? ⟨w.heap.size,2,none⟩=some (.int .i64 a2):=by rw[hW];simp[go_sem]
 have pf2:W.frozen? ⟨w.heap.size,2,none⟩=false:=by rw[hW];simp[go_sem]
 have r2:W.cell? ⟨w.heap.size+1,2,none⟩=some (.int .i64 0):=by rw[hW];simp[go_sem]
 have rf2:W.frozen? ⟨w.heap.size+1,2,none⟩=false:=by rw[hW];simp[go_sem]
 have p3:W.cell? ⟨w.heap.size,3,none⟩=some (.slice A xs.length c):=by rw[hW];simp[go_sem]
 have pf3:W.frozen? ⟨w.heap.size,3,none⟩=false:=by rw[hW];simp[go_sem]
 have r3:W.cell? ⟨w.heap.size+1,3,none⟩=some (.slice none 0 0):=by rw[hW];simp[go_sem]
 have rf3:W.frozen? ⟨w.heap.size+1,3,none⟩=false:=by rw[hW];simp[go_sem]
 have HW:=Aq hW;have hx1:=hx.later B0;clear hW
 go_enter Tryz.func146,Tryz.ntmps146
 go_wp2_with fail;rw[<-HW.out];refine(zdr _ _ _ _ _ hx1 (by omega)).mono ?_;rintro e w1 ⟨v1,rfl,own1,bel1⟩;obtain⟨A4,c4,rfl,-⟩:=own1.shape;have s1:=bel1.size;replace p0:w1.cell? ⟨w.heap.size,0,none⟩=some (.int .i64 a0):=by rw[bel1.cell (by show w.heap.size<W.heap.size;omega)];exact p0
 replace pf0:w1.frozen? ⟨w.heap.size,0,none⟩=false:=by rw[bel1.frozen (by show w.heap.size<W.heap.size;omega)];exact pf0
 replace r0:w1.cell? ⟨w.heap.size+1,0,none⟩=some (.int .i64 0):=by rw[bel1.cell (by show w.heap.size+1<W.heap.size;omega)];exact r0
 replace rf0:w1.frozen? ⟨w.heap.size+1,0,none⟩=false:=by rw[bel1.frozen (by show w.heap.size+1<W.heap.size;omega)];exact rf0
 replace p1:w1.cell? ⟨w.heap.size,1,none⟩=some (.int .i64 a1):=by rw[bel1.cell (by show w.heap.size<W.heap.size;omega)];exact p1
 replace pf1:w1.frozen? ⟨w.heap.size,1,none⟩=false:=by rw[bel1.frozen (by show w.heap.size<W.heap.size;omega)];exact pf1
 replace r1:w1.cell? ⟨w.heap.size+1,1,none⟩=some (.int .i64 0):=by rw[bel1.cell (by show w.heap.size+1<W.heap.size;omega)];exact r1
 replace rf1:w1.frozen? ⟨w.heap.size+1,1,none⟩=false:=by rw[bel1.frozen (by show w.heap.size+1<W.heap.size;omega)];exact rf1
 replace p2:w1.cell? ⟨w.heap.size,2,none⟩=some (.int .i64 a2):=by rw[bel1.cell (by show w.heap.size<W.heap.size;omega)];exact p2
 replace pf2:w1.frozen? ⟨w.heap.size,2,none⟩=false:=by rw[bel1.frozen (by show w.heap.size<W.heap.size;omega)];exact pf2
 replace r2:w1.cell? ⟨w.heap.size+1,2,none⟩=some (.int .i64 0):=by rw[bel1.cell (by show w.heap.size+1<W.heap.size;omega)];exact r2
 replace rf2:w1.frozen? ⟨w.heap.size+1,2,none⟩=false:=by rw[bel1.frozen (by show w.heap.size+1<W.heap.size;omega)];exact rf2
 replace p3:w1.cell? ⟨w.heap.size,3,none⟩=some (.slice A xs.length c):=by rw[bel1.cell (by show w.heap.size<W.heap.size;omega)];exact p3
 replace pf3:w1.frozen? ⟨w.heap.size,3,none⟩=false:=by rw[bel1.frozen (by show w.heap.size<W.heap.size;omega)];exact pf3
 replace r3:w1.cell? ⟨w.heap.size+1,3,none⟩=some (.slice none 0 0):=by rw[bel1.cell (by show w.heap.size+1<W.heap.size;omega)];exact r3
 replace rf3:w1.frozen? ⟨w.heap.size+1,3,none⟩=false:=by rw[bel1.frozen (by show w.heap.size+1<W.heap.size;omega)];exact rf3
 have B1:=zaa B0 bel1;have lw1:w.heap.size<w1.heap.size:=by omega
 have lw2:w.heap.size+1<w1.heap.size:=by omega
 have o1:=tS_O.2 (OI.os own1);clear B0 HW;obtain⟨U,hU⟩:∃U,U=w1.setCell ⟨w.heap.size,3,none⟩ (.slice A4 xs.length c4):=⟨_,rfl⟩;have m1:Mid w.heap.size (w.heap.size+1) w1 U:=by rw[hU];exact Mid.of_grown (zc0 w1 w.heap.size 3 _) fun k hk=>by injection hk with hk;omega
 have eU:U.heap.size=w1.heap.size:=by rw[hU];simp
 have BU:Below (w.heap.size+1) w1 U\/True:=.inr trivial;have u0:U.cell? ⟨w.heap.size+1,0,none⟩=some (.int .i64 0):=by rw[hU];simp[go_sem,r0,lw1]
 have v0:U.frozen? ⟨w.heap.size+1,0,none⟩=false:=by rw[hU];simp[go_sem,rf0,lw1]
 have u1:U.cell? ⟨w.heap.size+1,1,none⟩=some (.int .i64 0):=by rw[hU];simp[go_sem,r1,lw1]
 have v1:U.frozen? ⟨w.heap.size+1,1,none⟩=false:=by rw[hU];simp[go_sem,rf1,lw1]
 have u2:U.cell? ⟨w.heap.size+1,2,none⟩=some (.int .i64 0):=by rw[hU];simp[go_sem,r2,lw1]
 have v2:U.frozen? ⟨w.heap.size+1,2,none⟩=false:=by rw[hU];simp[go_sem,rf2,lw1]
 have u3:U.cell? ⟨w.heap.size+1,3,none⟩=some (.slice none 0 0):=by rw[hU];simp[go_sem,r3,lw1]
 have v3:U.frozen? ⟨w.heap.size+1,3,none⟩=false:=by rw[hU];simp[go_sem,rf3,lw1]
 have HU:=Aq hU;clear hU BU;go_wp2;rw[<-HU.out];have mm:Mid w.heap.size (w.heap.size+1+1) U ((((U.setCell ⟨w.heap.size+1,0,none⟩ (.int .i64 a0)).setCell ⟨w.heap.size+1,1,none⟩ (.int .i64 a1)).setCell ⟨w.heap.size+1,2,none⟩ (.int .i64 a2)).setCell ⟨w.heap.size+1,3,none⟩ (.slice A4 xs.length c4)):=((((Mid.of_grown (zc0 _ _ 0 _) (fun k hk=>by injection hk with hk;omega)).trans (Mid.of_grown (zc0 _ _ 1 _) (fun k hk=>by injection hk with hk;omega))).trans (Mid.of_grown (zc0 _ _ 2 _) (fun k hk=>by injection hk with hk;omega))).trans (Mid.of_grown (zc0 _ _ 3 _) (fun k hk=>by injection hk with hk;omega)));clear p0 p1 p2 p3 pf0 pf1 pf2 pf3 r0 r1 r2 r3 rf0 rf1 rf2 rf3;refine Cy (v:=.agg #[.int .i64 a0,.int .i64 a1,.int .i64 a2,.slice A4 xs.length c4]) (by simp[results,Tryz.results146,go_sem,u0,u1,u2,u3,v0,v1,v2,v3]) rfl ?_;have hM:=(m1.wide (Aj _) (Nat.le_succ _)).trans mm;have eE:=mm.size;refine⟨A4,xs.length,c4,rfl,tN_O.2 ⟨A4,xs.length,c4,Iv W.heap.size w1.heap.size,rfl,tS.omid o1 hM (.inr (by omega)) (Aj _),Iv.mono (by omega) (by have:=hM.size;omega)⟩,B1.trans (hM.toBelow (by omega))⟩
theorem Chg.up{F G:Nat->Prop}{a b c:Yw}(h:Chg G a b)(k:Chg F b c)(hf:∀x,x<a.heap.size->F x->G x):Chg G a c:=
 ⟨k.os.trans h.os,k.tape.trans h.tape,k.output.trans h.output,Nat.le_trans h.size k.size,fun i hi hn=>(k.block i (Cq hi h.size) (fun hF=>hn (hf i hi hF))).trans (h.block i hi hn)⟩
theorem Chg.upB{G:Nat->Prop}{a b c:Yw}(h:Chg G a b)(k:Below b.heap.size b c):Chg G a c:=h.up (Chg.of_below k (fun _=>False)) (fun _ _ h=>h.elim)
theorem Chg.cell{F:Nat->Prop}{a b:Yw}(h:Chg F a b){k j:Nat}(hk:k<a.heap.size)(hn:¬F k):b.cell? ⟨k,j,none⟩=a.cell? ⟨k,j,none⟩:=by
 exact Ek (h.block k hk hn)
theorem Chg.frozen{F:Nat->Prop}{a b:Yw}(h:Chg F a b){k j:Nat}(hk:k<a.heap.size)(hn:¬F k):b.frozen? ⟨k,j,none⟩=a.frozen? ⟨k,j,none⟩:=by
 have hb:=h.block k hk hn;simp only[World.frozen?];rw[hb]
structure Gr (g f:Nat) (w0 w:Yw) (v:Value):Prop where
 chg:Chg (fun b=>b=g) w0 w
 cel:w.cell? ⟨g,f,none⟩=some v
 oth:∀j,j≠f->w.cell? ⟨g,j,none⟩=w0.cell? ⟨g,j,none⟩
 fro:∀j,w.frozen? ⟨g,j,none⟩=w0.frozen? ⟨g,j,none⟩
theorem Gr.start{g f:Nat}{w:Yw}{v:Value}(h:w.cell? ⟨g,f,none⟩=some v):Gr g f w w v:=⟨Chg.refl _ _,h,fun _ _=>rfl,fun _=>rfl⟩
theorem Gr.below{g f:Nat}{w0 w w':Yw}{v:Value}(h:Gr g f w0 w v)(hb:Below w.heap.size w w')(hg:g<w.heap.size):Gr g f w0 w' v:=
 ⟨h.chg.upB hb,by rw[hb.cell (p:=⟨g,f,none⟩) hg];exact h.cel,fun j hj=>by rw[hb.cell (p:=⟨g,j,none⟩) hg];exact h.oth j hj,fun j=>by rw[hb.frozen (p:=⟨g,j,none⟩) hg];exact h.fro j⟩
theorem Gr.row{g f:Nat}{w0 w w':Yw}{v:Value}{F:Nat->Prop}(h:Gr g f w0 w v)(hc:Chg F w w')(hg:g<w.heap.size)(hF:∀b,F b->w0.heap.size<=b/\b≠g):Gr g f w0 w' v:=
 ⟨h.chg.up hc (fun x hx hFx=>by have:=hF x hFx;omega),by rw[hc.cell hg (fun e=>(hF g e).2 rfl)];exact h.cel,fun j hj=>by rw[hc.cell hg (fun e=>(hF g e).2 rfl)];exact h.oth j hj,fun j=>by rw[hc.frozen hg (fun e=>(hF g e).2 rfl)];exact h.fro j⟩
theorem Gr.set{g f:Nat}{w0 w:Yw}{v:Value}(h:Gr g f w0 w v)(hz:w0.frozen? ⟨g,f,none⟩=false)(u:Value):Gr g f w0 (w.setCell ⟨g,f,none⟩ u) u:=by
 have hfr:w.frozen? ⟨g,f,none⟩=false:=by rw[h.fro];exact hz
 have hc:=h.cel;refine⟨h.chg.trans (Chg.set w g f u rfl),by simp[go_sem,hc],fun j hj=>?_,fun j=>?_⟩
 ·rw[<-h.oth j hj];simp[go_sem,Ne.symm hj]
  try omega
 rw[<-h.fro j];simp[go_sem]
theorem zdm(w:Yw)(z0 z1 z2 z3:Value)(t:TypeId):∃U,U=w.alloc (.cells #[z0,z1,z2,z3] t)/\Below w.heap.size w U/\U.heap.size=w.heap.size+1/\U.cell? ⟨w.heap.size,0,none⟩=some z0/\U.cell? ⟨w.heap.size,1,none⟩=some z1/\U.cell? ⟨w.heap.size,2,none⟩=some z2/\U.cell? ⟨w.heap.size,3,none⟩=some z3/\(∀j,U.frozen? ⟨w.heap.size,j,none⟩=false):=
 ⟨_,rfl,(Aw _ _).alloc (Aj _) _,by simp,by simp[go_sem],by simp[go_sem],by simp[go_sem],by simp[go_sem],fun j=>by simp[go_sem]⟩
theorem zcs(w:Yw)(z0 z1 z2 z3 z4 z5:Value)(t:TypeId):∃U,U=w.alloc (.cells #[z0,z1,z2,z3,z4,z5] t)/\Below w.heap.size w U/\U.heap.size=w.heap.size+1/\U.cell? ⟨w.heap.size,0,none⟩=some z0/\U.cell? ⟨w.heap.size,1,none⟩=some z1/\U.cell? ⟨w.heap.size,2,none⟩=some z2/\U.cell? ⟨w.heap.size,3,none⟩=some z3/\U.cell? ⟨w.heap.size,4,none⟩=some z4/\U.cell? ⟨w.heap.size,5,none⟩=some z5/\(∀j,U.frozen? ⟨w.heap.size,j,none⟩=false):=
 ⟨_,rfl,(Aw _ _).alloc (Aj _) _,by simp,by simp[go_sem],by simp[go_sem],by simp[go_sem],by simp[go_sem],by simp[go_sem],by simp[go_sem],fun j=>by simp[go_sem]⟩
theorem zfv(w:Yw)(z0:Value)(t:TypeId):∃U,U=w.alloc (.cells #[z0] t)/\Below w.heap.size w U/\U.heap.size=w.heap.size+1/\U.cell? ⟨w.heap.size,0,none⟩=some z0/\(∀j,U.frozen? ⟨w.heap.size,j,none⟩=false):=
 ⟨_,rfl,(Aw _ _).alloc (Aj _) _,by simp,by simp[go_sem],fun j=>by simp[go_sem]⟩
theorem zoh(w:Yw)(z0 z1 z2:Value)(t:TypeId):∃U,U=w.alloc (.cells #[z0,z1,z2] t)/\Below w.heap.size w U/\U.heap.size=w.heap.size+1/\U.cell? ⟨w.heap.size,0,none⟩=some z0/\U.cell? ⟨w.heap.size,1,none⟩=some z1/\U.cell? ⟨w.heap.size,2,none⟩=some z2/\(∀j,U.frozen? ⟨w.heap.size,j,none⟩=false):=
 ⟨_,rfl,(Aw _ _).alloc (Aj _) _,by simp,by simp[go_sem],by simp[go_sem],by simp[go_sem],fun j=>by simp[go_sem]⟩
theorem box6{U:Yw}{g:Nat}{z0 z1 z2 z3 z4 z5:Value}(c0:U.cell? ⟨g,0,none⟩=some z0)(c1:U.cell? ⟨g,1,none⟩=some z1)(c2:U.cell? ⟨g,2,none⟩=some z2)(c3:U.cell? ⟨g,3,none⟩=some z3)(c4:U.cell? ⟨g,4,none⟩=some z4)(c5:U.cell? ⟨g,5,none⟩=some z5)(f:∀j,U.frozen? ⟨g,j,none⟩=false)(v0 v1 v2 v3 v4 v5:Value):
 ∃U',U'=(((((U.setCell ⟨g,0,none⟩ v0).setCell ⟨g,1,none⟩ v1).setCell ⟨g,2,none⟩ v2).setCell ⟨g,3,none⟩ v3).setCell ⟨g,4,none⟩ v4).setCell ⟨g,5,none⟩ v5/\U'.cell? ⟨g,0,none⟩=some v0/\U'.cell? ⟨g,1,none⟩=some v1/\U'.cell? ⟨g,2,none⟩=some v2/\U'.cell? ⟨g,3,none⟩=some v3/\U'.cell? ⟨g,4,none⟩=some v4/\U'.cell? ⟨g,5,none⟩=some v5/\(∀j,U'.frozen? ⟨g,j,none⟩=false)/\Chg (fun b=>b=g) U U'/\U'.heap.size=U.heap.size:=by
 refine⟨_,rfl,by simp[go_sem,c0],by simp[go_sem,c1],by simp[go_sem,c2],by simp[go_sem,c3],by simp[go_sem,c4],by simp[go_sem,c5],fun j=>by simp[go_sem,f j],(((((Chg.set (F:=fun b=>b=g) _ g 0 v0 rfl).trans (Chg.set _ g 1 v1 rfl)).trans (Chg.set _ g 2 v2 rfl)).trans (Chg.set _ g 3 v3 rfl)).trans (Chg.set _ g 4 v4 rfl)).trans (Chg.set _ g 5 v5 rfl),by simp⟩
theorem zui(xs:List zap):∀u∈xs.flatMap cl,u.oneCell'=true:=by
 intro u hu;obtain⟨x,-,hx⟩:=List.mem_flatMap.1 hu;simp only[cl,List.mem_cons,List.mem_nil_iff,or_false]at hx;rcases hx with h|h|h|h|h <;> rw[h] <;> rfl
theorem zuj(xs:List (Int×Int)):∀u∈xs.flatMap sd,u.oneCell'=true:=by
 intro u hu;obtain⟨x,-,hx⟩:=List.mem_flatMap.1 hu;simp only[sd,List.mem_cons,List.mem_nil_iff,or_false]at hx;rcases hx with h|h <;> rw[h] <;> rfl
theorem zoi{w:Yw}{B:Nat}{A:Yo}{n c:Nat}{ms:List zag}(hr:RS tSt w B (.slice A n c) ms)(hb:hM.sz ms<=100000000){k:Nat}(hk:k<n):
 ∃(bb o:Nat) (s:ByteArray) (l:Int) (A1:Yo) (n1 c1:Nat) (us:List (Int×Int)),A=some ⟨bb,o,none⟩/\bb<B/\Hid (ms[k]?=some (s,l,us))/\w.cell? ⟨bb,o+k*3,none⟩=some (.string s)/\w.cell? ⟨bb,o+k*3+1,none⟩=some (.int .i64 l)/\w.cell? ⟨bb,o+k*3+2,none⟩=some (.slice A1 n1 c1)/\s.size<=maxLen/\RA sd 2 w B A1 n1 us/\n1<=100000000:=by
 obtain rfl:ms.length=n:=hr.cap.1;have hX:=Ak hk;obtain⟨bb,o,c1,cs,hv,hab,-,hE,hc⟩:=hr.atX hX;simp only[Cz]at hv;obtain⟨rfl,-,rfl⟩:=hv;have hU:=hSt.szL_at hX;have hU2:ms.length+hSt.szL ms<=100000000:=hb;generalize ms[k]=x at hX hE hU;obtain⟨s,l,us⟩:=x;obtain⟨A1,n1,c1,rfl,hs,hS⟩:=st_R.1 hE;have hra:RA sd 2 w B A1 n1 us:=(sl_R.1 hS).flat.1;have hl:us.length=n1:=hra.len
 have hz:us.length<=hSt.sz (s,l,us):=by
  have e:hSt.sz (s,l,us)=s.size+(0+(us.length+hSd.szL us)):=rfl;omega
 have e0:w.cell? ⟨bb,o+k*3,none⟩=some (.string s):=hc 0 _ rfl;exact⟨bb,o,s,l,A1,n1,c1,us,rfl,hab,Aq hX,e0,hc 1 _ rfl,hc 2 _ rfl,hs,hra,by omega⟩
theorem box4{U:Yw}{g:Nat}{z0 z1 z2 z3:Value}(c0:U.cell? ⟨g,0,none⟩=some z0)(c1:U.cell? ⟨g,1,none⟩=some z1)(c2:U.cell? ⟨g,2,none⟩=some z2)(c3:U.cell? ⟨g,3,none⟩=some z3)(f0:U.frozen? ⟨g,0,none⟩=false)(f1:U.frozen? ⟨g,1,none⟩=false)(f2:U.frozen? ⟨g,2,none⟩=false)(f3:U.frozen? ⟨g,3,none⟩=false)(v0 v1 v2 v3:Value):
 ∃U',U'=(((U.setCell ⟨g,0,none⟩ v0).setCell ⟨g,1,none⟩ v1).setCell ⟨g,2,none⟩ v2).setCell ⟨g,3,none⟩ v3/\U'.cell? ⟨g,0,none⟩=some v0/\U'.cell? ⟨g,1,none⟩=some v1/\U'.cell? ⟨g,2,none⟩=some v2/\U'.cell? ⟨g,3,none⟩=some v3/\(∀j,j<4->U'.frozen? ⟨g,j,none⟩=false)/\Chg (fun b=>b=g) U U'/\U'.heap.size=U.heap.size:=by
 refine⟨_,rfl,by simp[go_sem,c0],by simp[go_sem,c1],by simp[go_sem,c2],by simp[go_sem,c3],fun j hj=>?_,(((Chg.set (F:=fun b=>b=g) _ g 0 v0 rfl).trans (Chg.set _ g 1 v1 rfl)).trans (Chg.set _ g 2 v2 rfl)).trans (Chg.set _ g 3 v3 rfl),by simp⟩
 match j,hj with
 | 0,_=>simp[go_sem,f0]
 | 1,_=>simp[go_sem,f1]
 | 2,_=>simp[go_sem,f2]
 | 3,_=>simp[go_sem,f3]
theorem zk5(a0:Int)(A1:Yo)(n1 c1:Nat)(A2:Yo)(n2 c2:Nat)(A3:Yo)(n3 c3:Nat)(x1:List (List Int))(x2:List Node)(x3:List Int)(w:Yw)(h1:tSS.R w w.heap.size [.slice A1 n1 c1] x1)(h2:tNS.R w w.heap.size [.slice A2 n2 c2] x2)(h3:tS.R w w.heap.size [.slice A3 n3 c3] x3)(hn:hP.sz ((a0,x1,x2,x3):zae)<=100000000):
 Calls Tryz.prog 92 #[.agg #[.int .i64 a0,.slice A1 n1 c1,.slice A2 n2 c2,.slice A3 n3 c3]] w fun e w'=>∃A1' n1' c1' A2' n2' c2' A3' n3' c3',e=.returned (.agg #[.int .i64 a0,.slice A1' n1' c1',.slice A2' n2' c2',.slice A3' n3' c3'])/\tP.O w' (Iv w.heap.size w'.heap.size) [.int .i64 a0,.slice A1' n1' c1',.slice A2' n2' c2',.slice A3' n3' c3'] (a0,x1,x2,x3)/\Below w.heap.size w w':=by
 obtain⟨W,hW⟩:∃W,W=(w.alloc (.cells #[.int .i64 a0,.slice A1 n1 c1,.slice A2 n2 c2,.slice A3 n3 c3] 67)).alloc (.cells #[.int .i64 0,.slice none 0 0,.slice none 0 0,.slice none 0 0] 67):=⟨_,rfl⟩;have B0:Below w.heap.size w W:=by rw[hW];exact((Aw _ _).alloc (Aj _) _).alloc (by simp) _
 have lW:w.heap.size+1<W.heap.size:=by rw[hW];simp
 have p0:W.cell? ⟨w.heap.size,0,none⟩=some (.int .i64 a0):=by rw[hW];simp[go_sem]
 have r0:W.cell? ⟨w.heap.size+1,0,none⟩=some (.int .i64 0):=by rw[hW];simp[go_sem]
 have rf0:W.frozen? ⟨w.heap.size+1,0,none⟩=false:=by rw[hW];simp[go_sem]
 have p1:W.cell? ⟨w.heap.size,1,none⟩=some (.slice A1 n1 c1):=by rw[hW];simp[go_sem]
 have r1:W.cell? ⟨w.heap.size+1,1,none⟩=some (.slice none 0 0):=by rw[hW];simp[go_sem]
 have rf1:W.frozen? ⟨w.heap.size+1,1,none⟩=false:=by rw[hW];simp[go_sem]
 have p2:W.cell? ⟨w.heap.size,2,none⟩=some (.slice A2 n2 c2):=by rw[hW];simp[go_sem]
 have r2:W.cell? ⟨w.heap.size+1,2,none⟩=some (.slice none 0 0):=by rw[hW];simp[go_sem]
 have rf2:W.frozen? ⟨w.heap.size+1,2,none⟩=false:=by rw[hW];simp[go_sem]
 have p3:W.cell? ⟨w.heap.size,3,none⟩=some (.slice A3 n3 c3):=by rw[hW];simp[go_sem]
 have r3:W.cell? ⟨w.heap.size+1,3,none⟩=some (.slice none 0 0):=by rw[hW];simp[go_sem]
 have rf3:W.frozen? ⟨w.heap.size+1,3,none⟩=false:=by rw[hW];simp[go_sem]
 have HW:=Aq hW;clear hW;have k1:=tSS.later h1 B0;have k2:=tNS.later h2 B0;have k3:=tS.later h3 B0;have L1:=Aq (sl_R.1 k1).cap.1;have L2:=Aq (sl_R.1 k2).cap.1;have L3:=Aq (zcu k3);rw[zea]at hn;have z1:hSS.sz x1<=100000000:=by omega
 have z2:hNS.sz x2<=100000000:=by omega
 have z3:x3.length<=100000000:=by rw[zb3]at hn;omega
 have bn2:n2<=100000000:=by have e:x2.length+hN.szL x2=hNS.sz x2:=rfl;have:=L2.out;omega
 have bn3:n3<=100000000:=by have:=L3.out;omega
 have pp0:=Ag p0;have pp1:=Ag p1;have pp3:=Ag p3;have D1:Below W.heap.size W W.drew:=zad (Aw _ _) 1;have hd0:W.drew.heap.size=W.heap.size:=rfl;clear h1 h2 h3 hn
 go_enter Tryz.func92,Tryz.ntmps92
 go_wp2_with fail;rw[<-HW.out]
 go_cut [3] (fun q3 wx=>∃(g:Nat) (A1':Yo) (c1':Nat) (A3':Yo) (c3' l1 u1 l3 u3:Nat),q3=.pointer (some ⟨g,0,none⟩)/\W.heap.size<=g/\g<wx.heap.size/\wx.cell? ⟨g,0,none⟩=some (.int .i64 a0)/\wx.cell? ⟨g,1,none⟩=some (.slice A1' x1.length c1')/\wx.cell? ⟨g,2,none⟩=some (.slice none 0 0)/\wx.cell? ⟨g,3,none⟩=some (.slice A3' x3.length c3')/\(∀j,j<4->wx.frozen? ⟨g,j,none⟩=false)/\tSS.O wx (Iv l1 u1) [.slice A1' x1.length c1'] x1/\tS.O wx (Iv l3 u3) [.slice A3' x3.length c3'] x3/\Below W.heap.size W wx/\W.heap.size<=l1/\u1<=l3/\u3<=wx.heap.size/\l1<=u1/\l3<=u3/\(g<l1\/(u1<=g/\g<l3)\/u3<=g))
 case first=>
  clear p0 p1 p2 p3 r0 r1 r2 r3 rf0 rf1 rf2 rf3 k2;go_wp2_with fail
  (refine zec [0,2,5] [1,3,6] 4 (.two 4 (.two 7 (.two 8 (.one 9 .rest) 9 (.one 8 .rest)) 9 (.one 7 (.one 8 .rest))) 9 (.one 4 (.one 7 (.one 8 .rest)))) [10] (by kernel_rfl) (by kernel_rfl) ?_;simp only[zak];simp only[List.filterMap,By,Bg];(repeat (go_big_quiet_step (fail)));refine Cv ?_;(repeat (go_big_quiet_step (fail)));refine Cv ?_)
  refine zes rfl rfl ?_ ?_
  ·go_wp2_with fail;refine(zhe _ _ _ _ _ (tSS.later k1 D1) z1).mono ?_;rintro e w1 ⟨V4,rfl,own2,bel3⟩;obtain⟨AA5,cc6,rfl⟩:=own2.shape;have Bw1:=zaa D1 bel3;have sw1:=bel3.size;go_wp2_with fail;refine⟨Bz Bw1,zes rfl rfl ?_ ?_⟩
   ·go_wp2_with fail;refine(zdr _ _ _ _ _ (tS_R.1 (tS.later k3 Bw1)).ri (by omega)).mono ?_;rintro e w7 ⟨V10,rfl,own8,bel9⟩;obtain⟨AA11,cc12,rfl,-⟩:=own8.shape;have Bw7:=zaa Bw1 bel9;have sw7:=bel9.size;go_wp2_with fail;refine⟨Bz Bw7,zes rfl rfl ?_ ?_⟩
    ·go_wp2_with fail;refine⟨Bz Bw7,za9 rfl ?_⟩;obtain⟨U13,hU13⟩:∃U,U=w7.alloc (.cells #[.int .i64 0,.slice none 0 0,.slice none 0 0,.slice none 0 0] 67):=⟨_,rfl⟩;have Bx14:Below w7.heap.size w7 U13:=(by rw[hU13];exact(Aw _ _).alloc (Aj _) _);have sU13:U13.heap.size=w7.heap.size+1:=(by rw[hU13];simp);have xU13_0:U13.cell? ⟨w7.heap.size,0,none⟩=some (.int .i64 0):=(by rw[hU13];simp[go_sem]);have yU13_0:U13.frozen? ⟨w7.heap.size,0,none⟩=false:=(by rw[hU13];simp[go_sem]);have xU13_1:U13.cell? ⟨w7.heap.size,1,none⟩=some (.slice none 0 0):=(by rw[hU13];simp[go_sem]);have yU13_1:U13.frozen? ⟨w7.heap.size,1,none⟩=false:=(by rw[hU13];simp[go_sem]);have xU13_2:U13.cell? ⟨w7.heap.size,2,none⟩=some (.slice none 0 0):=(by rw[hU13];simp[go_sem]);have yU13_2:U13.frozen? ⟨w7.heap.size,2,none⟩=false:=(by rw[hU13];simp[go_sem]);have xU13_3:U13.cell? ⟨w7.heap.size,3,none⟩=some (.slice none 0 0):=(by rw[hU13];simp[go_sem]);have yU13_3:U13.frozen? ⟨w7.heap.size,3,none⟩=false:=(by rw[hU13];simp[go_sem]);go_wp2_with fail;rw[<-hU13];have BU13:=zaa Bw7 Bx14;clear hU13;refine⟨Bz BU13,?_⟩;have hg:w7.heap.size<U13.heap.size:=(by omega);have bx0:=xU13_0;have by0:=yU13_0;have bx1:=xU13_1;have by1:=yU13_1;have bx2:=xU13_2;have by2:=yU13_2;have bx3:=xU13_3;have by3:=yU13_3;have q1:=own2;replace q1:=q1.below bel9 (by omega);replace q1:=q1.below Bx14 (by omega);have q3:=OI.os own8;replace q3:=q3.below Bx14 (by omega);refine zb9 ?_;go_wp2_with fail
     try refine⟨rfl,?_⟩
     go_meet
     obtain⟨U_,hU_,d0,d1,d2,d3,df,dch,dsz⟩:=box4 bx0 bx1 bx2 bx3 by0 by1 by2 by3 (.int .i64 a0) (.slice AA5 x1.length cc6) (.slice none 0 0) (.slice AA11 x3.length cc12);rw[<-hU_];exact⟨w7.heap.size,AA5,cc6,AA11,cc12,_,_,_,_,rfl,by omega,by omega,d0,d1,d2,d3,df,sl_O.2 (q1.chg dch (fun b hb (e:b=_)=>by have:=hb.1;have:=hb.2;omega)),tS_O.2 (q3.chg dch (fun b hb (e:b=_)=>by have:=hb.1;have:=hb.2;omega)),BU13.trans (dch.toBelow (fun k (hk:k=_)=>by omega) (by omega)),by omega,by omega,by omega,by omega,by omega,by omega⟩
    obtain⟨U15,hU15⟩:∃U,U=w7.alloc (.cells #[.int .i64 0,.slice none 0 0,.slice none 0 0,.slice none 0 0] 67):=⟨_,rfl⟩;have Bx16:Below w7.heap.size w7 U15:=(by rw[hU15];exact(Aw _ _).alloc (Aj _) _);have sU15:U15.heap.size=w7.heap.size+1:=(by rw[hU15];simp);have xU15_0:U15.cell? ⟨w7.heap.size,0,none⟩=some (.int .i64 0):=(by rw[hU15];simp[go_sem]);have yU15_0:U15.frozen? ⟨w7.heap.size,0,none⟩=false:=(by rw[hU15];simp[go_sem]);have xU15_1:U15.cell? ⟨w7.heap.size,1,none⟩=some (.slice none 0 0):=(by rw[hU15];simp[go_sem]);have yU15_1:U15.frozen? ⟨w7.heap.size,1,none⟩=false:=(by rw[hU15];simp[go_sem]);have xU15_2:U15.cell? ⟨w7.heap.size,2,none⟩=some (.slice none 0 0):=(by rw[hU15];simp[go_sem]);have yU15_2:U15.frozen? ⟨w7.heap.size,2,none⟩=false:=(by rw[hU15];simp[go_sem]);have xU15_3:U15.cell? ⟨w7.heap.size,3,none⟩=some (.slice none 0 0):=(by rw[hU15];simp[go_sem]);have yU15_3:U15.frozen? ⟨w7.heap.size,3,none⟩=false:=(by rw[hU15];simp[go_sem]);go_wp2_with fail;rw[<-hU15];have BU15:=zaa Bw7 Bx16;clear hU15;refine⟨Bz BU15,za9 rfl ?_⟩;go_wp2_with fail;refine⟨Bz BU15,?_⟩;have hg:w7.heap.size<U15.heap.size:=(by omega);have bx0:=xU15_0;have by0:=yU15_0;have bx1:=xU15_1;have by1:=yU15_1;have bx2:=xU15_2;have by2:=yU15_2;have bx3:=xU15_3;have by3:=yU15_3;have q1:=own2;replace q1:=q1.below bel9 (by omega);replace q1:=q1.below Bx16 (by omega);have q3:=OI.os own8;replace q3:=q3.below Bx16 (by omega);refine zb9 ?_;go_wp2_with fail
    try refine⟨rfl,?_⟩
    go_meet
    obtain⟨U_,hU_,d0,d1,d2,d3,df,dch,dsz⟩:=box4 bx0 bx1 bx2 bx3 by0 by1 by2 by3 (.int .i64 a0) (.slice AA5 x1.length cc6) (.slice none 0 0) (.slice AA11 x3.length cc12);rw[<-hU_];exact⟨w7.heap.size,AA5,cc6,AA11,cc12,_,_,_,_,rfl,by omega,by omega,d0,d1,d2,d3,df,sl_O.2 (q1.chg dch (fun b hb (e:b=_)=>by have:=hb.1;have:=hb.2;omega)),tS_O.2 (q3.chg dch (fun b hb (e:b=_)=>by have:=hb.1;have:=hb.2;omega)),BU15.trans (dch.toBelow (fun k (hk:k=_)=>by omega) (by omega)),by omega,by omega,by omega,by omega,by omega,by omega⟩
   obtain⟨U17,hU17⟩:∃U,U=w1.alloc (.cells #[.int .i64 0,.slice none 0 0,.slice none 0 0,.slice none 0 0] 67):=⟨_,rfl⟩;have Bx18:Below w1.heap.size w1 U17:=(by rw[hU17];exact(Aw _ _).alloc (Aj _) _);have sU17:U17.heap.size=w1.heap.size+1:=(by rw[hU17];simp);have xU17_0:U17.cell? ⟨w1.heap.size,0,none⟩=some (.int .i64 0):=(by rw[hU17];simp[go_sem]);have yU17_0:U17.frozen? ⟨w1.heap.size,0,none⟩=false:=(by rw[hU17];simp[go_sem]);have xU17_1:U17.cell? ⟨w1.heap.size,1,none⟩=some (.slice none 0 0):=(by rw[hU17];simp[go_sem]);have yU17_1:U17.frozen? ⟨w1.heap.size,1,none⟩=false:=(by rw[hU17];simp[go_sem]);have xU17_2:U17.cell? ⟨w1.heap.size,2,none⟩=some (.slice none 0 0):=(by rw[hU17];simp[go_sem]);have yU17_2:U17.frozen? ⟨w1.heap.size,2,none⟩=false:=(by rw[hU17];simp[go_sem]);have xU17_3:U17.cell? ⟨w1.heap.size,3,none⟩=some (.slice none 0 0):=(by rw[hU17];simp[go_sem]);have yU17_3:U17.frozen? ⟨w1.heap.size,3,none⟩=false:=(by rw[hU17];simp[go_sem]);go_wp2_with fail;rw[<-hU17];have BU17:=zaa Bw1 Bx18;clear hU17;refine⟨Bz BU17,za9 rfl ?_⟩;go_wp2_with fail;refine(zdr _ _ _ _ _ (tS_R.1 (tS.later k3 BU17)).ri (by omega)).mono ?_;rintro e w19 ⟨V22,rfl,own20,bel21⟩;obtain⟨AA23,cc24,rfl,-⟩:=own20.shape;have Bw19:=zaa BU17 bel21;have sw19:=bel21.size;go_wp2_with fail;refine⟨Bz Bw19,za9 rfl ?_⟩;go_wp2_with fail;refine⟨Bz Bw19,?_⟩;have hg:w1.heap.size<w19.heap.size:=(by omega);have bx0:w19.cell? ⟨w1.heap.size,0,none⟩=some (.int .i64 0):=(by rw[bel21.cell (by show w1.heap.size<_;omega)];exact xU17_0);have by0:w19.frozen? ⟨w1.heap.size,0,none⟩=false:=(by rw[bel21.frozen (by show w1.heap.size<_;omega)];exact yU17_0);have bx1:w19.cell? ⟨w1.heap.size,1,none⟩=some (.slice none 0 0):=(by rw[bel21.cell (by show w1.heap.size<_;omega)];exact xU17_1);have by1:w19.frozen? ⟨w1.heap.size,1,none⟩=false:=(by rw[bel21.frozen (by show w1.heap.size<_;omega)];exact yU17_1);have bx2:w19.cell? ⟨w1.heap.size,2,none⟩=some (.slice none 0 0):=(by rw[bel21.cell (by show w1.heap.size<_;omega)];exact xU17_2);have by2:w19.frozen? ⟨w1.heap.size,2,none⟩=false:=(by rw[bel21.frozen (by show w1.heap.size<_;omega)];exact yU17_2);have bx3:w19.cell? ⟨w1.heap.size,3,none⟩=some (.slice none 0 0):=(by rw[bel21.cell (by show w1.heap.size<_;omega)];exact xU17_3);have by3:w19.frozen? ⟨w1.heap.size,3,none⟩=false:=(by rw[bel21.frozen (by show w1.heap.size<_;omega)];exact yU17_3);have q1:=own2;replace q1:=q1.below Bx18 (by omega);replace q1:=q1.below bel21 (by omega);have q3:=OI.os own20;refine zb9 ?_;go_wp2_with fail
   try refine⟨rfl,?_⟩
   go_meet
   obtain⟨U_,hU_,d0,d1,d2,d3,df,dch,dsz⟩:=box4 bx0 bx1 bx2 bx3 by0 by1 by2 by3 (.int .i64 a0) (.slice AA5 x1.length cc6) (.slice none 0 0) (.slice AA23 x3.length cc24);rw[<-hU_];exact⟨w1.heap.size,AA5,cc6,AA23,cc24,_,_,_,_,rfl,by omega,by omega,d0,d1,d2,d3,df,sl_O.2 (q1.chg dch (fun b hb (e:b=_)=>by have:=hb.1;have:=hb.2;omega)),tS_O.2 (q3.chg dch (fun b hb (e:b=_)=>by have:=hb.1;have:=hb.2;omega)),Bw19.trans (dch.toBelow (fun k (hk:k=_)=>by omega) (by omega)),by omega,by omega,by omega,by omega,by omega,by omega⟩
  obtain⟨U25,hU25⟩:∃U,U=(W.alloc (.cells #[.int .i64 0,.slice none 0 0,.slice none 0 0,.slice none 0 0] 67)).drew:=⟨_,rfl⟩;have Bx26:Below W.heap.size W U25:=by rw[hU25];exact zad ((Aw _ _).alloc (Aj _) _) 1
  have sU25:U25.heap.size=W.heap.size+1:=by rw[hU25];simp
  have xU25_0:U25.cell? ⟨W.heap.size,0,none⟩=some (.int .i64 0):=by rw[hU25];simp[go_sem]
  have yU25_0:U25.frozen? ⟨W.heap.size,0,none⟩=false:=by rw[hU25];simp[go_sem]
  have xU25_1:U25.cell? ⟨W.heap.size,1,none⟩=some (.slice none 0 0):=by rw[hU25];simp[go_sem]
  have yU25_1:U25.frozen? ⟨W.heap.size,1,none⟩=false:=by rw[hU25];simp[go_sem]
  have xU25_2:U25.cell? ⟨W.heap.size,2,none⟩=some (.slice none 0 0):=by rw[hU25];simp[go_sem]
  have yU25_2:U25.frozen? ⟨W.heap.size,2,none⟩=false:=by rw[hU25];simp[go_sem]
  have xU25_3:U25.cell? ⟨W.heap.size,3,none⟩=some (.slice none 0 0):=by rw[hU25];simp[go_sem]
  have yU25_3:U25.frozen? ⟨W.heap.size,3,none⟩=false:=by rw[hU25];simp[go_sem]
  go_wp2_with fail;rw[<-hU25];have BU25:=Bx26;clear hU25;refine⟨Bz BU25,za9 rfl ?_⟩;go_wp2_with fail;refine(zhe _ _ _ _ _ (tSS.later k1 BU25) z1).mono ?_;rintro e w27 ⟨V30,rfl,own28,bel29⟩;obtain⟨AA31,cc32,rfl⟩:=own28.shape;have Bw27:=zaa BU25 bel29;have sw27:=bel29.size;go_wp2_with fail;refine⟨Bz Bw27,za9 rfl ?_⟩;go_wp2_with fail;refine(zdr _ _ _ _ _ (tS_R.1 (tS.later k3 Bw27)).ri (by omega)).mono ?_;rintro e w33 ⟨V36,rfl,own34,bel35⟩;obtain⟨AA37,cc38,rfl,-⟩:=own34.shape;have Bw33:=zaa Bw27 bel35;have sw33:=bel35.size;go_wp2_with fail;refine⟨Bz Bw33,za9 rfl ?_⟩;go_wp2_with fail;refine⟨Bz Bw33,?_⟩;have hg:W.heap.size<w33.heap.size:=by omega
  have bx0:w33.cell? ⟨W.heap.size,0,none⟩=some (.int .i64 0):=by rw[bel35.cell (by show W.heap.size<_;omega),bel29.cell (by show W.heap.size<_;omega)];exact xU25_0
  have by0:w33.frozen? ⟨W.heap.size,0,none⟩=false:=by rw[bel35.frozen (by show W.heap.size<_;omega),bel29.frozen (by show W.heap.size<_;omega)];exact yU25_0
  have bx1:w33.cell? ⟨W.heap.size,1,none⟩=some (.slice none 0 0):=by rw[bel35.cell (by show W.heap.size<_;omega),bel29.cell (by show W.heap.size<_;omega)];exact xU25_1
  have by1:w33.frozen? ⟨W.heap.size,1,none⟩=false:=by rw[bel35.frozen (by show W.heap.size<_;omega),bel29.frozen (by show W.heap.size<_;omega)];exact yU25_1
  have bx2:w33.cell? ⟨W.heap.size,2,none⟩=some (.slice none 0 0):=by rw[bel35.cell (by show W.heap.size<_;omega),bel29.cell (by show W.heap.size<_;omega)];exact xU25_2
  have by2:w33.frozen? ⟨W.heap.size,2,none⟩=false:=by rw[bel35.frozen (by show W.heap.size<_;omega),bel29.frozen (by show W.heap.size<_;omega)];exact yU25_2
  have bx3:w33.cell? ⟨W.heap.size,3,none⟩=some (.slice none 0 0):=by rw[bel35.cell (by show W.heap.size<_;omega),bel29.cell (by show W.heap.size<_;omega)];exact xU25_3
  have by3:w33.frozen? ⟨W.heap.size,3,none⟩=false:=by rw[bel35.frozen (by show W.heap.size<_;omega),bel29.frozen (by show W.heap.size<_;omega)];exact yU25_3
  have q1:=own28;replace q1:=q1.below bel35 (by omega);have q3:=OI.os own34;refine zb9 ?_;go_wp2_with fail
  try refine⟨rfl,?_⟩
  go_meet
  obtain⟨U_,hU_,d0,d1,d2,d3,df,dch,dsz⟩:=box4 bx0 bx1 bx2 bx3 by0 by1 by2 by3 (.int .i64 a0) (.slice AA31 x1.length cc32) (.slice none 0 0) (.slice AA37 x3.length cc38);rw[<-hU_];exact⟨W.heap.size,AA31,cc32,AA37,cc38,_,_,_,_,rfl,by omega,by omega,d0,d1,d2,d3,df,sl_O.2 (q1.chg dch (fun b hb (e:b=_)=>by have:=hb.1;have:=hb.2;omega)),tS_O.2 (q3.chg dch (fun b hb (e:b=_)=>by have:=hb.1;have:=hb.2;omega)),Bw33.trans (dch.toBelow (fun k (hk:k=_)=>by omega) (by omega)),by omega,by omega,by omega,by omega,by omega,by omega⟩
 case rest=>
  obtain⟨w0,rfl⟩:∃u_:Yw,u_=wc:=⟨_,rfl⟩;obtain⟨g,A1',c1',A3',c3',l1,u1,l3,u3,rfl,hg1,hg2,d0,d1,d2,d3,df,o1,o3,BW,s1,s2,s3,s4_,s5_,sg⟩:=hcut;have sW:=BW.size;replace r0:w0.cell? ⟨w.heap.size+1,0,none⟩=some (.int .i64 0):=by rw[BW.cell (by show w.heap.size+1<_;omega)];exact r0
  replace rf0:w0.frozen? ⟨w.heap.size+1,0,none⟩=false:=by rw[BW.frozen (by show w.heap.size+1<_;omega)];exact rf0
  replace r1:w0.cell? ⟨w.heap.size+1,1,none⟩=some (.slice none 0 0):=by rw[BW.cell (by show w.heap.size+1<_;omega)];exact r1
  replace rf1:w0.frozen? ⟨w.heap.size+1,1,none⟩=false:=by rw[BW.frozen (by show w.heap.size+1<_;omega)];exact rf1
  replace r2:w0.cell? ⟨w.heap.size+1,2,none⟩=some (.slice none 0 0):=by rw[BW.cell (by show w.heap.size+1<_;omega)];exact r2
  replace rf2:w0.frozen? ⟨w.heap.size+1,2,none⟩=false:=by rw[BW.frozen (by show w.heap.size+1<_;omega)];exact rf2
  replace r3:w0.cell? ⟨w.heap.size+1,3,none⟩=some (.slice none 0 0):=by rw[BW.cell (by show w.heap.size+1<_;omega)];exact r3
  replace rf3:w0.frozen? ⟨w.heap.size+1,3,none⟩=false:=by rw[BW.frozen (by show w.heap.size+1<_;omega)];exact rf3
  replace p2:w0.cell? ⟨w.heap.size,2,none⟩=some (.slice A2 n2 c2):=by rw[BW.cell (by show w.heap.size<_;omega)];exact p2
  have k4:=sl_R.1 k2;have B00:=zaa B0 BW;have hl2:=Aq (sl_R.1 k2).cap.1;have df2:=df 2 (by omega);clear p0 p1 p3 pp0 pp1 pp3 D1 hd0 k1 k3 HW k2;go_wp2_with fail
  go_loopw [18] (fun i wr=>∃(k:Nat) (v:Value),i=.int .i64 k/\k<=n2/\OS tN 169 wr (Iv w0.heap.size wr.heap.size) v (x2.take k)/\Gr g 2 w0 wr v) (fun i _=>n2-(intOf i).toNat)
  case atStart=>exact⟨0,_,rfl,by omega,OS.nil _ _ _ _,Gr.start d2⟩
  case round=>
   obtain⟨k,v,rfl,hk,own,G⟩:=hrel;have sr:=G.chg.size;have Bwr:Below W.heap.size W wr:=BW.trans (G.chg.toBelow (fun b (hb:b=g)=>by omega) (by omega))
   by_cases hlt:k<n2
   ·obtain⟨bb,o,b0,b1,b2,A5,c5,y3,rfl,hbb,X,e0,e1,e2,e3,hr3,h3b⟩:=zfl (k4.below Bwr) z2 hlt;have hbw:bb<wr.heap.size:=(by omega);obtain⟨V,hV⟩:∃V,V=wr.alloc (.cells #[.int .i64 b0,.int .i64 b1,.int .i64 b2,.slice A5 y3.length c5] 169):=⟨_,rfl⟩;have BV:Below wr.heap.size wr V:=(by rw[hV];exact(Aw _ _).alloc (Aj _) _);have sV:V.heap.size=wr.heap.size+1:=(by rw[hV];simp);have n0:V.cell? ⟨wr.heap.size,0,none⟩=some (.int .i64 b0):=(by rw[hV];simp[go_sem]);have n1:V.cell? ⟨wr.heap.size,1,none⟩=some (.int .i64 b1):=(by rw[hV];simp[go_sem]);have n2_:V.cell? ⟨wr.heap.size,2,none⟩=some (.int .i64 b2):=(by rw[hV];simp[go_sem]);have n3_:V.cell? ⟨wr.heap.size,3,none⟩=some (.slice A5 y3.length c5):=(by rw[hV];simp[go_sem]);have hvg:V.cell? ⟨g,2,none⟩=some v:=(by rw[BV.cell (by show g<_;omega)];exact G.cel);have m0:=Ag n0;have m1:=Ag n1;have m2:=Ag n2_;have m3:=Ag n3_;have mg:=Ag hvg;have HV:=Aq hV;have DV:Below wr.heap.size wr V.drew:=zad BV 1;have DD:Below V.heap.size V V.drew:=zad (Aw _ _) 1;have hdv:V.drew.heap.size=V.heap.size:=rfl;have hri:=(hr3.more (by omega)).later DV;have hpt:=Aq (M.take_at X.out);have hxl:(x2.take k).length<=100000000:=(by rw[Ey];omega);clear hV;go_wp2_with fail;rw[<-HV.out]
    (refine zec [0] [1,2] 2 (.one 3 (.one 4 .rest)) [5,6,7] (by kernel_rfl) (by kernel_rfl) ?_;simp only[zak];simp only[List.filterMap,By,Bg];(repeat (go_big_quiet_step (fail)));refine Cv ?_;(repeat (go_big_quiet_step (fail)));refine Cv ?_)
    refine za9 rfl ?_;go_wp2_with fail;refine(zuh _ _ _ _ _ _ _ _ hri (by omega)).mono ?_;rintro e w2 ⟨A6,n6,c6,rfl,on,bel2⟩;have s2_:=bel2.size;have Bw2:=zaa DV bel2;have own2:=own.below Bw2 (Aj _);have G2:=G.below Bw2 (by omega);have BVw:=zaa DD bel2;go_wp2_with fail;refine⟨Bz BVw,za9 rfl ?_⟩;go_wp2_with fail;refine⟨Bz (zaa BVw ((Aw _ _).alloc (Aj _) _)),zb9 ?_⟩;go_wp2_with (at_builtin;refine za8 zg1 #[.int .i64 b0,.int .i64 b1,.int .i64 b2,.slice A6 n6 c6] rfl _ _ rfl own2 on (Iv.apart (by omega)) rfl rfl (by unfold maxLen;omega) (by omega) ?_;intro v3 w4 own4 ch4;obtain⟨A7,c7,e7⟩:=own4.shape;obtain⟨n7,hn7⟩:∃n7,n7=(x2.take k++[(b0,b1,b2,y3)]).length:=⟨_,rfl⟩;rw[<-hn7]at e7;subst e7;have HN7:=Aq hn7;clear hn7;have G4:=G2.row ch4 (by omega) (fun b hb=>⟨hb.1,by have:=hb.1;omega⟩);have hc4:=G4.cel;have hf4:w4.frozen? ⟨g,2,none⟩=false:=(by rw[G4.fro];exact df2));go_roundw
    case rel=>
     have s4:=ch4.size;refine⟨k+1,_,by go_num,by omega,?_,G4.set df2 _⟩;rw[hpt.out];refine(own4.chg (Chg.set (F:=fun b=>b=g) w4 g 2 _ rfl) (fun b hb (e:b=g)=>?_)).wide (fun b hb=>?_)
     ·rcases hb with hb|hb|hb
      ·have:=hb.1;omega
      ·have:=hb.1;omega
      omega
     have e9:(w4.setCell ⟨g,2,none⟩ (.slice A7 n7 c7)).heap.size=w4.heap.size:=(by simp);rcases hb with hb|hb|hb
     ·exact⟨hb.1,by have:=hb.2;omega⟩
     ·exact⟨by have:=hb.1;omega,by have:=hb.2;omega⟩
     exact⟨by omega,by omega⟩
    case measure=>simp[intOf];omega
   obtain rfl:k=n2:=by omega
   rw[Cg (by rw[hl2.out];exact Aj _)]at own;have b0:wr.cell? ⟨g,0,none⟩=some (.int .i64 a0):=(by rw[G.oth 0 (by decide)];exact d0);have b1:wr.cell? ⟨g,1,none⟩=some (.slice A1' x1.length c1'):=(by rw[G.oth 1 (by decide)];exact d1);have b2:=G.cel;have b3:wr.cell? ⟨g,3,none⟩=some (.slice A3' x3.length c3'):=(by rw[G.oth 3 (by decide)];exact d3);have R0:wr.cell? ⟨w.heap.size+1,0,none⟩=some (.int .i64 0):=(by rw[G.chg.cell (by omega) (by omega)];exact r0);have S0:wr.frozen? ⟨w.heap.size+1,0,none⟩=false:=(by rw[G.chg.frozen (by omega) (by omega)];exact rf0);have R1:wr.cell? ⟨w.heap.size+1,1,none⟩=some (.slice none 0 0):=(by rw[G.chg.cell (by omega) (by omega)];exact r1);have S1:wr.frozen? ⟨w.heap.size+1,1,none⟩=false:=(by rw[G.chg.frozen (by omega) (by omega)];exact rf1);have R2:wr.cell? ⟨w.heap.size+1,2,none⟩=some (.slice none 0 0):=(by rw[G.chg.cell (by omega) (by omega)];exact r2);have S2:wr.frozen? ⟨w.heap.size+1,2,none⟩=false:=(by rw[G.chg.frozen (by omega) (by omega)];exact rf2);have R3:wr.cell? ⟨w.heap.size+1,3,none⟩=some (.slice none 0 0):=(by rw[G.chg.cell (by omega) (by omega)];exact r3);have S3:wr.frozen? ⟨w.heap.size+1,3,none⟩=false:=(by rw[G.chg.frozen (by omega) (by omega)];exact rf3);obtain⟨A2',c2',rfl⟩:=own.shape;have oq1:tSS.O wr (Iv l1 u1) [.slice A1' x1.length c1'] x1:=sl_O.2 ((sl_O.1 o1).chg G.chg (fun b hb (e:b=g)=>by have:=hb.1;have:=hb.2;omega));have oq3:tS.O wr (Iv l3 u3) [.slice A3' x3.length c3'] x3:=tS_O.2 ((tS_O.1 o3).chg G.chg (fun b hb (e:b=g)=>by have:=hb.1;have:=hb.2;omega));obtain⟨U_,hU_,y0,y1,y2,y3,yf,ych,ysz⟩:=box4 R0 R1 R2 R3 S0 S1 S2 S3 (.int .i64 a0) (.slice A1' x1.length c1') (.slice A2' x2.length c2') (.slice A3' x3.length c3');have HU:=Aq hU_;clear hU_;go_wp2;rw[<-HU.out];have y5:=yf 0 (by omega);have y6:=yf 1 (by omega);have y7:=yf 2 (by omega);have y8:=yf 3 (by omega);refine Cy (v:=.agg #[.int .i64 a0,.slice A1' x1.length c1',.slice A2' x2.length c2',.slice A3' x3.length c3']) (by simp[results,Tryz.results92,go_sem,y0,y1,y2,y3,y5,y6,y7,y8]) rfl ?_;have hz:∀b,b≠w.heap.size+1->¬(fun b=>b=w.heap.size+1) b:=fun b h=>h
   refine⟨A1',x1.length,c1',A2',x2.length,c2',A3',x3.length,c3',rfl,tP_O.2 ⟨_,_,_,_,_,_,_,_,_,Iv l1 u1,Iv w0.heap.size wr.heap.size,Iv l3 u3,rfl,tSS.ochg oq1 ych (fun b hb (e:b=_)=>by have:=hb.1;omega),tNS.ochg (sl_O.2 own) ych (fun b hb (e:b=_)=>by have:=hb.1;omega),tS.ochg oq3 ych (fun b hb (e:b=_)=>by have:=hb.1;omega),Iv.mono (by omega) (by omega),Iv.mono (by omega) (by omega),Iv.mono (by omega) (by omega),fun b hb hb2=>by have:=hb.2;have:=hb2.1;omega,fun b hb hb2=>by have:=hb.2;have:=hb2.1;omega,fun b hb hb2=>by have:=hb2.2;have:=hb.1;omega⟩,?_⟩;exact(zaa B0 Bwr).trans (ych.toBelow (fun b (hb:b=_)=>by omega) (by omega))
theorem zoj(a0:Int)(A1:Yo)(n1 c1:Nat)(A2:Yo)(n2 c2:Nat)(A3:Yo)(n3 c3:Nat)(A4:Yo)(n4 c4:Nat)(A5:Yo)(n5 c5:Nat)(x1:List (List Int))(x2:List (List zap))(x3:List Int)(x4:List zae)(x5:List zag)(w:Yw) (h1:tSS.R w w.heap.size [.slice A1 n1 c1] x1)(h2:tTS.R w w.heap.size [.slice A2 n2 c2] x2)(h3:tS.R w w.heap.size [.slice A3 n3 c3] x3)(h4:tPS.R w w.heap.size [.slice A4 n4 c4] x4)(h5:tM.R w w.heap.size [.slice A5 n5 c5] x5)(hn:hZ.sz ((a0,x1,x2,x3,x4,x5):Sess)<=100000000):
 Calls Tryz.prog 35 #[.agg #[.int .i64 a0,.slice A1 n1 c1,.slice A2 n2 c2,.slice A3 n3 c3,.slice A4 n4 c4,.slice A5 n5 c5]] w fun e w'=>∃A1' n1' c1' A2' n2' c2' A3' n3' c3' A4' n4' c4' A5' n5' c5',e=.returned (.agg #[.int .i64 a0,.slice A1' n1' c1',.slice A2' n2' c2',.slice A3' n3' c3',.slice A4' n4' c4',.slice A5' n5' c5'])/\tZ.O w' (Iv w.heap.size w'.heap.size) [.int .i64 a0,.slice A1' n1' c1',.slice A2' n2' c2',.slice A3' n3' c3',.slice A4' n4' c4',.slice A5' n5' c5'] (a0,x1,x2,x3,x4,x5)/\Below w.heap.size w w':=by
 obtain⟨W_,hW_,B0_,sW_,p0,p1,p2,p3,p4,p5,pf⟩:=zcs w (.int .i64 a0) (.slice A1 n1 c1) (.slice A2 n2 c2) (.slice A3 n3 c3) (.slice A4 n4 c4) (.slice A5 n5 c5) 38;obtain⟨W,hW,B1_,sW,r0,r1,r2,r3,r4,r5,rf⟩:=zcs W_ (.int .i64 0) (.slice none 0 0) (.slice none 0 0) (.slice none 0 0) (.slice none 0 0) (.slice none 0 0) 38;have B0:=zaa B0_ B1_;rw[hW_]at hW;clear hW_;replace p0:W.cell? ⟨w.heap.size,0,none⟩=some (.int .i64 a0):=by rw[B1_.cell (by show w.heap.size<_;omega)];exact p0
 replace p1:W.cell? ⟨w.heap.size,1,none⟩=some (.slice A1 n1 c1):=by rw[B1_.cell (by show w.heap.size<_;omega)];exact p1
 replace p2:W.cell? ⟨w.heap.size,2,none⟩=some (.slice A2 n2 c2):=by rw[B1_.cell (by show w.heap.size<_;omega)];exact p2
 replace p3:W.cell? ⟨w.heap.size,3,none⟩=some (.slice A3 n3 c3):=by rw[B1_.cell (by show w.heap.size<_;omega)];exact p3
 replace p4:W.cell? ⟨w.heap.size,4,none⟩=some (.slice A4 n4 c4):=by rw[B1_.cell (by show w.heap.size<_;omega)];exact p4
 replace p5:W.cell? ⟨w.heap.size,5,none⟩=some (.slice A5 n5 c5):=by rw[B1_.cell (by show w.heap.size<_;omega)];exact p5
 obtain⟨rb,hrb⟩:∃rb,rb=W_.heap.size:=⟨_,rfl⟩;have hrb2:rb=w.heap.size+1:=by omega
 rw[<-hrb]at r0 r1 r2 r3 r4 r5 rf;clear hrb;subst hrb2;have lW:w.heap.size+1<W.heap.size:=by omega
 clear sW sW_ B0_ B1_ pf;have lv:w.heap.size<W.heap.size:=by omega
 have HW:=Aq hW;clear hW;have k1:=tSS.later h1 B0;have k2:=sl_R.1 (tTS.later h2 B0);have k3:=tS.later h3 B0;have k4:=sl_R.1 (tPS.later h4 B0);have k5:=sl_R.1 (tM.later h5 B0);have L1:=Aq (sl_R.1 k1).cap.1;have L2:=Aq k2.cap.1;have L3:=Aq (zcu k3);have L4:=Aq k4.cap.1;have L5:=Aq k5.cap.1;rw[zeb]at hn;have z1:hSS.sz x1<=100000000:=by omega
 have z2:hTS.sz x2<=100000000:=by omega
 have z3:x3.length<=100000000:=by rw[zb3]at hn;omega
 have z4:hPS.sz x4<=100000000:=by omega
 have z5:hM.sz x5<=100000000:=by omega
 have hb1:Hid (∀x∈x1,x.length<=1000000000):=Aq (fun x hx=>by
  obtain⟨i,hi⟩:=Fk hx;have:=hS.szL_at hi;have e:x1.length+hS.szL x1=hSS.sz x1:=rfl;rw[zb3]at this;omega)
 have bn1:n1<=100000000:=by have e:x1.length+hS.szL x1=hSS.sz x1:=rfl;have:=L1.out;omega
 have bn2:n2<=100000000:=by have e:x2.length+hT.szL x2=hTS.sz x2:=rfl;have:=L2.out;omega
 have bn3:n3<=100000000:=by have:=L3.out;omega
 have bn4:n4<=100000000:=by have e:x4.length+hP.szL x4=hPS.sz x4:=rfl;have:=L4.out;omega
 have bn5:n5<=100000000:=by have e:x5.length+hSt.szL x5=hM.sz x5:=rfl;have:=L5.out;omega
 have pp0:=Ag p0;have pp1:=Ag p1;have pp3:=Ag p3;have D1:Below W.heap.size W W.drew:=zad (Aw _ _) 1;have hd0:W.drew.heap.size=W.heap.size:=rfl;clear h1 h2 h3 h4 h5 hn
 go_enter Tryz.func35,Tryz.ntmps35
 go_wp2_with fail;rw[<-HW.out]
 go_cut [3] (fun q3 wx=>∃(g:Nat) (A1':Yo) (c1':Nat) (A3':Yo) (c3' l1 u1 l3 u3:Nat),q3=.pointer (some ⟨g,0,none⟩)/\W.heap.size<=g/\g<wx.heap.size/\wx.cell? ⟨g,0,none⟩=some (.int .i64 a0)/\wx.cell? ⟨g,1,none⟩=some (.slice A1' x1.length c1')/\wx.cell? ⟨g,2,none⟩=some (.slice none 0 0)/\wx.cell? ⟨g,3,none⟩=some (.slice A3' x3.length c3')/\wx.cell? ⟨g,4,none⟩=some (.slice none 0 0)/\wx.cell? ⟨g,5,none⟩=some (.slice none 0 0)/\(∀j,wx.frozen? ⟨g,j,none⟩=false)/\tSS.O wx (Iv l1 u1) [.slice A1' x1.length c1'] x1/\tS.O wx (Iv l3 u3) [.slice A3' x3.length c3'] x3/\Below W.heap.size W wx/\W.heap.size<=l1/\l1<=u1/\u1<=l3/\l3<=u3/\u3<=wx.heap.size/\(g<l1\/(u1<=g/\g<l3)\/u3<=g))
 case first=>
  clear p2 p4 p5 r0 r1 r2 r3 r4 r5 rf k2 k4 k5;go_wp2_with fail
  (refine zec [0,2,5] [1,3,6] 4 (.two 4 (.two 7 (.two 8 (.one 9 .rest) 9 (.one 8 .rest)) 9 (.one 7 (.one 8 .rest))) 9 (.one 4 (.one 7 (.one 8 .rest)))) [10] (by kernel_rfl) (by kernel_rfl) ?_;simp only[zak];simp only[List.filterMap,By,Bg];(repeat (go_big_quiet_step (fail)));refine Cv ?_;(repeat (go_big_quiet_step (fail)));refine Cv ?_)
  refine zes rfl rfl ?_ ?_
  ·go_wp2_with fail;refine(zhe _ _ _ _ _ (tSS.later k1 D1) z1).mono ?_;rintro e w_1 ⟨V_4,rfl,own_2,bel_3⟩;obtain⟨AA_5,cc_6,rfl⟩:=own_2.shape;have Bw_1:=zaa D1 bel_3;have sw_1:=bel_3.size;go_wp2_with fail;refine⟨Bz Bw_1,zes rfl rfl ?_ ?_⟩
   ·go_wp2_with fail;refine(zdr _ _ _ _ _ (tS_R.1 (tS.later k3 Bw_1)).ri (by omega)).mono ?_;rintro e w_7 ⟨V_10,rfl,own_8,bel_9⟩;obtain⟨AA_11,cc_12,rfl,-⟩:=own_8.shape;have Bw_7:=zaa Bw_1 bel_9;have sw_7:=bel_9.size;go_wp2_with fail;refine⟨Bz Bw_7,zes rfl rfl ?_ ?_⟩
    ·go_wp2_with fail;refine⟨Bz Bw_7,za9 rfl ?_⟩;obtain⟨U_13,hU_13,Bx_14,sU_13,x0U_13,x1U_13,x2U_13,x3U_13,x4U_13,x5U_13,xfU_13⟩:=zcs w_7 (.int .i64 0) (.slice none 0 0) (.slice none 0 0) (.slice none 0 0) (.slice none 0 0) (.slice none 0 0) 38;have BU_13:=zaa Bw_7 Bx_14;go_wp2_with fail;rw[<-hU_13];clear hU_13;refine⟨Bz BU_13,?_⟩;have bx0:=x0U_13;have bx1:=x1U_13;have bx2:=x2U_13;have bx3:=x3U_13;have bx4:=x4U_13;have bx5:=x5U_13;have bxf:=xfU_13;have by0:=bxf 0;have by1:=bxf 1;have by2:=bxf 2;have by3:=bxf 3;have by4:=bxf 4;have by5:=bxf 5;have q1:=own_2;replace q1:=q1.below bel_9 (by omega);replace q1:=q1.below Bx_14 (by omega);have q3:=OI.os own_8;replace q3:=q3.below Bx_14 (by omega);refine zb9 ?_;go_wp2_with fail
     try refine⟨rfl,?_⟩
     go_meet
     obtain⟨U_,hU_,d0,d1,d2,d3,d4,d5,df,dch,dsz⟩:=box6 bx0 bx1 bx2 bx3 bx4 bx5 bxf (.int .i64 a0) (.slice AA_5 x1.length cc_6) (.slice none 0 0) (.slice AA_11 x3.length cc_12) (.slice none 0 0) (.slice none 0 0);rw[<-hU_];exact⟨w_7.heap.size,AA_5,cc_6,AA_11,cc_12,_,_,_,_,rfl,by omega,by omega,d0,d1,d2,d3,d4,d5,df,sl_O.2 (q1.chg dch (fun b hb (e:b=_)=>by have:=hb.1;have:=hb.2;omega)),tS_O.2 (q3.chg dch (fun b hb (e:b=_)=>by have:=hb.1;have:=hb.2;omega)),BU_13.trans (dch.toBelow (fun k (hk:k=_)=>by omega) (by omega)),by omega,by omega,by omega,by omega,by omega,by omega⟩
    obtain⟨U_15,hU_15,Bx_16,sU_15,x0U_15,x1U_15,x2U_15,x3U_15,x4U_15,x5U_15,xfU_15⟩:=zcs w_7 (.int .i64 0) (.slice none 0 0) (.slice none 0 0) (.slice none 0 0) (.slice none 0 0) (.slice none 0 0) 38;have BU_15:=zaa Bw_7 Bx_16;go_wp2_with fail;rw[<-hU_15];clear hU_15;refine⟨Bz BU_15,za9 rfl ?_⟩;go_wp2_with fail;refine⟨Bz BU_15,?_⟩;have bx0:=x0U_15;have bx1:=x1U_15;have bx2:=x2U_15;have bx3:=x3U_15;have bx4:=x4U_15;have bx5:=x5U_15;have bxf:=xfU_15;have by0:=bxf 0;have by1:=bxf 1;have by2:=bxf 2;have by3:=bxf 3;have by4:=bxf 4;have by5:=bxf 5;have q1:=own_2;replace q1:=q1.below bel_9 (by omega);replace q1:=q1.below Bx_16 (by omega);have q3:=OI.os own_8;replace q3:=q3.below Bx_16 (by omega);refine zb9 ?_;go_wp2_with fail
    try refine⟨rfl,?_⟩
    go_meet
    obtain⟨U_,hU_,d0,d1,d2,d3,d4,d5,df,dch,dsz⟩:=box6 bx0 bx1 bx2 bx3 bx4 bx5 bxf (.int .i64 a0) (.slice AA_5 x1.length cc_6) (.slice none 0 0) (.slice AA_11 x3.length cc_12) (.slice none 0 0) (.slice none 0 0);rw[<-hU_];exact⟨w_7.heap.size,AA_5,cc_6,AA_11,cc_12,_,_,_,_,rfl,by omega,by omega,d0,d1,d2,d3,d4,d5,df,sl_O.2 (q1.chg dch (fun b hb (e:b=_)=>by have:=hb.1;have:=hb.2;omega)),tS_O.2 (q3.chg dch (fun b hb (e:b=_)=>by have:=hb.1;have:=hb.2;omega)),BU_15.trans (dch.toBelow (fun k (hk:k=_)=>by omega) (by omega)),by omega,by omega,by omega,by omega,by omega,by omega⟩
   obtain⟨U_17,hU_17,Bx_18,sU_17,x0U_17,x1U_17,x2U_17,x3U_17,x4U_17,x5U_17,xfU_17⟩:=zcs w_1 (.int .i64 0) (.slice none 0 0) (.slice none 0 0) (.slice none 0 0) (.slice none 0 0) (.slice none 0 0) 38;have BU_17:=zaa Bw_1 Bx_18;go_wp2_with fail;rw[<-hU_17];clear hU_17;refine⟨Bz BU_17,za9 rfl ?_⟩;go_wp2_with fail;refine(zdr _ _ _ _ _ (tS_R.1 (tS.later k3 BU_17)).ri (by omega)).mono ?_;rintro e w_19 ⟨V_22,rfl,own_20,bel_21⟩;obtain⟨AA_23,cc_24,rfl,-⟩:=own_20.shape;have Bw_19:=zaa BU_17 bel_21;have sw_19:=bel_21.size;go_wp2_with fail;refine⟨Bz Bw_19,za9 rfl ?_⟩;go_wp2_with fail;refine⟨Bz Bw_19,?_⟩;have bx0:w_19.cell? ⟨w_1.heap.size,0,none⟩=some (.int .i64 0):=(by rw[bel_21.cell (by show w_1.heap.size<_;omega)];exact x0U_17);have bx1:w_19.cell? ⟨w_1.heap.size,1,none⟩=some (.slice none 0 0):=(by rw[bel_21.cell (by show w_1.heap.size<_;omega)];exact x1U_17);have bx2:w_19.cell? ⟨w_1.heap.size,2,none⟩=some (.slice none 0 0):=(by rw[bel_21.cell (by show w_1.heap.size<_;omega)];exact x2U_17);have bx3:w_19.cell? ⟨w_1.heap.size,3,none⟩=some (.slice none 0 0):=(by rw[bel_21.cell (by show w_1.heap.size<_;omega)];exact x3U_17);have bx4:w_19.cell? ⟨w_1.heap.size,4,none⟩=some (.slice none 0 0):=(by rw[bel_21.cell (by show w_1.heap.size<_;omega)];exact x4U_17);have bx5:w_19.cell? ⟨w_1.heap.size,5,none⟩=some (.slice none 0 0):=(by rw[bel_21.cell (by show w_1.heap.size<_;omega)];exact x5U_17);have bxf:∀j,w_19.frozen? ⟨w_1.heap.size,j,none⟩=false:=fun j=>by rw[bel_21.frozen (by show w_1.heap.size<_;omega)];exact xfU_17 j
   have by0:=bxf 0;have by1:=bxf 1;have by2:=bxf 2;have by3:=bxf 3;have by4:=bxf 4;have by5:=bxf 5;have q1:=own_2;replace q1:=q1.below Bx_18 (by omega);replace q1:=q1.below bel_21 (by omega);have q3:=OI.os own_20;refine zb9 ?_;go_wp2_with fail
   try refine⟨rfl,?_⟩
   go_meet
   obtain⟨U_,hU_,d0,d1,d2,d3,d4,d5,df,dch,dsz⟩:=box6 bx0 bx1 bx2 bx3 bx4 bx5 bxf (.int .i64 a0) (.slice AA_5 x1.length cc_6) (.slice none 0 0) (.slice AA_23 x3.length cc_24) (.slice none 0 0) (.slice none 0 0);rw[<-hU_];exact⟨w_1.heap.size,AA_5,cc_6,AA_23,cc_24,_,_,_,_,rfl,by omega,by omega,d0,d1,d2,d3,d4,d5,df,sl_O.2 (q1.chg dch (fun b hb (e:b=_)=>by have:=hb.1;have:=hb.2;omega)),tS_O.2 (q3.chg dch (fun b hb (e:b=_)=>by have:=hb.1;have:=hb.2;omega)),Bw_19.trans (dch.toBelow (fun k (hk:k=_)=>by omega) (by omega)),by omega,by omega,by omega,by omega,by omega,by omega⟩
  obtain⟨U_25,hU_25,Bx_26,sU_25,x0U_25,x1U_25,x2U_25,x3U_25,x4U_25,x5U_25,xfU_25⟩:=zcs W (.int .i64 0) (.slice none 0 0) (.slice none 0 0) (.slice none 0 0) (.slice none 0 0) (.slice none 0 0) 38;obtain⟨V_27,hV_27⟩:∃V,V=U_25.drew:=⟨_,rfl⟩;have BV_27:Below W.heap.size W V_27:=by rw[hV_27];exact zad Bx_26 1
  have sV_27:V_27.heap.size=W.heap.size+1:=by rw[hV_27];exact sU_25
  have x0V_27:V_27.cell? ⟨W.heap.size,0,none⟩=some (.int .i64 0):=by rw[hV_27];exact x0U_25
  have x1V_27:V_27.cell? ⟨W.heap.size,1,none⟩=some (.slice none 0 0):=by rw[hV_27];exact x1U_25
  have x2V_27:V_27.cell? ⟨W.heap.size,2,none⟩=some (.slice none 0 0):=by rw[hV_27];exact x2U_25
  have x3V_27:V_27.cell? ⟨W.heap.size,3,none⟩=some (.slice none 0 0):=by rw[hV_27];exact x3U_25
  have x4V_27:V_27.cell? ⟨W.heap.size,4,none⟩=some (.slice none 0 0):=by rw[hV_27];exact x4U_25
  have x5V_27:V_27.cell? ⟨W.heap.size,5,none⟩=some (.slice none 0 0):=by rw[hV_27];exact x5U_25
  have xfV_27:∀j,V_27.frozen? ⟨W.heap.size,j,none⟩=false:=by rw[hV_27];exact xfU_25
  rw[hU_25]at hV_27;clear x0U_25 x1U_25 x2U_25 x3U_25 x4U_25 x5U_25 xfU_25;go_wp2_with fail;rw[<-hV_27];clear hV_27 hU_25 Bx_26 sU_25;refine⟨Bz BV_27,za9 rfl ?_⟩;go_wp2_with fail;refine(zhe _ _ _ _ _ (tSS.later k1 BV_27) z1).mono ?_;rintro e w_28 ⟨V_31,rfl,own_29,bel_30⟩;obtain⟨AA_32,cc_33,rfl⟩:=own_29.shape;have Bw_28:=zaa BV_27 bel_30;have sw_28:=bel_30.size;go_wp2_with fail;refine⟨Bz Bw_28,za9 rfl ?_⟩;go_wp2_with fail;refine(zdr _ _ _ _ _ (tS_R.1 (tS.later k3 Bw_28)).ri (by omega)).mono ?_;rintro e w_34 ⟨V_37,rfl,own_35,bel_36⟩;obtain⟨AA_38,cc_39,rfl,-⟩:=own_35.shape;have Bw_34:=zaa Bw_28 bel_36;have sw_34:=bel_36.size;go_wp2_with fail;refine⟨Bz Bw_34,za9 rfl ?_⟩;go_wp2_with fail;refine⟨Bz Bw_34,?_⟩;have bx0:w_34.cell? ⟨W.heap.size,0,none⟩=some (.int .i64 0):=by rw[bel_36.cell (by show W.heap.size<_;omega),bel_30.cell (by show W.heap.size<_;omega)];exact x0V_27
  have bx1:w_34.cell? ⟨W.heap.size,1,none⟩=some (.slice none 0 0):=by rw[bel_36.cell (by show W.heap.size<_;omega),bel_30.cell (by show W.heap.size<_;omega)];exact x1V_27
  have bx2:w_34.cell? ⟨W.heap.size,2,none⟩=some (.slice none 0 0):=by rw[bel_36.cell (by show W.heap.size<_;omega),bel_30.cell (by show W.heap.size<_;omega)];exact x2V_27
  have bx3:w_34.cell? ⟨W.heap.size,3,none⟩=some (.slice none 0 0):=by rw[bel_36.cell (by show W.heap.size<_;omega),bel_30.cell (by show W.heap.size<_;omega)];exact x3V_27
  have bx4:w_34.cell? ⟨W.heap.size,4,none⟩=some (.slice none 0 0):=by rw[bel_36.cell (by show W.heap.size<_;omega),bel_30.cell (by show W.heap.size<_;omega)];exact x4V_27
  have bx5:w_34.cell? ⟨W.heap.size,5,none⟩=some (.slice none 0 0):=by rw[bel_36.cell (by show W.heap.size<_;omega),bel_30.cell (by show W.heap.size<_;omega)];exact x5V_27
  have bxf:∀j,w_34.frozen? ⟨W.heap.size,j,none⟩=false:=fun j=>by rw[bel_36.frozen (by show W.heap.size<_;omega),bel_30.frozen (by show W.heap.size<_;omega)];exact xfV_27 j
  have by0:=bxf 0;have by1:=bxf 1;have by2:=bxf 2;have by3:=bxf 3;have by4:=bxf 4;have by5:=bxf 5;have q1:=own_29;replace q1:=q1.below bel_36 (by omega);have q3:=OI.os own_35;refine zb9 ?_;go_wp2_with fail
  try refine⟨rfl,?_⟩
  go_meet
  obtain⟨U_,hU_,d0,d1,d2,d3,d4,d5,df,dch,dsz⟩:=box6 bx0 bx1 bx2 bx3 bx4 bx5 bxf (.int .i64 a0) (.slice AA_32 x1.length cc_33) (.slice none 0 0) (.slice AA_38 x3.length cc_39) (.slice none 0 0) (.slice none 0 0);rw[<-hU_];exact⟨W.heap.size,AA_32,cc_33,AA_38,cc_39,_,_,_,_,rfl,by omega,by omega,d0,d1,d2,d3,d4,d5,df,sl_O.2 (q1.chg dch (fun b hb (e:b=_)=>by have:=hb.1;have:=hb.2;omega)),tS_O.2 (q3.chg dch (fun b hb (e:b=_)=>by have:=hb.1;have:=hb.2;omega)),Bw_34.trans (dch.toBelow (fun k (hk:k=_)=>by omega) (by omega)),by omega,by omega,by omega,by omega,by omega,by omega⟩
 case rest=>
  obtain⟨w0,rfl⟩:∃u_:Yw,u_=wc:=⟨_,rfl⟩;obtain⟨g,A1',c1',A3',c3',l1,u1,l3,u3,rfl,hg1,hg2,d0,d1,d2,d3,d4,d5,df,o1,o3,BW,s1,s2,s3,s4_,s5_,sg⟩:=hcut;have sW0:=BW.size;replace r0:w0.cell? ⟨w.heap.size+1,0,none⟩=some (.int .i64 0):=by rw[BW.cell (by show w.heap.size+1<_;omega)];exact r0
  replace r1:w0.cell? ⟨w.heap.size+1,1,none⟩=some (.slice none 0 0):=by rw[BW.cell (by show w.heap.size+1<_;omega)];exact r1
  replace r2:w0.cell? ⟨w.heap.size+1,2,none⟩=some (.slice none 0 0):=by rw[BW.cell (by show w.heap.size+1<_;omega)];exact r2
  replace r3:w0.cell? ⟨w.heap.size+1,3,none⟩=some (.slice none 0 0):=by rw[BW.cell (by show w.heap.size+1<_;omega)];exact r3
  replace r4:w0.cell? ⟨w.heap.size+1,4,none⟩=some (.slice none 0 0):=by rw[BW.cell (by show w.heap.size+1<_;omega)];exact r4
  replace r5:w0.cell? ⟨w.heap.size+1,5,none⟩=some (.slice none 0 0):=by rw[BW.cell (by show w.heap.size+1<_;omega)];exact r5
  replace rf:∀j,w0.frozen? ⟨w.heap.size+1,j,none⟩=false:=fun j=>by rw[BW.frozen (by show w.heap.size+1<_;omega)];exact rf j
  replace p2:w0.cell? ⟨w.heap.size,2,none⟩=some (.slice A2 n2 c2):=by rw[BW.cell (by show w.heap.size<_;omega)];exact p2
  replace p4:w0.cell? ⟨w.heap.size,4,none⟩=some (.slice A4 n4 c4):=by rw[BW.cell (by show w.heap.size<_;omega)];exact p4
  replace p5:w0.cell? ⟨w.heap.size,5,none⟩=some (.slice A5 n5 c5):=by rw[BW.cell (by show w.heap.size<_;omega)];exact p5
  clear p0 p3 pp0 pp1 pp3 D1 hd0 k3 HW p1 k1;go_wp2_with fail
  go_loopw [22] (fun i wr=>∃(k:Nat) (v:Value),i=.int .i64 k/\k<=n2/\OS tT 98 wr (Iv w0.heap.size wr.heap.size) v (x2.take k)/\Gr g 2 w0 wr v) (fun i _=>n2-(intOf i).toNat)
  case atStart=>exact⟨0,_,rfl,by omega,OS.nil _ _ _ _,Gr.start d2⟩
  case round=>
   obtain⟨k,v,rfl,hk,own,G⟩:=hrel;have sr2:=G.chg.size;have Bwr2:Below W.heap.size W wr:=BW.trans (G.chg.toBelow (fun b (hb:b=g)=>by omega) (by omega));have q2:wr.cell? ⟨w.heap.size,2,none⟩=some (.slice A2 n2 c2):=by rw[G.chg.cell (by omega) (by omega)];exact p2
   by_cases hlt:k<n2
   ·obtain⟨bb,o,A7_,n7_,c7_,x,rfl,hbb,X,e0,hT_,hra,h7⟩:=zi4 (k2.below Bwr2) z2 hlt;have hpt:=Aq (M.take_at X.out);have hxl:(x2.take k).length<=100000000:=(by rw[Ey];omega);have hl:=Aq hra.len;obtain⟨V,hV,BV,sV,n0,nf⟩:=zfv wr (.slice A7_ n7_ c7_) 98;have HV:=Aq hV;clear hV;have hvg:V.cell? ⟨g,2,none⟩=some v:=(by rw[BV.cell (by show g<_;omega)];exact G.cel);have m0:=Ag n0;have mg:=Ag hvg;obtain⟨U,hU⟩:∃U,U=(V.alloc (.cells #[] 165)).drew:=⟨_,rfl⟩;have BU:Below V.heap.size V U:=(by rw[hU];exact zad ((Aw _ _).alloc (Aj _) _) 1);have sU:U.heap.size=V.heap.size+1:=(by rw[hU];simp);have h0:U.ownsRow V.heap.size 165 5 (.slice (some ⟨V.heap.size,0,none⟩) 0 0) 0 []:=(by rw[hU];exact World.ownsRow_made _ _ _ (Aj _) (by simp[maxLen]) rfl);have BwU:Below wr.heap.size wr U:=zaa BV BU;have rd:=((hra.more (show W.heap.size<=wr.heap.size by omega)).later BwU).reads;have HU:=Aq hU;clear hU;go_wp2_with fail;rw[<-HV.out]
    (refine zec [0,3] [1,4] 4 (.one 2 (.one 5 (.one 6 (.one 7 .rest)))) [8,9,10] (by kernel_rfl) (by kernel_rfl) ?_;simp only[zak];simp only[List.filterMap,By,Bg];(repeat (go_big_quiet_step (fail)));refine Cv ?_;(repeat (go_big_quiet_step (fail)));refine Cv ?_)
    refine za9 rfl ?_;go_wp2_with fail;rw[<-HU.out];refine⟨Bz BU,za9 rfl ?_⟩;go_wp2_with (at_builtin;refine zcz zc6 rfl _ _ rfl h0 (by first|rfl|(rw[sV];rfl)) rd rfl (zui _) (by unfold maxLen;omega) (by omega) (by omega) ?_;intro v1 w2 own1 gr1 bel1;rw[Nat.zero_add,List.nil_append,<-hl.out]at own1;obtain⟨A6,c6,e6,-⟩:=zb0 own1;subst e6);have s2_:=bel1.size;have BU2:=BU.trans bel1;have Bw2:Below wr.heap.size wr w2:=zaa BV BU2;refine⟨Bz BU2,za9 rfl ?_⟩;go_wp2_with fail;refine⟨Bz BU2,za9 rfl ?_⟩;go_wp2_with fail;refine⟨Bz (zaa BU2 ((Aw _ _).alloc (Aj _) _)),zb9 ?_⟩;have oT:OS tCl 165 w2 (Iv V.heap.size w2.heap.size) _ x:=OS.of_flat (OX.of_own own1);have own2:=own.below Bw2 (Aj _);have G2:=G.below Bw2 (by omega);go_wp2_with ((at_builtin;refine za8 zmd #[.slice A6 x.length c6] rfl _ _ rfl own2 (sl_O.2 oT) (Iv.apart (by omega)) rfl rfl (by unfold maxLen;omega) (by omega) ?_;intro v3 w4 own4 ch4;obtain⟨A7,c7,e7⟩:=own4.shape;obtain⟨n7,hn7⟩:∃n7,n7=(x2.take k++[x]).length:=⟨_,rfl⟩;rw[<-hn7]at e7;subst e7;have HN7:=Aq hn7;clear hn7;have G4:=G2.row ch4 (by omega) (fun b hb=>⟨hb.1,by have:=hb.1;omega⟩);have hc4:=G4.cel;have hf4:w4.frozen? ⟨g,2,none⟩=false:=(by rw[G4.fro];exact df 2)));go_roundw
    case rel=>
     have s4:=ch4.size;refine⟨k+1,_,by go_num,by omega,?_,G4.set (df 2) _⟩;rw[hpt.out];refine(own4.chg (Chg.set (F:=fun b=>b=g) w4 g 2 _ rfl) (fun b hb (e:b=g)=>?_)).wide (fun b hb=>?_)
     ·rcases hb with hb|hb|hb
      ·have:=hb.1;omega
      ·have:=hb.1;omega
      omega
     have e9:(w4.setCell ⟨g,2,none⟩ (.slice A7 n7 c7)).heap.size=w4.heap.size:=(by simp);rcases hb with hb|hb|hb
     ·exact⟨hb.1,by have:=hb.2;omega⟩
     ·exact⟨by have:=hb.1;omega,by have:=hb.2;omega⟩
     exact⟨by omega,by omega⟩
    case measure=>simp[intOf];omega
   obtain rfl:k=n2:=by omega
   rw[Cg (by rw[L2.out];exact Aj _)]at own;obtain⟨wb,rfl⟩:∃wx:Yw,wx=wr:=⟨_,rfl⟩;obtain⟨A2',c2',rfl⟩:=own.shape;replace d0:=(G.oth 0 (by decide)).trans d0;replace d1:=(G.oth 1 (by decide)).trans d1;replace d2:=G.cel;replace d3:=(G.oth 3 (by decide)).trans d3;replace d4:=(G.oth 4 (by decide)).trans d4;replace d5:=(G.oth 5 (by decide)).trans d5;replace df:∀j,wb.frozen? ⟨g,j,none⟩=false:=fun j=>(G.fro j).trans (df j)
   replace r0:wb.cell? ⟨w.heap.size+1,0,none⟩=some (.int .i64 0):=(G.chg.cell (by omega) (by omega)).trans r0;replace r1:wb.cell? ⟨w.heap.size+1,1,none⟩=some (.slice none 0 0):=(G.chg.cell (by omega) (by omega)).trans r1;replace r2:wb.cell? ⟨w.heap.size+1,2,none⟩=some (.slice none 0 0):=(G.chg.cell (by omega) (by omega)).trans r2;replace r3:wb.cell? ⟨w.heap.size+1,3,none⟩=some (.slice none 0 0):=(G.chg.cell (by omega) (by omega)).trans r3;replace r4:wb.cell? ⟨w.heap.size+1,4,none⟩=some (.slice none 0 0):=(G.chg.cell (by omega) (by omega)).trans r4;replace r5:wb.cell? ⟨w.heap.size+1,5,none⟩=some (.slice none 0 0):=(G.chg.cell (by omega) (by omega)).trans r5;replace rf:∀j,wb.frozen? ⟨w.heap.size+1,j,none⟩=false:=fun j=>(G.chg.frozen (by omega) (by omega)).trans (rf j)
   replace p4:wb.cell? ⟨w.heap.size,4,none⟩=some (.slice A4 n4 c4):=(G.chg.cell (by omega) (by omega)).trans p4;replace p5:wb.cell? ⟨w.heap.size,5,none⟩=some (.slice A5 n5 c5):=(G.chg.cell (by omega) (by omega)).trans p5;replace o3:tS.O wb (Iv l3 u3) [.slice A3' x3.length c3'] x3:=tS_O.2 ((tS_O.1 o3).chg G.chg (fun b hb (e:b=g)=>by have:=hb.1;have:=hb.2;omega));replace o1:tSS.O wb (Iv l1 u1) [.slice A1' x1.length c1'] x1:=sl_O.2 ((sl_O.1 o1).chg G.chg (fun b hb (e:b=g)=>by have:=hb.1;have:=hb.2;omega));have o2:tTS.O wb (Iv w0.heap.size wb.heap.size) _ x2:=sl_O.2 own;clear G own;go_wp2_with fail
   go_loopw [40] (fun i wr=>∃(k:Nat) (v:Value),i=.int .i64 k/\k<=n4/\OS tP 67 wr (Iv wb.heap.size wr.heap.size) v (x4.take k)/\Gr g 4 wb wr v) (fun i _=>n4-(intOf i).toNat)
   case atStart=>exact⟨0,_,rfl,by omega,OS.nil _ _ _ _,Gr.start d4⟩
   case round=>
    obtain⟨k,v,rfl,hk,own,G⟩:=hrel;have sr4:=G.chg.size;have Bwr4:Below W.heap.size W wr:=Bwr2.trans (G.chg.toBelow (fun b (hb:b=g)=>by omega) (by omega));have q4:wr.cell? ⟨w.heap.size,4,none⟩=some (.slice A4 n4 c4):=by rw[G.chg.cell (by omega) (by omega)];exact p4
    by_cases hlt:k<n4
    ·obtain⟨bb,o,b0,D1_,m1_,d1_,D2_,m2_,d2_,D3_,m3_,d3_,y1,y2,y3,rfl,hbb,X,e0,e1,e2,e3,t1,t2,t3,hz⟩:=zi5 (k4.below Bwr4) z4 hlt;have hpt:=Aq (M.take_at X.out);have hxl:(x4.take k).length<=100000000:=(by rw[Ey];omega);obtain⟨V,hV,BV,sV,n0,n1_,n2_,n3_,nf⟩:=zdm wr (.int .i64 b0) (.slice D1_ m1_ d1_) (.slice D2_ m2_ d2_) (.slice D3_ m3_ d3_) 67;have HV:=Aq hV;clear hV;have hvg:V.cell? ⟨g,4,none⟩=some v:=(by rw[BV.cell (by show g<_;omega)];exact G.cel);have m0:=Ag n0;have m1:=Ag n1_;have m2:=Ag n2_;have m3:=Ag n3_;have mg:=Ag hvg;have DV:Below wr.heap.size wr V.drew:=zad BV 1;have DD:Below V.heap.size V V.drew:=zad (Aw _ _) 1;have hdv:V.drew.heap.size=V.heap.size:=rfl;have t1_:=tSS.later (tSS.more (show W.heap.size<=wr.heap.size by omega) t1) DV;have t2_:=tNS.later (tNS.more (show W.heap.size<=wr.heap.size by omega) t2) DV;have t3_:=tS.later (tS.more (show W.heap.size<=wr.heap.size by omega) t3) DV;go_wp2_with fail;rw[<-HV.out]
     (refine zec [0] [1,2] 2 (.one 3 (.one 4 .rest)) [5,6,7] (by kernel_rfl) (by kernel_rfl) ?_;simp only[zak];simp only[List.filterMap,By,Bg];(repeat (go_big_quiet_step (fail)));refine Cv ?_;(repeat (go_big_quiet_step (fail)));refine Cv ?_)
     refine za9 rfl ?_;go_wp2_with fail;refine(zk5 _ _ _ _ _ _ _ _ _ _ _ _ _ _ t1_ t2_ t3_ hz).mono ?_;rintro e w2 ⟨H1,i1,j1,H2,i2,j2,H3,i3,j3,rfl,on,bel2⟩;have s2_:=bel2.size;have Bw2:=zaa DV bel2;have own2:=own.below Bw2 (Aj _);have G2:=G.below Bw2 (by omega);have BVw:=zaa DD bel2;go_wp2_with fail;refine⟨Bz BVw,za9 rfl ?_⟩;go_wp2_with fail;refine⟨Bz (zaa BVw ((Aw _ _).alloc (Aj _) _)),zb9 ?_⟩;go_wp2_with ((at_builtin;refine za8 zkf #[.int .i64 b0,.slice H1 i1 j1,.slice H2 i2 j2,.slice H3 i3 j3] rfl _ _ rfl own2 on (Iv.apart (by omega)) rfl rfl (by unfold maxLen;omega) (by omega) ?_;intro v3 w4 own4 ch4;obtain⟨A7,c7,e7⟩:=own4.shape;obtain⟨n7,hn7⟩:∃n7,n7=(x4.take k++[(b0,y1,y2,y3)]).length:=⟨_,rfl⟩;rw[<-hn7]at e7;subst e7;have HN7:=Aq hn7;clear hn7;have G4:=G2.row ch4 (by omega) (fun b hb=>⟨hb.1,by have:=hb.1;omega⟩);have hc4:=G4.cel;have hf4:w4.frozen? ⟨g,4,none⟩=false:=(by rw[G4.fro];exact df 4)));go_roundw
     case rel=>
      have s4:=ch4.size;refine⟨k+1,_,by go_num,by omega,?_,G4.set (df 4) _⟩;rw[hpt.out];refine(own4.chg (Chg.set (F:=fun b=>b=g) w4 g 4 _ rfl) (fun b hb (e:b=g)=>?_)).wide (fun b hb=>?_)
      ·rcases hb with hb|hb|hb
       ·have:=hb.1;omega
       ·have:=hb.1;omega
       omega
      have e9:(w4.setCell ⟨g,4,none⟩ (.slice A7 n7 c7)).heap.size=w4.heap.size:=(by simp);rcases hb with hb|hb|hb
      ·exact⟨hb.1,by have:=hb.2;omega⟩
      ·exact⟨by have:=hb.1;omega,by have:=hb.2;omega⟩
      exact⟨by omega,by omega⟩
     case measure=>simp[intOf];omega
    obtain rfl:k=n4:=by omega
    rw[Cg (by rw[L4.out];exact Aj _)]at own;obtain⟨wd,rfl⟩:∃wx:Yw,wx=wr:=⟨_,rfl⟩;obtain⟨A4',c4',rfl⟩:=own.shape;replace d0:=(G.oth 0 (by decide)).trans d0;replace d1:=(G.oth 1 (by decide)).trans d1;replace d2:=(G.oth 2 (by decide)).trans d2;replace d3:=(G.oth 3 (by decide)).trans d3;replace d4:=G.cel;replace d5:=(G.oth 5 (by decide)).trans d5;replace df:∀j,wd.frozen? ⟨g,j,none⟩=false:=fun j=>(G.fro j).trans (df j)
    replace r0:wd.cell? ⟨w.heap.size+1,0,none⟩=some (.int .i64 0):=(G.chg.cell (by omega) (by omega)).trans r0;replace r1:wd.cell? ⟨w.heap.size+1,1,none⟩=some (.slice none 0 0):=(G.chg.cell (by omega) (by omega)).trans r1;replace r2:wd.cell? ⟨w.heap.size+1,2,none⟩=some (.slice none 0 0):=(G.chg.cell (by omega) (by omega)).trans r2;replace r3:wd.cell? ⟨w.heap.size+1,3,none⟩=some (.slice none 0 0):=(G.chg.cell (by omega) (by omega)).trans r3;replace r4:wd.cell? ⟨w.heap.size+1,4,none⟩=some (.slice none 0 0):=(G.chg.cell (by omega) (by omega)).trans r4;replace r5:wd.cell? ⟨w.heap.size+1,5,none⟩=some (.slice none 0 0):=(G.chg.cell (by omega) (by omega)).trans r5;replace rf:∀j,wd.frozen? ⟨w.heap.size+1,j,none⟩=false:=fun j=>(G.chg.frozen (by omega) (by omega)).trans (rf j)
    replace p5:wd.cell? ⟨w.heap.size,5,none⟩=some (.slice A5 n5 c5):=(G.chg.cell (by omega) (by omega)).trans p5;replace o3:tS.O wd (Iv l3 u3) [.slice A3' x3.length c3'] x3:=tS_O.2 ((tS_O.1 o3).chg G.chg (fun b hb (e:b=g)=>by have:=hb.1;have:=hb.2;omega));replace o1:tSS.O wd (Iv l1 u1) [.slice A1' x1.length c1'] x1:=sl_O.2 ((sl_O.1 o1).chg G.chg (fun b hb (e:b=g)=>by have:=hb.1;have:=hb.2;omega));replace o2:tTS.O wd (Iv w0.heap.size wb.heap.size) [.slice A2' x2.length c2'] x2:=sl_O.2 ((sl_O.1 o2).chg G.chg (fun b hb (e:b=g)=>by have:=hb.1;have:=hb.2;omega));have o4:tPS.O wd (Iv wb.heap.size wd.heap.size) _ x4:=sl_O.2 own;clear G own;go_wp2_with fail
    go_loopw [56] (fun i wr=>∃(k:Nat) (v:Value),i=.int .i64 k/\k<=n5/\OS tSt 117 wr (Iv wd.heap.size wr.heap.size) v (x5.take k)/\Gr g 5 wd wr v) (fun i _=>n5-(intOf i).toNat)
    case atStart=>exact⟨0,_,rfl,by omega,OS.nil _ _ _ _,Gr.start d5⟩
    case round=>
     obtain⟨k,v,rfl,hk,own,G⟩:=hrel;have sr5:=G.chg.size;have Bwr5:Below W.heap.size W wr:=Bwr4.trans (G.chg.toBelow (fun b (hb:b=g)=>by omega) (by omega));have q5:wr.cell? ⟨w.heap.size,5,none⟩=some (.slice A5 n5 c5):=by rw[G.chg.cell (by omega) (by omega)];exact p5
     by_cases hlt:k<n5
     ·obtain⟨bb,o,s,l,A7_,n7_,c7_,us,rfl,hbb,X,e0,e1,e2,hs,hra,h7⟩:=zoi (k5.below Bwr5) z5 hlt;have hpt:=Aq (M.take_at X.out);have hxl:(x5.take k).length<=100000000:=(by rw[Ey];omega);have hl:=Aq hra.len;obtain⟨V,hV,BV,sV,n0,n1_,n2_,nf⟩:=zoh wr (.string s) (.int .i64 l) (.slice A7_ n7_ c7_) 117;have HV:=Aq hV;clear hV;obtain⟨U,hU⟩:∃U,U=V.alloc (.cells #[] 160):=⟨_,rfl⟩;have BU:Below V.heap.size V U:=(by rw[hU];exact(Aw _ _).alloc (Aj _) _);have sU:U.heap.size=V.heap.size+1:=(by rw[hU];simp);have h0:U.ownsRow V.heap.size 160 2 (.slice (some ⟨V.heap.size,0,none⟩) 0 0) 0 []:=(by rw[hU];exact World.ownsRow_made _ _ _ (Aj _) (by simp[maxLen]) rfl);have BwU:Below wr.heap.size wr U:=zaa BV BU;have rd:=((hra.more (show W.heap.size<=wr.heap.size by omega)).later BwU).reads;have HU:=Aq hU;clear hU;go_wp2_with (first|(at_builtin;rw[<-HV.out,<-HU.out];refine zcz zg0 rfl _ _ rfl h0 (by first|rfl|(rw[sV];rfl)) rd rfl (zuj _) (by unfold maxLen;omega) (by omega) (by omega) ?_;intro v1 w2 own1 gr1 bel1;rw[Nat.zero_add,List.nil_append,<-hl.out]at own1;obtain⟨A6,c6,e6,-⟩:=zb0 own1;subst e6;have s2_:=bel1.size;have Bv:=BU.trans bel1;have N0:=(Bv.cell (p:=⟨wr.heap.size,0,none⟩) (by show wr.heap.size<_;omega)).trans n0;have N1:=(Bv.cell (p:=⟨wr.heap.size,1,none⟩) (by show wr.heap.size<_;omega)).trans n1_;have N2:=(Bv.cell (p:=⟨wr.heap.size,2,none⟩) (by show wr.heap.size<_;omega)).trans n2_;have NF:=(Bv.frozen (p:=⟨wr.heap.size,2,none⟩) (by show wr.heap.size<_;omega)).trans (nf 2);have hvw2:=(G.below (zaa BV Bv) (by omega)).cel;have chS:=Chg.set (F:=fun b=>b=wr.heap.size) w2 wr.heap.size 2 (.slice A6 us.length c6) rfl;obtain⟨w3,hw3⟩:∃w3,w3=w2.setCell ⟨wr.heap.size,2,none⟩ (.slice A6 us.length c6):=⟨_,rfl⟩;rw[<-hw3]at chS;have s3_:w3.heap.size=w2.heap.size:=(by rw[hw3];simp);have Bw3:Below wr.heap.size wr w3:=(zaa BV Bv).trans (chS.toBelow (fun b (hb:b=_)=>by omega) (by omega));have own2:=own.below Bw3 (Aj _);have G2:=G.below Bw3 (by omega);have oT:OS tSd 160 w2 (Iv V.heap.size w2.heap.size) _ us:=OS.of_flat (OX.of_own own1);have on2:tSt.O w3 (Iv V.heap.size w2.heap.size) [.string s,.int .i64 l,.slice A6 us.length c6] (s,l,us):=st_O.2 ⟨A6,us.length,c6,rfl,hs,sl_O.2 (oT.chg chS (fun b hb (e:b=_)=>by have:=hb.1;omega))⟩;have HW3:=Aq hw3;clear hw3)|(at_builtin;rw[<-HW3.out];refine za8 zgm #[.string s,.int .i64 l,.slice A6 us.length c6] rfl _ _ rfl own2 on2 (Iv.apart (by omega)) rfl (by rw[s3_];rfl) (by unfold maxLen;omega) (by omega) ?_;intro v3 w4 own4 ch4;obtain⟨A7,c7,e7⟩:=own4.shape;obtain⟨n7,hn7⟩:∃n7,n7=(x5.take k++[(s,l,us)]).length:=⟨_,rfl⟩;rw[<-hn7]at e7;subst e7;have HN7:=Aq hn7;clear hn7;have G4:=G2.row ch4 (by omega) (fun b hb=>⟨hb.1,by have:=hb.1;omega⟩);have hc4:=G4.cel;have hf4:w4.frozen? ⟨g,5,none⟩=false:=(by rw[G4.fro];exact df 5)));go_roundw
      case rel=>
       have s4:=ch4.size;refine⟨k+1,_,by go_num,by omega,?_,G4.set (df 5) _⟩;rw[hpt.out];refine(own4.chg (Chg.set (F:=fun b=>b=g) w4 g 5 _ rfl) (fun b hb (e:b=g)=>?_)).wide (fun b hb=>?_)
       ·rcases hb with hb|hb|hb
        ·have:=hb.1;omega
        ·have:=hb.1;omega
        omega
       have e9:(w4.setCell ⟨g,5,none⟩ (.slice A7 n7 c7)).heap.size=w4.heap.size:=(by simp);rcases hb with hb|hb|hb
       ·exact⟨hb.1,by have:=hb.2;omega⟩
       ·exact⟨by have:=hb.1;omega,by have:=hb.2;omega⟩
       exact⟨by omega,by omega⟩
      case measure=>simp[intOf];omega
     obtain rfl:k=n5:=by omega
     rw[Cg (by rw[L5.out];exact Aj _)]at own;obtain⟨we,rfl⟩:∃wx:Yw,wx=wr:=⟨_,rfl⟩;obtain⟨A5',c5',rfl⟩:=own.shape;replace d0:=(G.oth 0 (by decide)).trans d0;replace d1:=(G.oth 1 (by decide)).trans d1;replace d2:=(G.oth 2 (by decide)).trans d2;replace d3:=(G.oth 3 (by decide)).trans d3;replace d4:=(G.oth 4 (by decide)).trans d4;replace d5:=G.cel;replace df:∀j,we.frozen? ⟨g,j,none⟩=false:=fun j=>(G.fro j).trans (df j)
     replace r0:we.cell? ⟨w.heap.size+1,0,none⟩=some (.int .i64 0):=(G.chg.cell (by omega) (by omega)).trans r0;replace r1:we.cell? ⟨w.heap.size+1,1,none⟩=some (.slice none 0 0):=(G.chg.cell (by omega) (by omega)).trans r1;replace r2:we.cell? ⟨w.heap.size+1,2,none⟩=some (.slice none 0 0):=(G.chg.cell (by omega) (by omega)).trans r2;replace r3:we.cell? ⟨w.heap.size+1,3,none⟩=some (.slice none 0 0):=(G.chg.cell (by omega) (by omega)).trans r3;replace r4:we.cell? ⟨w.heap.size+1,4,none⟩=some (.slice none 0 0):=(G.chg.cell (by omega) (by omega)).trans r4;replace r5:we.cell? ⟨w.heap.size+1,5,none⟩=some (.slice none 0 0):=(G.chg.cell (by omega) (by omega)).trans r5;replace rf:∀j,we.frozen? ⟨w.heap.size+1,j,none⟩=false:=fun j=>(G.chg.frozen (by omega) (by omega)).trans (rf j)
     replace o3:tS.O we (Iv l3 u3) [.slice A3' x3.length c3'] x3:=tS_O.2 ((tS_O.1 o3).chg G.chg (fun b hb (e:b=g)=>by have:=hb.1;have:=hb.2;omega));replace o1:tSS.O we (Iv l1 u1) [.slice A1' x1.length c1'] x1:=sl_O.2 ((sl_O.1 o1).chg G.chg (fun b hb (e:b=g)=>by have:=hb.1;have:=hb.2;omega));replace o2:tTS.O we (Iv w0.heap.size wb.heap.size) [.slice A2' x2.length c2'] x2:=sl_O.2 ((sl_O.1 o2).chg G.chg (fun b hb (e:b=g)=>by have:=hb.1;have:=hb.2;omega));replace o4:tPS.O we (Iv wb.heap.size wd.heap.size) [.slice A4' x4.length c4'] x4:=sl_O.2 ((sl_O.1 o4).chg G.chg (fun b hb (e:b=g)=>by have:=hb.1;have:=hb.2;omega));have o5:tM.O we (Iv wd.heap.size we.heap.size) _ x5:=sl_O.2 own;clear G own;have rf0:=rf 0;have rf1:=rf 1;have rf2:=rf 2;have rf3:=rf 3;have rf4:=rf 4;have rf5:=rf 5;obtain⟨U_,hU_,y0,y1,y2,y3,y4,y5,yf,ych,ysz⟩:=box6 r0 r1 r2 r3 r4 r5 rf (.int .i64 a0) (.slice A1' x1.length c1') (.slice A2' x2.length c2') (.slice A3' x3.length c3') (.slice A4' x4.length c4') (.slice A5' x5.length c5');have HU:=Aq hU_;clear hU_;go_wp2;rw[<-HU.out];have yf0:=yf 0;have yf1:=yf 1;have yf2:=yf 2;have yf3:=yf 3;have yf4:=yf 4;have yf5:=yf 5;refine Cy (v:=.agg #[.int .i64 a0,.slice A1' x1.length c1',.slice A2' x2.length c2',.slice A3' x3.length c3',.slice A4' x4.length c4',.slice A5' x5.length c5']) (by simp[results,Tryz.results35,go_sem,y0,y1,y2,y3,y4,y5,yf0,yf1,yf2,yf3,yf4,yf5]) rfl ?_;refine⟨A1',x1.length,c1',A2',x2.length,c2',A3',x3.length,c3',A4',x4.length,c4',A5',x5.length,c5',rfl,tZ_O.2 ⟨_,_,_,_,_,_,_,_,_,_,_,_,_,_,_,Iv l1 u1,Iv w0.heap.size wb.heap.size,Iv l3 u3,Iv wb.heap.size wd.heap.size,Iv wd.heap.size we.heap.size,rfl,tSS.ochg o1 ych (fun b hb (e:b=_)=>by have:=hb.1;omega),tTS.ochg o2 ych (fun b hb (e:b=_)=>by have:=hb.1;omega),tS.ochg o3 ych (fun b hb (e:b=_)=>by have:=hb.1;omega),tPS.ochg o4 ych (fun b hb (e:b=_)=>by have:=hb.1;omega),tM.ochg o5 ych (fun b hb (e:b=_)=>by have:=hb.1;omega),Iv.mono (by omega) (by omega),Iv.mono (by omega) (by omega),Iv.mono (by omega) (by omega),Iv.mono (by omega) (by omega),Iv.mono (by omega) (by omega),fun b hb hb2=>by have h_1:=hb.1;have h_2:=hb.2;have h_3:=hb2.1;have h_4:=hb2.2;omega,fun b hb hb2=>by have h_1:=hb.1;have h_2:=hb.2;have h_3:=hb2.1;have h_4:=hb2.2;omega,fun b hb hb2=>by have h_1:=hb.1;have h_2:=hb.2;have h_3:=hb2.1;have h_4:=hb2.2;omega,fun b hb hb2=>by have h_1:=hb.1;have h_2:=hb.2;have h_3:=hb2.1;have h_4:=hb2.2;omega,fun b hb hb2=>by have h_1:=hb.1;have h_2:=hb.2;have h_3:=hb2.1;have h_4:=hb2.2;omega,fun b hb hb2=>by have h_1:=hb.1;have h_2:=hb.2;have h_3:=hb2.1;have h_4:=hb2.2;omega,fun b hb hb2=>by have h_1:=hb.1;have h_2:=hb.2;have h_3:=hb2.1;have h_4:=hb2.2;omega,fun b hb hb2=>by have h_1:=hb.1;have h_2:=hb.2;have h_3:=hb2.1;have h_4:=hb2.2;omega,fun b hb hb2=>by have h_1:=hb.1;have h_2:=hb.2;have h_3:=hb2.1;have h_4:=hb2.2;omega,fun b hb hb2=>by have h_1:=hb.1;have h_2:=hb.2;have h_3:=hb2.1;have h_4:=hb2.2;omega⟩,?_⟩;exact(zaa B0 Bwr5).trans (ych.toBelow (fun b (hb:b=_)=>by omega) (by omega))
theorem zk6(A:Yo)(n c:Nat)(xs:List Int)(m:Int)(w:Yw)(hx:RI w w.heap.size A n xs)(hn:n<=1000000000000):
 Calls Tryz.prog 112 #[.slice A n c,.int .i64 m] w fun e w'=>e=.returned (.bool (zam xs m))/\w=w':=by
 go_enter Tryz.func112,Tryz.ntmps112
 go_wp2
 go_loop [9] (fun i=>∃k:Nat,i=.int .i64 k/\k<=n/\Hid (zam xs m=zam (xs.drop k) m)) (fun i=>n-(intOf i).toNat)
 case atStart=>exact⟨0,rfl,by omega,Aq (by simp)⟩
 case round=>
  obtain⟨k,rfl,hk,H⟩:=hrel;have hl:=Aq hx.len
  by_cases hlt:k<n
  ·obtain⟨ad,x,rfl,hab,X,hc⟩:=hx.at hlt;have hd:=Aq (M.drop_at X.out)
   by_cases hs:x=m
   ·have R:=Aq (show zam xs m=true by rw[H.out,hd.out,ziw];simp[hs]);have g:(m == x)=true:=(by simpa using hs.symm);subst hs;go_wp2;go_ret;exact⟨zac (by rw[R.out]),rfl⟩
   have R:=Aq (show zam xs m=zam (xs.drop (k+1)) m by rw[H.out,hd.out,ziw,Dz hs,Bool.false_or]);have g:(m == x)=false:=(by simpa using fun h=>hs h.symm);have hs':¬m=x:=fun h=>hs h.symm
   clear hs;go_wp2;go_round
   case rel=>exact⟨k+1,by go_num,by omega,R⟩
   case measure=>simp[intOf];omega
  have R:=Aq (show zam xs m=false by rw[H.out,Ej (by rw[hl.out];omega)];rfl);go_wp2;go_ret;exact⟨zac (by rw[R.out]),rfl⟩
def zca (keep:List Int) (k:Nat) (xs:List (List zap)):List (List zap):=xs.mapIdx (fun i x=>if i<k/\zam keep i=false then[]else x)
theorem zuk(keep:List Int)(k:Nat)(xs:List (List zap)):(zca keep k xs).length=xs.length:=by simp[zca]
theorem zul(keep:List Int)(xs:List (List zap)):zca keep 0 xs=xs:=by
 apply List.ext_getElem (by simp[zca]);intro i h h';simp[zca]
theorem zum{keep:List Int}{k:Nat}{xs:List (List zap)}{x:List zap}(h:xs[k]?=some x):(zca keep k xs)[k]?=some x:=by
 simp[zca,List.getElem?_mapIdx,h]
theorem zun{keep:List Int}{k:Nat}(xs:List (List zap))(h:zam keep k=true):zca keep (k+1) xs=zca keep k xs:=by
 apply List.ext_getElem (by simp[zca]);intro i h1 h2;simp only[zca,List.getElem_mapIdx]
 by_cases hi:i=k
 ·subst hi;simp[h]
 have e:(i<k+1)↔(i<k):=by omega
 simp only[e]
theorem zuo{keep:List Int}{k:Nat}(xs:List (List zap))(h:zam keep k=false):zca keep (k+1) xs=(zca keep k xs).set k []:=by
 apply List.ext_getElem (by simp[zca]);intro i h1 h2;rw[List.getElem_set];simp only[zca,List.getElem_mapIdx]
 by_cases hi:i=k
 ·subst hi;simp[h]
 have e:(i<k+1)↔(i<k):=by omega
 simp only[e,if_neg (show ¬k=i by omega)]
theorem zup(a0:Int)(A1:Yo)(n1 c1:Nat)(A2:Yo)(n2 c2:Nat)(A3:Yo)(n3 c3:Nat)(A4:Yo)(n4 c4:Nat)(A5:Yo)(n5 c5:Nat)(x1:List (List Int))(x2:List (List zap))(x3:List Int)(x4:List zae)(x5:List zag)(KA:Yo)(kn kc:Nat)(keep:List Int)(w:Yw) (h1:tSS.R w w.heap.size [.slice A1 n1 c1] x1)(h2:tTS.R w w.heap.size [.slice A2 n2 c2] x2)(h3:tS.R w w.heap.size [.slice A3 n3 c3] x3)(h4:tPS.R w w.heap.size [.slice A4 n4 c4] x4)(h5:tM.R w w.heap.size [.slice A5 n5 c5] x5)(hk_:RI w w.heap.size KA kn keep)(hkn:kn<=1000000000)(hn:hZ.sz ((a0,x1,x2,x3,x4,x5):Sess)<=100000000):
 Calls Tryz.prog 57 #[.agg #[.int .i64 a0,.slice A1 n1 c1,.slice A2 n2 c2,.slice A3 n3 c3,.slice A4 n4 c4,.slice A5 n5 c5],.slice KA kn kc] w fun e w'=>∃A1' n1' c1' A2' n2' c2' A3' n3' c3' A4' n4' c4' A5' n5' c5',e=.returned (.agg #[.int .i64 a0,.slice A1' n1' c1',.slice A2' n2' c2',.slice A3' n3' c3',.slice A4' n4' c4',.slice A5' n5' c5'])/\tZ.O w' (Iv w.heap.size w'.heap.size) [.int .i64 a0,.slice A1' n1' c1',.slice A2' n2' c2',.slice A3' n3' c3',.slice A4' n4' c4',.slice A5' n5' c5'] (a0,x1,zca keep x2.length x2,x3,x4,x5)/\Below w.heap.size w w':=by
 obtain⟨W_,hW_,B0_,sW_,p0,p1,p2,p3,p4,p5,pf⟩:=zcs w (.int .i64 a0) (.slice A1 n1 c1) (.slice A2 n2 c2) (.slice A3 n3 c3) (.slice A4 n4 c4) (.slice A5 n5 c5) 38;obtain⟨W,hW,B1_,sW,r0,r1,r2,r3,r4,r5,rf⟩:=zcs W_ (.int .i64 0) (.slice none 0 0) (.slice none 0 0) (.slice none 0 0) (.slice none 0 0) (.slice none 0 0) 38;have B0:=zaa B0_ B1_;rw[hW_]at hW;clear hW_;replace p0:W.cell? ⟨w.heap.size,0,none⟩=some (.int .i64 a0):=by rw[B1_.cell (by show w.heap.size<_;omega)];exact p0
 replace p1:W.cell? ⟨w.heap.size,1,none⟩=some (.slice A1 n1 c1):=by rw[B1_.cell (by show w.heap.size<_;omega)];exact p1
 replace p2:W.cell? ⟨w.heap.size,2,none⟩=some (.slice A2 n2 c2):=by rw[B1_.cell (by show w.heap.size<_;omega)];exact p2
 replace p3:W.cell? ⟨w.heap.size,3,none⟩=some (.slice A3 n3 c3):=by rw[B1_.cell (by show w.heap.size<_;omega)];exact p3
 replace p4:W.cell? ⟨w.heap.size,4,none⟩=some (.slice A4 n4 c4):=by rw[B1_.cell (by show w.heap.size<_;omega)];exact p4
 replace p5:W.cell? ⟨w.heap.size,5,none⟩=some (.slice A5 n5 c5):=by rw[B1_.cell (by show w.heap.size<_;omega)];exact p5
 obtain⟨rb,hrb⟩:∃rb,rb=W_.heap.size:=⟨_,rfl⟩;have hrb2:rb=w.heap.size+1:=by omega
 rw[<-hrb]at r0 r1 r2 r3 r4 r5 rf;clear hrb;subst hrb2;have lW:w.heap.size+1<W.heap.size:=by omega
 clear sW sW_ B0_ B1_ pf;have HW:=Aq hW;clear hW;have k1:=tSS.later h1 B0;have k2:=tTS.later h2 B0;have k3:=tS.later h3 B0;have k4:=tPS.later h4 B0;have k5:=tM.later h5 B0;have kk:=hk_.later B0;have z2:x2.length<=100000000:=by rw[zeb]at hn;have e:x2.length+hT.szL x2=hTS.sz x2:=rfl;omega
 clear h1 h2 h3 h4 h5
 go_enter Tryz.func57,Tryz.ntmps57
 go_wp2_with fail;rw[<-HW.out];refine(zoj a0 A1 n1 c1 A2 n2 c2 A3 n3 c3 A4 n4 c4 A5 n5 c5 x1 x2 x3 x4 x5 W k1 k2 k3 k4 k5 hn).mono ?_;rintro e w1 ⟨A1',n1',c1',A2',n2',c2',A3',n3',c3',A4',n4',c4',A5',n5',c5',rfl,oz,bel1⟩;have s1:=bel1.size;obtain⟨_,_,_,_,_,_,_,_,_,_,_,_,_,_,_,F1,F2,F3,F4,F5,hcs,g1,g2,g3,g4,g5,q1,q2,q3,q4,q5,r1_2,r1_3,r1_4,r1_5,r2_3,r2_4,r2_5,r3_4,r3_5,r4_5⟩:=tZ_O.1 oz;simp only[List.cons.injEq,Cz,and_true,true_and]at hcs;obtain⟨⟨rfl,rfl,rfl⟩,⟨rfl,rfl,rfl⟩,⟨rfl,rfl,rfl⟩,⟨rfl,rfl,rfl⟩,⟨rfl,rfl,rfl⟩⟩:=hcs;obtain⟨U,hU,BU,sU,d0,d1,d2,d3,d4,d5,df⟩:=zcs w1 (.int .i64 a0) (.slice A1' n1' c1') (.slice A2' n2' c2') (.slice A3' n3' c3') (.slice A4' n4' c4') (.slice A5' n5' c5') 38;have HU:=Aq hU;have BWU:=zaa bel1 BU;clear hU oz;replace g1:=tSS.ochg g1 (Chg.of_below BU (fun _=>False)) (fun _ _ h=>h);replace g2:=tTS.ochg g2 (Chg.of_below BU (fun _=>False)) (fun _ _ h=>h);replace g3:=tS.ochg g3 (Chg.of_below BU (fun _=>False)) (fun _ _ h=>h);replace g4:=tPS.ochg g4 (Chg.of_below BU (fun _=>False)) (fun _ _ h=>h);replace g5:=tM.ochg g5 (Chg.of_below BU (fun _=>False)) (fun _ _ h=>h);replace r0:U.cell? ⟨w.heap.size+1,0,none⟩=some (.int .i64 0):=(BWU.cell (by show w.heap.size+1<_;omega)).trans r0;replace r1:U.cell? ⟨w.heap.size+1,1,none⟩=some (.slice none 0 0):=(BWU.cell (by show w.heap.size+1<_;omega)).trans r1;replace r2:U.cell? ⟨w.heap.size+1,2,none⟩=some (.slice none 0 0):=(BWU.cell (by show w.heap.size+1<_;omega)).trans r2;replace r3:U.cell? ⟨w.heap.size+1,3,none⟩=some (.slice none 0 0):=(BWU.cell (by show w.heap.size+1<_;omega)).trans r3;replace r4:U.cell? ⟨w.heap.size+1,4,none⟩=some (.slice none 0 0):=(BWU.cell (by show w.heap.size+1<_;omega)).trans r4;replace r5:U.cell? ⟨w.heap.size+1,5,none⟩=some (.slice none 0 0):=(BWU.cell (by show w.heap.size+1<_;omega)).trans r5;replace rf:∀j,U.frozen? ⟨w.heap.size+1,j,none⟩=false:=fun j=>(BWU.frozen (by show w.heap.size+1<_;omega)).trans (rf j)
 have kU:=kk.later BWU;have ln2:=Aq (sl_O.1 g2).read.cap.1;have gF2:∀b,F2 b->W.heap.size<=b/\b<w1.heap.size:=fun b hb=>q2 b hb
 have bn2':n2'<=100000000:=by have:=ln2.out;omega
 go_wp2_with fail;rw[<-HU.out]
 go_loopw [12] (fun i wr=>∃k:Nat,i=.int .i64 k/\k<=n2'/\OS tT 98 wr F2 (.slice A2' n2' c2') (zca keep k x2)/\Chg F2 U wr) (fun i _=>n2'-(intOf i).toNat)
 case atStart=>exact⟨0,rfl,by omega,by rw[zul];exact sl_O.1 g2,Chg.refl _ _⟩
 case round=>
  obtain⟨k,rfl,hk,own,ch⟩:=hrel;have sr:=ch.size;have Bwr:Below W.heap.size W wr:=BWU.trans (ch.toBelow (fun b hb=>(gF2 b hb).1) (by omega));have D2:wr.cell? ⟨w1.heap.size,2,none⟩=some (.slice A2' n2' c2'):=(ch.cell (by omega) (fun h=>by have:=gF2 _ h;omega)).trans d2;have kw:RI wr wr.heap.size KA kn keep:=kk.later Bwr
  by_cases hlt:k<n2'
  ·have hX:=Aq (Ak (show k<x2.length by rw[ln2.out];exact hlt));generalize x2[k]'(by rw[ln2.out];exact hlt)=x at hX;cases hm:zam keep (k:Int)
   ·have HM:=Aq hm;have Q:=Aq (zuo x2 hm);clear hm;obtain⟨css,Fs,hole,cs,hcs,hE⟩:=own.openAt (zum (keep:=keep) hX.out);obtain⟨A0,n0,c0,rfl⟩:=zbv (tT.read hE);obtain⟨g2_,rfl,hgF,hgn,hgl,-⟩:=hole.form (by rw[zuk,ln2.out];exact hlt);have c0_:=(hole.cell hcs (j:=0) rfl).1;have f0_:=(hole.cell hcs (j:=0) rfl).2;change wr.cell? ⟨g2_,k*1+0,none⟩=_ at c0_;change wr.frozen? ⟨g2_,k*1+0,none⟩=_ at f0_;rw[Nat.add_zero,Nat.mul_one]at c0_ f0_;go_wp2_with (go_at_call 112;refine(zk6 _ _ _ _ _ _ kw (by omega)).mono ?_;rw[HM.out];rintro e w2 ⟨rfl,rfl⟩);go_roundw
    case rel=>
     have s0:=hole.set hcs 0 (by decide) (.slice none 0 0);have h3:=s0.1.fill s0.2 (y:=[]) (sl_O.2 (OS.nil _ _ _ _));rw[Nat.add_zero,show tT.s=1 from rfl,Nat.mul_one]at h3;exact⟨k+1,by go_num,by omega,by rw[Q.out];exact h3,ch.trans (Chg.set _ g2_ k _ hgF)⟩
    case measure=>simp[intOf];omega
   have HM:=Aq hm;have Q:=Aq (zun x2 hm);clear hm;go_wp2_with (go_at_call 112;refine(zk6 _ _ _ _ _ _ kw (by omega)).mono ?_;rw[HM.out];rintro e w2 ⟨rfl,rfl⟩);go_roundw
   case rel=>exact⟨k+1,by go_num,by omega,by rw[Q.out];exact own,ch⟩
   case measure=>simp[intOf];omega
  obtain rfl:k=n2':=by omega
  have D0:wr.cell? ⟨w1.heap.size,0,none⟩=some (.int .i64 a0):=(ch.cell (by omega) (fun h=>by have:=gF2 _ h;omega)).trans d0;have D1:wr.cell? ⟨w1.heap.size,1,none⟩=some (.slice A1' n1' c1'):=(ch.cell (by omega) (fun h=>by have:=gF2 _ h;omega)).trans d1;have D3:wr.cell? ⟨w1.heap.size,3,none⟩=some (.slice A3' n3' c3'):=(ch.cell (by omega) (fun h=>by have:=gF2 _ h;omega)).trans d3;have D4:wr.cell? ⟨w1.heap.size,4,none⟩=some (.slice A4' n4' c4'):=(ch.cell (by omega) (fun h=>by have:=gF2 _ h;omega)).trans d4;have D5:wr.cell? ⟨w1.heap.size,5,none⟩=some (.slice A5' n5' c5'):=(ch.cell (by omega) (fun h=>by have:=gF2 _ h;omega)).trans d5;have R0:wr.cell? ⟨w.heap.size+1,0,none⟩=some (.int .i64 0):=(ch.cell (by omega) (fun h=>by have:=gF2 _ h;omega)).trans r0;have R1:wr.cell? ⟨w.heap.size+1,1,none⟩=some (.slice none 0 0):=(ch.cell (by omega) (fun h=>by have:=gF2 _ h;omega)).trans r1;have R2:wr.cell? ⟨w.heap.size+1,2,none⟩=some (.slice none 0 0):=(ch.cell (by omega) (fun h=>by have:=gF2 _ h;omega)).trans r2;have R3:wr.cell? ⟨w.heap.size+1,3,none⟩=some (.slice none 0 0):=(ch.cell (by omega) (fun h=>by have:=gF2 _ h;omega)).trans r3;have R4:wr.cell? ⟨w.heap.size+1,4,none⟩=some (.slice none 0 0):=(ch.cell (by omega) (fun h=>by have:=gF2 _ h;omega)).trans r4;have R5:wr.cell? ⟨w.heap.size+1,5,none⟩=some (.slice none 0 0):=(ch.cell (by omega) (fun h=>by have:=gF2 _ h;omega)).trans r5;have RF:∀j,wr.frozen? ⟨w.heap.size+1,j,none⟩=false:=fun j=>(ch.frozen (by omega) (fun h=>by have:=gF2 _ h;omega)).trans (rf j)
  have RF0:=RF 0;have RF1:=RF 1;have RF2:=RF 2;have RF3:=RF 3;have RF4:=RF 4;have RF5:=RF 5;obtain⟨U_,hU_,y0,y1,y2,y3,y4,y5,yf,ych,ysz⟩:=box6 R0 R1 R2 R3 R4 R5 RF (.int .i64 a0) (.slice A1' n1' c1') (.slice A2' k c2') (.slice A3' n3' c3') (.slice A4' n4' c4') (.slice A5' n5' c5');have HU_:=Aq hU_;clear hU_;go_wp2;rw[<-HU_.out];have yf0:=yf 0;have yf1:=yf 1;have yf2:=yf 2;have yf3:=yf 3;have yf4:=yf 4;have yf5:=yf 5;refine Cy (v:=.agg #[.int .i64 a0,.slice A1' n1' c1',.slice A2' k c2',.slice A3' n3' c3',.slice A4' n4' c4',.slice A5' n5' c5']) (by simp[results,Tryz.results57,go_sem,y0,y1,y2,y3,y4,y5,yf0,yf1,yf2,yf3,yf4,yf5]) rfl ?_;have eM:zca keep x2.length x2=zca keep k x2:=by rw[ln2.out]
  rw[<-eM]at own;have hE_:∀b,(Iv W.heap.size w1.heap.size) b->¬b=w.heap.size+1:=fun b hb e=>by have:=hb.1;omega
  have ey:U_.heap.size=wr.heap.size:=ysz;refine⟨A1',n1',c1',A2',k,c2',A3',n3',c3',A4',n4',c4',A5',n5',c5',rfl,tZ_O.2 ⟨_,_,_,_,_,_,_,_,_,_,_,_,_,_,_,F1,F2,F3,F4,F5,rfl,tSS.ochg (tSS.ochg g1 ch (fun b h h2=>r1_2 b h h2)) ych (fun b hb=>hE_ b (q1 b hb)),tTS.ochg (sl_O.2 own) ych (fun b hb=>hE_ b (q2 b hb)),tS.ochg (tS.ochg g3 ch (fun b h h2=>r2_3 b h2 h)) ych (fun b hb=>hE_ b (q3 b hb)),tPS.ochg (tPS.ochg g4 ch (fun b h h2=>r2_4 b h2 h)) ych (fun b hb=>hE_ b (q4 b hb)),tM.ochg (tM.ochg g5 ch (fun b h h2=>r2_5 b h2 h)) ych (fun b hb=>hE_ b (q5 b hb)),fun b hb=>Iv.mono (by omega) (by omega) b (q1 b hb),fun b hb=>Iv.mono (by omega) (by omega) b (q2 b hb),fun b hb=>Iv.mono (by omega) (by omega) b (q3 b hb),fun b hb=>Iv.mono (by omega) (by omega) b (q4 b hb),fun b hb=>Iv.mono (by omega) (by omega) b (q5 b hb),r1_2,r1_3,r1_4,r1_5,r2_3,r2_4,r2_5,r3_4,r3_5,r4_5⟩,?_⟩;exact(zaa B0 Bwr).trans (ych.toBelow (fun b (hb:b=_)=>by omega) (by omega))
section
open Go
section
variable {P:Program} {ops:Array Oper} {md:Region.Mode} {C:Yw->Prop}
end
end
end Go.Proofs.YtifeldeikhmckaaGreat
