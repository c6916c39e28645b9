import Derived.Test.YtifeldeikhmckaaGreatFnExactOptimizeSessionG32
import Derived.Test.YtifeldeikhmckaaGreatFnExactOptimizeSessionG30
import Derived.Test.YtifeldeikhmckaaGreatFnExactOptimizeSessionG14
import Derived.Test.YtifeldeikhmckaaGreatFnExactOptimizeSessionG18
import Derived.Test.YtifeldeikhmckaaGreatFnExactOptimizeSessionG29
import Derived.ArgAppend
import Derived.Deep.LoopGhost
import Derived.Deep.DeepCutAuto
set_option linter.unusedVariables false
set_option linter.unusedSimpArgs false
set_option maxRecDepth 100000
set_option maxHeartbeats 4000000
namespace Go.Proofs.YtifeldeikhmckaaGreat
open Go.RowKit Go.Sort
section
theorem OS.seti{w:Yw}{F:Nat->Prop}{A:Yo}{n c:Nat}{xs:List Int}(O:OS tI 2 w F (.slice A n c) xs){k:Nat}(hk:k<n):∃(g:Nat) (x:Int),A=some ⟨g,0,none⟩/\F g/\g<w.heap.size/\Hid (xs[k]?=some x)/\w.cell? ⟨g,k,none⟩=some (.int .i64 x)/\w.frozen? ⟨g,k,none⟩=false/\∀y:Int,OS tI 2 (w.setCell ⟨g,k,none⟩ (.int .i64 y)) F (.slice A n c) (xs.set k y)/\Chg F w (w.setCell ⟨g,k,none⟩ (.int .i64 y)):=by
 obtain rfl:xs.length=n:=O.read.cap.1;have hx:=List.getElem?_eq_getElem hk;obtain⟨css,Fs,hole,cs,hcs,hE⟩:=O.openAt hx;obtain⟨g,rfl,hgF,hgn,hgl,-⟩:=hole.form hk;have hE':cs=[.int .i64 xs[k]]:=hE;subst hE';have k0:=hole.cell hcs (j:=0) rfl;change w.cell? ⟨g,k*1+0,none⟩=_/\w.frozen? ⟨g,k*1+0,none⟩=_ at k0;rw[Nat.add_zero,Nat.mul_one]at k0;refine⟨g,xs[k],rfl,hgF,hgl,Lib.hid hx,k0.1,k0.2,fun y=>⟨?_,Chg.set _ g _ _ hgF⟩⟩;have s0:=hole.set hcs 0 (by decide) (.int .i64 y);have h3:=s0.1.fill s0.2 (y:=y) rfl;rw[Nat.add_zero,show tI.s=1 from rfl,Nat.mul_one]at h3;exact h3
def zc0 (i b:Int) (k:Nat) (xs:List Int):List Int:=zcx i b (xs.take k)++xs.drop k
theorem zm8(i b:Int){k:Nat}{xs:List Int}(h:xs.length<=k):zc0 i b k xs=zcx i b xs:=by
 rw[zc0,List.take_of_length_le h,List.drop_eq_nil_of_le h,List.append_nil]
theorem zjk{i b:Int}{k:Nat}{xs:List Int}{x:Int}(h:xs[k]?=some x):(zc0 i b k xs)[k]?=some x:=by
 have hk:=(List.getElem?_eq_some_iff.1 h).1;have e:(zcx i b (xs.take k)).length=k:=by rw[zcx,List.length_map,List.length_take];omega
 rw[zc0,List.getElem?_append_right (by omega),e,Nat.sub_self,List.getElem?_drop];simpa using h
theorem zjl{i b:Int}{k:Nat}{xs:List Int}{x:Int}(h:xs[k]?=some x):zc0 i b (k+1) xs=(zc0 i b k xs).set k (if x=i then b else x):=by
 have hk:=(List.getElem?_eq_some_iff.1 h).1;have e:(zcx i b (xs.take k)).length=k:=by rw[zcx,List.length_map,List.length_take];omega
 have hd:xs.drop k=x::xs.drop (k+1):=by
  rw[List.drop_eq_getElem_cons hk];rw[List.getElem?_eq_getElem hk,Option.some.injEq]at h;rw[h]
 rw[zc0,zc0,hd,List.set_append_right _ _ (by omega),e,Nat.sub_self,List.set_cons_zero,List.take_add_one,h];simp[zcx]
theorem zm9{i b:Int}{k:Nat}{xs:List Int}{x:Int}(h:xs[k]?=some x)(hx:x≠i):zc0 i b (k+1) xs=zc0 i b k xs:=by
 rw[zjl h,if_neg hx];have h2:=zjk (i:=i) (b:=b) h;apply List.ext_getElem?
 intro j
 by_cases e:k=j
 ·subst e;rw[List.getElem?_set_self (List.getElem?_eq_some_iff.1 h2).1,h2]
 rw[List.getElem?_set_ne e]
theorem zna(bi bb:Nat)(i b:Int)(A:Yo)(n c:Nat)(xs:List Int)(w:Yw)(F:Nat->Prop)(O:OS tI 2 w F (.slice A n c) xs)(e0:w.cell? ⟨bi,0,none⟩=some (.int .i64 i))(e1:w.cell? ⟨bb,0,none⟩=some (.int .i64 b))(hi:¬F bi)(hb:¬F bb)(hn:n<=1000000):
 Calls Tryz.prog 241 #[.slice A n c,.pointer (some ⟨bi,0,none⟩),.pointer (some ⟨bb,0,none⟩)] w fun e w'=>e=.returned (.tuple #[])/\OS tI 2 w' F (.slice A n c) (zcx i b xs)/\Chg F w w':=by
 have hl:=Lib.hid O.read.cap.1;have lbi:=World.block_lt_of_cell? w _ e0;have lbb:=World.block_lt_of_cell? w _ e1;simp only at lbi lbb
 go_enter Tryz.func241,Tryz.ntmps241
 go_wp2_with fail
 go_loopw [8] (fun j wr=>∃k:Nat,j=.int .i64 k/\k<=n/\OS tI 2 wr F (.slice A n c) (zc0 i b k xs)/\Chg F w wr) (fun j _=>n-(intOf j).toNat)
 case atStart=>exact⟨0,rfl,by omega,O,Chg.refl _ _⟩
 case round=>
  obtain⟨k,rfl,hk,own,ch⟩:=hrel
  by_cases hlt:k<n
  ·have X:=Lib.hid (List.getElem?_eq_getElem (show k<xs.length by rw[hl.out];exact hlt));generalize xs[k]'(by rw[hl.out];exact hlt)=x at X;obtain⟨g,x',rfl,hgF,hgl,X',c0,f0,S⟩:=own.seti hlt;have hxx:=X'.out;rw[zjk X.out,Option.some.injEq]at hxx;subst hxx;have SS:=Lib.hid (S b);have q0:=(ch.cell (by exact lbi) hi).trans e0;have q1:=(ch.cell (by exact lbb) hb).trans e1;have hkn:(k:Int)<(n:Int):=(by omega);clear S O
   by_cases hx:x=i
   ·have E:=Lib.hid (show zc0 i b (k+1) xs=(zc0 i b k xs).set k b by rw[zjl X.out,if_pos hx]);have g_:(x == i)=true:=(by simpa using hx);clear hx;go_wp2_with fail;go_roundw
    case rel=>exact⟨k+1,by go_num,by omega,by rw[E.out];exact SS.out.1,ch.trans SS.out.2⟩
    case measure=>simp[intOf];omega
   have E:=Lib.hid (zm9 (b:=b) X.out hx);have g_:(x == i)=false:=(by simpa using hx);clear hx;go_wp2_with fail;go_roundw
   case rel=>exact⟨k+1,by go_num,by omega,by rw[E.out];exact own,ch⟩
   case measure=>simp[intOf];omega
  obtain rfl:k=n:=by omega
  rw[zm8 _ _ (by rw[hl.out];exact Nat.le_refl _)]at own;go_wp2;refine bodyPost_end (v:=.tuple #[]) (by simp[results,Tryz.results241,go_sem]) rfl ?_;exact⟨rfl,own,ch⟩
def zdr (i b:Int) (k:Nat) (ns:List Node):List Node:=(ns.take k).map (zcr i b)++ns.drop k
theorem znb(i b:Int){k:Nat}{ns:List Node}(h:ns.length<=k):zdr i b k ns=ns.map (zcr i b):=by
 rw[zdr,List.take_of_length_le h,List.drop_eq_nil_of_le h,List.append_nil]
theorem znc{i b:Int}{k:Nat}{ns:List Node}{x:Node}(h:ns[k]?=some x):(zdr i b k ns)[k]?=some x:=by
 have hk:=(List.getElem?_eq_some_iff.1 h).1;have e:((ns.take k).map (zcr i b)).length=k:=by rw[List.length_map,List.length_take];omega
 rw[zdr,List.getElem?_append_right (by omega),e,Nat.sub_self,List.getElem?_drop];simpa using h
theorem znd(i b:Int)(k:Nat)(ns:List Node):(zdr i b k ns).length=ns.length:=by
 rw[zdr,List.length_append,List.length_map,List.length_take,List.length_drop];omega
theorem zne{i b:Int}{k:Nat}{ns:List Node}{x:Node}(h:ns[k]?=some x):zdr i b (k+1) ns=(zdr i b k ns).set k (zcr i b x):=by
 have hk:=(List.getElem?_eq_some_iff.1 h).1;have e:((ns.take k).map (zcr i b)).length=k:=by rw[List.length_map,List.length_take];omega
 have hd:ns.drop k=x::ns.drop (k+1):=by
  rw[List.drop_eq_getElem_cons hk];rw[List.getElem?_eq_getElem hk,Option.some.injEq]at h;rw[h]
 rw[zdr,zdr,hd,List.set_append_right _ _ (by omega),e,Nat.sub_self,List.set_cons_zero,List.take_add_one,h];simp
section
variable {tb:List (List Int)} {p:NO} {R:Nat->Nat} {w:Yw}
theorem znf(h:M.WP tb p R)(ho:p.2.length<=1000)(a0:Int)(A1:Yo)(n1 c1:Nat)(A2:Yo)(n2 c2:Nat)(A3:Yo)(n3 c3:Nat)(i:Nat)(b:Int)(k1:tSS.R w w.heap.size [.slice A1 n1 c1] tb)(k2:tNS.R w w.heap.size [.slice A2 n2 c2] p.1)(k3:tS.R w w.heap.size [.slice A3 n3 c3] p.2):
 Calls Tryz.prog 204 #[.agg #[.int .i64 a0,.slice A1 n1 c1,.slice A2 n2 c2,.slice A3 n3 c3],.int .i64 i,.int .i64 b] w fun e w'=>∃A1' n1' c1' A2' n2' c2' A3' n3' c3',e=.returned (.agg #[.int .i64 a0,.slice A1' n1' c1',.slice A2' n2' c2',.slice A3' n3' c3'])/\(∀T,Chg (fun b=>b<w.heap.size) w' T->PRd A1' n1' c1' A2' n2' c2' A3' n3' c3' tb (za5 i b p) T)/\Below w.heap.size w w':=by
 have hl:=(sl_R.1 k2).cap.1;obtain⟨W,hW⟩:∃W,W=(((w.alloc (.cells #[.int .i64 a0,.slice A1 n1 c1,.slice A2 n2 c2,.slice A3 n3 c3] 67)).alloc (.cells #[.int .i64 i] 2)).alloc (.cells #[.int .i64 b] 2)).alloc (.cells #[.int .i64 0,.slice none 0 0,.slice none 0 0,.slice none 0 0] 67):=⟨_,rfl⟩;have B0:Below w.heap.size w W:=by rw[hW];exact zaa (zaa (zaa (zaf _ _) (zaf _ _)) (zaf _ _)) (zaf _ _)
 have sW:W.heap.size=w.heap.size+4:=by rw[hW];simp
 have ZX:BX W (w.heap.size+1+1+1) (.int .i64 0) (.slice none 0 0) (.slice none 0 0) (.slice none 0 0):=by
  rw[hW];have:=BX.new (((w.alloc (.cells #[.int .i64 a0,.slice A1 n1 c1,.slice A2 n2 c2,.slice A3 n3 c3] 67)).alloc (.cells #[.int .i64 i] 2)).alloc (.cells #[.int .i64 b] 2)) (.int .i64 0) (.slice none 0 0) (.slice none 0 0) (.slice none 0 0) 67;simpa using this
 have p0:W.cell? ⟨w.heap.size,0,none⟩=some (.int .i64 a0):=by rw[hW];simp[go_sem]
 have p1:W.cell? ⟨w.heap.size,1,none⟩=some (.slice A1 n1 c1):=by rw[hW];simp[go_sem]
 have p2:W.cell? ⟨w.heap.size,2,none⟩=some (.slice A2 n2 c2):=by rw[hW];simp[go_sem]
 have p3:W.cell? ⟨w.heap.size,3,none⟩=some (.slice A3 n3 c3):=by rw[hW];simp[go_sem]
 have bi:W.cell? ⟨w.heap.size+1,0,none⟩=some (.int .i64 i):=by rw[hW];simp[go_sem]
 have bb:W.cell? ⟨w.heap.size+1+1,0,none⟩=some (.int .i64 b):=by rw[hW];simp[go_sem]
 have HW:=Lib.hid hW;have q1:=tSS.later k1 B0;have q2:=tNS.later k2 B0;have q3:=tS.later k3 B0;have lW:w.heap.size+1+1+1<W.heap.size:=by omega
 have hlen:=h.len;have hn2:n2<=24:=by omega
 have HL:=Lib.hid hl;have HO:=Lib.hid ho;clear hW sW k1 k2 k3 hl ho;have CP:=Lib.hid (zjg a0 A1 n1 c1 A2 n2 c2 A3 n3 c3 tb p.1 p.2 W q1 q2 q3 (h.szP HO.out a0))
 go_enter Tryz.func204,Tryz.ntmps204
 go_wp2_with fail;rw[<-HW.out];refine CP.out.mono ?_;rintro e w1 ⟨A1',n1',c1',A2',n2',c2',A3',n3',c3',rfl,oz,bel⟩;obtain⟨_,_,_,_,_,_,_,_,_,F1,F2,F3,hcs,g1,g2,g3,z1,z2,z3,d12,d13,d23⟩:=tP_O.1 oz;simp only[List.cons.injEq,Value.slice.injEq,and_true,true_and]at hcs;obtain⟨⟨rfl,rfl,rfl⟩,⟨rfl,rfl,rfl⟩,⟨rfl,rfl,rfl⟩⟩:=hcs;obtain⟨V,hV⟩:∃V,V=w1.alloc (.cells #[.int .i64 a0,.slice A1' n1' c1',.slice A2' n2' c2',.slice A3' n3' c3'] 67):=⟨_,rfl⟩;have OX:BX V w1.heap.size (.int .i64 a0) (.slice A1' n1' c1') (.slice A2' n2' c2') (.slice A3' n3' c3'):=by rw[hV];exact BX.new _ _ _ _ _ _
 have BV:Below w1.heap.size w1 V:=by rw[hV];exact zaf _ _
 have sV:V.heap.size=w1.heap.size+1:=by rw[hV];simp
 have HV:=Lib.hid hV;have BWV:=zaa bel BV;have s1:=bel.size;replace g1:=tSS.ochg g1 (Chg.of_below BV (fun _=>False)) (fun _ _ h=>h);replace g2:=tNS.ochg g2 (Chg.of_below BV (fun _=>False)) (fun _ _ h=>h);replace g3:=tS.ochg g3 (Chg.of_below BV (fun _=>False)) (fun _ _ h=>h);have O2:=sl_O.1 g2;have hl2:=O2.read.cap.1;have hll:=HL.out;obtain rfl:n2'=n2:=by omega
 have HL2:=Lib.hid hl2;have bi1:=(BWV.cell (by show w.heap.size+1<_;omega)).trans bi;have bb1:=(BWV.cell (by show w.heap.size+1+1<_;omega)).trans bb;have ZV:=ZX.later BWV;have lV:w1.heap.size<V.heap.size:=by omega
 have NF:∀x,F2 x->W.heap.size<=x/\x<w1.heap.size:=fun x hx=>z2 x hx
 clear hV sV oz g2 hl2 hll p0 p1 p2 p3 bi bb;have o2_:=OX.c2;go_upto_region 2 with fail
 rw[<-HV.out];go_wp2_with fail
 go_loopw [17] (fun j wr=>∃k:Nat,j=.int .i64 k/\k<=n2'/\OS tN 169 wr F2 (.slice A2' n2' c2') (zdr i b k p.1)/\Chg F2 V wr) (fun j _=>n2'-(intOf j).toNat)
 case atStart=>exact⟨0,rfl,by omega,O2,Chg.refl _ _⟩
 case round=>
  obtain⟨k,rfl,hk,own,ch⟩:=hrel;have sr:=ch.size;have gi:=(ch.cell (by show w.heap.size+1<V.heap.size;omega) (fun hf=>by have:=NF _ hf;omega)).trans bi1;have gb:=(ch.cell (by show w.heap.size+1+1<V.heap.size;omega) (fun hf=>by have:=NF _ hf;omega)).trans bb1
  by_cases hlt:k<n2'
  ·have X:=Lib.hid (zcq (ns:=p.1) (i:=k) (by have:=HL.out;omega));have hl3:=zfy (h.node (i:=k) (by have:=HL.out;omega)).2;generalize zab p.1 k=x at X hl3;obtain⟨css,Fs,hole,cs,hcs,hE⟩:=own.real.openAt (znc (i:=i) (b:=b) X.out);have SU:=Lib.hid (zne (i:=i) (b:=b) X.out);obtain⟨kk,ka,kb,l⟩:=x;obtain⟨A5,m5,c5,F5,rfl,o5,hF5⟩:=tN_O.1 hE;obtain rfl:l.length=m5:=zcn (tS.read o5);obtain⟨g,rfl,hgF,hgn,hgl,-⟩:=hole.form (by rw[znd];have:=HL.out;omega);have c0:=(hole.cell hcs (j:=0) rfl).1;have c1_:=(hole.cell hcs (j:=1) rfl).1;have c2_:=(hole.cell hcs (j:=2) rfl).1;have c3_:=(hole.cell hcs (j:=3) rfl).1;change wr.cell? ⟨g,k*4+0,none⟩=_ at c0;change wr.cell? ⟨g,k*4+1,none⟩=_ at c1_;change wr.cell? ⟨g,k*4+2,none⟩=_ at c2_;change wr.cell? ⟨g,k*4+3,none⟩=_ at c3_;rw[Nat.add_zero]at c0;obtain⟨U,hU⟩:∃U,U=wr.alloc (.cells #[.int .i64 kk,.int .i64 ka,.int .i64 kb,.slice A5 l.length c5] 169):=⟨_,rfl⟩;have BU:Below wr.heap.size wr U:=(by rw[hU];exact zaf _ _);have HU:=Lib.hid hU;have hf5:∀x,F5 x->F2 x:=fun x hx=>(hole.fits x (hF5 x hx)).1
   have o5U:=(tS_O.1 o5).chg (Chg.of_below BU (fun _=>False)) (fun _ _ h=>h);have CC:=Lib.hid (zna (w.heap.size+1) (w.heap.size+1+1) i b A5 l.length c5 l U F5 o5U ((BU.cell (by show w.heap.size+1<_;omega)).trans gi) ((BU.cell (by show w.heap.size+1+1<_;omega)).trans gb) (fun hf=>by have:=NF _ (hf5 _ hf);omega) (fun hf=>by have:=NF _ (hf5 _ hf);omega) (by simp only at hl3;omega));have hkn:(k:Int)<(n2':Int):=(by omega);clear hU gi gb hE o5 o5U;go_wp2_with fail;rw[<-HU.out];refine CC.out.mono ?_;rintro e w3 ⟨rfl,o6,ch6⟩;go_wp2_with fail;go_roundw
   case rel=>
    have h3:=(hole.chg ((Chg.of_below BU (Fs k)).trans (ch6.wide hF5))).fill hcs (y:=zcr i b (kk,ka,kb,l)) (tN_O.2 ⟨A5,l.length,c5,F5,rfl,tS_O.2 o6,hF5⟩);exact⟨k+1,by go_num,by omega,by rw[SU.out];exact h3.wide (fun x hx=>hx.1),ch.trans ((Chg.of_below BU F2).trans (ch6.wide hf5))⟩
   case measure=>simp[intOf];omega
  obtain rfl:k=n2':=by omega
  rw[znb _ _ (by have:=HL.out;omega)]at own;have o3w:=(tS_O.1 g3).chg ch (fun x hx hf=>d23 x hf hx);have l3:=Lib.hid o3w.read.cap.1;have ho3:=HO.out;have CC:=Lib.hid (zna (w.heap.size+1) (w.heap.size+1+1) i b A3' n3' c3' p.2 wr F3 o3w gi gb (fun hf=>by have:=(z3 _ hf).1;omega) (fun hf=>by have:=(z3 _ hf).1;omega) (by have:=l3.out;omega));obtain⟨v0,v1,v2,v3,vf,vl⟩:=OX.chg ch (fun hf=>by have:=NF _ hf;omega);clear ho3 gi gb;go_wp2_with fail;refine CC.out.mono ?_;rintro e w4 ⟨rfl,o7,ch7⟩;have O4:=(OX.chg ch (fun hf=>by have:=NF _ hf;omega)).chg ch7 (fun hf=>by have:=(z3 _ hf).2;omega);have Z4:=(ZV.chg ch (fun hf=>by have:=NF _ hf;omega)).chg ch7 (fun hf=>by have:=(z3 _ hf).1;omega);have s4:=ch7.size;obtain⟨U,hU,ZU,chU,sU⟩:=Z4.set (.int .i64 a0) (.slice A1' n1' c1') (.slice A2' k c2') (.slice A3' n3' c3');have B4:Below W.heap.size W w4:=BWV.trans ((ch.toBelow (fun x hx=>(NF x hx).1) (by omega)).trans (ch7.toBelow (fun x hx=>(z3 x hx).1) (by omega)));have BU:Below w.heap.size w U:=(B0.trans (B4.mono (by omega))).trans (chU.toBelow (fun b (hb:b=_)=>by omega) (by omega))
  have RR:=Lib.hid (show ∀T,Chg (fun b=>b<w.heap.size) U T->PRd A1' n1' c1' A2' k c2' A3' n3' c3' tb (za5 i b p) T from fun T hT=>by
   refine⟨tSS.read (tSS.ochg (tSS.ochg (tSS.ochg (tSS.ochg g1 ch (fun x hx=>d12 x hx)) ch7 (fun x hx=>d13 x hx)) chU (fun x hx (e:x=_)=>by have:=(z1 x hx).1;omega)) hT (fun x hx (e:x<_)=>by have:=(z1 x hx).1;omega)),?_,tS.read (tS.ochg (tS.ochg (tS_O.2 o7) chU (fun x hx (e:x=_)=>by have:=(z3 x hx).1;omega)) hT (fun x hx (e:x<_)=>by have:=(z3 x hx).1;omega))⟩;exact tNS.read (tNS.ochg (tNS.ochg (tNS.ochg (sl_O.2 own) ch7 (fun x hx hf=>d23 x hx hf)) chU (fun x hx (e:x=_)=>by have:=(NF x hx).1;omega)) hT (fun x hx (e:x<_)=>by have:=(NF x hx).1;omega)))
  have HU:=Lib.hid hU;obtain⟨t0,t1,t2,t3,tf,tl⟩:=Z4;obtain⟨o0,o1,o2,o3,of_,ol⟩:=O4;have u0:=tf 0;have u1:=tf 1;have u2:=tf 2;have u3:=tf 3;obtain⟨d0,d1,d2,d3,df,dl⟩:=ZU;have f0:=df 0;have f1:=df 1;have f2:=df 2;have f3:=df 3;clear hU sU v0 v1 v2 v3 vf;go_wp2_with fail;rw[<-HU.out];refine bodyPost_ret (v:=.agg #[.int .i64 a0,.slice A1' n1' c1',.slice A2' k c2',.slice A3' n3' c3']) (by simp[results,Tryz.results204,go_sem,d0,d1,d2,d3,f0,f1,f2,f3]) rfl ?_;exact⟨_,_,_,_,_,_,_,_,_,rfl,RR.out,BU⟩
end
end
section
def ze1 (nd:Nat->Bool) (n:Nat):List Bool:=(List.range n).map nd
theorem zuo{nd:Nat->Bool}{n k:Nat}(h:k<n):(ze1 nd n)[k]?=some (nd k):=by simp[ze1,h]
theorem zhx{w:Yw}{B:Nat}{A:Yo}{n:Nat}{nd:Nat->Bool}(h:RA ebl 1 w B A n (ze1 nd n)){k:Nat}(hk:k<n):∃b o,A=some ⟨b,o,none⟩/\b<B/\w.cell? ⟨b,o+k,none⟩=some (.bool (nd k)):=by
 obtain⟨b,o,x,e,hb,X,hc⟩:=h.at zer (by decide) hk;have e2:=X.out;rw[zuo hk,Option.some.injEq]at e2;subst e2;have h1:=hc 0 _ rfl;rw[Nat.mul_one,Nat.add_zero]at h1;exact⟨b,o,e,hb,h1⟩
def zds (nd:Nat->Bool) (ns:List Node) (i:Nat):Int:=match zci nd ns i with
 | some k=>(k:Int)
 | none=>-1
theorem zng{nd:Nat->Bool}{ns:List Node}{i k:Nat}(hk:k<i)(h:(nd k&&decide (zab ns k=zab ns i))=true)(h0:∀j,j<k->(nd j&&decide (zab ns j=zab ns i))=false):zds nd ns i=k:=by
 have:zci nd ns i=some k:=by
  rw[zci,List.find?_range_eq_some];exact⟨h,List.mem_range.2 hk,fun j hj=>by rw[h0 j hj];rfl⟩
 rw[zds,this]
theorem znh{nd:Nat->Bool}{ns:List Node}{i:Nat}(h0:∀j,j<i->(nd j&&decide (zab ns j=zab ns i))=false):zds nd ns i = -1:=by
 have:zci nd ns i=none:=by
  rw[zci,List.find?_eq_none];intro j hj;rw[h0 j (List.mem_range.1 hj)];decide
 rw[zds,this]
section
variable {tb:List (List Int)} {p:NO} {R:Nat->Nat} {w:Yw}
theorem zup(h:M.WP tb p R)(a0:Int)(A1:Yo)(n1 c1:Nat)(A2:Yo)(n2 c2:Nat)(A3:Yo)(n3 c3:Nat)(i:Nat)(nd:Nat->Bool)(Am:Yo)(cm:Nat)(hr:RS tN w w.heap.size (.slice A2 n2 c2) p.1)(hm:RA ebl 1 w w.heap.size Am n2 (ze1 nd n2))(hi:i<n2):
 Calls Tryz.prog 207 #[.agg #[.int .i64 a0,.slice A1 n1 c1,.slice A2 n2 c2,.slice A3 n3 c3],.int .i64 i,.slice Am n2 cm] w fun e w'=>e=.returned (.int .i64 (zds nd p.1 i))/\Below w.heap.size w w':=by
 have hl:=hr.cap.1;have hlen:=h.len;have hn2:n2<=24:=by omega
 obtain⟨W,hW,B0,sW,p0,p1,p2,p3,pf⟩:=zdl w (.int .i64 a0) (.slice A1 n1 c1) (.slice A2 n2 c2) (.slice A3 n3 c3) 67;have HW:=Lib.hid hW;have lW:w.heap.size<W.heap.size:=by omega
 have hrW:=hr.later B0;have hmW:=hm.later B0;have HL:=Lib.hid hl;clear hW sW hr hm hl;obtain⟨bb,o,k,a,b,A4,c4,fs,rfl,hb,X,e0,e1,e2,e3,hr3,hl3⟩:=zbg h hrW hi;obtain⟨bm,om,rfl,hbm,m0⟩:=zhx hmW hi
 go_enter Tryz.func207,Tryz.ntmps207
 go_wp2_with fail;rw[<-HW.out]
 go_loopw [9] (fun j wr=>∃t:Nat,j=.int .i64 t/\t<=i/\Hid (∀j,j<t->(nd j&&decide (zab p.1 j=zab p.1 i))=false)/\Below W.heap.size W wr) (fun j _=>i-(intOf j).toNat)
 case atStart=>exact⟨0,rfl,by omega,Lib.hid (fun j hj=>by omega),Below.refl _ _⟩
 case round=>
  obtain⟨t,rfl,ht,H,Bw⟩:=hrel
  by_cases hlt:t<i
  ·have htn:t<n2:=(by omega);obtain⟨bb',o',k',a',b',A5,c5,fs',hA,hb',X',q0,q1,q2,q3,hr5,hl5⟩:=zbg h hrW htn;simp only[Option.some.injEq,Addr.mk.injEq,and_true]at hA;obtain⟨rfl,rfl⟩:=hA;obtain⟨bm',om',hA,hbm',mt⟩:=zhx hmW htn;simp only[Option.some.injEq,Addr.mk.injEq,and_true]at hA;obtain⟨rfl,rfl⟩:=hA;have g2:=(Bw.cell (by show w.heap.size<_;exact lW)).trans p2;have s0:=(Bw.cell (by exact hb)).trans e0;have s1:=(Bw.cell (by exact hb)).trans e1;have s2:=(Bw.cell (by exact hb)).trans e2;have s3:=(Bw.cell (by exact hb)).trans e3;have t0:=(Bw.cell (by exact hb)).trans q0;have t1:=(Bw.cell (by exact hb)).trans q1;have t2:=(Bw.cell (by exact hb)).trans q2;have t3:=(Bw.cell (by exact hb)).trans q3;have mm:=(Bw.cell (by exact hbm)).trans mt;have gg2:=cell_regrown g2;have ss0:=cell_regrown s0;have ss1:=cell_regrown s1;have ss2:=cell_regrown s2;have ss3:=cell_regrown s3;have tt0:=cell_regrown t0;have tt1:=cell_regrown t1;have tt2:=cell_regrown t2;have tt3:=cell_regrown t3;have mmr:=cell_regrown mm;have hit:(i:Int)<(n2:Int):=(by omega);have htt:(t:Int)<(n2:Int):=(by omega);have hti:(t:Int)<(i:Int):=(by omega)
   have CS:∀d os,Calls Tryz.prog 149 #[.agg #[.int .i64 k',.int .i64 a',.int .i64 b',.slice A5 fs'.length c5],.agg #[.int .i64 k,.int .i64 a,.int .i64 b,.slice A4 fs.length c4]] (grow (redrawn wr d) os) fun e w''=>e=.returned (.bool (decide (((k',a',b',fs'):Node)=(k,a,b,fs))))/\∃p:Regrown,w''=grow (redrawn wr p.d) p.os:=fun d os=>
    Calls.regrown_of (zlj k' a' b' k a b A5 A4 fs'.length c5 fs.length c4 fs' fs _ (((hr5.below Bw).more Bw.size).later (below_regrown wr d os)) (((hr3.below Bw).more Bw.size).later (below_regrown wr d os)) (by omega))
   have HS:=Lib.hid (show (nd t&&decide (zab p.1 t=zab p.1 i))=(nd t&&decide (((k',a',b',fs'):Node)=(k,a,b,fs)))by rw[X.out,X'.out]);clear p0 p1 p2 p3 pf e0 e1 e2 e3 q0 q1 q2 q3 mt g2 s0 s1 s2 s3 t0 t1 t2 t3 mm m0 HW
   have hnx:(nd t&&decide (zab p.1 t=zab p.1 i))=false->Hid (∀j,j<t+1->(nd j&&decide (zab p.1 j=zab p.1 i))=false):=fun e=>Lib.hid (fun j hj=>by
    rcases Nat.lt_or_eq_of_le (Nat.le_of_lt_succ hj)with h1|rfl
    ·exact H.out j h1
    exact e)
   have HNX:=Lib.hid hnx;clear hnx;cases hnt:nd t
   ·rw[hnt]at mmr;have HN:=HNX.out (by rw[hnt];rfl);clear hnt CS;go_wp2_with fail
    (refine wp_region_quiet_below (by kernel_rfl) (by kernel_rfl) ?_;(repeat (go_big_quiet_step (fail)));refine wpQuiet_nil ?_;intro _ hw';obtain⟨⟨dq,osq⟩,hw''⟩:=hw';subst hw'')
    go_wp2_with fail;go_roundw
    case rel=>exact⟨t+1,by go_num,by omega,HN,zaa Bw (below_regrown wr dq osq)⟩
    case measure=>simp[intOf];omega
   rw[hnt]at mmr;cases hs:decide (((k',a',b',fs'):Node)=(k,a,b,fs))
   ·rw[hs]at CS;have HN:=HNX.out (by rw[HS.out,hs,Bool.and_false]);clear hnt hs;go_wp2_with fail
    (refine wp_region_quiet_below (by kernel_rfl) (by kernel_rfl) ?_;(repeat (go_big_quiet_step (exact CS _ _)));refine wpQuiet_nil ?_;intro _ hw';obtain⟨⟨dq,osq⟩,hw''⟩:=hw';subst hw'')
    go_wp2_with fail;go_roundw
    case rel=>exact⟨t+1,by go_num,by omega,HN,zaa Bw (below_regrown wr dq osq)⟩
    case measure=>simp[intOf];omega
   rw[hs]at CS;have HT:=Lib.hid (zng hlt (by rw[HS.out,hs,hnt];rfl) H.out);clear hnt hs;go_wp2_with fail
   (refine wp_region_quiet_below (by kernel_rfl) (by kernel_rfl) ?_;(repeat (go_big_quiet_step (exact CS _ _)));refine wpQuiet_nil ?_;intro _ hw';obtain⟨⟨dq,osq⟩,hw''⟩:=hw';subst hw'')
   go_wp2_with fail;go_ret;exact⟨zay (by rw[HT.out]),zaa B0 (zaa Bw (below_regrown wr dq osq))⟩
  obtain rfl:t=i:=by omega
  have HT:=Lib.hid (znh H.out);go_wp2;go_ret;exact⟨zay (by rw[HT.out]),zaa B0 Bw⟩
end
end
section
def OQ (w:Yw) (F:Nat->Prop) (v:Value) (xs:List Int):Prop:=
 (v=.slice none 0 0/\xs=[])\/∃b o c,v=.slice (some ⟨b,o,none⟩) xs.length c/\xs.length<=c/\c<=maxLen/\F b/\b<w.heap.size/\(∀j x,xs[j]?=some x->w.cell? ⟨b,o+j,none⟩=some (.int .i64 x))/\∀j,xs.length<=j->j<c->(w.cell? ⟨b,o+j,none⟩).isSome=true/\w.frozen? ⟨b,o+j,none⟩=false
section
variable {w w':Yw} {F F':Nat->Prop} {v:Value} {xs:List Int} {e:TypeId} {lo:Nat}
theorem OQ.of_own{n:Nat}(h:w.ownsRow lo e 1 v n (xs.map (.int .i64)))(hF:∀g,lo<=g->g<w.heap.size->F g):OQ w F v xs:=by
 have h0:=h;have hn:xs.length=n:=by have:=h.1;simpa using this
 subst hn;rcases h.2 with⟨rfl,h1⟩|⟨g,cap,cur,rfl,hb,hg,h2,h3,h4,h5⟩
 ·exact .inl ⟨rfl,List.eq_nil_of_length_eq_zero h1⟩
 have hlt:=(Array.getElem?_eq_some_iff.1 hg).1;refine .inr ⟨g,0,cap,rfl,h2,h3,hF g hb hlt,hlt,fun j x hx=>?_,fun j hj hc=>?_⟩
 ·have hl:=(List.getElem?_eq_some_iff.1 hx).1;rw[Nat.zero_add,World.ownsRow.cellAt h0 j (by omega),List.getElem?_map,hx]
  rfl
 rw[Nat.zero_add];refine⟨?_,World.ownsRow.frozenAt h0 j⟩;rw[cell_of_row w g j cur e (0,0) hg];have:j<cur.size:=by omega
 simp[this]
theorem OQ.chg(h:OQ w F v xs)(hc:Chg F' w w')(hn:∀b,F b->¬F' b):OQ w' F v xs:=by
 rcases h with h|⟨b,o,c,rfl,h1,h2,h3,h4,h5,h6⟩
 ·exact .inl h
 refine .inr ⟨b,o,c,rfl,h1,h2,h3,Nat.lt_of_lt_of_le h4 hc.size,fun j x hx=>?_,fun j hj hj2=>?_⟩
 ·rw[hc.cell (by exact h4) (by exact hn b h3)];exact h5 j x hx
 rw[hc.cell (by exact h4) (by exact hn b h3),hc.frozen (by exact h4) (by exact hn b h3)];exact h6 j hj hj2
theorem OQ.wide(h:OQ w F v xs)(hf:∀b,F b->F' b):OQ w F' v xs:=by
 rcases h with h|⟨b,o,c,rfl,h1,h2,h3,h4⟩
 ·exact .inl h
 exact .inr ⟨b,o,c,rfl,h1,h2,hf b h3,h4⟩
theorem OQ.tail{x:Int}(h:OQ w F v (x::xs)):∃b o c,v=.slice (some ⟨b,o,none⟩) (xs.length+1) (c+1)/\F b/\b<w.heap.size/\w.cell? ⟨b,o,none⟩=some (.int .i64 x)/\OQ w F (.slice (some (if c=0 then⟨b,o,none⟩else⟨b,o+1,none⟩)) xs.length c) xs:=by
 rcases h with⟨_,h⟩|⟨b,o,c,rfl,h1,h2,h3,h4,h5,h6⟩
 ·cases h
 simp only[List.length_cons]at h1 h6;obtain⟨c,rfl⟩:∃c',c=c'+1:=⟨c-1,by omega⟩;refine⟨b,o,c,rfl,h3,h4,h5 0 x rfl,?_⟩
 by_cases hc:c=0
 ·have:xs=[]:=List.eq_nil_of_length_eq_zero (by omega);subst this;subst hc;exact .inr ⟨b,o,0,rfl,by simp,by omega,h3,h4,fun j x hx=>by simp at hx,fun j hj hj2=>by omega⟩
 rw[if_neg hc];refine .inr ⟨b,o+1,c,rfl,by omega,by omega,h3,h4,fun j y hy=>?_,fun j hj hj2=>?_⟩
 ·have:=h5 (j+1) y (by simpa using hy);rw[show o+1+j=o+(j+1)by omega];exact this
 have:=h6 (j+1) (by omega) (by omega);rw[show o+1+j=o+(j+1)by omega];exact this
end
section
variable {P:Program} {t e:TypeId}
theorem zni{w:Yw}(b:Nat):∀(vs:List Value) (o:Nat) (w:Yw),w.grownBy (w.setCells b o vs) (some b)
 | [],_,w=>World.grownBy.refl w _
 | v::r,o,w=>zj3 (zaz w b o v) (zni (w:=w) b r (o+1) _)
theorem znj(ys:List Int):∀u∈ys.map (Value.int .i64),u.oneCell'=true:=by
 intro u hu;obtain⟨y,_,rfl⟩:=List.mem_map.1 hu
 rfl
theorem zuq(hE:EI P t e (.int .i64 0) 1 8){w:Yw}{ops:Array Oper}{rest:List Oper}{o:Oper}{a:Act}{Q:Exit->Act->Yw->Prop}
 (hgd:o.guard=none) (s x:Operand) (ho:o.op=.call { callee:=.builtin .append,args:=#[s,x],argTypes:=#[t,t] })
 {F:Nat->Prop} {v:Value} {xs ys:List Int} (hq:OQ w F v xs) (hs:a.eval s=v) {A:Yo} {m c:Nat} (hr:RI w w.heap.size A m ys) (hx:a.eval x=.slice A m c) (hn:xs.length+m<=1000000)
 (K:∀v' w',OQ w' (fun b=>F b\/w.heap.size<=b) v' (xs++ys)->Chg F w w'->wpList P ops Q rest (a.put o.dst v') w') :
 wpList P ops Q (o::rest) a w:=by
 obtain⟨ht,hinfo,hzs,hsz⟩:=hE;obtain⟨i0,hi,hz0,hz1,hz2⟩:=info_parts hinfo;have hm:=hr.len;rcases Nat.eq_zero_or_pos m with h0|h0
 ·subst h0;obtain rfl:ys=[]:=List.eq_nil_of_length_eq_zero hm
  have hrun:(Builtin.append_ #[t,t] o.type #[v,.slice A 0 c]).run P w=.ok v w:=by
   cases A with
   | none=>rcases hq with⟨rfl,rfl⟩|⟨b,o',c',rfl,h1,_⟩ <;> simp[Builtin.append_,run_underlying ht,sizeOf,typeInfo,hi,Builtin.lenOf,Builtin.firstCells,storeCells, *]
   | some ad=>
    have hfc:=run_firstCells_some (P:=P) w i0.size 0 ad 0 c [] (by simp) (by simp);rw[hz1]at hfc;rcases hq with⟨rfl,rfl⟩|⟨b,o',c',rfl,h1,_⟩ <;> simp[Builtin.append_,run_underlying ht,sizeOf,typeInfo,hi,Builtin.lenOf,hfc,storeCells, *]
  refine wpList_plain hgd fun K' hK'=>?_
  unfold Oper.wp execOp;simp only[ho,resolve,invoke,builtin,Sem.run_bind,Sem.run_pure,Result.andThen_ok,List.map_toArray,List.map_cons,List.map_nil,hs,hx,hrun];exact hK' _ _ (K v w (by simpa using hq.wide (fun b hb=>.inl hb)) (Chg.refl _ _))
 obtain⟨ad,rfl,hab,hc⟩:=hr.2 h0
 have hgrow:∀v' w',w'.ownsRow w.heap.size e 1 v' (xs.length+m) (xs.map (.int .i64)++ys.map (.int .i64))->w.grownBy w' none->wpList P ops Q rest (a.put o.dst v') w':=fun v' w' h1 h2=>by
  rw[<-List.map_append]at h1;exact K v' w' (OQ.of_own h1 (fun g hg _=>.inr hg)) (Chg.of_grown h2 (fun k hk=>by cases hk))
 rcases hq with⟨rfl,rfl⟩|⟨b,o',c',rfl,h1,h2,h3,h4,h5,h6⟩
 ·exact wpList_append_grows w hgd s x t ho e i0 (.int .i64 0) 1 8 ht hi hz0 hz1 hz2 hzs hsz none 0 0 [] hs (fun _=>⟨rfl,rfl⟩) rfl (fun _ h=>by cases h) ad m c (ys.map (.int .i64)) hx (by simpa using hm) hc (znj ys) (by omega) (by unfold maxLen;simp at hn;omega) (by simp at hn;omega) (fun v' w' h1 h2=>hgrow v' w' (by simpa using h1) h2)
 refine wpList_append_arg w hgd s x t ho e i0 (.int .i64 0) 1 8 ht hi hz0 hz1 hz2 hzs hsz b o' xs.length c' (xs.map (.int .i64)) hs (by simp) (fun j u hu=>?_) ad m c (ys.map (.int .i64)) hx (by simpa using hm) hc (znj ys) (fun hroom j hj=>?_) (by unfold maxLen;omega) (by omega) (fun hroom=>?_) (fun hfull v' w' g1 g2=>hgrow v' w' g1 g2)
 ·rw[List.getElem?_map,Option.map_eq_some_iff]at hu;obtain⟨y,hy,rfl⟩:=hu;exact h5 j y hy
 ·have:=h6 (xs.length+j) (by omega) (by simp at hj;omega);rw[Nat.mul_one,Nat.add_assoc];exact this
 rw[Nat.mul_one]
 have hsome:∀j,j<(ys.map (Value.int .i64)).length->(w.cell? ⟨b,o'+xs.length+j,none⟩).isSome=true:=fun j hj=>by
  have:=(h6 (xs.length+j) (by omega) (by simp at hj;omega)).1;rw[Nat.add_assoc];exact this
 have hgr:=zni (w:=w) b (ys.map (Value.int .i64)) (o'+xs.length) w;have e1:xs.length+m=(xs++ys).length:=by rw[List.length_append];omega
 rw[e1];refine K _ _ (.inr ⟨b,o',c',rfl,by rw[List.length_append];omega,h2,.inl h3,Nat.lt_of_lt_of_le h4 hgr.size,fun j y hy=>?_,fun j hj hj2=>?_⟩) (Chg.of_grown hgr (fun k hk=>by injection hk with hk;rw[<-hk];exact h3))
 ·by_cases hjx:j<xs.length
  ·rw[List.getElem?_append_left hjx]at hy;rw[World.cell?_setCells_out b _ _ _ _ (fun _ _=>.inl (by show o'+j<_;omega))];exact h5 j y hy
  rw[List.getElem?_append_right (by omega)]at hy;have hjl:=(List.getElem?_eq_some_iff.1 hy).1;have:=World.cell?_setCells_in b (ys.map (Value.int .i64)) (o'+xs.length) w hsome (j-xs.length) (by simpa using hjl);rw[show o'+xs.length+(j-xs.length)=o'+j by omega]at this;rw[this];simp[List.getElem?_eq_some_iff.1 hy |>.2]
 rw[List.length_append]at hj;rw[World.cell?_setCells_out b _ _ _ _ (fun _ _=>.inr (by show _<=o'+j;simp;omega)),World.frozen?_setCells];exact h6 j (by omega) hj2
end
end
section
section
variable {tb:List (List Int)} {p:NO} {R:Nat->Nat} {w:Yw}
theorem znk(h:M.WP tb p R)(ho:p.2.length<=1000){nd:Nat->Bool}(hnd:∀j,nd j=true↔M.Rch p.1 p.2 j)(a0:Int)(A1:Yo)(n1 c1:Nat)(A2:Yo)(n2 c2:Nat)(A3:Yo)(n3 c3:Nat)(hr:RS tN w w.heap.size (.slice A2 n2 c2) p.1)(k3:tS.R w w.heap.size [.slice A3 n3 c3] p.2):
 Calls Tryz.prog 198 #[.agg #[.int .i64 a0,.slice A1 n1 c1,.slice A2 n2 c2,.slice A3 n3 c3]] w fun e w'=>∃(Am:Yo) (cm:Nat),e=.returned (.slice Am n2 cm)/\RA ebl 1 w' w'.heap.size Am n2 (ze1 nd n2)/\Below w.heap.size w w'/\∀ad:Addr,Am=some ad->w.heap.size<ad.block:=by
 have hl:=hr.cap.1;have hlen:=h.len;have hn2:n2<=24:=by omega
 obtain⟨W,hW,B0,sW,p0,p1,p2,p3,pf⟩:=zdl w (.int .i64 a0) (.slice A1 n1 c1) (.slice A2 n2 c2) (.slice A3 n3 c3) 67;have HW:=Lib.hid hW;have HND:=Lib.hid hnd;have P2:=Lib.hid p2;have lW:w.heap.size<W.heap.size:=by omega
 have hrW:=hr.later B0;have k3W:=tS.later k3 B0;have HL:=Lib.hid hl;have hl3:=Lib.hid (zcn k3);clear hW sW hr k3 hl pf hnd
 go_enter Tryz.func198,Tryz.ntmps198
 go_wp2_with (at_make;rw[<-HW.out];refine zdo zls rfl _ _ rfl n2 _ _ rfl rfl rfl rfl (by omega) (by unfold maxLen;omega) ?_;intro w1 own1 bel1;replace p2:=(bel1.cell (by show w.heap.size<_;exact lW)).trans p2;replace p3:=(bel1.cell (by show w.heap.size<_;exact lW)).trans p3;have hs1:W.heap.size<w1.heap.size:=(World.ownsRow.lt own1 _ rfl).2;have lw1:w.heap.size<w1.heap.size:=(by omega);have OWN1:=Lib.hid own1;clear own1);have own1:=OWN1.out
 have owt:OA ebl 4 1 W.heap.size (W.heap.size+1) w1 (.slice (some ⟨W.heap.size,0,none⟩) n2 n2) (List.replicate n2 false):=
  OA.made zer (by decide) rfl own1 (fun k hk=>by simp only[Value.ownBlock,Option.some.injEq]at hk;omega)
 have ri1:=(tS_R.1 (tS.later k3W bel1)).ri;clear own1 OWN1;refine(zdu _ _ _ _ _ ri1 (by have:=hl3.out;omega)).mono ?_;rintro e w2 ⟨v1,rfl,o2,bel2⟩;have q0:OQ w2 (fun b=>w1.heap.size<=b) v1 p.2:=OQ.of_own o2 (fun g hg _=>hg);have B2:=zaa bel1 bel2;have s2:=bel2.size;have owt2:=owt.below bel2 (by omega);have BI0:=Lib.hid (M.BI.start (ns:=p.1) (os:=p.2) (fun o hoo=>(h.outs o hoo).1));rw[HL.out]at BI0;have g2:=(bel2.cell (by show w.heap.size<_;omega)).trans p2;have lo2:=Lib.hid (show p.2.length<=1000 from ho);clear owt o2 ri1 p0 p1 p2 p3 bel1 bel2 HW ho k3W;go_wp2_with fail
 go_loopg [4] (4*n2+p.2.length) (fun gk v wr=>∃(m:List Bool) (q:List Int),OQ wr (fun b=>w1.heap.size<=b) v q/\OA ebl 4 1 W.heap.size (W.heap.size+1) wr (.slice (some ⟨W.heap.size,0,none⟩) n2 n2) m/\Hid (M.BI p.1 p.2 m q)/\4*(n2-zdd m)+q.length<=gk/\3*(n2-zdd m)+q.length<=2000/\Below W.heap.size W wr/\w1.heap.size<=wr.heap.size)
 case atStart=>
  have:=lo2.out;exact⟨_,_,q0,owt2,BI0,by have:zdd (List.replicate n2 false)=0:=by { simp[zdd] };omega,by omega,B2,s2⟩
 case round=>
  obtain⟨m,q,oq,owk,HBI,hg1,hg2,Bw,sw⟩:=hrel;have gw2:=(Bw.cell (by show w.heap.size<_;exact lW)).trans P2.out;have hml:=HBI.out.len;cases q with
  | nil=>
   have hM:=HBI.out.whole HND.out
   have hrm:RA ebl 1 wr wr.heap.size (some ⟨W.heap.size,0,none⟩) n2 (ze1 nd n2):=by
    have e:ze1 nd n2=m:=(by rw[hM,ze1,HL.out]);rw[e];obtain rfl:m.length=n2:=by rw[hml,HL.out]
    exact owk.ra
   rcases oq with⟨rfl,-⟩|⟨b,o,c,rfl,-⟩
   ·go_wp2_with fail;go_ret;exact⟨_,_,rfl,hrm,B0.trans (Bw.mono (by omega)),fun ad e=>by injection e with e;rw[<-e];exact lW⟩
   ·go_wp2_with fail;go_ret;exact⟨_,_,rfl,hrm,B0.trans (Bw.mono (by omega)),fun ad e=>by injection e with e;rw[<-e];exact lW⟩
  | cons x q=>
   obtain⟨hx0,hxr⟩:=HBI.out.qr x (List.mem_cons_self ..);have hxl:=M.Rch.lt h hxr;obtain⟨f,rfl⟩:∃f:Nat,x=(f:Int):=⟨x.toNat,by omega⟩;rw[Int.toNat_natCast]at hxl hxr;have hf:f<n2:=(by have:=HL.out;omega);have hf2:(f:Int)<(n2:Int):=(by omega);obtain⟨b,o,c,rfl,hbF,hbl,c0,oq2⟩:=oq.tail;obtain⟨bf,hbf⟩:∃bf,m[f]?=some bf:=⟨_,List.getElem?_eq_getElem (show f<m.length by rw[hml];exact hxl)⟩;have mc:=OA.cell zer owk hbf (j:=0) rfl;rw[Nat.mul_one,Nat.add_zero]at mc;obtain⟨mc,mf⟩:=mc;have HBF:=Lib.hid hbf;simp only[List.length_cons]at hg1 hg2;clear hbf oq hml hxr hx0;obtain⟨A9,hA9⟩:∃A9,(if c=0 then(⟨b,o,none⟩:Addr)else⟨b,o+1,none⟩)=A9:=⟨_,rfl⟩;rw[hA9]at oq2
   have hcc:(c=0/\A9=⟨b,o,none⟩)\/(¬c=0/\A9=⟨b,o+1,none⟩):=by
    by_cases hc:c=0
    ·rw[if_pos hc]at hA9;exact .inl ⟨hc,hA9.symm⟩
    rw[if_neg hc]at hA9;exact .inr ⟨hc,hA9.symm⟩
   clear hA9;cases bf with
   | true=>
    have hsk:=Lib.hid (HBI.out.skip HBF.out);rcases hcc with⟨rfl,rfl⟩|⟨hc,rfl⟩
    all_goals
     go_wp2_with fail
     go_roundg (gk-1)
     case measure=>omega
     case rel=>exact⟨m,q,oq2,owk,hsk,by omega,by omega,Bw,sw⟩
   | false=>
    obtain⟨T,hT⟩:∃T,T=wr.setCell ⟨W.heap.size,f,none⟩ (.bool true):=⟨_,rfl⟩;have chT:Chg (fun b=>b=W.heap.size) wr T:=(by rw[hT];exact Chg.set _ _ _ _ rfl);have owT:=(OA.set zer owk HBF.out (j:=0) (by decide) (y:=true) (u:=.bool true) rfl).1;simp only[Nat.mul_one,Nat.add_zero]at owT;rw[<-hT]at owT;have BT:=Bw.trans (chT.toBelow (fun b (hb:b=_)=>by omega) (by omega));have oqT:=oq2.chg chT (fun b hb (e:b=_)=>by omega);have sT:=chT.size;obtain⟨bb,o',k,a,b',A4,c4,fs,rfl,hbb,X,e0,e1,e2,e3,hr3,hlf⟩:=zbg h (hrW.below BT) hf;have gT:=(BT.cell (by show w.heap.size<_;exact lW)).trans P2.out;have hmk:=HBI.out.mark (by have:=HBI.out.len;omega) (fun g hg=>(h.frs f hxl g hg).1);rw[X.out]at hmk;have HMK:=Lib.hid hmk;have HCN:=Lib.hid (zmh HBF.out);have hcl:=zt1 (m.set f true);rw[List.length_set,HBI.out.len,HL.out]at hcl;have hcn:=HCN.out;have hrT:=hr3.more BT.size;have HT:=Lib.hid hT;have hqn:q.length+fs.length<=1000000:=(by omega);have hm1:4*(n2-zdd (m.set f true))+(q.length+fs.length)<gk:=(by omega);have hm2:3*(n2-zdd (m.set f true))+(q.length+fs.length)<=2000:=(by omega);have HM:=Lib.hid (show 4*(n2-zdd (m.set f true))+(q++fs).length<gk/\3*(n2-zdd (m.set f true))+(q++fs).length<=2000 by rw[List.length_append];exact⟨hm1,hm2⟩);clear hT hmk hcl hcn e0 e1 e2 chT hm1 hm2 hg1 hg2;rcases hcc with⟨rfl,rfl⟩|⟨hc,rfl⟩
    all_goals
     go_upto_region 8 with fail
     rw[<-HT.out];clear gw2 mc mf c0;go_wp2_with (at_builtin;refine zuq zce rfl _ _ rfl oqT rfl hrT rfl hqn ?_;intro v3 w4 oq4 ch4)
     go_roundg (4*(n2-zdd (m.set f true))+(q++fs).length)
     case measure=>exact HM.out.1
     case rel=>
      have s4:=ch4.size;exact⟨m.set f true,q++fs,oq4.wide (fun x hx=>by rcases hx with hx|hx <;> omega),owT.below (ch4.toBelow (B:=W.heap.size+1) (fun x hx=>by omega) (by omega)) (Nat.le_refl _),HMK,Nat.le_refl _,HM.out.2,BT.trans (ch4.toBelow (fun x hx=>by omega) (by omega)),by omega⟩
end
end
end Go.Proofs.YtifeldeikhmckaaGreat
