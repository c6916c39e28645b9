import Derived.Test.YtifeldeikhmckaaGreatFnExactOptimizeSessionG3
import Derived.Test.YtifeldeikhmckaaGreatFnExactOptimizeSessionG6
import Derived.Test.YtifeldeikhmckaaGreatFnExactOptimizeSessionG2
import Derived.Test.YtifeldeikhmckaaGreatFnExactOptimizeSessionG1
import Derived.Test.YtifeldeikhmckaaGreatFnExactOptimizeSessionG14
import Derived.Test.YtifeldeikhmckaaGreatFnExactOptimizeSessionG5
import Derived.StillTailTactics
import Derived.Deep.QuietTactic
import Derived.Lib.QuietBelow
set_option linter.unusedVariables false
set_option linter.unusedSimpArgs false
set_option maxRecDepth 100000
set_option maxHeartbeats 4000000
namespace Go.Proofs.YtifeldeikhmckaaGreat
open Go.RowKit Go.Sort
section
def tU8:Ty UInt8:=Ty.flat 1 (by decide) 0 (fun x=>[.int .u8 (x.toNat:Int)]) (fun _=>rfl) (by simp[Value.oneCell'])
structure SrcP (w:Yw) (b lo:Nat) (A:Yo) (n c:Nat) (code:List UInt8) (K:Nat) (a z:Int):Prop where
 c0:w.cell? ⟨b,0,none⟩=some (.slice A n c)
 c1:w.cell? ⟨b,1,none⟩=some (.int .i64 a)
 c2:w.cell? ⟨b,2,none⟩=some (.int .u64 z)
 f1:w.frozen? ⟨b,1,none⟩=false
 f2:w.frozen? ⟨b,2,none⟩=false
 rd:RS tU8 w lo (.slice A n c) code
 ha:0<=a
 hK:a<=K
 hb:lo<=b
def Src (w:Yw) (b lo:Nat) (A:Yo) (n c:Nat) (code:List UInt8) (K:Nat):Prop:=∃a z,SrcP w b lo A n c code K a z
section
variable {w w':Yw} {b lo n c K K':Nat} {A :Yo} {code:List UInt8}
theorem Src.lt(h:Src w b lo A n c code K):b<w.heap.size:=by
 obtain⟨a,z,h⟩:=h;exact World.block_lt_of_cell? w _ h.c0
theorem Src.keep(h:Src w b lo A n c code K)(hk:∀k,k<b+1->w'.heap[k]?=w.heap[k]?):Src w' b lo A n c code K:=by
 obtain⟨a,z,h⟩:=h;have hb:=hk b (by omega);refine⟨a,z,?_,?_,?_,?_,?_,h.rd.keep fun p hp=>World.cell?_of_block (hk p.block (by have:=h.hb;omega)),h.ha,h.hK,h.hb⟩
 ·rw[World.cell?_of_block hb];exact h.c0
 ·rw[World.cell?_of_block hb];exact h.c1
 ·rw[World.cell?_of_block hb];exact h.c2
 ·rw[World.frozen?_of_block hb];exact h.f1
 rw[World.frozen?_of_block hb];exact h.f2
theorem Src.below{B:Nat}(h:Src w b lo A n c code K)(hb:Below B w w')(hB:b<B):Src w' b lo A n c code K:=h.keep fun k hk=>hb.block k (by omega)
theorem Src.mid{l r:Nat}(h:Src w b lo A n c code K)(hm:Mid l r w w')(hd:b<l):Src w' b lo A n c code K:=by
 have hlt:=h.lt;exact h.keep fun k hk=>hm.block k (by omega) (.inl (by omega))
theorem Src.more(h:Src w b lo A n c code K)(hK:K<=K'):Src w b lo A n c code K':=by
 obtain⟨a,z,h⟩:=h;exact⟨a,z,h.c0,h.c1,h.c2,h.f1,h.f2,h.rd,h.ha,by have:=h.hK;omega,h.hb⟩
end
theorem SrcP.step{w:Yw}{b lo n c K K':Nat}{A:Yo}{code:List UInt8}{a z:Int}(h:SrcP w b lo A n c code K a z)(m m':Nat)(a' z':Int)(ha:0<=a')(hK:a'<=K'):
 SrcP ((((w.drewN m).setCell ⟨b,1,none⟩ (.int .i64 a')).setCell ⟨b,2,none⟩ (.int .u64 z')).drewN m') b lo A n c code K' a' z'/\Mid b (b+1) w ((((w.drewN m).setCell ⟨b,1,none⟩ (.int .i64 a')).setCell ⟨b,2,none⟩ (.int .u64 z')).drewN m'):=by
 obtain⟨h0,h1,h2,g1,g2,hr,_,_,hb⟩:=h;have m0:Mid b (b+1) w (w.drewN m):=⟨rfl,rfl,rfl,Nat.le_refl _,fun _ _ _=>rfl⟩;have m1:Mid b (b+1) (w.drewN m) ((w.drewN m).setCell ⟨b,1,none⟩ (.int .i64 a')):=Mid.of_grown (zaz _ b 1 _) fun k hk=>by injection hk with hk;omega
 have m2:Mid b (b+1) ((w.drewN m).setCell ⟨b,1,none⟩ (.int .i64 a')) (((w.drewN m).setCell ⟨b,1,none⟩ (.int .i64 a')).setCell ⟨b,2,none⟩ (.int .u64 z')):=Mid.of_grown (zaz _ b 2 _) fun k hk=>by injection hk with hk;omega
 have m3:Mid b (b+1) (((w.drewN m).setCell ⟨b,1,none⟩ (.int .i64 a')).setCell ⟨b,2,none⟩ (.int .u64 z')) ((((w.drewN m).setCell ⟨b,1,none⟩ (.int .i64 a')).setCell ⟨b,2,none⟩ (.int .u64 z')).drewN m'):=⟨rfl,rfl,rfl,Nat.le_refl _,fun _ _ _=>rfl⟩;have M:=((m0.trans m1).trans m2).trans m3;refine⟨⟨?_,?_,?_,?_,?_,hr.keep fun p hp=>World.cell?_of_block (M.block p.block ?_ (.inl (by omega))),ha,hK,hb⟩,M⟩
 ·simp[go_sem, *]
 ·simp[go_sem, *]
 ·simp[go_sem, *]
 ·simp[go_sem, *]
 ·simp[go_sem, *]
 have:=World.block_lt_of_cell? w _ h0;simp only at this;omega
end
section
section
variable {lo hi g o:Nat} {w w':Yw}
theorem Mid.cellK{u:Option Value}(h:Mid lo hi w w')(hg:g<w.heap.size)(hd:g<lo\/hi<=g)(hc:w.cell? ⟨g,o,none⟩=u):w'.cell? ⟨g,o,none⟩=u:=by rw[World.cell?_of_block (h.block g hg hd)];exact hc
theorem Mid.thenB'{a b c:Yw}{B:Nat}(h:Mid lo hi a b)(k:Below B b c)(hB:a.heap.size<=B):Mid lo hi a c:=
 ⟨k.os.trans h.os,k.tape.trans h.tape,k.output.trans h.output,Nat.le_trans h.size k.size,fun i hi' hm=>(k.block i (by omega)).trans (h.block i hi' hm)⟩
theorem Mid.frozK{u:Bool}(h:Mid lo hi w w')(hg:g<w.heap.size)(hd:g<lo\/hi<=g)(hc:w.frozen? ⟨g,o,none⟩=u):w'.frozen? ⟨g,o,none⟩=u:=by rw[World.frozen?_of_block (h.block g hg hd)];exact hc
end
end
theorem OS.made0{α:Type}(t:Ty α)(e:TypeId)(w:Yw):OS t e (w.alloc (.cells #[] e)) (Iv w.heap.size (w.alloc (.cells #[] e)).heap.size) (.slice (some ⟨w.heap.size,0,none⟩) 0 0) []:=
 ⟨[],fun _ _=>False,World.ownsRow_made _ _ _ (Nat.zero_le _) (by simp[maxLen]) (by simp),rfl,fun g hg=>by simp only[Value.ownBlock,Option.some.injEq]at hg;subst hg;exact⟨Nat.le_refl _,by simp⟩,fun _ _ h=>h.elim,fun _ _ _ _ h=>h.elim,fun k h=>by simp at h⟩
theorem ei_S:EI Tryz.prog 22 24 (.slice none 0 0) 1 24:=⟨Tryz.underlying22,by kernel_rfl,rfl,by decide⟩
theorem Iv.apart{a b c d:Nat}(h:b<=c):∀k,Iv a b k->¬Iv c d k:=fun k h1 h2=>by have:=h1.2;have:=h2.1;omega
theorem Iv.grow{a b c d:Nat}(h1:a<=b)(h2:b<=c)(h3:c<=d):∀k,(Iv a b k\/Iv b c k\/c<k/\k<d)->Iv a d k:=by
 intro k h;unfold Iv at *;omega
def zxj (xs:List (Int×Int)) (a:Int):Prop:=(∀p∈xs,0<=p.1/\p.1<a/\-65536<=p.2/\p.2<=65536)/\xs.Pairwise (fun p q=>p.1<q.1)
theorem ziy(a b:Int)(w:Yw):Calls Tryz.prog 249 #[.int .i64 a,.int .i64 b] w fun e w'=>e=.returned (.int .i64 (wrap32 (a+b)))/\w=w':=by
 have h1:=M.wrap32_bd a;have h2:=M.wrap32_bd b
 go_enter Tryz.func249,Tryz.ntmps249
 go_wp2_with (go_at_call 211;refine(zh5 _ _).mono ?_;rintro e w' ⟨rfl,rfl⟩);go_ret;exact⟨zay (M.wrap32_add _ _),rfl⟩
theorem zlk(a b:Int)(w:Yw):Calls Tryz.prog 250 #[.int .i64 a,.int .i64 b] w fun e w'=>e=.returned (.int .i64 (wrap32 (a-b)))/\w=w':=by
 have h1:=M.wrap32_bd a;have h2:=M.wrap32_bd b
 go_enter Tryz.func250,Tryz.ntmps250
 go_wp2_with (go_at_call 211;refine(zh5 _ _).mono ?_;rintro e w' ⟨rfl,rfl⟩);go_ret;exact⟨zay (M.wrap32_sub _ _),rfl⟩
theorem zhj(a b:Int)(w:Yw):Calls Tryz.prog 187 #[.int .i64 a,.int .i64 b] w fun e w'=>e=.returned (.int .i64 (wrap32 (a*b)))/\w=w':=by
 have h1:=M.wrap32_bd a;have h2:=M.wrap32_bd b;have h3:=M.wrap64_mul_bd _ _ h1 h2
 go_enter Tryz.func187,Tryz.ntmps187
 go_wp2_with (go_at_call 211;refine(zh5 _ _).mono ?_;rintro e w' ⟨rfl,rfl⟩);go_ret;exact⟨zay (M.wrap32_mul _ _),rfl⟩
structure DL (w:Yw) (b lo:Nat) (A:Yo) (n c:Nat) (code:List UInt8) (K:Nat) (xs:List Int) (v:Value) (wr:Yw):Prop where
 own:OS tI 2 wr (Iv w.heap.size wr.heap.size) v xs
 src:Src wr b lo A n c code K
 mid:Mid b (b+1) w wr
 sz:w.heap.size+1<=wr.heap.size
theorem DL.step{w wr w':Yw}{b lo:Nat}{A:Yo}{n c:Nat}{code:List UInt8}{K K':Nat}{xs:List Int}{v:Value}(h:DL w b lo A n c code K xs v wr)(hb:b<w.heap.size)(hs:Src w' b lo A n c code K')(hm:Mid b (b+1) wr w'):DL w b lo A n c code K' xs v w':=
 have hz:=h.sz
 ⟨(h.own.mid hm (.inr (by omega)) (Nat.le_refl _)).iv (Nat.le_refl _) hm.size,hs,h.mid.trans hm,Nat.le_trans hz hm.size⟩
theorem DL.more{w wr:Yw}{b lo:Nat}{A:Yo}{n c:Nat}{code:List UInt8}{K K':Nat}{xs:List Int}{v:Value}(h:DL w b lo A n c code K xs v wr)(hK:K<=K'):DL w b lo A n c code K' xs v wr:=
 ⟨h.own,h.src.more hK,h.mid,h.sz⟩
theorem OA.cap{α:Type}{enc:α->List Value}{e:TypeId}{s lo hi n c:Nat}{w:Yw}{A:Yo}{xs:List α}(h:OA enc e s lo hi w (.slice A n c) xs):n<=c/\c<=maxLen:=by
 obtain⟨A',c',hv,h1,h2,_⟩:=zek h.1;simp only[Value.slice.injEq]at hv;obtain⟨rfl,rfl,rfl⟩:=hv;exact⟨h1,h2⟩
def zgm (xs ys:List Int) (g:Int):List Int:=(List.range (max xs.length ys.length)).map fun(i:Nat)=>wrap32 (M.at_ xs (i:Int)+M.at_ ys (i:Int)*g)
theorem zrw(xs ys:List Int)(g:Int):(zgm xs ys g).length=max xs.length ys.length:=by simp[zgm]
theorem zrx(A:Yo)(n c:Nat)(xs:List Clip)(w:Yw)(hx:RA cl 5 w w.heap.size A n xs)(hn:n<=1000000000):
 Calls Tryz.prog 129 #[.agg #[.slice A n c]] w fun e w'=>e=.returned (.bool (za4 xs))/\Below w.heap.size w w':=by
 have B0:Below w.heap.size w (w.alloc (.cells #[.slice A n c] 98)):=(Below.refl _ _).alloc (Nat.le_refl _) _;have hself:=zkd w (.slice A n c) 98
 go_enter Tryz.func129,Tryz.ntmps129
 go_wp2_with fail;refine(zpc _ _ _ _ _ _ hself (hx.later B0) hn).mono ?_;rintro e w2 ⟨rfl,b2⟩;go_wp2;go_ret;exact⟨rfl,zaa B0 b2⟩
theorem zfd{w:Yw}{B:Nat}{A:Yo}{n c:Nat}{ns:List Node}(hr:RS tN w B (.slice A n c) ns)(hb:hNS.sz ns<=100000000){k:Nat}(hk:k<n):
 ∃(bb o:Nat) (a0 a1 a2:Int) (A1:Yo) (c1:Nat) (x3:List Int),A=some ⟨bb,o,none⟩/\bb<B/\Hid (ns[k]?=some (a0,a1,a2,x3))/\w.cell? ⟨bb,o+k*4,none⟩=some (.int .i64 a0)/\w.cell? ⟨bb,o+k*4+1,none⟩=some (.int .i64 a1)/\w.cell? ⟨bb,o+k*4+2,none⟩=some (.int .i64 a2)/\w.cell? ⟨bb,o+k*4+3,none⟩=some (.slice A1 x3.length c1)/\RI w B A1 x3.length x3/\x3.length<=100000000:=by
 obtain rfl:ns.length=n:=hr.cap.1;have hX:=List.getElem?_eq_getElem hk;obtain⟨bb,o,c1,cs,hv,hab,-,hE,hc⟩:=hr.atX hX;simp only[Value.slice.injEq]at hv;obtain⟨rfl,-,rfl⟩:=hv;have hU:=hN.szL_at hX;have hU2:ns.length+hN.szL ns<=100000000:=hb;generalize ns[k]=x at hX hE hU;obtain⟨a0,a1,a2,x3⟩:=x;rw[ze9,zbi]at hU;obtain⟨A1,n1,c1,rfl,hS3⟩:=tN_R.1 hE;obtain rfl:x3.length=n1:=zcn hS3;have e0:w.cell? ⟨bb,o+k*4,none⟩=some (.int .i64 a0):=hc 0 _ rfl;exact⟨bb,o,a0,a1,a2,A1,c1,x3,rfl,hab,Lib.hid hX,e0,hc 1 _ rfl,hc 2 _ rfl,hc 3 _ rfl,(tS_R.1 hS3).ri,by omega⟩
theorem zhk(A:Yo)(n c:Nat)(ts:List (List Int))(w:Yw)(hx:RS tS w w.heap.size (.slice A n c) ts)(hb:Hid (∀x∈ts,x.length<=1000000000))(hn:n<=1000000000):
 Calls Tryz.prog 177 #[.slice A n c] w fun e w'=>e=.returned (.bool (zbt ts))/\Below w.heap.size w w':=by
 have hl:=Lib.hid hx.cap.1
 go_enter Tryz.func177,Tryz.ntmps177
 go_wp2
 go_loopw [3] (fun i wr=>∃k:Nat,i=.int .i64 k/\k<=n/\Hid (ts.all zcv=(ts.drop k).all zcv)/\Below w.heap.size w wr) (fun i _=>n-(intOf i).toNat)
 case atStart=>exact⟨0,rfl,by omega,Lib.hid (by simp),Below.refl _ _⟩
 case round=>
  obtain⟨k,rfl,hk,H,Bw⟩:=hrel
  by_cases hlt:k<n
  ·have B1:Below wr.heap.size wr (wr.alloc (.cells #[.int .i64 2,.int .i64 4,.int .i64 8,.int .i64 16] 2)):=(Below.refl _ _).alloc (Nat.le_refl _) _;have hr4:RI (wr.alloc (.cells #[.int .i64 2,.int .i64 4,.int .i64 8,.int .i64 16] 2)) (wr.alloc (.cells #[.int .i64 2,.int .i64 4,.int .i64 8,.int .i64 16] 2)).heap.size (some ⟨wr.heap.size,0,none⟩) 4 [2,4,8,16]:=(zhi wr 2 [2,4,8,16] _ rfl).more (by simp);obtain⟨V,hV⟩:∃V,V=wr.alloc (.cells #[.int .i64 2,.int .i64 4,.int .i64 8,.int .i64 16] 2):=⟨_,rfl⟩;have HV:=Lib.hid hV;rw[<-hV]at B1 hr4;have B2:=zaa Bw B1;obtain⟨bb,o,A1,c1,x,rfl,hbb,X,hc,hri,hxl⟩:=zeq (hx.below B2) hb hlt;have hri:=hri.more B2.size;have hd:=Lib.hid (M.drop_at X.out);have hc0:=hc;rw[hV]at hc0
   have HM:=Lib.hid (show zai [2,4,8,16] (x.length:Int)=(decide (x.length=2)||decide (x.length=4)||decide (x.length=8)||decide (x.length=16))by
    rw[Bool.eq_iff_iff];simp only[zai,List.any_cons,List.any_nil,Bool.or_eq_true,decide_eq_true_eq,Bool.false_eq_true,or_false];omega)
   clear hV;cases hs:(decide (x.length=2)||decide (x.length=4)||decide (x.length=8)||decide (x.length=16))
   ·have R:=Lib.hid (show zbt ts=false by rw[zbt,H.out,hd.out,List.all_cons,zcv,hs];rfl);have HS:=Lib.hid hs;clear hs;go_wp2_with fail;rw[<-HV.out];refine(zd1 _ _ _ _ _ _ hr4 (by omega)).mono ?_;rw[HM.out,HS.out];rintro e w' ⟨rfl,rfl⟩;clear hc0;go_wp2;go_ret;exact⟨zac (by rw[R.out]),B2⟩
   have HG:=Lib.hid (zqy x hs);have HS:=Lib.hid hs;clear hs;cases hq:x.all M.smp
   ·have R:=Lib.hid (show zbt ts=false by rw[zbt,H.out,hd.out,List.all_cons,zcv,hq,Bool.and_false];rfl);have HQ:=Lib.hid hq;clear hq;go_wp2_with fail;rw[<-HV.out];refine(zd1 _ _ _ _ _ _ hr4 (by omega)).mono ?_;rw[HM.out,HS.out];rintro e w' ⟨rfl,rfl⟩;clear hc0;go_wp2_with fail;refine(zg2 _ _ _ _ _ hri (by omega)).mono ?_;rw[HG.out,HQ.out];rintro e w' ⟨rfl,rfl⟩;go_wp2;go_ret;exact⟨zac (by rw[R.out]),B2⟩
   have R:=Lib.hid (show ts.all zcv=(ts.drop (k+1)).all zcv by rw[H.out,hd.out,List.all_cons,zcv,HS.out,hq];rfl);have HQ:=Lib.hid hq;clear hq;go_wp2_with fail;rw[<-HV.out];refine(zd1 _ _ _ _ _ _ hr4 (by omega)).mono ?_;rw[HM.out,HS.out];rintro e w' ⟨rfl,rfl⟩;clear hc0;go_wp2_with fail;refine(zg2 _ _ _ _ _ hri (by omega)).mono ?_;rw[HG.out,HQ.out];rintro e w' ⟨rfl,rfl⟩;go_wp2;go_roundw
   case rel=>exact⟨k+1,by go_num,by omega,R,B2⟩
   case measure=>simp[intOf];omega
  have R:=Lib.hid (show zbt ts=decide (n<=4)by rw[zbt,H.out,List.drop_eq_nil_of_le (by rw[hl.out];omega),hl.out];rfl);go_wp2;go_ret;exact⟨zac (by rw[R.out,Bool.eq_iff_iff];simp;try omega),Bw⟩
theorem zry(b o:Nat)(a0 a1 a2:Int)(A:Yo)(c:Nat)(xs:List Int)(tb:Int)(w:Yw)(p0:w.cell? ⟨b,o,none⟩=some (.int .i64 a0))(p1:w.cell? ⟨b,o+1,none⟩=some (.int .i64 a1))(p2:w.cell? ⟨b,o+2,none⟩=some (.int .i64 a2))(p3:w.cell? ⟨b,o+3,none⟩=some (.slice A xs.length c))(hx:RI w w.heap.size A xs.length xs)(hn:xs.length<=1000000000)(htb:0<=tb/\tb<=1000000000):
 Calls Tryz.prog 178 #[.pointer (some ⟨b,o,none⟩),.int .i64 tb] w fun e w'=>e=.returned (.bool (zaj (a0,a1,a2,xs) tb))/\Below w.heap.size w w':=by
 rw[<-zk0];have cK:∀d os,Calls Tryz.prog 224 #[.int .i64 a0] (grow (redrawn w d) os) fun e w''=>e=.returned (.bool (M.inn a0 1 17))/\∃p:Regrown,w''=grow (redrawn w p.d) p.os:=fun d os=>Calls.regrown_of (zfo (zrp a0 _))
 have pp0:=cell_regrown p0;have pp1:=cell_regrown p1;have pp2:=cell_regrown p2;have pp3:=cell_regrown p3;have cA:∀d os,Calls Tryz.prog 225 #[.pointer (some ⟨b,o,none⟩),.int .i64 tb] (grow (redrawn w d) os) fun e w''=>e=.returned (.bool (M.aS a0 a1 tb))/\∃p:Regrown,w''=grow (redrawn w p.d) p.os:=fun d os=>Calls.regrown_of (zrs b o a0 a1 tb _ (cell_regrown p0 d os) (cell_regrown p1 d os) htb)
 clear p0 p1 p2 p3;cases hk:M.inn a0 1 17
 ·have R:=Lib.hid (show zdb (a0,a1,a2,xs) tb=false by rw[zdb,hk];rfl);rw[hk]at cK;clear hk
  go_enter Tryz.func178,Tryz.ntmps178
  go_wp2_with fail
  (refine wp_region_quiet_below (by kernel_rfl) (by kernel_rfl) ?_;(repeat (go_big_quiet_step (exact cK _ _)));refine wpQuiet_nil ?_;intro _ hw';obtain⟨⟨dq,osq⟩,hw''⟩:=hw';subst hw'')
  go_wp2;go_ret;exact⟨zac (by rw[R.out]),below_regrown w dq osq⟩
 have hkb:=zbf.1 hk;have cR:∀d os,Calls Tryz.prog 216 #[.int .i64 a0] (grow (redrawn w d) os) fun e w''=>e=.returned (.int .i64 (M.ar a0.toNat))/\∃p:Regrown,w''=grow (redrawn w p.d) p.os:=fun d os=>Calls.regrown_of (zrr a0 _ (by omega))
 rw[hk]at cK;have HK:=Lib.hid (show zdb (a0,a1,a2,xs) tb=(M.aS a0 a1 tb&&decide ((xs.length:Int)=M.ar a0.toNat)&&xs.all zax&&(if a0=17 then M.inn a2 1 16 else decide (a2=0)))by rw[zdb];simp only[hk,Bool.true_and]);generalize M.ar a0.toNat=ra at cR HK;clear hk hkb;cases ha:M.aS a0 a1 tb
 ·have R:=Lib.hid (show zdb (a0,a1,a2,xs) tb=false by rw[HK.out,ha];rfl);rw[ha]at cA;clear ha
  go_enter Tryz.func178,Tryz.ntmps178
  go_wp2_with fail
  (refine wp_region_quiet_below (by kernel_rfl) (by kernel_rfl) ?_;(repeat (go_big_quiet_step ((first|exact cK _ _|exact cA _ _|exact cR _ _))));refine wpQuiet_nil ?_;intro _ hw';obtain⟨⟨dq,osq⟩,hw''⟩:=hw';subst hw'')
  go_wp2;go_ret;exact⟨zac (by rw[R.out]),below_regrown w dq osq⟩
 rw[ha]at cA
 by_cases hl:(xs.length:Int)=ra
 ·have HM:=Lib.hid (show zdb (a0,a1,a2,xs) tb=(xs.all zax&&(if a0=17 then M.inn a2 1 16 else decide (a2=0)))by rw[HK.out,ha,decide_eq_true hl];rfl);rw[<-hl]at cR;have hxr:=fun d os=>hx.later (below_regrown w d os)
  clear ha hl HK
  go_enter Tryz.func178,Tryz.ntmps178
  go_wp2_with fail
  (refine wp_region_quiet_below (by kernel_rfl) (by kernel_rfl) ?_;(repeat (go_big_quiet_step ((first|exact cK _ _|exact cA _ _|exact cR _ _))));refine wpQuiet_nil ?_;intro _ hw';obtain⟨⟨dq,osq⟩,hw''⟩:=hw';subst hw'')
  replace pp0:=pp0 dq osq;replace pp1:=pp1 dq osq;replace pp2:=pp2 dq osq;replace pp3:=pp3 dq osq;replace hxr:=hxr dq osq;have BV:=below_regrown w dq osq;clear cK cA cR;generalize grow (redrawn w dq) osq=V at pp0 pp1 pp2 pp3 hxr BV ⊢;go_wp2_with fail
  go_loop [5] (fun i=>∃k:Nat,i=.int .i64 k/\k<=xs.length/\Hid (xs.all zax=(xs.drop k).all zax)) (fun i=>xs.length-(intOf i).toNat)
  case atStart=>exact⟨0,rfl,by omega,Lib.hid (by simp)⟩
  case round=>
   obtain⟨k,rfl,hk,H⟩:=hrel
   by_cases hlt:k<xs.length
   ·obtain⟨ad,x,rfl,hab,X,hc⟩:=hxr.at hlt;have hd:=Lib.hid (M.drop_at X.out);cases hs:M.inn x 0 23
    ·have R:=Lib.hid (show zdb (a0,a1,a2,xs) tb=false by rw[HM.out,H.out,hd.out,List.all_cons,zax,hs];rfl);go_wp2_with (go_at_call 67;refine(zaw _ _ _ _).mono ?_;rintro e w' ⟨rfl,rfl⟩);go_ret;exact⟨zac (by rw[R.out]),BV⟩
    have R:=Lib.hid (show xs.all zax=(xs.drop (k+1)).all zax by rw[H.out,hd.out,List.all_cons,zax,hs];rfl);go_wp2_with (go_at_call 67;refine(zaw _ _ _ _).mono ?_;rintro e w' ⟨rfl,rfl⟩);go_round
    case rel=>exact⟨k+1,by go_num,by omega,R⟩
    case measure=>simp[intOf];omega
   have HF:=Lib.hid (show xs.all zax=true by rw[H.out,List.drop_eq_nil_of_le (by omega)];rfl);clear H
   by_cases h17:a0=17
   ·have R:=Lib.hid (show zdb (a0,a1,a2,xs) tb=M.inn a2 1 16 by rw[HM.out,HF.out,if_pos h17];rfl);clear HM;subst h17;go_wp2_with (go_at_call 67;refine(zaw _ _ _ _).mono ?_;rintro e w' ⟨rfl,rfl⟩);go_ret;exact⟨zac (by rw[R.out]),BV⟩
   have R:=Lib.hid (show zdb (a0,a1,a2,xs) tb=decide (a2=0)by rw[HM.out,HF.out,if_neg h17];rfl);have g17:(a0 == 17)=false:=(by simpa using h17);go_wp2_with (go_at_call 67;refine(zaw _ _ _ _).mono ?_;rintro e w' ⟨rfl,rfl⟩);go_ret;exact⟨zac (by rw[R.out,Bool.eq_iff_iff];simp),BV⟩
 have R:=Lib.hid (show zdb (a0,a1,a2,xs) tb=false by rw[HK.out,ha,decide_eq_false hl];rfl);have gl:((xs.length:Int) != ra)=true:=by simpa using hl
 clear ha
 go_enter Tryz.func178,Tryz.ntmps178
 go_wp2_with fail
 (refine wp_region_quiet_below (by kernel_rfl) (by kernel_rfl) ?_;(repeat (go_big_quiet_step ((first|exact cK _ _|exact cA _ _|exact cR _ _))));refine wpQuiet_nil ?_;intro _ hw';obtain⟨⟨dq,osq⟩,hw''⟩:=hw';subst hw'')
 go_wp2;go_ret;exact⟨zac (by rw[R.out]),below_regrown w dq osq⟩
theorem zll(b o:Nat)(a0 a1 a2:Int)(A:Yo)(c:Nat)(xs:List Int)(w:Yw)(p0:w.cell? ⟨b,o,none⟩=some (.int .i64 a0))(p3:w.cell? ⟨b,o+3,none⟩=some (.slice A xs.length c))(hx:RI w w.heap.size A xs.length xs):
 Calls Tryz.prog 181 #[.pointer (some ⟨b,o,none⟩)] w fun e w'=>∃A' c',e=.returned (.slice A' (zau (a0,a1,a2,xs)).length c')/\RI w' w'.heap.size A' (zau (a0,a1,a2,xs)).length (zau (a0,a1,a2,xs))/\Below w.heap.size w w':=by
 by_cases h:a0=6
 ·have HW:=Lib.hid (show zau (a0,a1,a2,xs)=[]by rw[zau,if_pos h]);rw[HW.out];subst h
  go_enter Tryz.func181,Tryz.ntmps181
  go_wp2;go_ret;exact⟨_,_,rfl,RI.nil _ _ _,(Below.refl _ _).alloc (Nat.le_refl _) _⟩
 have HW:=Lib.hid (show zau (a0,a1,a2,xs)=xs by rw[zau,if_neg h]);rw[HW.out];have g:(a0 == 6)=false:=by simpa using h
 go_enter Tryz.func181,Tryz.ntmps181
 go_wp2;go_ret;exact⟨_,_,rfl,hx,Below.refl _ _⟩
theorem zlm(A A':Yo)(n c n' c':Nat)(xs ys:List Int)(w:Yw)(hx:RI w w.heap.size A n xs)(hy:RI w w.heap.size A' n' ys)(hn:n<=1000000000)(hn':n'<=1000000000):
 Calls Tryz.prog 180 #[.slice A n c,.slice A' n' c'] w fun e w'=>e=.returned (.bool (xs.all (zai ys)))/\w=w':=by
 have hl:=Lib.hid hx.len
 go_enter Tryz.func180,Tryz.ntmps180
 go_wp2
 go_loop [5] (fun i=>∃k:Nat,i=.int .i64 k/\k<=n/\Hid (xs.all (zai ys)=(xs.drop k).all (zai ys))) (fun i=>n-(intOf i).toNat)
 case atStart=>exact⟨0,rfl,by omega,Lib.hid (by simp)⟩
 case round=>
  obtain⟨k,rfl,hk,H⟩:=hrel
  by_cases hlt:k<n
  ·obtain⟨ad,x,rfl,hab,X,hc⟩:=hx.at hlt;have hd:=Lib.hid (M.drop_at X.out);cases hs:zai ys x
   ·have R:=Lib.hid (show xs.all (zai ys)=false by rw[H.out,hd.out,List.all_cons,hs];rfl);have HS:=Lib.hid hs;clear hs;go_wp2_with (go_at_call 179;refine(zd1 _ _ _ _ _ _ hy (by omega)).mono ?_;rw[HS.out];rintro e w' ⟨rfl,rfl⟩);go_ret;exact⟨zac (by rw[R.out]),rfl⟩
   have R:=Lib.hid (show xs.all (zai ys)=(xs.drop (k+1)).all (zai ys)by rw[H.out,hd.out,List.all_cons,hs];rfl);have HS:=Lib.hid hs;clear hs;go_wp2_with (go_at_call 179;refine(zd1 _ _ _ _ _ _ hy (by omega)).mono ?_;rw[HS.out];rintro e w' ⟨rfl,rfl⟩);go_round
   case rel=>exact⟨k+1,by go_num,by omega,R⟩
   case measure=>simp[intOf];omega
  have R:=Lib.hid (show xs.all (zai ys)=true by rw[H.out,List.drop_eq_nil_of_le (by rw[hl.out];omega)];rfl);go_wp2;go_ret;exact⟨zac (by rw[R.out]),rfl⟩
theorem zln{v:Value}{b c:Bool}(h:c=b):Ending.returned (.tuple #[v,.bool b])=.returned (.tuple #[v,.bool c]):=by rw[h]
def zfq:Value->Nat
 | .slice _ n _=>n
 | _=>0
theorem zrz(b o:Nat)(A:Yo)(n c:Nat)(ns:List Node)(w:Yw)(p2:w.cell? ⟨b,o+2,none⟩=some (.slice A n c))(hx:RS tN w w.heap.size (.slice A n c) ns)(hb:hNS.sz ns<=100000000):
 Calls Tryz.prog 131 #[.pointer (some ⟨b,o,none⟩)] w fun e w'=>∃v,e=.returned (.tuple #[v,.bool (decide ((zca ns).length=ns.length))])/\((zca ns).length=ns.length->OI 2 w.heap.size w' v (zca ns))/\Below w.heap.size w w':=by
 have lx:b<w.heap.size:=World.block_lt_of_cell? w _ p2;have hl:=Lib.hid hx.cap.1;have hnb:n<=100000000:=by have e:ns.length+hN.szL ns=hNS.sz ns:=rfl;have:=hl.out;omega
 have H0:Below w.heap.size w (w.alloc (.cells #[] 2)):=(Below.refl _ _).alloc (Nat.le_refl _) _;have O0:OI 2 w.heap.size (w.alloc (.cells #[] 2)) (.slice (some ⟨w.heap.size,0,none⟩) 0 0) []:=OI.made _ w
 go_enter Tryz.func131,Tryz.ntmps131
 go_wp2_with fail
 go_loopw [4,5,6] (fun v _ _ wr=>∃(t:Nat) (O:List Int),t<=n/\Hid (O=zaq ns t)/\Hid (O.length=t)/\OI 2 w.heap.size wr v O/\Below w.heap.size w wr) (fun v _ _ _=>n-zfq v)
 case atStart=>exact⟨0,[],by omega,Lib.hid rfl,Lib.hid rfl,O0,H0⟩
 case round=>
  obtain⟨t,O,ht,HO,HL,own,Bw⟩:=hrel;obtain⟨A2,c2,rfl,hri⟩:=own.shape;rw[HL.out]at own hri ⊢;have q2:wr.cell? ⟨b,o+2,none⟩=some (.slice A n c):=by rw[Bw.cell lx];exact p2
  by_cases hlt:t<n
  ·go_wp2_with fail;obtain⟨wo,rfl⟩:∃wo:Yw,wo=wr:=⟨_,rfl⟩
   go_loopw [5,6] (fun q i wr=>((∃k:Nat,q=.int .i64 (-1)/\i=.int .i64 k/\k<=n/\Hid (∀j,j<k->zdc ns O j=false))\/(∃k:Nat,q=.int .i64 (k:Int)/\i=.int .i64 ((k:Int)+1)/\k<n/\Hid (zc3 ns O=some k)))/\Below wo.heap.size wo wr) (fun _ i _=>n+1-(intOf i).toNat)
   case atStart=>exact⟨.inl ⟨0,rfl,rfl,by omega,Lib.hid (by omega)⟩,Below.refl _ _⟩
   case round=>
    obtain⟨hor,B2⟩:=hrel;have BB:=zaa Bw B2;have q3:wr.cell? ⟨b,o+2,none⟩=some (.slice A n c):=(by rw[BB.cell lx];exact p2);have own2:=own.below B2;rcases hor with⟨k,rfl,rfl,hk,H⟩|⟨k,rfl,rfl,hk,H⟩
    ·by_cases hlt2:k<n
     ·obtain⟨bb,o1,a0,a1,a2,A1,c1,x3,rfl,hbb,X,e0,e1,e2,e3,hr3,h3b⟩:=zfd (hx.below BB) hb hlt2;have hrdy:=Lib.hid (zit (out:=O) X.out);have hk0:(0:Int)<=(k:Int):=(by omega);have hkn:(k:Int)<(n:Int):=(by omega);have hriO:=hri.later B2;have hrx:=hr3.more BB.size;cases hm:zai O k
      ·have HM:=Lib.hid hm;clear hm;cases ha:(zau (a0,a1,a2,x3)).all (zai O)
       ·have HA:=Lib.hid ha;have R:=Lib.hid (show zdc ns O k=false by rw[hrdy.out,ha,Bool.and_false]);clear ha;go_wp2_with fail;refine(zd1 _ _ _ _ _ _ hriO (by omega)).mono ?_;rw[HM.out];rintro e w' ⟨rfl,rfl⟩;go_wp2_with fail;refine(zll bb (o1+k*4) a0 a1 a2 A1 c1 x3 wr e0 e3 hrx).mono ?_;rintro e w3 ⟨A5,c5,rfl,hr5,bel3⟩;have hriO3:=hriO.later bel3;have hwl:(zau (a0,a1,a2,x3)).length<=1000000000:=(by unfold zau;split <;> simp <;> omega);go_wp2_with fail;refine(zlm _ _ _ _ _ _ _ _ _ hr5 hriO3 hwl (by omega)).mono ?_;rw[HA.out];rintro e w' ⟨rfl,rfl⟩;go_wp2;go_roundw
        case rel=>exact⟨.inl ⟨k+1,rfl,by go_num,by omega,Lib.hid (fun j hj=>by rcases Nat.lt_succ_iff_lt_or_eq.1 hj with h|h;exact H.out j h;rw[h];exact R.out)⟩,zaa B2 bel3⟩
        case measure=>simp[intOf];omega
       have HA:=Lib.hid ha;have R:=Lib.hid (show zc3 ns O=some k from zk2 (by rw[hl.out];exact hlt2) (by rw[hrdy.out,ha,HM.out];rfl) H.out);clear ha;go_wp2_with fail;refine(zd1 _ _ _ _ _ _ hriO (by omega)).mono ?_;rw[HM.out];rintro e w' ⟨rfl,rfl⟩;go_wp2_with fail;refine(zll bb (o1+k*4) a0 a1 a2 A1 c1 x3 wr e0 e3 hrx).mono ?_;rintro e w3 ⟨A5,c5,rfl,hr5,bel3⟩;have hriO3:=hriO.later bel3;have hwl:(zau (a0,a1,a2,x3)).length<=1000000000:=(by unfold zau;split <;> simp <;> omega);go_wp2_with fail;refine(zlm _ _ _ _ _ _ _ _ _ hr5 hriO3 hwl (by omega)).mono ?_;rw[HA.out];rintro e w' ⟨rfl,rfl⟩;go_wp2;go_roundw
       case rel=>exact⟨.inr ⟨k,rfl,by go_num,hlt2,R⟩,zaa B2 bel3⟩
       case measure=>simp[intOf];omega
      have HM:=Lib.hid hm;have R:=Lib.hid (show zdc ns O k=false by rw[hrdy.out,hm];rfl);clear hm;go_wp2_with fail;refine(zd1 _ _ _ _ _ _ hriO (by omega)).mono ?_;rw[HM.out];rintro e w' ⟨rfl,rfl⟩;go_wp2;go_roundw
      case rel=>exact⟨.inl ⟨k+1,rfl,by go_num,by omega,Lib.hid (fun j hj=>by rcases Nat.lt_succ_iff_lt_or_eq.1 hj with h|h;exact H.out j h;rw[h];exact R.out)⟩,B2⟩
      case measure=>simp[intOf];omega
     have hno:=Lib.hid (zk3 (ns:=ns) (out:=O) (fun j hj=>H.out j (by rw[hl.out]at hj;omega)));have HR:=Lib.hid (show zca ns=O by rw[HO.out];exact zk4 (by rw[hl.out];exact ht) (by rw[<-HO.out];exact hno.out));have R:=Lib.hid (show ¬(zca ns).length=ns.length by rw[HR.out,HL.out,hl.out];omega);go_wp2;go_ret2;exact⟨_,zln (decide_eq_false R.out),fun h=>absurd h R.out,BB⟩
    by_cases hk1:(k:Int)+1<n
    ·have hd:decide ((k:Int)+1<n)=true:=decide_eq_true hk1;have hge:decide ((k:Int)<0)=false:=decide_eq_false (by omega);have hge2:¬(k:Int)<0:=(by omega);have hO1:O.length<=t:=(by rw[HL.out];omega);have hO2:t<=O.length:=(by rw[HL.out];omega);have HN:=Lib.hid (show O++[(k:Int)]=zaq ns (t+1)by rw[zis (by rw[<-HO.out];exact H.out),<-HO.out]);have HL2:=Lib.hid (show (O++[(k:Int)]).length=t+1 by rw[List.length_append,HL.out];rfl);go_wp2_with (at_builtin;refine zdf zce rfl _ _ rfl own2 rfl rfl rfl (by unfold maxLen;omega) (by omega) BB.size ?_;intro v1 w1 own1 gr1 bel1);go_roundw
     case rel=>exact⟨t+1,O++[(k:Int)],by omega,HN,HL2,OI.push own1,BB.trans bel1⟩
     case measure=>obtain⟨A9,c9,rfl,-⟩:=(OI.push own1).shape;rw[HL2.out];simp[zfq];omega
    have hd:decide ((k:Int)+1<n)=false:=decide_eq_false hk1;have hge2:¬(k:Int)<0:=(by omega);have hO1:O.length<=t:=(by rw[HL.out];omega);have hO2:t<=O.length:=(by rw[HL.out];omega);have HN:=Lib.hid (show O++[(k:Int)]=zaq ns (t+1)by rw[zis (by rw[<-HO.out];exact H.out),<-HO.out]);have HL2:=Lib.hid (show (O++[(k:Int)]).length=t+1 by rw[List.length_append,HL.out];rfl);go_wp2_with (at_builtin;refine zdf zce rfl _ _ rfl own2 rfl rfl rfl (by unfold maxLen;omega) (by omega) BB.size ?_;intro v1 w1 own1 gr1 bel1);go_roundw
    case rel=>exact⟨t+1,O++[(k:Int)],by omega,HN,HL2,OI.push own1,BB.trans bel1⟩
    case measure=>obtain⟨A9,c9,rfl,-⟩:=(OI.push own1).shape;rw[HL2.out];simp[zfq];omega
  have HR:=Lib.hid (show zca ns=O by rw[HO.out,zca,hl.out,show n=t by omega]);have R:=Lib.hid (show (zca ns).length=ns.length by rw[HR.out,HL.out,hl.out];omega);go_wp2;go_ret2;exact⟨_,zln (decide_eq_true R.out),fun _=>by rw[HR.out];exact own,Bw⟩
end Go.Proofs.YtifeldeikhmckaaGreat
