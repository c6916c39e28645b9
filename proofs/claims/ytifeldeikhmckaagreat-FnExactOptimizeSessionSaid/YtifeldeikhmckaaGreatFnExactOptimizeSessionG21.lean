import Derived.Test.YtifeldeikhmckaaGreatFnExactOptimizeSessionG20
import Derived.Test.YtifeldeikhmckaaGreatFnExactOptimizeSessionG16
import Derived.Deep.QuietTactic
set_option linter.unusedVariables false
set_option linter.unusedSimpArgs false
set_option maxRecDepth 100000
set_option maxHeartbeats 4000000
namespace Go.Proofs.YtifeldeikhmckaaGreat
open Go.RowKit Go.Sort
theorem zak{w:Yw}{B:Nat}{A:Yo}{n:Nat}{xs:List Int}(h:RI w B A n xs)(hn:0<n):∃b o,A=some ⟨b,o,none⟩/\b<B/\∀k x,xs[k]?=some x->w.cell? ⟨b,o+k,none⟩=some (.int .i64 x):=by
 obtain⟨ad,rfl,hb,hc⟩:=h.2 hn;have hl:0<xs.length:=by rw[h.len];exact hn
 have h0:=hc 0 (.int .i64 xs[0]) (by simp[hl]);have hsp:=zg3 h0;have e:ad=⟨ad.block,ad.off,none⟩:=by simpa [Addr.add]using hsp
 refine⟨ad.block,ad.off,by rw[<-e],hb,fun k x hx=>?_⟩;have:=hc k (.int .i64 x) (by simp[hx]);rw[e,Addr.add_lit]at this;exact this
def zc5 (k:Int):Nat:=if k=1 then 1 else(M.ar k.toNat).toNat
theorem len0{xs:List Int}(h:xs.length=0):xs=[]:=List.eq_nil_of_length_eq_zero h
theorem len1{xs:List Int}(h:xs.length=1):∃a,xs=[a]:=by
 match xs,h with
 | [a],_=>exact⟨a,rfl⟩
theorem len2{xs:List Int}(h:xs.length=2):∃a b,xs=[a,b]:=by
 match xs,h with
 | [a,b],_=>exact⟨a,b,rfl⟩
theorem len3{xs:List Int}(h:xs.length=3):∃a b c,xs=[a,b,c]:=by
 match xs,h with
 | [a,b,c],_=>exact⟨a,b,c,rfl⟩
theorem zse(x:Int)(w:Yw):Calls Tryz.prog 255 #[.int .i64 x] w fun e w'=>e=.returned (.int .i64 (x % 4294967296))/\w=w':=by
 go_enter Tryz.func255,Tryz.ntmps255
 go_wp2;go_ret;exact⟨rfl,rfl⟩
theorem zly(t:List Int)(x:Int)(hn:1<=t.length/\t.length<=16):∃(u q:Nat) (y:Int),x % 4294967296=(u:Int)/\u<4294967296/\((t.length:Int)*(u:Int)) / 4294967296=(q:Int)/\q<t.length/\t[q]?=some y/\zfb t x=y:=by
 obtain⟨u,hu⟩:∃u:Nat,x % 4294967296=(u:Int):=⟨(x % 4294967296).toNat,by omega⟩;have hub:u<4294967296:=by omega
 obtain⟨q,hq⟩:∃q:Nat,((t.length:Int)*(u:Int)) / 4294967296=(q:Int):=⟨t.length*u / 4294967296,by simp⟩
 have hqt:q<t.length:=by
  have h1:t.length*u<t.length*4294967296:=Nat.mul_lt_mul_of_pos_left hub (by omega);have h2:((t.length:Int)*(u:Int))=((t.length*u:Nat):Int):=by simp
  rw[h2]at hq;omega
 exact⟨u,q,t[q],hu,hub,hq,hqt,List.getElem?_eq_getElem hqt,by rw[zfb,hu,hq,Int.toNat_natCast,zi1 (List.getElem?_eq_getElem hqt)]⟩
theorem zsf(A:Yo)(n c:Nat)(t:List Int)(x:Int)(w:Yw)(ht:RI w w.heap.size A n t)(hn:1<=n/\n<=16):Calls Tryz.prog 251 #[.slice A n c,.int .i64 x] w fun e w'=>e=.returned (.int .i64 (zfb t x))/\w=w':=by
 have hl:=ht.len;obtain⟨u,q,y,hu,hub,hq,hqn,hy,hM⟩:=zly t x (by omega);rw[hl]at hq hqn;obtain⟨b,o,rfl,hb,hc⟩:=zak ht (by omega);have c0:=hc q y hy;have ha:=M.and_low x;rw[hu]at ha;have h3:n*u<n*4294967296:=Nat.mul_lt_mul_of_pos_left hub (by omega)
 have hw:IntKind.i64.wrap ((n:Int)*(u:Int))=(n:Int)*(u:Int):=IntWalk.i64_in _ (by
  have h2:((n:Int)*(u:Int))=((n*u:Nat):Int):=by simp
  rw[h2];omega)
 have hw2:wrap64 ((n:Int)*(u:Int))=(n:Int)*(u:Int):=M.wrap64_in _ (by
  have h2:((n:Int)*(u:Int))=((n*u:Nat):Int):=by simp
  rw[h2];omega)
 have hq0:(0:Int)<=(q:Int):=by omega
 have hqm:(q:Int)<(n:Int):=by omega
 have R:=Lib.hid hM;clear hc hM h3 ht hl
 go_enter Tryz.func251,Tryz.ntmps251
 go_wp2;go_ret;exact⟨zay (by rw[R.out]),rfl⟩
theorem zsg(a1 a2:Int)(A:Yo)(n c:Nat)(b o ci:Nat)(i0 i1:Int)(At:Yo)(nt ct:Nat)(w:Yw)(c0:w.cell? ⟨b,o,none⟩=some (.int .i64 i0))(c1:w.cell? ⟨b,o+1,none⟩=some (.int .i64 i1))(hi:-2147483648<=i0/\i0<=2147483647/\-2147483648<=i1/\i1<=2147483647):
 Calls Tryz.prog 239 #[.agg #[.int .i64 3,.int .i64 a1,.int .i64 a2,.slice A n c],.slice At nt ct,.slice (some ⟨b,o,none⟩) 2 ci] w fun e w'=>e=.returned (.int .i64 (wrap32 (i0+i1)))/\Below w.heap.size w w':=by
 have lb:b<w.heap.size:=World.block_lt_of_cell? w _ c0
 go_enter Tryz.func239,Tryz.ntmps239
 go_wp2_with fail
 go_quiet (exact za7 (zf8 _ _))
 go_wp2;go_ret;exact⟨zay (by first|rfl|exact M.wrap32_64 _|exact(M.wrap32_64 _).symm),zae ((Below.refl _ _).alloc (Nat.le_refl _) _) _⟩
theorem zsh(a1 a2:Int)(A:Yo)(n c:Nat)(b o ci:Nat)(i0 i1:Int)(At:Yo)(nt ct:Nat)(w:Yw)(c0:w.cell? ⟨b,o,none⟩=some (.int .i64 i0))(c1:w.cell? ⟨b,o+1,none⟩=some (.int .i64 i1))(hi:-2147483648<=i0/\i0<=2147483647/\-2147483648<=i1/\i1<=2147483647):
 Calls Tryz.prog 239 #[.agg #[.int .i64 4,.int .i64 a1,.int .i64 a2,.slice A n c],.slice At nt ct,.slice (some ⟨b,o,none⟩) 2 ci] w fun e w'=>e=.returned (.int .i64 (wrap32 (i0-i1)))/\Below w.heap.size w w':=by
 have lb:b<w.heap.size:=World.block_lt_of_cell? w _ c0
 go_enter Tryz.func239,Tryz.ntmps239
 go_wp2_with fail
 go_quiet (exact za7 (zf8 _ _))
 go_wp2;go_ret;exact⟨zay (by first|rfl|exact M.wrap32_64 _|exact(M.wrap32_64 _).symm),zae ((Below.refl _ _).alloc (Nat.le_refl _) _) _⟩
theorem zsi(a1 a2:Int)(A:Yo)(n c:Nat)(b o ci:Nat)(i0:Int)(At:Yo)(nt ct:Nat)(w:Yw)(c0:w.cell? ⟨b,o,none⟩=some (.int .i64 i0))(ha:-2147483648<=a1/\a1<=2147483647)(hi:-2147483648<=i0/\i0<=2147483647):
 Calls Tryz.prog 239 #[.agg #[.int .i64 5,.int .i64 a1,.int .i64 a2,.slice A n c],.slice At nt ct,.slice (some ⟨b,o,none⟩) 1 ci] w fun e w'=>e=.returned (.int .i64 (wrap32 (a1*i0)))/\Below w.heap.size w w':=by
 have lb:b<w.heap.size:=World.block_lt_of_cell? w _ c0
 go_enter Tryz.func239,Tryz.ntmps239
 go_wp2_with fail
 go_quiet (exact za7 (zf8 _ _))
 go_wp2;go_ret;exact⟨zay (by first|rfl|exact M.wrap32_64 _|exact(M.wrap32_64 _).symm),zae ((Below.refl _ _).alloc (Nat.le_refl _) _) _⟩
theorem zsj(a1 a2:Int)(A:Yo)(n c:Nat)(b o ci:Nat)(i0 i1:Int)(At:Yo)(nt ct:Nat)(w:Yw)(c0:w.cell? ⟨b,o,none⟩=some (.int .i64 i0))(c1:w.cell? ⟨b,o+1,none⟩=some (.int .i64 i1))(hi:-2147483648<=i0/\i0<=2147483647/\-2147483648<=i1/\i1<=2147483647):
 Calls Tryz.prog 239 #[.agg #[.int .i64 9,.int .i64 a1,.int .i64 a2,.slice A n c],.slice At nt ct,.slice (some ⟨b,o,none⟩) 2 ci] w fun e w'=>e=.returned (.int .i64 (wrap32 (i0*i1)))/\Below w.heap.size w w':=by
 have lb:b<w.heap.size:=World.block_lt_of_cell? w _ c0
 go_enter Tryz.func239,Tryz.ntmps239
 go_wp2_with fail
 go_quiet (exact za7 (zf8 _ _))
 go_wp2;go_ret;exact⟨zay (by first|rfl|exact M.wrap32_64 _|exact(M.wrap32_64 _).symm),zae ((Below.refl _ _).alloc (Nat.le_refl _) _) _⟩
theorem zsk(a1 a2:Int)(A:Yo)(n c:Nat)(b o ci:Nat)(i0:Int)(At:Yo)(nt ct:Nat)(w:Yw)(c0:w.cell? ⟨b,o,none⟩=some (.int .i64 i0))(ha:0<=a1/\a1<=31)(hi:-2147483648<=i0/\i0<=2147483647):
 Calls Tryz.prog 239 #[.agg #[.int .i64 10,.int .i64 a1,.int .i64 a2,.slice A n c],.slice At nt ct,.slice (some ⟨b,o,none⟩) 1 ci] w fun e w'=>e=.returned (.int .i64 (i0 / 2 ^ a1.toNat))/\Below w.heap.size w w':=by
 have lb:b<w.heap.size:=World.block_lt_of_cell? w _ c0
 go_enter Tryz.func239,Tryz.ntmps239
 go_wp2_with fail
 go_quiet (fail)
 go_wp2;go_ret;exact⟨rfl,zae ((Below.refl _ _).alloc (Nat.le_refl _) _) _⟩
theorem zsl(a1 a2:Int)(A:Yo)(n c:Nat)(b o ci:Nat)(i0:Int)(At:Yo)(nt ct:Nat)(w:Yw)(c0:w.cell? ⟨b,o,none⟩=some (.int .i64 i0))(ha:0<=a1/\a1<=2147483647)(hi:-2147483648<=i0/\i0<=2147483647):
 Calls Tryz.prog 239 #[.agg #[.int .i64 11,.int .i64 a1,.int .i64 a2,.slice A n c],.slice At nt ct,.slice (some ⟨b,o,none⟩) 1 ci] w fun e w'=>e=.returned (.int .i64 (max (-a1) (min a1 i0)))/\Below w.heap.size w w':=by
 have lb:b<w.heap.size:=World.block_lt_of_cell? w _ c0;have hneg:wrap64 (-a1) = -a1:=M.wrap64_in _ (by omega);rcases(show (i0 < -a1)\/(-a1<=i0/\i0<a1)\/(a1<=i0)by omega)with h|h|h
 ·have R:=Lib.hid (show max (-a1) (min a1 i0) = -a1 by omega);have h1:i0<a1:=by omega
  have h2:¬-a1<i0:=by omega
  have h3:¬a1<i0:=by omega
  go_enter Tryz.func239,Tryz.ntmps239
  go_wp2_with fail
  go_quiet (fail)
  go_wp2
  all_goals
   go_ret;exact⟨zay (by omega),zae ((Below.refl _ _).alloc (Nat.le_refl _) _) _⟩
 ·have R:=Lib.hid (show max (-a1) (min a1 i0)=i0 by omega);have h1:i0<a1:=by omega
  have h2:¬i0 < -a1:=by omega
  have h3:¬a1<i0:=by omega
  go_enter Tryz.func239,Tryz.ntmps239
  go_wp2_with fail
  go_quiet (fail)
  go_wp2
  all_goals
   go_ret;exact⟨zay (by omega),zae ((Below.refl _ _).alloc (Nat.le_refl _) _) _⟩
 have R:=Lib.hid (show max (-a1) (min a1 i0)=a1 by omega);have h1:¬i0<a1:=by omega
 have h2:¬a1 < -a1:=by omega
 go_enter Tryz.func239,Tryz.ntmps239
 go_wp2_with fail
 go_quiet (fail)
 go_wp2
 all_goals
  go_ret;exact⟨zay (by omega),zae ((Below.refl _ _).alloc (Nat.le_refl _) _) _⟩
theorem zsm(a1 a2:Int)(A:Yo)(n c:Nat)(b o ci:Nat)(i0:Int)(bt ot nt ct:Nat)(A1:Yo)(c1 j n2:Nat)(t:List Int)(w:Yw)(c0:w.cell? ⟨b,o,none⟩=some (.int .i64 i0))(ha:a1=(j:Int)/\j<nt/\nt<=4)(e0:w.cell? ⟨bt,ot+j,none⟩=some (.slice A1 n2 c1))(ht:RI w w.heap.size A1 n2 t)(hn:1<=n2/\n2<=16):
 Calls Tryz.prog 239 #[.agg #[.int .i64 13,.int .i64 a1,.int .i64 a2,.slice A n c],.slice (some ⟨bt,ot,none⟩) nt ct,.slice (some ⟨b,o,none⟩) 1 ci] w fun e w'=>e=.returned (.int .i64 (zfb t i0))/\Below w.heap.size w w':=by
 have lb:b<w.heap.size:=World.block_lt_of_cell? w _ c0;have lbt:bt<w.heap.size:=World.block_lt_of_cell? w _ e0;obtain⟨W,hW⟩:∃W,W=w.alloc (.cells #[.int .i64 13,.int .i64 a1,.int .i64 a2,.slice A n c] 169):=⟨_,rfl⟩;obtain⟨rfl,hj,hnt⟩:=ha;have hj0:(0:Int)<=(j:Int):=by omega
 have hjn:(j:Int)<(nt:Int):=by omega
 have hl2:=ht.len;obtain⟨u,q,y,hu,hub,hq,hqn,hy,hM⟩:=zly t i0 (by omega);rw[hl2]at hq hqn;obtain⟨b2,o2,rfl,hb2,hc2⟩:=zak ht (by omega);have cy:=hc2 q y hy;have h3:n2*u<n2*4294967296:=Nat.mul_lt_mul_of_pos_left hub (by omega)
 have hw:IntKind.i64.wrap ((n2:Int)*(u:Int))=(n2:Int)*(u:Int):=IntWalk.i64_in _ (by
  have h2:((n2:Int)*(u:Int))=((n2*u:Nat):Int):=by simp
  rw[h2];omega)
 have hw2:wrap64 ((n2:Int)*(u:Int))=(n2:Int)*(u:Int):=M.wrap64_in _ (by
  have h2:((n2:Int)*(u:Int))=((n2*u:Nat):Int):=by simp
  rw[h2];omega)
 have hq0:(0:Int)<=(q:Int):=by omega
 have hqm:(q:Int)<(n2:Int):=by omega
 have R:=Lib.hid hM;have cU:∀w,Calls Tryz.prog 255 #[.int .i64 i0] w fun e w'=>e=.returned (.int .i64 (u:Int))/\w=w':=fun w=>by rw[<-hu];exact zse i0 w
 clear hc2 hM h3 ht hu hW W hl2
 go_enter Tryz.func239,Tryz.ntmps239
 go_wp2_with fail
 go_quiet (first|exact za7 (cU _)|exact za7 (zb8 _ _ _ _))
 go_wp2;go_ret;exact⟨zay (by rw[R.out]),zae ((Below.refl _ _).alloc (Nat.le_refl _) _) _⟩
theorem zsn(a1 a2:Int)(A:Yo)(n c:Nat)(b o ci:Nat)(i0 i1 i2:Int)(At:Yo)(nt ct:Nat)(w:Yw)(c0:w.cell? ⟨b,o,none⟩=some (.int .i64 i0))(c1:w.cell? ⟨b,o+1,none⟩=some (.int .i64 i1))(c2:w.cell? ⟨b,o+2,none⟩=some (.int .i64 i2))(hi:-2147483648<=i0/\i0<=2147483647/\-2147483648<=i1/\i1<=2147483647/\-2147483648<=i2/\i2<=2147483647):
 Calls Tryz.prog 239 #[.agg #[.int .i64 15,.int .i64 a1,.int .i64 a2,.slice A n c],.slice At nt ct,.slice (some ⟨b,o,none⟩) 3 ci] w fun e w'=>e=.returned (.int .i64 ((if 0<=i0 then i1 else i2)))/\Below w.heap.size w w':=by
 have lb:b<w.heap.size:=World.block_lt_of_cell? w _ c0
 by_cases h:0<=i0
 ·have R:=Lib.hid (show (if 0<=i0 then i1 else i2)=i1 from if_pos h)
  go_enter Tryz.func239,Tryz.ntmps239
  go_wp2;go_ret;exact⟨zay (by first|rfl|exact R.out|exact R.out.symm),(Below.refl _ _).alloc (Nat.le_refl _) _⟩
 have R:=Lib.hid (show (if 0<=i0 then i1 else i2)=i2 from if_neg h)
 go_enter Tryz.func239,Tryz.ntmps239
 go_wp2;go_ret;exact⟨zay (by first|rfl|exact R.out|exact R.out.symm),(Below.refl _ _).alloc (Nat.le_refl _) _⟩
theorem zso(bn on_:Nat)(a1:Int)(b o ci:Nat)(i0:Int)(At:Yo)(nt ct:Nat)(As:Yo)(ns cs:Nat)(w:Yw)(c0:w.cell? ⟨b,o,none⟩=some (.int .i64 i0))(p0:w.cell? ⟨bn,on_,none⟩=some (.int .i64 1))(p1:w.cell? ⟨bn,on_+1,none⟩=some (.int .i64 a1)):
 Calls Tryz.prog 228 #[.pointer (some ⟨bn,on_,none⟩),.slice At nt ct,.slice (some ⟨b,o,none⟩) 1 ci,.slice As ns cs] w fun e w'=>e=.returned (.int .i64 (i0))/\Below w.heap.size w w':=by
 go_enter Tryz.func228,Tryz.ntmps228
 go_wp2;go_ret;exact⟨rfl,Below.refl _ _⟩
theorem zsp(bn on_:Nat)(a1:Int)(Ai:Yo)(ci:Nat)(At:Yo)(nt ct:Nat)(As:Yo)(ns cs:Nat)(w:Yw)(p0:w.cell? ⟨bn,on_,none⟩=some (.int .i64 2))(p1:w.cell? ⟨bn,on_+1,none⟩=some (.int .i64 a1)):
 Calls Tryz.prog 228 #[.pointer (some ⟨bn,on_,none⟩),.slice At nt ct,.slice Ai 0 ci,.slice As ns cs] w fun e w'=>e=.returned (.int .i64 (a1))/\Below w.heap.size w w':=by
 go_enter Tryz.func228,Tryz.ntmps228
 go_wp2;go_ret;exact⟨rfl,Below.refl _ _⟩
theorem zsq(bn on_:Nat)(a1:Int)(b o ci:Nat)(i0 i1:Int)(At:Yo)(nt ct:Nat)(As:Yo)(ns cs:Nat)(w:Yw)(c0:w.cell? ⟨b,o,none⟩=some (.int .i64 i0))(c1:w.cell? ⟨b,o+1,none⟩=some (.int .i64 i1))(hi:-2147483648<=i0/\i0<=2147483647/\-2147483648<=i1/\i1<=2147483647)(p0:w.cell? ⟨bn,on_,none⟩=some (.int .i64 3))(p1:w.cell? ⟨bn,on_+1,none⟩=some (.int .i64 a1)):
 Calls Tryz.prog 228 #[.pointer (some ⟨bn,on_,none⟩),.slice At nt ct,.slice (some ⟨b,o,none⟩) 2 ci,.slice As ns cs] w fun e w'=>e=.returned (.int .i64 (wrap32 (i0+i1)))/\Below w.heap.size w w':=by
 go_enter Tryz.func228,Tryz.ntmps228
 go_wp2_with fail
 go_quiet (exact za7 (ziy _ _ _))
 go_wp2;go_ret;exact⟨rfl,zae (Below.refl _ _) _⟩
theorem zsr(bn on_:Nat)(a1:Int)(b o ci:Nat)(i0 i1:Int)(At:Yo)(nt ct:Nat)(As:Yo)(ns cs:Nat)(w:Yw)(c0:w.cell? ⟨b,o,none⟩=some (.int .i64 i0))(c1:w.cell? ⟨b,o+1,none⟩=some (.int .i64 i1))(hi:-2147483648<=i0/\i0<=2147483647/\-2147483648<=i1/\i1<=2147483647)(p0:w.cell? ⟨bn,on_,none⟩=some (.int .i64 4))(p1:w.cell? ⟨bn,on_+1,none⟩=some (.int .i64 a1)):
 Calls Tryz.prog 228 #[.pointer (some ⟨bn,on_,none⟩),.slice At nt ct,.slice (some ⟨b,o,none⟩) 2 ci,.slice As ns cs] w fun e w'=>e=.returned (.int .i64 (wrap32 (i0-i1)))/\Below w.heap.size w w':=by
 go_enter Tryz.func228,Tryz.ntmps228
 go_wp2_with fail
 go_quiet (exact za7 (zlk _ _ _))
 go_wp2;go_ret;exact⟨rfl,zae (Below.refl _ _) _⟩
theorem zss(bn on_:Nat)(a1:Int)(b o ci:Nat)(i0:Int)(At:Yo)(nt ct:Nat)(As:Yo)(ns cs:Nat)(w:Yw)(c0:w.cell? ⟨b,o,none⟩=some (.int .i64 i0))(ha:-2147483648<=a1/\a1<=2147483647)(hi:-2147483648<=i0/\i0<=2147483647)(p0:w.cell? ⟨bn,on_,none⟩=some (.int .i64 5))(p1:w.cell? ⟨bn,on_+1,none⟩=some (.int .i64 a1)):
 Calls Tryz.prog 228 #[.pointer (some ⟨bn,on_,none⟩),.slice At nt ct,.slice (some ⟨b,o,none⟩) 1 ci,.slice As ns cs] w fun e w'=>e=.returned (.int .i64 (wrap32 (a1*i0)))/\Below w.heap.size w w':=by
 go_enter Tryz.func228,Tryz.ntmps228
 go_wp2_with fail
 go_quiet (exact za7 (zhj _ _ _))
 go_wp2;go_ret;exact⟨rfl,zae (Below.refl _ _) _⟩
theorem zst(bn on_:Nat)(a1:Int)(b o ci:Nat)(i0:Int)(At:Yo)(nt ct:Nat)(bs os_ ns cs:Nat)(s0:Int)(w:Yw)(c0:w.cell? ⟨b,o,none⟩=some (.int .i64 i0))(d0:w.cell? ⟨bs,os_,none⟩=some (.int .i64 s0))(hns:1<=ns)(hi:-2147483648<=i0/\i0<=2147483647)(hs:-2147483648<=s0/\s0<=2147483647)(p0:w.cell? ⟨bn,on_,none⟩=some (.int .i64 6))(p1:w.cell? ⟨bn,on_+1,none⟩=some (.int .i64 a1)):
 Calls Tryz.prog 228 #[.pointer (some ⟨bn,on_,none⟩),.slice At nt ct,.slice (some ⟨b,o,none⟩) 1 ci,.slice (some ⟨bs,os_,none⟩) ns cs] w fun e w'=>e=.returned (.int .i64 (s0))/\Below w.heap.size w w':=by
 go_enter Tryz.func228,Tryz.ntmps228
 go_wp2;go_ret;exact⟨rfl,Below.refl _ _⟩
theorem zsu(bn on_:Nat)(a1:Int)(b o ci:Nat)(i0:Int)(At:Yo)(nt ct:Nat)(bs os_ ns cs:Nat)(s0:Int)(w:Yw)(c0:w.cell? ⟨b,o,none⟩=some (.int .i64 i0))(d0:w.cell? ⟨bs,os_,none⟩=some (.int .i64 s0))(hns:1<=ns)(hi:-2147483648<=i0/\i0<=2147483647)(hs:-2147483648<=s0/\s0<=2147483647)(p0:w.cell? ⟨bn,on_,none⟩=some (.int .i64 7))(p1:w.cell? ⟨bn,on_+1,none⟩=some (.int .i64 a1)):
 Calls Tryz.prog 228 #[.pointer (some ⟨bn,on_,none⟩),.slice At nt ct,.slice (some ⟨b,o,none⟩) 1 ci,.slice (some ⟨bs,os_,none⟩) ns cs] w fun e w'=>e=.returned (.int .i64 (wrap32 (s0+i0)))/\Below w.heap.size w w':=by
 go_enter Tryz.func228,Tryz.ntmps228
 go_wp2_with fail
 go_quiet (exact za7 (ziy _ _ _))
 go_wp2;go_ret;exact⟨rfl,zae (Below.refl _ _) _⟩
theorem zsv(bn on_:Nat)(a1:Int)(b o ci:Nat)(i0:Int)(At:Yo)(nt ct:Nat)(bs os_ ns cs:Nat)(s0:Int)(w:Yw)(c0:w.cell? ⟨b,o,none⟩=some (.int .i64 i0))(d0:w.cell? ⟨bs,os_,none⟩=some (.int .i64 s0))(hns:1<=ns)(hi:-2147483648<=i0/\i0<=2147483647)(hs:-2147483648<=s0/\s0<=2147483647)(p0:w.cell? ⟨bn,on_,none⟩=some (.int .i64 8))(p1:w.cell? ⟨bn,on_+1,none⟩=some (.int .i64 a1)):
 Calls Tryz.prog 228 #[.pointer (some ⟨bn,on_,none⟩),.slice At nt ct,.slice (some ⟨b,o,none⟩) 1 ci,.slice (some ⟨bs,os_,none⟩) ns cs] w fun e w'=>e=.returned (.int .i64 (wrap32 (i0-s0)))/\Below w.heap.size w w':=by
 go_enter Tryz.func228,Tryz.ntmps228
 go_wp2_with fail
 go_quiet (exact za7 (zlk _ _ _))
 go_wp2;go_ret;exact⟨rfl,zae (Below.refl _ _) _⟩
theorem zsw(bn on_:Nat)(a1:Int)(b o ci:Nat)(i0 i1:Int)(At:Yo)(nt ct:Nat)(As:Yo)(ns cs:Nat)(w:Yw)(c0:w.cell? ⟨b,o,none⟩=some (.int .i64 i0))(c1:w.cell? ⟨b,o+1,none⟩=some (.int .i64 i1))(hi:-2147483648<=i0/\i0<=2147483647/\-2147483648<=i1/\i1<=2147483647)(p0:w.cell? ⟨bn,on_,none⟩=some (.int .i64 9))(p1:w.cell? ⟨bn,on_+1,none⟩=some (.int .i64 a1)):
 Calls Tryz.prog 228 #[.pointer (some ⟨bn,on_,none⟩),.slice At nt ct,.slice (some ⟨b,o,none⟩) 2 ci,.slice As ns cs] w fun e w'=>e=.returned (.int .i64 (wrap32 (i0*i1)))/\Below w.heap.size w w':=by
 go_enter Tryz.func228,Tryz.ntmps228
 go_wp2_with fail
 go_quiet (exact za7 (zhj _ _ _))
 go_wp2;go_ret;exact⟨rfl,zae (Below.refl _ _) _⟩
theorem zsx(bn on_:Nat)(a1:Int)(b o ci:Nat)(i0:Int)(At:Yo)(nt ct:Nat)(As:Yo)(ns cs:Nat)(w:Yw)(c0:w.cell? ⟨b,o,none⟩=some (.int .i64 i0))(ha:0<=a1/\a1<=31)(hi:-2147483648<=i0/\i0<=2147483647)(p0:w.cell? ⟨bn,on_,none⟩=some (.int .i64 10))(p1:w.cell? ⟨bn,on_+1,none⟩=some (.int .i64 a1)):
 Calls Tryz.prog 228 #[.pointer (some ⟨bn,on_,none⟩),.slice At nt ct,.slice (some ⟨b,o,none⟩) 1 ci,.slice As ns cs] w fun e w'=>e=.returned (.int .i64 (i0 / 2 ^ a1.toNat))/\Below w.heap.size w w':=by
 go_enter Tryz.func228,Tryz.ntmps228
 go_wp2_with fail
 go_quiet (fail)
 go_wp2;go_ret;exact⟨rfl,zae (Below.refl _ _) _⟩
theorem zsy(bn on_:Nat)(a1:Int)(b o ci:Nat)(i0:Int)(At:Yo)(nt ct:Nat)(As:Yo)(ns cs:Nat)(w:Yw)(c0:w.cell? ⟨b,o,none⟩=some (.int .i64 i0))(ha:0<=a1/\a1<=2147483647)(hi:-2147483648<=i0/\i0<=2147483647)(p0:w.cell? ⟨bn,on_,none⟩=some (.int .i64 11))(p1:w.cell? ⟨bn,on_+1,none⟩=some (.int .i64 a1)):
 Calls Tryz.prog 228 #[.pointer (some ⟨bn,on_,none⟩),.slice At nt ct,.slice (some ⟨b,o,none⟩) 1 ci,.slice As ns cs] w fun e w'=>e=.returned (.int .i64 (max (-a1) (min a1 i0)))/\Below w.heap.size w w':=by
 have hneg:wrap64 (-a1) = -a1:=M.wrap64_in _ (by omega);have h1:min i0 a1=min a1 i0:=by omega
 go_enter Tryz.func228,Tryz.ntmps228
 go_wp2_with fail
 go_quiet (first|exact za7 (zle _ _ _)|exact za7 (zlf _ _ _))
 go_wp2;go_ret;exact⟨zay (by omega),zae (Below.refl _ _) _⟩
theorem zsz(bn on_:Nat)(a1:Int)(b o ci:Nat)(i0:Int)(At:Yo)(nt ct:Nat)(bs os_ ns cs:Nat)(s0:Int)(w:Yw)(c0:w.cell? ⟨b,o,none⟩=some (.int .i64 i0))(d0:w.cell? ⟨bs,os_,none⟩=some (.int .i64 s0))(hns:1<=ns)(hi:-2147483648<=i0/\i0<=2147483647)(hs:-2147483648<=s0/\s0<=2147483647)(p0:w.cell? ⟨bn,on_,none⟩=some (.int .i64 12))(p1:w.cell? ⟨bn,on_+1,none⟩=some (.int .i64 a1)):
 Calls Tryz.prog 228 #[.pointer (some ⟨bn,on_,none⟩),.slice At nt ct,.slice (some ⟨b,o,none⟩) 1 ci,.slice (some ⟨bs,os_,none⟩) ns cs] w fun e w'=>e=.returned (.int .i64 (s0))/\Below w.heap.size w w':=by
 go_enter Tryz.func228,Tryz.ntmps228
 go_wp2;go_ret;exact⟨rfl,Below.refl _ _⟩
theorem zs0(bn on_:Nat)(a1:Int)(b o ci:Nat)(i0:Int)(bt ot nt ct:Nat)(A1:Yo)(c1 j n2:Nat)(t:List Int)(As:Yo)(ns cs:Nat)(w:Yw)(c0:w.cell? ⟨b,o,none⟩=some (.int .i64 i0))(ha:a1=(j:Int)/\j<nt/\nt<=4)(e0:w.cell? ⟨bt,ot+j,none⟩=some (.slice A1 n2 c1))(ht:RI w w.heap.size A1 n2 t)(hn:1<=n2/\n2<=16)(p0:w.cell? ⟨bn,on_,none⟩=some (.int .i64 13))(p1:w.cell? ⟨bn,on_+1,none⟩=some (.int .i64 a1)):
 Calls Tryz.prog 228 #[.pointer (some ⟨bn,on_,none⟩),.slice (some ⟨bt,ot,none⟩) nt ct,.slice (some ⟨b,o,none⟩) 1 ci,.slice As ns cs] w fun e w'=>e=.returned (.int .i64 (zfb t i0))/\Below w.heap.size w w':=by
 obtain⟨rfl,hj,hnt⟩:=ha;have hj0:(0:Int)<=(j:Int):=by omega
 have hjn:(j:Int)<(nt:Int):=by omega
 go_enter Tryz.func228,Tryz.ntmps228
 go_wp2_with fail
 go_quiet (exact za7 (zsf _ _ _ _ _ _ (ht.later (zae (Below.refl _ _) _)) hn))
 go_wp2;go_ret;exact⟨rfl,zae (Below.refl _ _) _⟩
theorem zs1(bn on_:Nat)(a1:Int)(Ai:Yo)(ci:Nat)(At:Yo)(nt ct:Nat)(bs os_ ns cs:Nat)(s0:Int)(w:Yw)(d0:w.cell? ⟨bs,os_,none⟩=some (.int .i64 s0))(hns:1<=ns)(hs:-2147483648<=s0/\s0<=2147483647)(p0:w.cell? ⟨bn,on_,none⟩=some (.int .i64 14))(p1:w.cell? ⟨bn,on_+1,none⟩=some (.int .i64 a1)):
 Calls Tryz.prog 228 #[.pointer (some ⟨bn,on_,none⟩),.slice At nt ct,.slice Ai 0 ci,.slice (some ⟨bs,os_,none⟩) ns cs] w fun e w'=>e=.returned (.int .i64 (s0))/\Below w.heap.size w w':=by
 go_enter Tryz.func228,Tryz.ntmps228
 go_wp2;go_ret;exact⟨rfl,Below.refl _ _⟩
theorem zs2(bn on_:Nat)(a1:Int)(b o ci:Nat)(i0 i1 i2:Int)(At:Yo)(nt ct:Nat)(As:Yo)(ns cs:Nat)(w:Yw)(c0:w.cell? ⟨b,o,none⟩=some (.int .i64 i0))(c1:w.cell? ⟨b,o+1,none⟩=some (.int .i64 i1))(c2:w.cell? ⟨b,o+2,none⟩=some (.int .i64 i2))(hi:-2147483648<=i0/\i0<=2147483647/\-2147483648<=i1/\i1<=2147483647/\-2147483648<=i2/\i2<=2147483647)(p0:w.cell? ⟨bn,on_,none⟩=some (.int .i64 15))(p1:w.cell? ⟨bn,on_+1,none⟩=some (.int .i64 a1)):
 Calls Tryz.prog 228 #[.pointer (some ⟨bn,on_,none⟩),.slice At nt ct,.slice (some ⟨b,o,none⟩) 3 ci,.slice As ns cs] w fun e w'=>e=.returned (.int .i64 ((if 0<=i0 then i1 else i2)))/\Below w.heap.size w w':=by
 by_cases h:0<=i0
 ·have R:=Lib.hid (show (if 0<=i0 then i1 else i2)=i1 from if_pos h)
  go_enter Tryz.func228,Tryz.ntmps228
  go_wp2;go_ret;exact⟨zay (by first|rfl|exact R.out|exact R.out.symm),Below.refl _ _⟩
 have R:=Lib.hid (show (if 0<=i0 then i1 else i2)=i2 from if_neg h)
 go_enter Tryz.func228,Tryz.ntmps228
 go_wp2;go_ret;exact⟨zay (by first|rfl|exact R.out|exact R.out.symm),Below.refl _ _⟩
theorem zs3(bn on_:Nat)(a1:Int)(b o ci:Nat)(i0 i1:Int)(At:Yo)(nt ct:Nat)(bs os_ ns cs:Nat)(s0:Int)(w:Yw)(c0:w.cell? ⟨b,o,none⟩=some (.int .i64 i0))(c1:w.cell? ⟨b,o+1,none⟩=some (.int .i64 i1))(d0:w.cell? ⟨bs,os_,none⟩=some (.int .i64 s0))(hns:1<=ns)(hi:-2147483648<=i0/\i0<=2147483647/\-2147483648<=i1/\i1<=2147483647)(hs:-2147483648<=s0/\s0<=2147483647)(p0:w.cell? ⟨bn,on_,none⟩=some (.int .i64 16))(p1:w.cell? ⟨bn,on_+1,none⟩=some (.int .i64 a1)):
 Calls Tryz.prog 228 #[.pointer (some ⟨bn,on_,none⟩),.slice At nt ct,.slice (some ⟨b,o,none⟩) 2 ci,.slice (some ⟨bs,os_,none⟩) ns cs] w fun e w'=>e=.returned (.int .i64 ((if 0<i1 then i0 else s0)))/\Below w.heap.size w w':=by
 by_cases h:0<i1
 ·have R:=Lib.hid (show (if 0<i1 then i0 else s0)=i0 from if_pos h)
  go_enter Tryz.func228,Tryz.ntmps228
  go_wp2;go_ret;exact⟨zay (by first|rfl|exact R.out|exact R.out.symm),Below.refl _ _⟩
 have R:=Lib.hid (show (if 0<i1 then i0 else s0)=s0 from if_neg h)
 go_enter Tryz.func228,Tryz.ntmps228
 go_wp2;go_ret;exact⟨zay (by first|rfl|exact R.out|exact R.out.symm),Below.refl _ _⟩
theorem zs4(bn on_:Nat)(a1:Int)(b o ci:Nat)(i0:Int)(At:Yo)(nt ct:Nat)(bs os_ ns cs:Nat)(s0:Int)(w:Yw)(c0:w.cell? ⟨b,o,none⟩=some (.int .i64 i0))(d0:w.cell? ⟨bs,os_,none⟩=some (.int .i64 s0))(hns:1<=ns)(ha:-2147483648<=a1/\a1<=2147483647)(hi:-2147483648<=i0/\i0<=2147483647)(hs:-2147483648<=s0/\s0<=2147483647)(p0:w.cell? ⟨bn,on_,none⟩=some (.int .i64 17))(p1:w.cell? ⟨bn,on_+1,none⟩=some (.int .i64 a1)):
 Calls Tryz.prog 228 #[.pointer (some ⟨bn,on_,none⟩),.slice At nt ct,.slice (some ⟨b,o,none⟩) 1 ci,.slice (some ⟨bs,os_,none⟩) ns cs] w fun e w'=>e=.returned (.int .i64 (wrap32 (i0+a1*s0)))/\Below w.heap.size w w':=by
 go_enter Tryz.func228,Tryz.ntmps228
 go_wp2_with fail
 go_quiet (first|exact za7 (zhj _ _ _)|exact za7 (ziy _ _ _))
 go_wp2;go_ret;exact⟨zay (by rw[M.wrap32_addr]),zae (Below.refl _ _) _⟩
section
section
variable {P:Program} {t e:TypeId} {z:Value} {bytes:Nat}
end
end
theorem zes{a0 a1 a2:Int}{xs:List Int}{tb:Int}(h:zaj (a0,a1,a2,xs) tb=true):
 (a0=5->-2147483648<=a1/\a1<=2147483647)/\(a0=10->0<=a1/\a1<=31)/\(a0=11->0<=a1/\a1<=2147483647)/\(a0=13->0<=a1/\a1<=3/\a1<tb)/\(a0=17->-2147483648<=a1/\a1<=2147483647)/\(a0=2->-2147483648<=a1/\a1<=2147483647)/\(a0=12->-2147483648<=a1/\a1<=2147483647)/\(a0=14->-2147483648<=a1/\a1<=2147483647)/\(a0=1->0<=a1/\a1<=3):=by
 rw[zaj]at h;simp only[Bool.and_eq_true]at h;have hA:=h.2.1.1.1.1;have hL:=h.2.2;refine⟨?_,?_,?_,?_,?_,?_,?_,?_,?_⟩ <;> rintro rfl <;> simp[M.aI,M.kd,zfa,M.inn]at hA hL <;> omega
theorem zc6{a0 a1 a2:Int}{xs:List Int}{tb:Int}(h:zaj (a0,a1,a2,xs) tb=true):a0≠1->xs.length=zc5 a0:=by
 obtain⟨hk,-,-⟩:=zdj h;rw[zaj]at h;simp only[Bool.and_eq_true]at h;have hL:=h.2.1.2;simp only at hk;rcases zgk hk with rfl|rfl|rfl|rfl|rfl|rfl|rfl|rfl|rfl|rfl|rfl|rfl|rfl|rfl|rfl|rfl|rfl
 all_goals
  simp[M.kd,zfa,zc5,M.ar,zhe]at hL ⊢
  try omega
theorem zft{ts:List (List Int)}(h:zbt ts=true){k:Nat}{t:List Int}(ht:ts[k]?=some t):(1<=t.length/\t.length<=16)/\t.all M.smp=true/\ts.length<=4:=by
 rw[zbt,Bool.and_eq_true]at h;have h2:=List.all_eq_true.1 h.1 t (List.mem_of_getElem? ht);rw[zcv,Bool.and_eq_true]at h2;refine⟨?_,h2.2,of_decide_eq_true h.2⟩;have:=h2.1;simp at this;omega
theorem smp_bd{x:Int}(h:M.smp x=true):-2147483648<=x/\x<=2147483647:=zbf.1 h
theorem zba{xs:List Int}(h:xs.all M.smp=true){k:Nat}{x:Int}(hx:xs[k]?=some x):-2147483648<=x/\x<=2147483647:=smp_bd (List.all_eq_true.1 h x (List.mem_of_getElem? hx))
theorem zlz{xs:List Int}(h:1<=xs.length):∃a zs,xs=a::zs:=by
 match xs,h with
 | a::zs,_=>exact⟨a,zs,rfl⟩
theorem zs5(bn on_:Nat)(a0 a1 a2:Int)(xs:List Int)(At:Yo)(nt ct:Nat)(tb:List (List Int))(Ai:Yo)(ni ci:Nat)(ins:List Int)(As:Yo)(ns cs:Nat)(s:List Int)(w:Yw)(ht:RS tS w w.heap.size (.slice At nt ct) tb)(htb:zbt tb=true)(hi:RI w w.heap.size Ai ni ins)(hs:RI w w.heap.size As ns s)(hcs:ns<=cs)
 (hok:zaj (a0,a1,a2,xs) nt=true) (hil:ins.length=zc5 a0) (hia:ins.all M.smp=true) (hsl:s.length=zd8 (a0,a1,a2,xs)) (hsa:s.all M.smp=true) (p0:w.cell? ⟨bn,on_,none⟩=some (.int .i64 a0)) (p1:w.cell? ⟨bn,on_+1,none⟩=some (.int .i64 a1)) :
 Calls Tryz.prog 228 #[.pointer (some ⟨bn,on_,none⟩),.slice At nt ct,.slice Ai ni ci,.slice As ns cs] w fun e w'=>e=.returned (.int .i64 (zam (a0,a1,a2,xs) tb ins s))/\Below w.heap.size w w':=by
 obtain⟨hk,h6,h17⟩:=zdj hok;obtain⟨hb5,hb10,hb11,hb13,hb17,-⟩:=zes hok;have hnt:tb.length=nt:=ht.cap.1;simp only at hk h6 h17;rcases zgk hk with rfl|rfl|rfl|rfl|rfl|rfl|rfl|rfl|rfl|rfl|rfl|rfl|rfl|rfl|rfl|rfl|rfl
 case inl=>
  obtain⟨i0,rfl⟩:=len1 (show ins.length=1 from hil);have hn:=hi.len;simp only[List.length_cons,List.length_nil]at hn;subst hn;obtain⟨bi,oi,rfl,hbi,hci⟩:=zak hi (by omega);have c0:w.cell? ⟨bi,oi,none⟩=some (.int .i64 i0):=hci 0 _ rfl;have e0:=zba hia (k:=0) (x:=i0) rfl;exact(zso _ _ _ _ _ _ _ _ _ _ _ _ _ w c0 p0 p1).mono fun e w' h=>by simpa [zam,zcg,M.i_]using h
 case inr.inl=>
  obtain rfl:=len0 (show ins.length=0 from hil);have hn:=hi.len;simp only[List.length_nil]at hn;subst hn;exact(zsp _ _ _ _ _ _ _ _ _ _ _ w  p0 p1).mono fun e w' h=>by simpa [zam,zcg,M.i_]using h
 case inr.inr.inl=>
  obtain⟨i0,i1,rfl⟩:=len2 (show ins.length=2 from hil);have hn:=hi.len;simp only[List.length_cons,List.length_nil]at hn;subst hn;obtain⟨bi,oi,rfl,hbi,hci⟩:=zak hi (by omega);have c0:w.cell? ⟨bi,oi,none⟩=some (.int .i64 i0):=hci 0 _ rfl;have c1:w.cell? ⟨bi,oi+1,none⟩=some (.int .i64 i1):=hci 1 _ rfl;have e0:=zba hia (k:=0) (x:=i0) rfl;have e1:=zba hia (k:=1) (x:=i1) rfl;exact(zsq _ _ _ _ _ _ _ _ _ _ _ _ _ _ w c0 c1 ⟨e0.1,e0.2,e1.1,e1.2⟩ p0 p1).mono fun e w' h=>by simpa [zam,zcg,M.i_]using h
 case inr.inr.inr.inl=>
  obtain⟨i0,i1,rfl⟩:=len2 (show ins.length=2 from hil);have hn:=hi.len;simp only[List.length_cons,List.length_nil]at hn;subst hn;obtain⟨bi,oi,rfl,hbi,hci⟩:=zak hi (by omega);have c0:w.cell? ⟨bi,oi,none⟩=some (.int .i64 i0):=hci 0 _ rfl;have c1:w.cell? ⟨bi,oi+1,none⟩=some (.int .i64 i1):=hci 1 _ rfl;have e0:=zba hia (k:=0) (x:=i0) rfl;have e1:=zba hia (k:=1) (x:=i1) rfl;exact(zsr _ _ _ _ _ _ _ _ _ _ _ _ _ _ w c0 c1 ⟨e0.1,e0.2,e1.1,e1.2⟩ p0 p1).mono fun e w' h=>by simpa [zam,zcg,M.i_]using h
 case inr.inr.inr.inr.inl=>
  obtain⟨i0,rfl⟩:=len1 (show ins.length=1 from hil);have hn:=hi.len;simp only[List.length_cons,List.length_nil]at hn;subst hn;obtain⟨bi,oi,rfl,hbi,hci⟩:=zak hi (by omega);have c0:w.cell? ⟨bi,oi,none⟩=some (.int .i64 i0):=hci 0 _ rfl;have e0:=zba hia (k:=0) (x:=i0) rfl;exact(zss _ _ _ _ _ _ _ _ _ _ _ _ _ w c0 (hb5 rfl) e0 p0 p1).mono fun e w' h=>by simpa [zam,zcg,M.i_]using h
 case inr.inr.inr.inr.inr.inl=>
  obtain⟨i0,rfl⟩:=len1 (show ins.length=1 from hil);have hn:=hi.len;simp only[List.length_cons,List.length_nil]at hn;subst hn;obtain⟨bi,oi,rfl,hbi,hci⟩:=zak hi (by omega);have c0:w.cell? ⟨bi,oi,none⟩=some (.int .i64 i0):=hci 0 _ rfl;have e0:=zba hia (k:=0) (x:=i0) rfl;have hsl2:s.length=a1.toNat:=hsl;have hsr:=h6 rfl;obtain⟨s0,ss,rfl⟩:=zlz (xs:=s) (by omega);have hm:=hs.len;simp only[List.length_cons]at hm hsl2;obtain⟨bs,os_,rfl,hbs,hcs0⟩:=zak hs (by omega);have d0:w.cell? ⟨bs,os_,none⟩=some (.int .i64 s0):=hcs0 0 _ rfl;have f0:=zba hsa (k:=0) (x:=s0) rfl;exact(zst _ _ _ _ _ _ _ _ _ _ _ _ _ _ _ w c0 d0 (by omega) e0 f0 p0 p1).mono fun e w' h=>by simpa [zam,zcg,M.i_]using h
 case inr.inr.inr.inr.inr.inr.inl=>
  obtain⟨i0,rfl⟩:=len1 (show ins.length=1 from hil);have hn:=hi.len;simp only[List.length_cons,List.length_nil]at hn;subst hn;obtain⟨bi,oi,rfl,hbi,hci⟩:=zak hi (by omega);have c0:w.cell? ⟨bi,oi,none⟩=some (.int .i64 i0):=hci 0 _ rfl;have e0:=zba hia (k:=0) (x:=i0) rfl;obtain⟨s0,rfl⟩:=len1 (show s.length=1 from hsl);have hm:=hs.len;simp only[List.length_cons,List.length_nil]at hm;obtain⟨bs,os_,rfl,hbs,hcs0⟩:=zak hs (by omega);have d0:w.cell? ⟨bs,os_,none⟩=some (.int .i64 s0):=hcs0 0 _ rfl;have f0:=zba hsa (k:=0) (x:=s0) rfl;exact(zsu _ _ _ _ _ _ _ _ _ _ _ _ _ _ _ w c0 d0 (by omega) e0 f0 p0 p1).mono fun e w' h=>by simpa [zam,zcg,M.i_]using h
 case inr.inr.inr.inr.inr.inr.inr.inl=>
  obtain⟨i0,rfl⟩:=len1 (show ins.length=1 from hil);have hn:=hi.len;simp only[List.length_cons,List.length_nil]at hn;subst hn;obtain⟨bi,oi,rfl,hbi,hci⟩:=zak hi (by omega);have c0:w.cell? ⟨bi,oi,none⟩=some (.int .i64 i0):=hci 0 _ rfl;have e0:=zba hia (k:=0) (x:=i0) rfl;obtain⟨s0,rfl⟩:=len1 (show s.length=1 from hsl);have hm:=hs.len;simp only[List.length_cons,List.length_nil]at hm;obtain⟨bs,os_,rfl,hbs,hcs0⟩:=zak hs (by omega);have d0:w.cell? ⟨bs,os_,none⟩=some (.int .i64 s0):=hcs0 0 _ rfl;have f0:=zba hsa (k:=0) (x:=s0) rfl;exact(zsv _ _ _ _ _ _ _ _ _ _ _ _ _ _ _ w c0 d0 (by omega) e0 f0 p0 p1).mono fun e w' h=>by simpa [zam,zcg,M.i_]using h
 case inr.inr.inr.inr.inr.inr.inr.inr.inl=>
  obtain⟨i0,i1,rfl⟩:=len2 (show ins.length=2 from hil);have hn:=hi.len;simp only[List.length_cons,List.length_nil]at hn;subst hn;obtain⟨bi,oi,rfl,hbi,hci⟩:=zak hi (by omega);have c0:w.cell? ⟨bi,oi,none⟩=some (.int .i64 i0):=hci 0 _ rfl;have c1:w.cell? ⟨bi,oi+1,none⟩=some (.int .i64 i1):=hci 1 _ rfl;have e0:=zba hia (k:=0) (x:=i0) rfl;have e1:=zba hia (k:=1) (x:=i1) rfl;exact(zsw _ _ _ _ _ _ _ _ _ _ _ _ _ _ w c0 c1 ⟨e0.1,e0.2,e1.1,e1.2⟩ p0 p1).mono fun e w' h=>by simpa [zam,zcg,M.i_]using h
 case inr.inr.inr.inr.inr.inr.inr.inr.inr.inl=>
  obtain⟨i0,rfl⟩:=len1 (show ins.length=1 from hil);have hn:=hi.len;simp only[List.length_cons,List.length_nil]at hn;subst hn;obtain⟨bi,oi,rfl,hbi,hci⟩:=zak hi (by omega);have c0:w.cell? ⟨bi,oi,none⟩=some (.int .i64 i0):=hci 0 _ rfl;have e0:=zba hia (k:=0) (x:=i0) rfl;exact(zsx _ _ _ _ _ _ _ _ _ _ _ _ _ w c0 (hb10 rfl) e0 p0 p1).mono fun e w' h=>by simpa [zam,zcg,M.i_]using h
 case inr.inr.inr.inr.inr.inr.inr.inr.inr.inr.inl=>
  obtain⟨i0,rfl⟩:=len1 (show ins.length=1 from hil);have hn:=hi.len;simp only[List.length_cons,List.length_nil]at hn;subst hn;obtain⟨bi,oi,rfl,hbi,hci⟩:=zak hi (by omega);have c0:w.cell? ⟨bi,oi,none⟩=some (.int .i64 i0):=hci 0 _ rfl;have e0:=zba hia (k:=0) (x:=i0) rfl;exact(zsy _ _ _ _ _ _ _ _ _ _ _ _ _ w c0 (hb11 rfl) e0 p0 p1).mono fun e w' h=>by simpa [zam,zcg,M.i_]using h
 case inr.inr.inr.inr.inr.inr.inr.inr.inr.inr.inr.inl=>
  obtain⟨i0,rfl⟩:=len1 (show ins.length=1 from hil);have hn:=hi.len;simp only[List.length_cons,List.length_nil]at hn;subst hn;obtain⟨bi,oi,rfl,hbi,hci⟩:=zak hi (by omega);have c0:w.cell? ⟨bi,oi,none⟩=some (.int .i64 i0):=hci 0 _ rfl;have e0:=zba hia (k:=0) (x:=i0) rfl;obtain⟨s0,rfl⟩:=len1 (show s.length=1 from hsl);have hm:=hs.len;simp only[List.length_cons,List.length_nil]at hm;obtain⟨bs,os_,rfl,hbs,hcs0⟩:=zak hs (by omega);have d0:w.cell? ⟨bs,os_,none⟩=some (.int .i64 s0):=hcs0 0 _ rfl;have f0:=zba hsa (k:=0) (x:=s0) rfl;exact(zsz _ _ _ _ _ _ _ _ _ _ _ _ _ _ _ w c0 d0 (by omega) e0 f0 p0 p1).mono fun e w' h=>by simpa [zam,zcg,M.i_]using h
 case inr.inr.inr.inr.inr.inr.inr.inr.inr.inr.inr.inr.inl=>
  obtain⟨i0,rfl⟩:=len1 (show ins.length=1 from hil);have hn:=hi.len;simp only[List.length_cons,List.length_nil]at hn;subst hn;obtain⟨bi,oi,rfl,hbi,hci⟩:=zak hi (by omega);have c0:w.cell? ⟨bi,oi,none⟩=some (.int .i64 i0):=hci 0 _ rfl;have e0:=zba hia (k:=0) (x:=i0) rfl;have h13:=hb13 rfl;obtain⟨j,rfl⟩:∃j:Nat,a1=(j:Int):=⟨a1.toNat,by omega⟩;have hjn:j<nt:=by omega
  obtain⟨bt,ot,A1,c1,t,rfl,hbt,X,hct,hrt,-⟩:=zeq ht (Lib.hid (fun x hx=>by obtain⟨k,hk⟩:=List.getElem?_of_mem hx;have:=(zft htb hk).1;omega)) hjn;obtain⟨htl,-,ht4⟩:=zft htb X.out;have hcel:zbz tb j=t:=by rw[zbz,X.out];rfl
  exact(zs0 _ _ _ _ _ _ _ _ _ _ _ _ _ _ _ _ _ _ _ w c0 ⟨rfl,by omega,by omega⟩ hct hrt htl p0 p1).mono fun e w' h=>by simpa [zam,zcg,M.i_,hcel]using h
 case inr.inr.inr.inr.inr.inr.inr.inr.inr.inr.inr.inr.inr.inl=>
  obtain rfl:=len0 (show ins.length=0 from hil);have hn:=hi.len;simp only[List.length_nil]at hn;subst hn;obtain⟨s0,rfl⟩:=len1 (show s.length=1 from hsl);have hm:=hs.len;simp only[List.length_cons,List.length_nil]at hm;obtain⟨bs,os_,rfl,hbs,hcs0⟩:=zak hs (by omega);have d0:w.cell? ⟨bs,os_,none⟩=some (.int .i64 s0):=hcs0 0 _ rfl;have f0:=zba hsa (k:=0) (x:=s0) rfl;exact(zs1 _ _ _ _ _ _ _ _ _ _ _ _ _ w d0 (by omega) f0 p0 p1).mono fun e w' h=>by simpa [zam,zcg,M.i_]using h
 case inr.inr.inr.inr.inr.inr.inr.inr.inr.inr.inr.inr.inr.inr.inl=>
  obtain⟨i0,i1,i2,rfl⟩:=len3 (show ins.length=3 from hil);have hn:=hi.len;simp only[List.length_cons,List.length_nil]at hn;subst hn;obtain⟨bi,oi,rfl,hbi,hci⟩:=zak hi (by omega);have c0:w.cell? ⟨bi,oi,none⟩=some (.int .i64 i0):=hci 0 _ rfl;have c1:w.cell? ⟨bi,oi+1,none⟩=some (.int .i64 i1):=hci 1 _ rfl;have c2:w.cell? ⟨bi,oi+2,none⟩=some (.int .i64 i2):=hci 2 _ rfl;have e0:=zba hia (k:=0) (x:=i0) rfl;have e1:=zba hia (k:=1) (x:=i1) rfl;have e2:=zba hia (k:=2) (x:=i2) rfl;exact(zs2 _ _ _ _ _ _ _ _ _ _ _ _ _ _ _ w c0 c1 c2 ⟨e0.1,e0.2,e1.1,e1.2,e2.1,e2.2⟩ p0 p1).mono fun e w' h=>by simpa [zam,zcg,M.i_]using h
 case inr.inr.inr.inr.inr.inr.inr.inr.inr.inr.inr.inr.inr.inr.inr.inl=>
  obtain⟨i0,i1,rfl⟩:=len2 (show ins.length=2 from hil);have hn:=hi.len;simp only[List.length_cons,List.length_nil]at hn;subst hn;obtain⟨bi,oi,rfl,hbi,hci⟩:=zak hi (by omega);have c0:w.cell? ⟨bi,oi,none⟩=some (.int .i64 i0):=hci 0 _ rfl;have c1:w.cell? ⟨bi,oi+1,none⟩=some (.int .i64 i1):=hci 1 _ rfl;have e0:=zba hia (k:=0) (x:=i0) rfl;have e1:=zba hia (k:=1) (x:=i1) rfl;obtain⟨s0,rfl⟩:=len1 (show s.length=1 from hsl);have hm:=hs.len;simp only[List.length_cons,List.length_nil]at hm;obtain⟨bs,os_,rfl,hbs,hcs0⟩:=zak hs (by omega);have d0:w.cell? ⟨bs,os_,none⟩=some (.int .i64 s0):=hcs0 0 _ rfl;have f0:=zba hsa (k:=0) (x:=s0) rfl;exact(zs3 _ _ _ _ _ _ _ _ _ _ _ _ _ _ _ _ w c0 c1 d0 (by omega) ⟨e0.1,e0.2,e1.1,e1.2⟩ f0 p0 p1).mono fun e w' h=>by simpa [zam,zcg,M.i_]using h
 case inr.inr.inr.inr.inr.inr.inr.inr.inr.inr.inr.inr.inr.inr.inr.inr=>
  obtain⟨i0,rfl⟩:=len1 (show ins.length=1 from hil);have hn:=hi.len;simp only[List.length_cons,List.length_nil]at hn;subst hn;obtain⟨bi,oi,rfl,hbi,hci⟩:=zak hi (by omega);have c0:w.cell? ⟨bi,oi,none⟩=some (.int .i64 i0):=hci 0 _ rfl;have e0:=zba hia (k:=0) (x:=i0) rfl;have hsl2:s.length=a2.toNat:=hsl;have hsr:=h17 rfl;obtain⟨s0,ss,rfl⟩:=zlz (xs:=s) (by omega);have hm:=hs.len;simp only[List.length_cons]at hm hsl2;obtain⟨bs,os_,rfl,hbs,hcs0⟩:=zak hs (by omega);have d0:w.cell? ⟨bs,os_,none⟩=some (.int .i64 s0):=hcs0 0 _ rfl;have f0:=zba hsa (k:=0) (x:=s0) rfl;exact(zs4 _ _ _ _ _ _ _ _ _ _ _ _ _ _ _ w c0 d0 (by omega) (hb17 rfl) e0 f0 p0 p1).mono fun e w' h=>by simpa [zam,zcg,M.i_]using h
end Go.Proofs.YtifeldeikhmckaaGreat
