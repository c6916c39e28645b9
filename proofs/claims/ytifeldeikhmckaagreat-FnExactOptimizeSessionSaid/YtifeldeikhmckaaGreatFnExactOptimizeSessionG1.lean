import Derived.WalkKit
import Derived.WalkSpells
import Derived.WalkLawsBesides
import Derived.Deep.AppendLies
import Derived.Deep.Draws
import Derived.Deep.QuietTactic
import Derived.BigQuiet
import Derived.StillTailTactics
import Derived.Deep.RegionHeld3
import Derived.RegionTactic
import Derived.Lib.Hide
import Derived.RowKit
import Derived.Test.YtifeldeikhmckaaGreatProg
set_option linter.unusedVariables false
set_option linter.unusedSimpArgs false
set_option maxRecDepth 100000
set_option maxHeartbeats 4000000
namespace Go.Proofs.YtifeldeikhmckaaGreat
open Go.RowKit
abbrev Yw := World
abbrev Yo := Option Addr
section
theorem ze4(a:Addr)(n:Nat):(a.add n).block=a.block:=by unfold Addr.add;split <;> rfl
theorem zoq(a:Addr)(i j:Nat):(a.add i).add j=a.add (i+j):=by
 unfold Addr.add
 by_cases hi:i=0 <;> by_cases hj:j=0 <;> simp[hi,hj,Nat.add_assoc]
def Reads (w:Yw) (B size:Nat) (A:Yo) (n:Nat) (cs:List Value):Prop:=
 cs.length=n*size/\(0<n->∃ad,A=some ad/\ad.block<B/\∀j u,cs[j]?=some u->w.cell? (ad.add j)=some u)
section
variable {w w':Yw} {B B' size n:Nat} {A :Yo} {cs:List Value}
theorem Reads.none_:Reads w B size A 0 []:=⟨by simp,fun h=>absurd h (by omega)⟩
theorem Reads.keep(h:Reads w B size A n cs)(hk:∀p:Addr,p.block<B->w'.cell? p=w.cell? p):Reads w' B size A n cs:=
 ⟨h.1,fun hn=>by
  obtain⟨ad,e,hb,hc⟩:=h.2 hn;exact⟨ad,e,hb,fun j u hu=>(hk _ (by rw[ze4];exact hb)).trans (hc j u hu)⟩⟩
theorem Reads.more(h:Reads w B size A n cs)(hB:B<=B'):Reads w B' size A n cs:=
 ⟨h.1,fun hn=>by
  obtain⟨ad,e,hb,hc⟩:=h.2 hn;exact⟨ad,e,Nat.lt_of_lt_of_le hb hB,hc⟩⟩
theorem Reads.below(h:Reads w B size A n cs)(hb:Below B w w'):Reads w' B size A n cs:=h.keep fun _ hp=>hb.cell hp
theorem Reads.later(h:Reads w w.heap.size size A n cs)(hb:Below w.heap.size w w'):Reads w' w'.heap.size size A n cs:=(h.below hb).more hb.size
theorem Reads.cut(h:Reads w B size A n cs){k cap:Nat}(hk:k<=n)(hc:n<=cap):
 Reads w B size (if cap=k then A else A.map (·.add (k*size))) (n-k) (cs.drop (k*size)):=by
 refine⟨by rw[List.length_drop,h.1,Nat.sub_mul],fun hn=>?_⟩;obtain⟨ad,rfl,hb,hcell⟩:=h.2 (by omega);rw[if_neg (by omega)];refine⟨ad.add (k*size),rfl,by rw[ze4];exact hb,fun j u hu=>?_⟩;rw[zoq];exact hcell _ u (by rw[<-hu,List.getElem?_drop])
theorem Reads.of_own{base:Nat}{e:TypeId}{c:Nat}(h:w.ownsRow base e size (.slice A n c) n cs):Reads w w.heap.size size A n cs:=by
 refine⟨h.1,fun hn=>?_⟩;obtain⟨g,cap,hv,_,hlt⟩:=h.form hn;have hA:A=some ⟨g,0,none⟩:=by injection hv
 subst hA;exact⟨_,rfl,hlt,h.cells (g:=g) rfl⟩
theorem zek{base:Nat}{e:TypeId}{v:Value}(h:w.ownsRow base e size v n cs):∃A c,v=.slice A n c/\n<=c/\c<=maxLen/\Reads w w.heap.size size A n cs:=by
 rcases h.2 with⟨rfl,rfl⟩|⟨g,cap,cur,rfl,h1,h2,h3,h4,h5,h6⟩
 ·exact⟨none,0,rfl,Nat.le_refl _,by simp[maxLen],Reads.of_own h⟩
 exact⟨_,cap,rfl,h3,h4,Reads.of_own h⟩
theorem zj0{base:Nat}{e:TypeId}{v:Value}(h:w.ownsRow base e size v n cs)(hb:Below w.heap.size w w'):w'.ownsRow base e size v n cs:=by
 refine⟨h.1,?_⟩;rcases h.2 with h2|⟨g,cap,cur,hv,hg,hh,r⟩
 ·exact .inl h2
 exact .inr ⟨g,cap,cur,hv,hg,by rw[hb.block g (Array.getElem?_eq_some_iff.1 hh).1];exact hh,r⟩
theorem zg1{base base':Nat}{e:TypeId}{v:Value}(h:w.ownsRow base e size v n cs)(hb:base'<=base):w.ownsRow base' e size v n cs:=
 ⟨h.1,h.2.imp id fun⟨g,cap,cur,hv,hg,r⟩=>⟨g,cap,cur,hv,Nat.le_trans hb hg,r⟩⟩
theorem zae{B:Nat}{a w:Yw}(h:Below B a w)(n:Nat):Below B a (w.drewN n):=⟨h.os,h.tape,h.output,h.size,h.block⟩
theorem zaa{a b c:Yw}(h1:Below a.heap.size a b)(h2:Below b.heap.size b c):Below a.heap.size a c:=h1.trans (h2.mono h1.size)
theorem zj1{B:Nat}{a b c:Yw}(h1:Below B a b)(hB:B<=b.heap.size)(h2:Below b.heap.size b c):Below B a c:=h1.trans (h2.mono hB)
end
def RI (w:Yw) (B:Nat) (A:Yo) (n:Nat) (xs:List Int):Prop:=Reads w B 1 A n (xs.map (.int .i64))
section
variable {w w':Yw} {B B' n:Nat} {A :Yo} {xs:List Int}
theorem RI.len(h:RI w B A n xs):xs.length=n:=by have:=h.1;simpa using this
theorem RI.below(h:RI w B A n xs)(hb:Below B w w'):RI w' B A n xs:=Reads.below h hb
theorem RI.later(h:RI w w.heap.size A n xs)(hb:Below w.heap.size w w'):RI w' w'.heap.size A n xs:=Reads.later h hb
theorem RI.more(h:RI w B A n xs)(hB:B<=B'):RI w B' A n xs:=Reads.more h hB
theorem RI.at(h:RI w B A n xs){k:Nat}(hk:k<n):∃ad x,A=some ad/\ad.block<B/\Hid (xs[k]?=some x)/\w.cell? (ad.add k)=some (.int .i64 x):=by
 obtain⟨ad,e,hb,hc⟩:=h.2 (by omega);have hl:k<xs.length:=by rw[h.len];exact hk
 exact⟨ad,xs[k],e,hb,List.getElem?_eq_getElem hl,hc k _ (by simp[hl])⟩
theorem RI.cell{ad:Addr}(h:RI w B (some ad) n xs){k:Nat}(hk:k<n):∃x,Hid (xs[k]?=some x)/\w.cell? (ad.add k)=some (.int .i64 x):=by
 obtain⟨ad',x,e,_,h1,h2⟩:=h.at hk;injection e with e
 subst e;exact⟨x,h1,h2⟩
theorem RI.nil(w:Yw)(B:Nat)(A:Yo):RI w B A 0 []:=Reads.none_
end
def EI (P:Program) (t e:TypeId) (z:Value) (size bytes:Nat):Prop:=
 P.underlying t=some (.slice e)/\(P.info? e).map (fun i=>(i.zero,i.size,i.bytes))=some (some z,size,bytes)/\z.cells.size=size/\0<size
section
variable {P:Program} {t e:TypeId} {z:Value} {size bytes:Nat}
theorem zj2(hE:EI P t e z size bytes){w:Yw}{ops:Array Oper}{rest:List Oper}{o:Oper}{a:Act}{Q:Exit->Act->Yw->Prop}(us:Array Value)
 (hgd:o.guard=none) (s x:Operand)
 (ho:o.op=.call { callee:=.builtin .append,args:=#[s,x],argTypes:=#[t,t] })
 {B:Nat} {v:Value} {n:Nat} {xs:List Value} (hown:w.ownsRow B e size v n xs) (hs:a.eval s=v)
 (hx:a.eval x=.slice (some ⟨w.heap.size,0,none⟩) 1 1) (hus:us.size=size) (h1:∀u∈us.toList,u.oneCell'=true)
 (hn:n+1<=maxLen) (hbytes:(n+1)*bytes<=140737488355328) (hbase:B<=w.heap.size)
 (K:∀v' w',w'.ownsRow B e size v' (n+1) (xs++us.toList)->w.grownBy w' v.ownBlock->Below B w w'->wpList P ops Q rest (a.put o.dst v') w') :
 wpList P ops Q (o::rest) a (w.alloc (.cells us e)):=by
 obtain⟨ht,hinfo,hzs,hsz⟩:=hE;obtain⟨i0,hi,hz0,hz1,hz2⟩:=info_parts hinfo;refine wpList_append_own _ hgd s x t ho B e i0 z size bytes ht hi hz0 hz1 hz2 hzs hsz v n xs hs (hown.alloc _) ⟨w.heap.size,0,none⟩ 1 1 us.toList hx (by simp[hus]) ?_ h1 hn hbytes (by simp;omega) ?_
 ·intro j u hj;have hadd:(⟨w.heap.size,0,none⟩:Addr).add j=⟨w.heap.size,j,none⟩:=by unfold Addr.add;split <;> simp_all
  rw[hadd,cell_of_row _ w.heap.size j us e (0,0) (heap_alloc_new w _)];simpa using hj
 intro v' w' h2 h3 _
 have h4:w.grownBy w' v.ownBlock:=by
  have:=World.grownBy_alloc w (.cells us e) none
  exact⟨h3.os.trans this.os,h3.tape.trans this.tape,h3.output.trans this.output,Nat.le_trans this.size h3.size,fun k hk hne=>by
   rw[h3.block k (by simp;omega) hne];exact this.block k hk (by simp)⟩
 exact K v' w' h2 h4 ((Below.refl _ _).grown h4 hbase fun k hk=>(hown.lt k hk).1)
theorem zdf(hE:EI P t e z 1 bytes){w:Yw}{ops:Array Oper}{rest:List Oper}{o:Oper}{a:Act}{Q:Exit->Act->Yw->Prop}{u:Value}
 (hgd:o.guard=none) (s x:Operand)
 (ho:o.op=.call { callee:=.builtin .append,args:=#[s,x],argTypes:=#[t,t] })
 {B:Nat} {v:Value} {n:Nat} {xs:List Value} (hown:w.ownsRow B e 1 v n xs) (hs:a.eval s=v)
 (hx:a.eval x=.slice (some ⟨w.heap.size,0,none⟩) 1 1) (h1:u.oneCell'=true)
 (hn:n+1<=maxLen) (hbytes:(n+1)*bytes<=140737488355328) (hbase:B<=w.heap.size)
 (K:∀v' w',w'.ownsRow B e 1 v' (n+1) (xs++[u])->w.grownBy w' v.ownBlock->Below B w w'->wpList P ops Q rest (a.put o.dst v') w') :
 wpList P ops Q (o::rest) a (w.alloc (.cells #[u] e)):=
 zj2 hE #[u] hgd s x ho hown hs hx rfl (by simpa using h1) hn hbytes hbase K
end
section
variable {P:Program} {t e:TypeId} {z:Value} {size bytes:Nat} (w:Yw)
theorem zor(base:Nat)(t ty e:TypeId)(i:TypeInfo)(size:Nat)(ht:P.underlying t=some (.slice e))(hi:P.info? e=some i)
 (v:Value) (n:Nat) (xs:List Value) (hown:w.ownsRow base e size v n xs) (c:Nat):(Builtin.append_ #[t,t] ty #[v,.slice none 0 c]).run P w=.ok v w:=by
 rcases hown.2 with⟨rfl,rfl⟩|⟨g,cap,cur,rfl,_,_,hnc,_⟩
 ·simp[Builtin.append_,run_underlying ht,sizeOf,typeInfo,hi,Builtin.lenOf,Builtin.firstCells]
 simp[Builtin.append_,run_underlying ht,sizeOf,typeInfo,hi,Builtin.lenOf,Builtin.firstCells,hnc,storeCells]
theorem zfj(hE:EI P t e z size bytes){w:Yw}{ops:Array Oper}{rest:List Oper}{o:Oper}{a:Act}{Q:Exit->Act->Yw->Prop}
 (hgd:o.guard=none) (s x:Operand) (ho:o.op=.call { callee:=.builtin .append,args:=#[s,x],argTypes:=#[t,t] })
 {B:Nat} {v:Value} {n:Nat} {xs:List Value} (hown:w.ownsRow B e size v n xs) (hs:a.eval s=v)
 {B':Nat} {A:Yo} {m c:Nat} {news:List Value} (hr:Reads w B' size A m news) (hx:a.eval x=.slice A m c) (h1:∀u∈news,u.oneCell'=true)
 (hn:n+m<=maxLen) (hbytes:(n+m)*bytes<=140737488355328) (hbase:B<=w.heap.size)
 (K:∀v' w',w'.ownsRow B e size v' (n+m) (xs++news)->w.grownBy w' v.ownBlock->Below B w w'->wpList P ops Q rest (a.put o.dst v') w') :
 wpList P ops Q (o::rest) a w:=by
 obtain⟨ht,hinfo,hzs,hsz⟩:=hE;obtain⟨i0,hi,hz0,hz1,hz2⟩:=info_parts hinfo;rcases A with _|ad
 ·have hm:m=0:=by
   rcases Nat.eq_zero_or_pos m with h0|h0
   ·exact h0
   obtain⟨ad,h,_⟩:=hr.2 h0;cases h
  subst hm;have hnil:news=[]:=List.eq_nil_of_length_eq_zero (by simpa using hr.1);subst hnil;refine wpList_plain hgd fun K' hK'=>?_
  have hrun:=zor (P:=P) w B t o.type e i0 size ht hi v n xs hown c;unfold Oper.wp execOp;simp only[ho,resolve,invoke,builtin,Sem.run_bind,Sem.run_pure,Result.andThen_ok,List.map_toArray,List.map_cons,List.map_nil,hs,hx,hrun];exact hK' _ _ (K v w (by simpa using hown) (World.grownBy.refl w _) (Below.refl _ _))
 have hcells:∀j u,news[j]?=some u->w.cell? (ad.add j)=some u:=by
  intro j u hu;rcases Nat.eq_zero_or_pos m with h0|h0
  ·subst h0;have hnil:news=[]:=List.eq_nil_of_length_eq_zero (by simpa using hr.1);subst hnil;simp at hu
  obtain⟨ad',h,_,hc⟩:=hr.2 h0;injection h with h
  subst h;exact hc j u hu
 refine wpList_append_own _ hgd s x t ho B e i0 z size bytes ht hi hz0 hz1 hz2 hzs hsz v n xs hs hown ad m c news hx hr.1 hcells h1 hn hbytes hbase ?_;intro v' w' h2 h3 _;exact K v' w' h2 h3 ((Below.refl _ _).grown h3 hbase fun k hk=>(hown.lt k hk).1)
theorem zdo(hE:EI P t e z size bytes){w:Yw}{ops:Array Oper}{rest:List Oper}{o:Oper}{a:Act}{Q:Exit->Act->Yw->Prop}
 (hgd:o.guard=none) (l c:Operand) (ho:o.op=Op.makeSlice t l c) (n:Nat) (L C:Int) (hl:a.eval l=.int .i64 L) (hc:a.eval c=.int .i64 C) (hL:L=(n:Int)) (hC:C=(n:Int))
 (hbytes:bytes*n<=281474976710656) (hn:n<=maxLen)
 (K:∀w',w'.ownsRow w.heap.size e size (.slice (some ⟨w.heap.size,0,none⟩) n n) n (madeCells z.cells (n*size)).toList->Below w.heap.size w w'->wpList P ops Q rest (a.put o.dst (.slice (some ⟨w.heap.size,0,none⟩) n n)) w') :
 wpList P ops Q (o::rest) a w:=by
 obtain⟨ht,hinfo,hzs,hsz⟩:=hE;obtain⟨i0,hi,hz0,hz1,hz2⟩:=info_parts hinfo
 exact wpList_make_full w hgd l c t ho w.heap.size e i0 z size ht hi hz0 hz1 .i64 .i64 L C n hl hc hL hC (by rw[hz2];exact hbytes) hn (Nat.le_refl _)
  fun w' h1 h2=>K w' h1 ((Below.refl _ _).grown h2 (Nat.le_refl _) (by simp))
end
section
variable {P:Program} {t e:TypeId} {z:Value} {size bytes:Nat}
end
def OI (e:TypeId) (B:Nat) (w:Yw) (v:Value) (xs:List Int):Prop:=w.ownsRow B e 1 v xs.length (xs.map (.int .i64))
theorem OI.push{e:TypeId}{B:Nat}{w:Yw}{v:Value}{xs:List Int}{x:Int}(h:w.ownsRow B e 1 v (xs.length+1) (xs.map (.int .i64)++[.int .i64 x])):OI e B w v (xs++[x]):=by
 unfold OI;simpa using h
section
variable {e:TypeId} {B:Nat} {w w':Yw} {v:Value} {xs:List Int}
theorem OI.below(h:OI e B w v xs)(hb:Below w.heap.size w w'):OI e B w' v xs:=zj0 h hb
theorem OI.base{B':Nat}(h:OI e B w v xs)(hb:B'<=B):OI e B' w v xs:=zg1 h hb
theorem OI.shape(h:OI e B w v xs):∃A c,v=.slice A xs.length c/\RI w w.heap.size A xs.length xs:=by
 obtain⟨A,c,hv,_,_,hr⟩:=zek h;exact⟨A,c,hv,hr⟩
theorem OI.at(h:OI e B w v xs){k:Nat}(hk:k<xs.length):∃g cap x,v=.slice (some ⟨g,0,none⟩) xs.length cap/\B<=g/\g<w.heap.size/\Hid (xs[k]?=some x)/\
 w.cell? ⟨g,k,none⟩=some (.int .i64 x)/\w.frozen? ⟨g,k,none⟩=false:=by
 obtain⟨g,cap,hv,hg,hlt⟩:=World.ownsRow.form h (by omega);subst hv;refine⟨g,cap,xs[k],rfl,hg,hlt,List.getElem?_eq_getElem hk,?_,World.ownsRow.frozenAt h k⟩;rw[World.ownsRow.cellAt h k (by omega)];simp[hk]
theorem OI.stored{g cap:Nat}(h:OI e B w (.slice (some ⟨g,0,none⟩) xs.length cap) xs)(k:Nat)(y:Int):OI e B (w.setCell ⟨g,k,none⟩ (.int .i64 y)) (.slice (some ⟨g,0,none⟩) xs.length cap) (xs.set k y):=by
 unfold OI at h ⊢;have:=(World.ownsRow.stored h k (.int .i64 y)).1;simpa [List.map_set]using this
theorem OI.n_eq{g n cap:Nat}(h:OI e B w (.slice (some ⟨g,0,none⟩) n cap) xs):n=xs.length:=by
 rcases h.2 with⟨h0,_⟩|⟨g',cap',cur,h0,_⟩
 ·simp at h0
 simp only[Value.slice.injEq]at h0;exact h0.2.1
theorem OI.at'{g n cap:Nat}(h:OI e B w (.slice (some ⟨g,0,none⟩) n cap) xs){k:Nat}(hk:k<n):∃x,Hid (xs[k]?=some x)/\w.cell? ⟨g,k,none⟩=some (.int .i64 x)/\w.frozen? ⟨g,k,none⟩=false/\B<=g/\g<w.heap.size:=by
 have hn:=h.n_eq;subst hn;obtain⟨g',cap',x,hv,hB,hlt,hx,hc,hf⟩:=h.at hk;simp only[Value.slice.injEq,Option.some.injEq,Addr.mk.injEq]at hv;obtain⟨⟨rfl,_⟩,_⟩:=hv;exact⟨x,hx,hc,hf,hB,hlt⟩
theorem OI.stored'{g n cap:Nat}(h:OI e B w (.slice (some ⟨g,0,none⟩) n cap) xs)(k:Nat)(y:Int):OI e B (w.setCell ⟨g,k,none⟩ (.int .i64 y)) (.slice (some ⟨g,0,none⟩) n cap) (xs.set k y):=by
 have hn:=h.n_eq;subst hn;exact h.stored k y
theorem OI.form(h:OI e B w v xs)(hn:0<xs.length):∃g cap,v=.slice (some ⟨g,0,none⟩) xs.length cap/\B<=g/\g<w.heap.size:=World.ownsRow.form h hn
theorem OI.form'{A:Yo}{n c:Nat}(h:OI e B w (.slice A n c) xs)(hn:0<n):∃g,A=some ⟨g,0,none⟩/\B<=g/\g<w.heap.size:=by
 have hn':0<xs.length:=by
  rcases h.2 with⟨h0,_⟩|⟨g',cap',cur,h0,_⟩
  ·simp only[Value.slice.injEq]at h0;omega
  simp only[Value.slice.injEq]at h0;omega
 obtain⟨g,cap,hv,hB,hg⟩:=h.form hn';simp only[Value.slice.injEq]at hv;exact⟨g,hv.1,hB,hg⟩
theorem zaz(w:Yw)(g k:Nat)(u:Value):w.grownBy (w.setCell ⟨g,k,none⟩ u) (some g):=
 ⟨rfl,rfl,rfl,by simp,fun j _ hj=>heap_setCell_other w ⟨g,k,none⟩ j u (fun e=>hj (by simp[e]))⟩
theorem zj3{row:Option Nat}{a b c:Yw}(h:a.grownBy b row)(h':b.grownBy c row):a.grownBy c row:=
 ⟨h'.os.trans h.os,h'.tape.trans h.tape,h'.output.trans h.output,Nat.le_trans h.size h'.size,fun k hk hne=>(h'.block k (Nat.lt_of_lt_of_le hk h.size) hne).trans (h.block k hk hne)⟩
theorem OI.kept{row:Option Nat}(h:OI e B w v xs)(hg:w.grownBy w' row)(hne:v.ownBlock=none\/v.ownBlock≠row):OI e B w' v xs:=World.ownsRow.kept h hg hne
theorem za7{P:Program}{f:FuncId}{args:Array Value}{w:Yw}{n:Nat}{v:Value}
 (h:Calls P f args (w.drewN n) fun e w'=>e=.returned v/\w.drewN n=w'):Calls P f args (w.drewN n) fun e w''=>e=.returned v/\∃m,w''=w.drewN m:=
 h.mono fun _ _ ⟨he,hm⟩=>⟨he,n,hm.symm⟩
def Ret1 (e:TypeId) (w:Yw) (r:List Int) (en:Ending) (w':Yw):Prop:=∃v,en=.returned v/\OI e w.heap.size w' v r/\Below w.heap.size w w'
theorem OI.nil(e:TypeId)(B:Nat)(w:Yw):OI e B w (.slice none 0 0) []:=World.ownsRow_nil _ _ _ _
theorem OI.made(e:TypeId)(w:Yw):OI e w.heap.size (w.alloc (.cells #[] e)) (.slice (some ⟨w.heap.size,0,none⟩) 0 0) []:=World.ownsRow_made _ _ _ (Nat.le_refl _) (by simp[maxLen]) rfl
theorem OI.ri{A:Yo}{c:Nat}(h:OI e B w (.slice A xs.length c) xs):RI w w.heap.size A xs.length xs:=Reads.of_own h
end
end
section
namespace M
def inn (n lo hi:Int):Bool:=decide (lo<=n)&&decide (n<=hi)
def smp (n:Int):Bool:=inn n (-2147483648) 2147483647
def sig (xs:List Int):Bool:=decide (xs.length<=4000)&&xs.all smp
def at_ (xs:List Int) (i:Int):Int:=if 0<=i/\i<xs.length then xs[i.toNat]?.getD 0 else 0
theorem wrap32_64(a:Int):wrap32 (wrap64 a)=wrap32 a:=by unfold wrap32 wrap64;omega
theorem wrap64_32(a:Int):wrap64 (wrap32 a)=wrap32 a:=by unfold wrap32 wrap64;omega
theorem wrap32_add(a b:Int):wrap32 (wrap32 a+wrap32 b)=wrap32 (a+b):=by unfold wrap32;omega
theorem wrap32_addr(a b:Int):wrap32 (a+wrap32 b)=wrap32 (a+b):=by unfold wrap32;omega
theorem wrap32_sub(a b:Int):wrap32 (wrap32 a-wrap32 b)=wrap32 (a-b):=by unfold wrap32;omega
theorem smp_wrap(a:Int):smp (wrap32 a)=true:=by simp[smp,inn];unfold wrap32;omega
theorem wrap32_bd(a:Int):-2147483648<=wrap32 a/\wrap32 a<=2147483647:=by unfold wrap32;omega
theorem wrap32_eq(a:Int):∃k,wrap32 a=a+4294967296*k:=⟨-((a+2147483648) / 4294967296),by unfold wrap32;omega⟩
theorem wrap32_cong{a b:Int}(k:Int)(h:a=b+4294967296*k):wrap32 a=wrap32 b:=by subst h;unfold wrap32;omega
theorem wrap32_mul(a b:Int):wrap32 (wrap32 a*wrap32 b)=wrap32 (a*b):=by
 obtain⟨i,hi⟩:=wrap32_eq a;obtain⟨j,hj⟩:=wrap32_eq b;rw[hi,hj];refine wrap32_cong (a*j+i*b+i*4294967296*j) ?_;simp only[Int.add_mul,Int.mul_add];rw[show a*(4294967296*j)=4294967296*(a*j)from Int.mul_left_comm _ _ _,Int.mul_assoc 4294967296 i b,show 4294967296*i*(4294967296*j)=4294967296*(i*4294967296*j)from by simp only[Int.mul_assoc]];omega
theorem wrap64_mul_bd(a b:Int)(ha:-2147483648<=a/\a<=2147483647)(hb:-2147483648<=b/\b<=2147483647):-4611686018427387904<=a*b/\a*b<=4611686018427387904:=by
 have h1:a.natAbs<=2147483648:=by omega
 have h2:b.natAbs<=2147483648:=by omega
 have h3:(a*b).natAbs<=2147483648*2147483648:=by rw[Int.natAbs_mul];exact Nat.mul_le_mul h1 h2
 omega
theorem wrap64_in(a:Int)(h:-9223372036854775808<=a/\a<=9223372036854775807):wrap64 a=a:=by unfold wrap64;omega
theorem and_low(n:Int):bits .and .i64 n 4294967295=n % 4294967296:=by
 have h0:0<=n % 18446744073709551616:=Int.emod_nonneg _ (by decide)
 have hx:((BitVec.ofInt 64 n &&& BitVec.ofInt 64 4294967295).toNat:Int)=n % 4294967296:=by
  rw[BitVec.toNat_and,show (BitVec.ofInt 64 4294967295).toNat=2 ^ 32-1 from by decide,Nat.and_two_pow_sub_one_eq_mod,BitVec.toNat_ofInt];omega
 show IntKind.i64.wrap ((BitVec.ofInt 64 n &&& BitVec.ofInt 64 4294967295).toNat:Int)=_
 rw[hx,IntKind.wrap_i64];omega
theorem drop_at{α:Type}{xs:List α}{k:Nat}{x:α}(h:xs[k]?=some x):xs.drop k=x::xs.drop (k+1):=by
 obtain⟨hk,rfl⟩:=List.getElem?_eq_some_iff.1 h;exact List.drop_eq_getElem_cons hk
theorem take_at{α:Type}{xs:List α}{k:Nat}{x:α}(h:xs[k]?=some x):xs.take (k+1)=xs.take k++[x]:=by
 rw[List.take_add_one,h];rfl
theorem set_mid{α:Type}{c xs:List α}{k:Nat}{y:α}(hl:c.length=xs.length)(h:c[k]?=some y):(c.take k++xs.drop k).set k y=c.take (k+1)++xs.drop (k+1):=by
 obtain⟨hk,rfl⟩:=List.getElem?_eq_some_iff.1 h;have h2:k<xs.length:=by omega
 have h3:(c.take k).length=k:=by rw[List.length_take];omega
 rw[List.set_append,if_neg (by omega),h3,Nat.sub_self,List.take_add_one,h,List.drop_eq_getElem_cons h2];simp only[List.set_cons_zero,Option.toList_some,List.append_assoc,List.singleton_append]
def ramp (k:Int) (n:Nat):List Int:=(List.range n).map fun(i:Nat)=>k+(i:Int)
theorem ramp_len(k:Int)(n:Nat):(ramp k n).length=n:=by simp[ramp]
theorem ramp_at{k:Int}{n j:Nat}(h:j<n):(ramp k n)[j]?=some (k+(j:Int)):=by simp[ramp,h]
def fold (x:Int):Int:=if x<0 then -2*x-1 else 2*x
theorem smp_bd{x:Int}(h:smp x=true):-2147483648<=x/\x<=2147483647:=by simpa [smp,inn]using h
def bits (x k:Int):Int:=if fold x / 2 ^ k.toNat<20 then fold x / 2 ^ k.toNat+1+k else 52
theorem mid_at{α:Type}{c xs:List α}{k:Nat}(hl:c.length=xs.length):(c.take k++xs.drop k)[k]?=xs[k]?:=by
 by_cases hk:k<c.length
 ·rw[List.getElem?_append_right (by rw[List.length_take];omega),List.length_take,Nat.min_eq_left (by omega),Nat.sub_self,List.getElem?_drop];simp
 rw[List.getElem?_eq_none (by simp;omega),List.getElem?_eq_none (by omega)]
end M
end
theorem zay{k:IntKind}{a b:Int}(h:a=b):Ending.returned (.int k a)=.returned (.int k b):=by rw[h]
theorem zac{a b:Bool}(h:a=b):Ending.returned (.bool a)=.returned (.bool b):=by rw[h]
theorem zce:EI Tryz.prog 24 2 (.int .i64 0) 1 8:=⟨Tryz.underlying24,by kernel_rfl,rfl,by decide⟩
theorem zap(n lo hi:Int)(w:Yw):
 Calls Tryz.prog 81 #[.int .i64 n,.int .i64 lo,.int .i64 hi] w fun e w'=>e=.returned (.bool (M.inn n lo hi))/\w=w':=by
 go_enter Tryz.func81,Tryz.ntmps81
 go_wp2
 all_goals go_ret
 all_goals exact⟨by simp[M.inn] <;> omega,rfl⟩
theorem zaw(n lo hi:Int)(w:Yw):
 Calls Tryz.prog 67 #[.int .i64 n,.int .i64 lo,.int .i64 hi] w fun e w'=>e=.returned (.bool (M.inn n lo hi))/\w=w':=by
 go_enter Tryz.func67,Tryz.ntmps67
 go_wp2
 all_goals go_ret
 all_goals exact⟨by simp[M.inn] <;> omega,rfl⟩
theorem zel(n:Int)(w:Yw):
 Calls Tryz.prog 193 #[.int .i64 n] w fun e w'=>e=.returned (.bool (M.smp n))/\w=w':=by
 go_enter Tryz.func193,Tryz.ntmps193
 go_wp2_with (go_at_call 81;refine(zap _ _ _ _).mono ?_;rintro e w' ⟨rfl,rfl⟩);go_ret;exact⟨rfl,rfl⟩
theorem zdt(n:Int)(w:Yw):
 Calls Tryz.prog 128 #[.int .i64 n] w fun e w'=>e=.returned (.bool (M.smp n))/\w=w':=by
 go_enter Tryz.func128,Tryz.ntmps128
 go_wp2_with (go_at_call 67;refine(zaw _ _ _ _).mono ?_;rintro e w' ⟨rfl,rfl⟩);go_ret;exact⟨rfl,rfl⟩
theorem zf8(n:Int)(w:Yw):Calls Tryz.prog 168 #[.int .i64 n] w fun e w'=>e=.returned (.int .i64 (wrap32 n))/\w=w':=by
 go_enter Tryz.func168,Tryz.ntmps168
 go_wp2;go_ret;exact⟨zay (M.wrap64_32 _),rfl⟩
theorem zh5(n:Int)(w:Yw):Calls Tryz.prog 211 #[.int .i64 n] w fun e w'=>e=.returned (.int .i64 (wrap32 n))/\w=w':=by
 have h:=Lib.hid (M.and_low n)
 by_cases hm:2147483647<bits BinOp.and IntKind.i64 n 4294967295
 all_goals
  go_enter Tryz.func211,Tryz.ntmps211
  go_wp2;go_ret;exact⟨zay (by have:=h.out;unfold wrap32;(try unfold wrap64);omega),rfl⟩
theorem zb8(A:Yo)(n c:Nat)(w:Yw):Calls Tryz.prog 169 #[.slice A n c] w fun e w'=>e=.returned (.int .i64 n)/\w=w':=by
 go_enter Tryz.func169,Tryz.ntmps169
 go_wp2;go_ret;exact⟨rfl,rfl⟩
theorem zh6(A:Yo)(n c:Nat)(xs:List Int)(w:Yw)(hx:RI w w.heap.size A n xs)(hn:n<=1000000000000):
 Calls Tryz.prog 233 #[.slice A n c] w fun e w'=>e=.returned (.bool (xs.all M.smp))/\w=w':=by
 go_enter Tryz.func233,Tryz.ntmps233
 go_wp2
 go_loop [7] (fun i=>∃k:Nat,i=.int .i64 k/\k<=n/\Hid (xs.all M.smp=(xs.drop k).all M.smp)) (fun i=>n-(intOf i).toNat)
 case atStart=>exact⟨0,rfl,by omega,Lib.hid (by simp)⟩
 case round=>
  obtain⟨k,rfl,hk,H⟩:=hrel;have hl:=Lib.hid hx.len
  by_cases hlt:k<n
  ·obtain⟨ad,x,rfl,hab,X,hc⟩:=hx.at hlt;have hd:=Lib.hid (M.drop_at X.out);cases hs:M.smp x
   ·go_wp2_with (go_at_call 193;refine(zel _ _).mono ?_;rintro e w' ⟨rfl,rfl⟩);go_ret;exact⟨by rw[H.out,hd.out];simp[hs],rfl⟩
   go_wp2_with (go_at_call 193;refine(zel _ _).mono ?_;rintro e w' ⟨rfl,rfl⟩);go_round
   case rel=>exact⟨k+1,by go_num,by omega,Lib.hid (by rw[H.out,hd.out];simp[hs])⟩
   case measure=>simp[intOf];omega
  go_wp2;go_ret;have e0:xs.drop k=[]:=List.drop_eq_nil_of_le (by rw[hl.out];omega);exact⟨by rw[H.out,e0];rfl,rfl⟩
theorem zj4(A:Yo)(n c:Nat)(xs:List Int)(w:Yw)(hx:RI w w.heap.size A n xs)(hn:n<=1000000000000):
 Calls Tryz.prog 192 #[.slice A n c] w fun e w'=>e=.returned (.bool (M.sig xs))/\w=w':=by
 have hl:=Lib.hid hx.len
 by_cases hlen:n<=4000
 ·go_enter Tryz.func192,Tryz.ntmps192
  go_wp2_with (go_at_call 233;refine(zh6 _ _ _ _ _ hx hn).mono ?_;rintro e w' ⟨rfl,rfl⟩);go_ret;exact⟨by simp[M.sig,hl.out,hlen],rfl⟩
 go_enter Tryz.func192,Tryz.ntmps192
 go_wp2_with fail;go_ret;exact⟨by simp[M.sig,hl.out];omega,rfl⟩
theorem zg2(A:Yo)(n c:Nat)(xs:List Int)(w:Yw)(hx:RI w w.heap.size A n xs)(hn:n<=1000000000000):
 Calls Tryz.prog 69 #[.slice A n c] w fun e w'=>e=.returned (.bool (M.sig xs))/\w=w':=by
 have hl:=Lib.hid hx.len
 by_cases hlen:n<=4000
 ·go_enter Tryz.func69,Tryz.ntmps69
  go_wp2
  go_loop [3] (fun i=>∃k:Nat,i=.int .i64 k/\k<=n/\Hid (xs.all M.smp=(xs.drop k).all M.smp)) (fun i=>n-(intOf i).toNat)
  case atStart=>exact⟨0,rfl,by omega,Lib.hid (by simp)⟩
  case round=>
   obtain⟨k,rfl,hk,H⟩:=hrel
   by_cases hlt:k<n
   ·obtain⟨ad,x,rfl,hab,X,hc⟩:=hx.at hlt;have hd:=Lib.hid (M.drop_at X.out);cases hs:M.smp x
    ·go_wp2_with (go_at_call 128;refine(zdt _ _).mono ?_;rintro e w' ⟨rfl,rfl⟩);go_ret;exact⟨by rw[M.sig,H.out,hd.out];simp[hs],rfl⟩
    go_wp2_with (go_at_call 128;refine(zdt _ _).mono ?_;rintro e w' ⟨rfl,rfl⟩);go_round
    case rel=>exact⟨k+1,by go_num,by omega,Lib.hid (by rw[H.out,hd.out];simp[hs])⟩
    case measure=>simp[intOf];omega
   go_wp2;go_ret;have e0:xs.drop k=[]:=List.drop_eq_nil_of_le (by rw[hl.out];omega);exact⟨by rw[M.sig,H.out,e0,hl.out];simp[hlen],rfl⟩
 go_enter Tryz.func69,Tryz.ntmps69
 go_wp2;go_ret;exact⟨by simp[M.sig,hl.out];omega,rfl⟩
theorem zdu(A:Yo)(n c:Nat)(xs:List Int)(w:Yw)(hx:RI w w.heap.size A n xs)(hn:n<=1000000000):
 Calls Tryz.prog 91 #[.slice A n c] w fun e w'=>∃v,e=.returned v/\OI 2 w.heap.size w' v xs/\Below w.heap.size w w':=by
 have hl:=Lib.hid hx.len;have h0:(w.alloc (.cells #[] 2)).ownsRow w.heap.size 2 1 (.slice (some ⟨w.heap.size,0,none⟩) 0 0) 0 []:=World.ownsRow_made _ _ _ (Nat.le_refl _) (by simp[maxLen]) rfl;have hb0:Below w.heap.size w (w.alloc (.cells #[] 2)):=(Below.refl _ _).alloc (Nat.le_refl _) _
 go_enter Tryz.func91,Tryz.ntmps91
 go_wp2_with (at_builtin;refine zfj zce rfl _ _ rfl h0 rfl (Reads.below hx hb0) rfl (ints_oneCell _ _) (by unfold maxLen;omega) (by omega) hb0.size ?_;intro v1 w1 own1 gr1 bel1);go_ret;exact⟨_,rfl,by unfold OI;simpa [hl.out]using own1,hb0.trans bel1⟩
theorem zd4(A:Yo)(n c:Nat)(xs:List Int)(w:Yw)(hx:RI w w.heap.size A n xs)(hn:n<=1000000000):
 Calls Tryz.prog 72 #[.slice A n c] w fun e w'=>∃v,e=.returned v/\OI 2 w.heap.size w' v xs/\Below w.heap.size w w':=by
 have hl:=Lib.hid hx.len;have h0:(w.alloc (.cells #[] 2)).ownsRow w.heap.size 2 1 (.slice (some ⟨w.heap.size,0,none⟩) 0 0) 0 []:=World.ownsRow_made _ _ _ (Nat.le_refl _) (by simp[maxLen]) rfl;have hb0:Below w.heap.size w (w.alloc (.cells #[] 2)):=(Below.refl _ _).alloc (Nat.le_refl _) _
 go_enter Tryz.func72,Tryz.ntmps72
 go_wp2_with (at_builtin;refine zfj zce rfl _ _ rfl h0 rfl (Reads.below hx hb0) rfl (ints_oneCell _ _) (by unfold maxLen;omega) (by omega) hb0.size ?_;intro v1 w1 own1 gr1 bel1);go_ret;exact⟨_,rfl,by unfold OI;simpa [hl.out]using own1,hb0.trans bel1⟩
theorem zos(i:Int)(w:Yw)(h0:0<=i)(hi:i<=1000000000):
 Calls Tryz.prog 116 #[.int .i64 i] w fun e w'=>∃v,e=.returned v/\OI 2 w.heap.size w' v (List.replicate i.toNat 0)/\Below w.heap.size w w':=by
 obtain⟨n,rfl⟩:=Int.eq_ofNat_of_zero_le h0
 go_enter Tryz.func116,Tryz.ntmps116
 go_wp2_with (at_make;refine zdo zce rfl _ _ rfl n _ _ rfl rfl rfl rfl (by omega) (by unfold maxLen;omega) ?_;intro w1 own1 bel1);go_ret;refine⟨_,rfl,?_,bel1⟩;unfold OI;have:=toList_madeCells_one (.int .i64 0) n;simp only[Nat.mul_one,Value.cells]at own1;rw[this]at own1;simpa using own1
theorem zot(A:Yo)(n c:Nat)(xs:List Int)(w:Yw)(hx:RI w w.heap.size A n xs)(hn:n<=1000000000):
 Calls Tryz.prog 31 #[.slice A n c] w fun e w'=>∃v,e=.returned v/\OI 2 w.heap.size w' v xs/\Below w.heap.size w w':=by
 have hl:=Lib.hid hx.len
 go_enter Tryz.func31,Tryz.ntmps31
 go_wp2_with (at_make;refine zdo zce rfl _ _ rfl n _ _ rfl rfl rfl rfl (by omega) (by unfold maxLen;omega) ?_;intro w1 own1 bel1)
 have own2:OI 2 w.heap.size w1 (.slice (some ⟨w.heap.size,0,none⟩) n n) (List.replicate n 0):=by
  unfold OI;have:=toList_madeCells_one (.int .i64 0) n;simp only[Nat.mul_one,Value.cells]at own1;rw[this]at own1;simpa using own1
 clear own1
 go_loopw [4] (fun i wr=>∃k:Nat,i=.int .i64 k/\k<=n/\OI 2 w.heap.size wr (.slice (some ⟨w.heap.size,0,none⟩) n n) (xs.take k++(List.replicate n 0).drop k)/\Below w.heap.size w wr)
  (fun i _=>n-(intOf i).toNat)
 case atStart=>exact⟨0,rfl,by omega,by simpa using own2,bel1⟩
 case round=>
  obtain⟨k,rfl,hk,own,hb⟩:=hrel
  by_cases hlt:k<n
  ·obtain⟨ad,x,rfl,hab,X,hc⟩:=(hx.below hb).at hlt;obtain⟨y,Y,hc2,hf2,hg,hgl⟩:=own.at' hlt;go_wp2;go_roundw
   case rel=>
    refine⟨k+1,by go_num,by omega,?_,hb.setCell (Nat.le_refl _) _⟩;have h3:=own.stored' k x;rw[M.set_mid (by simp[hl.out]) X.out]at h3;exact h3
   case measure=>simp[intOf];omega
  go_wp2;go_ret;have e0:xs.take k++(List.replicate n 0).drop k=xs:=by rw[List.take_of_length_le (by rw[hl.out];omega),List.drop_eq_nil_of_le (by simp;omega),List.append_nil]
  rw[e0]at own;exact⟨_,rfl,own,hb⟩
theorem zou(A A':Yo)(n c n' c':Nat)(xs ys:List Int)(w:Yw)(hx:RI w w.heap.size A n xs)(hy:RI w w.heap.size A' n' ys)(hn:n<=1000000000):
 Calls Tryz.prog 40 #[.slice A n c,.slice A' n' c'] w fun e w'=>e=.returned (.bool (decide (xs=ys)))/\Below w.heap.size w w':=by
 have hl:=Lib.hid hx.len;have hl':=Lib.hid hy.len
 by_cases hnn:n=n'
 ·subst hnn
  go_enter Tryz.func40,Tryz.ntmps40
  go_wp2
  go_loopw [5] (fun i wr=>∃k:Nat,i=.int .i64 k/\k<=n/\Hid (xs.take k=ys.take k)/\Below w.heap.size w wr) (fun i _=>n-(intOf i).toNat)
  case atStart=>exact⟨0,rfl,by omega,Lib.hid (by simp),Below.refl _ _⟩
  case round=>
   obtain⟨k,rfl,hk,H,hb⟩:=hrel
   by_cases hlt:k<n
   ·obtain⟨ad,x,rfl,hab,X,hc⟩:=(hx.below hb).at hlt;obtain⟨ad',y,rfl,hab',Y,hc'⟩:=(hy.below hb).at hlt
    by_cases hxy:x=y
    ·subst hxy;go_wp2
     go_quiet (fail)
     go_wp2;go_roundw
     case rel=>exact⟨k+1,by go_num,by omega,Lib.hid (by rw[M.take_at X.out,M.take_at Y.out,H.out]),hb.trans (zae (Below.refl _ _) _)⟩
     case measure=>simp[intOf];omega
    have hne:=Lib.hid (show ¬xs=ys from fun e=>hxy (by have h1:=X.out;have h2:=Y.out;rw[e,h2]at h1;injection h1 with h1;exact h1.symm));have hxy':(x == y)=false:=(by simpa using hxy);clear hxy;go_wp2
    go_quiet (fail)
    go_wp2;go_ret;exact⟨zac (by simp[hne.out]),hb.trans (zae (Below.refl _ _) _)⟩
   go_wp2;go_ret;have h1:xs=ys:=(by have:=H.out;rwa [List.take_of_length_le (by rw[hl.out];omega),List.take_of_length_le (by rw[hl'.out];omega)]at this);exact⟨zac (by simp[h1]),hb⟩
 have hne:=Lib.hid (show ¬xs=ys from fun e=>hnn (by rw[<-hl.out,<-hl'.out,e]))
 go_enter Tryz.func40,Tryz.ntmps40
 go_wp2;go_ret;exact⟨zac (by simp[hne.out]),Below.refl _ _⟩
theorem zov(v:Value)(B n:Nat)(k:Int)(xs:List Int)(w:Yw)(hx:OI 2 B w v xs)(hn:xs.length=n)(hl:n<=1000000000)(hk:0<=k/\k<=1000000000):
 Calls Tryz.prog 45 #[v,.int .i64 k] w fun e w'=>e=.returned (.int .i64 (k+n))/\OI 2 B w' v (M.ramp k n)/\w.grownBy w' v.ownBlock:=by
 have hl':=Lib.hid hn;obtain⟨A,c,rfl,hrr⟩:=hx.shape;rw[hn]at hx ⊢;clear hrr hn
 go_enter Tryz.func45,Tryz.ntmps45
 go_wp2
 go_loopw [1,5] (fun q i wr=>∃j:Nat,i=.int .i64 j/\j<=n/\q=.int .i64 (k+j)/\OI 2 B wr (.slice A n c) ((M.ramp k n).take j++xs.drop j)/\w.grownBy wr (Value.slice A n c).ownBlock)
  (fun _ i _=>n-(intOf i).toNat)
 case atStart=>exact⟨0,rfl,by omega,by go_num,by simpa using hx,World.grownBy.refl _ _⟩
 case round=>
  obtain⟨j,rfl,hj,rfl,own,hg⟩:=hrel
  by_cases hlt:j<n
  ·obtain⟨g,rfl,hB,hgl⟩:=own.form' (by omega);obtain⟨y,Y,hc2,hf2,_,_⟩:=own.at' hlt;go_wp2;go_roundw
   case rel=>
    refine⟨j+1,by go_num,by omega,by go_num,?_,zj3 hg (zaz _ _ _ _)⟩;have h3:=own.stored' j (k+(j:Int));rw[M.set_mid (by rw[M.ramp_len,hl'.out]) (M.ramp_at hlt)]at h3;simpa using h3
   case measure=>simp[intOf];omega
  obtain rfl:j=n:=by omega
  go_wp2;go_ret;refine⟨rfl,?_,hg⟩;rw[List.take_of_length_le (by rw[M.ramp_len];omega),List.drop_eq_nil_of_le (by rw[hl'.out];omega),List.append_nil]at own;exact own
theorem zow(A:Yo)(n c:Nat)(k:Int)(w:Yw)(hx:RI w w.heap.size A n (M.ramp k n))(hn:n<=1000000000)(hk:0<=k/\k<=1000000000):
 Calls Tryz.prog 50 #[.slice A n c,.int .i64 k] w fun e w'=>e=.returned (.int .i64 (k+n))/\w=w':=by
 go_enter Tryz.func50,Tryz.ntmps50
 go_wp2
 go_loop [1,5] (fun q i=>∃j:Nat,i=.int .i64 j/\j<=n/\q=.int .i64 (k+j)) (fun _ i=>n-(intOf i).toNat)
 case atStart=>exact⟨0,rfl,by omega,by go_num⟩
 case round=>
  obtain⟨j,rfl,hj,rfl⟩:=hrel
  by_cases hlt:j<n
  ·obtain⟨ad,x,rfl,hab,X,hc⟩:=hx.at hlt;have hxj:x=k+(j:Int):=(by have:=X.out;rw[M.ramp_at hlt]at this;injection this with this;exact this.symm);subst hxj;go_wp2;go_round
   case rel=>exact⟨j+1,by go_num,by omega,by go_num⟩
   case measure=>simp[intOf];omega
  obtain rfl:j=n:=by omega
  go_wp2;go_ret;exact⟨rfl,rfl⟩
end Go.Proofs.YtifeldeikhmckaaGreat
