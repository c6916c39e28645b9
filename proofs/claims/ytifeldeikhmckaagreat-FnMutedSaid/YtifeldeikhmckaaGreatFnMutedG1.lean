import Derived.WalkKit
import Derived.WalkSpells
import Derived.WalkLawsBesides
import Derived.Deep.AppendLies
import Derived.Deep.Draws
import Derived.Deep.QuietTactic
import Derived.BigQuiet
import Derived.StillTailTactics
import Derived.Deep.RegionHeld3
import Derived.RegionTactic
import Derived.Lib.Hide
import Derived.RowKit
import Derived.Test.YtifeldeikhmckaaGreatProg
import Derived.Maps.AppendAt
import Derived.Lib.QuietBelow
set_option linter.unusedVariables false
set_option linter.unusedSimpArgs false
set_option maxRecDepth 100000
set_option maxHeartbeats 4000000
namespace Go.Proofs.YtifeldeikhmckaaGreat
open Go.RowKit Go.Sort
abbrev Yw := World
abbrev Yo := Option Addr
abbrev Aq := @Lib.hid
abbrev Aj := @Nat.le_refl
abbrev Aw := @Below.refl
abbrev Ak := @List.getElem?_eq_getElem
abbrev Bk := @List.getElem?_eq_some_iff
abbrev Bg := @List.getElem?_cons_zero
abbrev By := @List.getElem?_cons_succ
abbrev Cq := @Nat.lt_of_lt_of_le
abbrev Cz := @Value.slice.injEq
abbrev Cw := @List.length_append
abbrev Dq := @Option.some.injEq
abbrev Dk := @List.length_cons
abbrev Df := @heap_alloc_new
abbrev Ej := @List.drop_eq_nil_of_le
abbrev Ef := @List.all_eq_true
abbrev Eg := @List.mem_of_getElem?
abbrev Fq := @Int.toNat_natCast
abbrev Fx := @List.length_set
abbrev Fz := @List.length_replicate
abbrev Fg := @heap_setCell_other
abbrev Gq := @World.ownsRow.lt
abbrev Gj := @List.mem_range
abbrev Gx := @List.mem_append
abbrev Gz := @List.getElem?_append_right
section
theorem zgk(a:Addr)(n:Nat):(a.add n).block=a.block:=by unfold Addr.add;split <;> rfl
theorem zqg(a:Addr)(i j:Nat):(a.add i).add j=a.add (i+j):=by
 unfold Addr.add
 by_cases hi:i=0 <;> by_cases hj:j=0 <;> simp[hi,hj,Nat.add_assoc]
def Reads (w:Yw) (B size:Nat) (A:Yo) (n:Nat) (cs:List Value):Prop:=
 cs.length=n*size/\(0<n->∃ad,A=some ad/\ad.block<B/\∀j u,cs[j]?=some u->w.cell? (ad.add j)=some u)
section
variable {w w':Yw} {B B' size n:Nat} {A :Yo} {cs:List Value}
theorem Reads.none_:Reads w B size A 0 []:=⟨by simp,fun h=>absurd h (by omega)⟩
theorem Reads.keep(h:Reads w B size A n cs)(hk:∀p:Addr,p.block<B->w'.cell? p=w.cell? p):Reads w' B size A n cs:=
 ⟨h.1,fun hn=>by
  obtain⟨ad,e,hb,hc⟩:=h.2 hn;exact⟨ad,e,hb,fun j u hu=>(hk _ (by rw[zgk];exact hb)).trans (hc j u hu)⟩⟩
theorem Reads.more(h:Reads w B size A n cs)(hB:B<=B'):Reads w B' size A n cs:=
 ⟨h.1,fun hn=>by
  obtain⟨ad,e,hb,hc⟩:=h.2 hn;exact⟨ad,e,Cq hb hB,hc⟩⟩
theorem Reads.below(h:Reads w B size A n cs)(hb:Below B w w'):Reads w' B size A n cs:=h.keep fun _ hp=>hb.cell hp
theorem Reads.later(h:Reads w w.heap.size size A n cs)(hb:Below w.heap.size w w'):Reads w' w'.heap.size size A n cs:=(h.below hb).more hb.size
theorem Reads.cut(h:Reads w B size A n cs){k cap:Nat}(hk:k<=n)(hc:n<=cap):
 Reads w B size (if cap=k then A else A.map (·.add (k*size))) (n-k) (cs.drop (k*size)):=by
 refine⟨by rw[List.length_drop,h.1,Nat.sub_mul],fun hn=>?_⟩;obtain⟨ad,rfl,hb,hcell⟩:=h.2 (by omega);rw[if_neg (by omega)];refine⟨ad.add (k*size),rfl,by rw[zgk];exact hb,fun j u hu=>?_⟩;rw[zqg];exact hcell _ u (by rw[<-hu,List.getElem?_drop])
theorem Reads.of_own{base:Nat}{e:TypeId}{c:Nat}(h:w.ownsRow base e size (.slice A n c) n cs):Reads w w.heap.size size A n cs:=by
 refine⟨h.1,fun hn=>?_⟩;obtain⟨g,cap,hv,_,hlt⟩:=h.form hn;have hA:A=some ⟨g,0,none⟩:=by injection hv
 subst hA;exact⟨_,rfl,hlt,h.cells (g:=g) rfl⟩
theorem zb0{base:Nat}{e:TypeId}{v:Value}(h:w.ownsRow base e size v n cs):∃A c,v=.slice A n c/\n<=c/\c<=maxLen/\Reads w w.heap.size size A n cs:=by
 rcases h.2 with⟨rfl,rfl⟩|⟨g,cap,cur,rfl,h1,h2,h3,h4,h5,h6⟩
 ·exact⟨none,0,rfl,Aj _,by simp[maxLen],Reads.of_own h⟩
 exact⟨_,cap,rfl,h3,h4,Reads.of_own h⟩
theorem zlm{base:Nat}{e:TypeId}{v:Value}(h:w.ownsRow base e size v n cs)(hb:Below w.heap.size w w'):w'.ownsRow base e size v n cs:=by
 refine⟨h.1,?_⟩;rcases h.2 with h2|⟨g,cap,cur,hv,hg,hh,r⟩
 ·exact .inl h2
 exact .inr ⟨g,cap,cur,hv,hg,by rw[hb.block g (Array.getElem?_eq_some_iff.1 hh).1];exact hh,r⟩
theorem zhl{base base':Nat}{e:TypeId}{v:Value}(h:w.ownsRow base e size v n cs)(hb:base'<=base):w.ownsRow base' e size v n cs:=
 ⟨h.1,h.2.imp id fun⟨g,cap,cur,hv,hg,r⟩=>⟨g,cap,cur,hv,Nat.le_trans hb hg,r⟩⟩
theorem zad{B:Nat}{a w:Yw}(h:Below B a w)(n:Nat):Below B a (w.drewN n):=⟨h.os,h.tape,h.output,h.size,h.block⟩
theorem zaa{a b c:Yw}(h1:Below a.heap.size a b)(h2:Below b.heap.size b c):Below a.heap.size a c:=h1.trans (h2.mono h1.size)
theorem zj3{B:Nat}{a b c:Yw}(h1:Below B a b)(hB:B<=b.heap.size)(h2:Below b.heap.size b c):Below B a c:=h1.trans (h2.mono hB)
end
def RI (w:Yw) (B:Nat) (A:Yo) (n:Nat) (xs:List Int):Prop:=Reads w B 1 A n (xs.map (.int .i64))
section
variable {w w':Yw} {B B' n:Nat} {A :Yo} {xs:List Int}
theorem RI.len(h:RI w B A n xs):xs.length=n:=by have:=h.1;simpa using this
theorem RI.below(h:RI w B A n xs)(hb:Below B w w'):RI w' B A n xs:=Reads.below h hb
theorem RI.later(h:RI w w.heap.size A n xs)(hb:Below w.heap.size w w'):RI w' w'.heap.size A n xs:=Reads.later h hb
theorem RI.more(h:RI w B A n xs)(hB:B<=B'):RI w B' A n xs:=Reads.more h hB
theorem RI.at(h:RI w B A n xs){k:Nat}(hk:k<n):∃ad x,A=some ad/\ad.block<B/\Hid (xs[k]?=some x)/\w.cell? (ad.add k)=some (.int .i64 x):=by
 obtain⟨ad,e,hb,hc⟩:=h.2 (by omega);have hl:k<xs.length:=by rw[h.len];exact hk
 exact⟨ad,xs[k],e,hb,Ak hl,hc k _ (by simp[hl])⟩
theorem RI.cell{ad:Addr}(h:RI w B (some ad) n xs){k:Nat}(hk:k<n):∃x,Hid (xs[k]?=some x)/\w.cell? (ad.add k)=some (.int .i64 x):=by
 obtain⟨ad',x,e,_,h1,h2⟩:=h.at hk;injection e with e
 subst e;exact⟨x,h1,h2⟩
theorem RI.nil(w:Yw)(B:Nat)(A:Yo):RI w B A 0 []:=Reads.none_
end
def EI (P:Program) (t e:TypeId) (z:Value) (size bytes:Nat):Prop:=
 P.underlying t=some (.slice e)/\(P.info? e).map (fun i=>(i.zero,i.size,i.bytes))=some (some z,size,bytes)/\z.cells.size=size/\0<size
section
variable {P:Program} {t e:TypeId} {z:Value} {size bytes:Nat}
theorem zgl(hE:EI P t e z size bytes){w:Yw}{ops:Array Oper}{rest:List Oper}{o:Oper}{a:Act}{Q:Exit->Act->Yw->Prop}(us:Array Value)
 (hgd:o.guard=none) (s x:Operand)
 (ho:o.op=.call { callee:=.builtin .append,args:=#[s,x],argTypes:=#[t,t] })
 {B:Nat} {v:Value} {n:Nat} {xs:List Value} (hown:w.ownsRow B e size v n xs) (hs:a.eval s=v)
 (hx:a.eval x=.slice (some ⟨w.heap.size,0,none⟩) 1 1) (hus:us.size=size) (h1:∀u∈us.toList,u.oneCell'=true)
 (hn:n+1<=maxLen) (hbytes:(n+1)*bytes<=140737488355328) (hbase:B<=w.heap.size)
 (K:∀v' w',w'.ownsRow B e size v' (n+1) (xs++us.toList)->w.grownBy w' v.ownBlock->Below B w w'->wpList P ops Q rest (a.put o.dst v') w') :
 wpList P ops Q (o::rest) a (w.alloc (.cells us e)):=by
 obtain⟨ht,hinfo,hzs,hsz⟩:=hE;obtain⟨i0,hi,hz0,hz1,hz2⟩:=info_parts hinfo;refine wpList_append_own _ hgd s x t ho B e i0 z size bytes ht hi hz0 hz1 hz2 hzs hsz v n xs hs (hown.alloc _) ⟨w.heap.size,0,none⟩ 1 1 us.toList hx (by simp[hus]) ?_ h1 hn hbytes (by simp;omega) ?_
 ·intro j u hj;have hadd:(⟨w.heap.size,0,none⟩:Addr).add j=⟨w.heap.size,j,none⟩:=by unfold Addr.add;split <;> simp_all
  rw[hadd,cell_of_row _ w.heap.size j us e (0,0) (Df w _)];simpa using hj
 intro v' w' h2 h3 _
 have h4:w.grownBy w' v.ownBlock:=by
  have:=World.grownBy_alloc w (.cells us e) none
  exact⟨h3.os.trans this.os,h3.tape.trans this.tape,h3.output.trans this.output,Nat.le_trans this.size h3.size,fun k hk hne=>by
   rw[h3.block k (by simp;omega) hne];exact this.block k hk (by simp)⟩
 exact K v' w' h2 h4 ((Aw _ _).grown h4 hbase fun k hk=>(hown.lt k hk).1)
theorem zf5(hE:EI P t e z 1 bytes){w:Yw}{ops:Array Oper}{rest:List Oper}{o:Oper}{a:Act}{Q:Exit->Act->Yw->Prop}{u:Value}
 (hgd:o.guard=none) (s x:Operand)
 (ho:o.op=.call { callee:=.builtin .append,args:=#[s,x],argTypes:=#[t,t] })
 {B:Nat} {v:Value} {n:Nat} {xs:List Value} (hown:w.ownsRow B e 1 v n xs) (hs:a.eval s=v)
 (hx:a.eval x=.slice (some ⟨w.heap.size,0,none⟩) 1 1) (h1:u.oneCell'=true)
 (hn:n+1<=maxLen) (hbytes:(n+1)*bytes<=140737488355328) (hbase:B<=w.heap.size)
 (K:∀v' w',w'.ownsRow B e 1 v' (n+1) (xs++[u])->w.grownBy w' v.ownBlock->Below B w w'->wpList P ops Q rest (a.put o.dst v') w') :
 wpList P ops Q (o::rest) a (w.alloc (.cells #[u] e)):=
 zgl hE #[u] hgd s x ho hown hs hx rfl (by simpa using h1) hn hbytes hbase K
end
section
variable {P:Program} {t e:TypeId} {z:Value} {size bytes:Nat} (w:Yw)
theorem zqh(base:Nat)(t ty e:TypeId)(i:TypeInfo)(size:Nat)(ht:P.underlying t=some (.slice e))(hi:P.info? e=some i)
 (v:Value) (n:Nat) (xs:List Value) (hown:w.ownsRow base e size v n xs) (c:Nat):(Builtin.append_ #[t,t] ty #[v,.slice none 0 c]).run P w=.ok v w:=by
 rcases hown.2 with⟨rfl,rfl⟩|⟨g,cap,cur,rfl,_,_,hnc,_⟩
 ·simp[Builtin.append_,run_underlying ht,sizeOf,typeInfo,hi,Builtin.lenOf,Builtin.firstCells]
 simp[Builtin.append_,run_underlying ht,sizeOf,typeInfo,hi,Builtin.lenOf,Builtin.firstCells,hnc,storeCells]
theorem zcz(hE:EI P t e z size bytes){w:Yw}{ops:Array Oper}{rest:List Oper}{o:Oper}{a:Act}{Q:Exit->Act->Yw->Prop}
 (hgd:o.guard=none) (s x:Operand) (ho:o.op=.call { callee:=.builtin .append,args:=#[s,x],argTypes:=#[t,t] })
 {B:Nat} {v:Value} {n:Nat} {xs:List Value} (hown:w.ownsRow B e size v n xs) (hs:a.eval s=v)
 {B':Nat} {A:Yo} {m c:Nat} {news:List Value} (hr:Reads w B' size A m news) (hx:a.eval x=.slice A m c) (h1:∀u∈news,u.oneCell'=true)
 (hn:n+m<=maxLen) (hbytes:(n+m)*bytes<=140737488355328) (hbase:B<=w.heap.size)
 (K:∀v' w',w'.ownsRow B e size v' (n+m) (xs++news)->w.grownBy w' v.ownBlock->Below B w w'->wpList P ops Q rest (a.put o.dst v') w') :
 wpList P ops Q (o::rest) a w:=by
 obtain⟨ht,hinfo,hzs,hsz⟩:=hE;obtain⟨i0,hi,hz0,hz1,hz2⟩:=info_parts hinfo;rcases A with _|ad
 ·have hm:m=0:=by
   rcases Nat.eq_zero_or_pos m with h0|h0
   ·exact h0
   obtain⟨ad,h,_⟩:=hr.2 h0;cases h
  subst hm;have hnil:news=[]:=List.eq_nil_of_length_eq_zero (by simpa using hr.1);subst hnil;refine wpList_plain hgd fun K' hK'=>?_
  have hrun:=zqh (P:=P) w B t o.type e i0 size ht hi v n xs hown c;unfold Oper.wp execOp;simp only[ho,resolve,invoke,builtin,Sem.run_bind,Sem.run_pure,Result.andThen_ok,List.map_toArray,List.map_cons,List.map_nil,hs,hx,hrun];exact hK' _ _ (K v w (by simpa using hown) (World.grownBy.refl w _) (Aw _ _))
 have hcells:∀j u,news[j]?=some u->w.cell? (ad.add j)=some u:=by
  intro j u hu;rcases Nat.eq_zero_or_pos m with h0|h0
  ·subst h0;have hnil:news=[]:=List.eq_nil_of_length_eq_zero (by simpa using hr.1);subst hnil;simp at hu
  obtain⟨ad',h,_,hc⟩:=hr.2 h0;injection h with h
  subst h;exact hc j u hu
 refine wpList_append_own _ hgd s x t ho B e i0 z size bytes ht hi hz0 hz1 hz2 hzs hsz v n xs hs hown ad m c news hx hr.1 hcells h1 hn hbytes hbase ?_;intro v' w' h2 h3 _;exact K v' w' h2 h3 ((Aw _ _).grown h3 hbase fun k hk=>(hown.lt k hk).1)
theorem zhm(hE:EI P t e z size bytes){w:Yw}{ops:Array Oper}{rest:List Oper}{o:Oper}{a:Act}{Q:Exit->Act->Yw->Prop}
 (hgd:o.guard=none) (l c:Operand) (ho:o.op=Op.makeSlice t l c) (n:Nat) (L C:Int) (hl:a.eval l=.int .i64 L) (hc:a.eval c=.int .i64 C) (hL:L=(n:Int)) (hC:C=(n:Int))
 (hbytes:bytes*n<=281474976710656) (hn:n<=maxLen)
 (K:∀w',w'.ownsRow w.heap.size e size (.slice (some ⟨w.heap.size,0,none⟩) n n) n (madeCells z.cells (n*size)).toList->Below w.heap.size w w'->wpList P ops Q rest (a.put o.dst (.slice (some ⟨w.heap.size,0,none⟩) n n)) w') :
 wpList P ops Q (o::rest) a w:=by
 obtain⟨ht,hinfo,hzs,hsz⟩:=hE;obtain⟨i0,hi,hz0,hz1,hz2⟩:=info_parts hinfo
 exact wpList_make_full w hgd l c t ho w.heap.size e i0 z size ht hi hz0 hz1 .i64 .i64 L C n hl hc hL hC (by rw[hz2];exact hbytes) hn (Aj _)
  fun w' h1 h2=>K w' h1 ((Aw _ _).grown h2 (Aj _) (by simp))
end
section
variable {P:Program} {t e:TypeId} {z:Value} {size bytes:Nat}
theorem zqi(hE:EI P t e z size bytes){W:Yw}{ops:Array Oper}{o:Oper}{a:Act}{K:Act->Yw->Prop}{Q:Exit->Act->Yw->Prop}{E:Prop}(us:List Value)
 (hgd:o.guard=none) (s x:Operand) (ho:o.op=.call { callee:=.builtin .append,args:=#[s,x],argTypes:=#[t,t] })
 {B:Nat} {v:Value} {n g:Nat} {xs:List Value} (hown:W.ownsRow B e size v n xs) (hs:a.eval s=v)
 (hx:a.eval x=.slice (some ⟨g,0,none⟩) 1 1) (hg:∀j u,us[j]?=some u->W.cell? ⟨g,j,none⟩=some u) (hus:us.length=size) (h1:∀u∈us,u.oneCell'=true)
 (hn:n+1<=maxLen) (hbytes:(n+1)*bytes<=140737488355328) (hbase:B<=W.heap.size)
 (H:∀v' w',w'.ownsRow B e size v' (n+1) (xs++us)->W.grownBy w' v.ownBlock->Below B W w'->K (a.put o.dst v') w') :
 if Region.wanted o (yielded ops a.tmps)=true then Oper.wp P o a W K Q else E:=by
 have hw:Region.wanted o (yielded ops a.tmps)=true:=by simp[Region.wanted,hgd]
 rw[if_pos hw];obtain⟨ht,hinfo,hzs,hsz⟩:=hE;obtain⟨i0,hi,hz0,hz1,hz2⟩:=info_parts hinfo;refine wp_append_own (P:=P) W s x t ho B e i0 z size bytes ht hi hz0 hz1 hz2 hzs hsz v n xs hs hown ⟨g,0,none⟩ 1 1 us hx (by simp[hus]) ?_ h1 hn hbytes hbase ?_
 ·intro j u hj;have hadd:(⟨g,0,none⟩:Addr).add j=⟨g,j,none⟩:=by unfold Addr.add;split <;> simp_all
  rw[hadd];exact hg j u hj
 intro v' w' h2 h3 _;exact H v' w' h2 h3 ((Aw _ _).grown h3 hbase fun k hk=>(hown.lt k hk).1)
theorem zqj(hE:EI P t e z 1 bytes){W:Yw}{ops:Array Oper}{o:Oper}{a:Act}{K:Act->Yw->Prop}{Q:Exit->Act->Yw->Prop}{E:Prop}{u:Value}
 (hgd:o.guard=none) (s x:Operand) (ho:o.op=.call { callee:=.builtin .append,args:=#[s,x],argTypes:=#[t,t] })
 {B:Nat} {v:Value} {n g:Nat} {xs:List Value} (hown:W.ownsRow B e 1 v n xs) (hs:a.eval s=v)
 (hx:a.eval x=.slice (some ⟨g,0,none⟩) 1 1) (hg:W.cell? ⟨g,0,none⟩=some u) (h1:u.oneCell'=true)
 (hn:n+1<=maxLen) (hbytes:(n+1)*bytes<=140737488355328) (hbase:B<=W.heap.size)
 (H:∀v' w',w'.ownsRow B e 1 v' (n+1) (xs++[u])->W.grownBy w' v.ownBlock->Below B W w'->K (a.put o.dst v') w') :
 if Region.wanted o (yielded ops a.tmps)=true then Oper.wp P o a W K Q else E:=
 zqi hE [u] hgd s x ho hown hs hx (fun j w hj=>by
  match j,hj with
  | 0,hj=>simp at hj;subst hj;exact hg) rfl (by simpa using h1) hn hbytes hbase H
end
theorem zqk{B:Nat}{w:Yw}{o:Obj}(h:B<=w.heap.size):B<=(w.alloc o).drew.heap.size:=by
 show B<=(w.heap.push o).size
 rw[Array.size_push];omega
theorem zln(w:Yw)(u:Value)(e:TypeId):(w.alloc (.cells #[u] e)).drew.cell? ⟨w.heap.size,0,none⟩=some u:=by
 rw[show (w.alloc (.cells #[u] e)).drew.cell? ⟨w.heap.size,0,none⟩=(w.alloc (.cells #[u] e)).cell? ⟨w.heap.size,0,none⟩from rfl,cell_of_row _ w.heap.size 0 #[u] e (0,0) (Df w _)]
 rfl
def OI (e:TypeId) (B:Nat) (w:Yw) (v:Value) (xs:List Int):Prop:=w.ownsRow B e 1 v xs.length (xs.map (.int .i64))
theorem OI.push{e:TypeId}{B:Nat}{w:Yw}{v:Value}{xs:List Int}{x:Int}(h:w.ownsRow B e 1 v (xs.length+1) (xs.map (.int .i64)++[.int .i64 x])):OI e B w v (xs++[x]):=by
 unfold OI;simpa using h
section
variable {e:TypeId} {B:Nat} {w w':Yw} {v:Value} {xs:List Int}
theorem OI.below(h:OI e B w v xs)(hb:Below w.heap.size w w'):OI e B w' v xs:=zlm h hb
theorem OI.base{B':Nat}(h:OI e B w v xs)(hb:B'<=B):OI e B' w v xs:=zhl h hb
theorem OI.shape(h:OI e B w v xs):∃A c,v=.slice A xs.length c/\RI w w.heap.size A xs.length xs:=by
 obtain⟨A,c,hv,_,_,hr⟩:=zb0 h;exact⟨A,c,hv,hr⟩
theorem OI.at(h:OI e B w v xs){k:Nat}(hk:k<xs.length):∃g cap x,v=.slice (some ⟨g,0,none⟩) xs.length cap/\B<=g/\g<w.heap.size/\Hid (xs[k]?=some x)/\
 w.cell? ⟨g,k,none⟩=some (.int .i64 x)/\w.frozen? ⟨g,k,none⟩=false:=by
 obtain⟨g,cap,hv,hg,hlt⟩:=World.ownsRow.form h (by omega);subst hv;refine⟨g,cap,xs[k],rfl,hg,hlt,Ak hk,?_,World.ownsRow.frozenAt h k⟩;rw[World.ownsRow.cellAt h k (by omega)];simp[hk]
theorem OI.stored{g cap:Nat}(h:OI e B w (.slice (some ⟨g,0,none⟩) xs.length cap) xs)(k:Nat)(y:Int):OI e B (w.setCell ⟨g,k,none⟩ (.int .i64 y)) (.slice (some ⟨g,0,none⟩) xs.length cap) (xs.set k y):=by
 unfold OI at h ⊢;have:=(World.ownsRow.stored h k (.int .i64 y)).1;simpa [List.map_set]using this
theorem OI.n_eq{g n cap:Nat}(h:OI e B w (.slice (some ⟨g,0,none⟩) n cap) xs):n=xs.length:=by
 rcases h.2 with⟨h0,_⟩|⟨g',cap',cur,h0,_⟩
 ·simp at h0
 simp only[Cz]at h0;exact h0.2.1
theorem OI.at'{g n cap:Nat}(h:OI e B w (.slice (some ⟨g,0,none⟩) n cap) xs){k:Nat}(hk:k<n):∃x,Hid (xs[k]?=some x)/\w.cell? ⟨g,k,none⟩=some (.int .i64 x)/\w.frozen? ⟨g,k,none⟩=false/\B<=g/\g<w.heap.size:=by
 have hn:=h.n_eq;subst hn;obtain⟨g',cap',x,hv,hB,hlt,hx,hc,hf⟩:=h.at hk;simp only[Cz,Dq,Addr.mk.injEq]at hv;obtain⟨⟨rfl,_⟩,_⟩:=hv;exact⟨x,hx,hc,hf,hB,hlt⟩
theorem OI.stored'{g n cap:Nat}(h:OI e B w (.slice (some ⟨g,0,none⟩) n cap) xs)(k:Nat)(y:Int):OI e B (w.setCell ⟨g,k,none⟩ (.int .i64 y)) (.slice (some ⟨g,0,none⟩) n cap) (xs.set k y):=by
 have hn:=h.n_eq;subst hn;exact h.stored k y
theorem OI.form(h:OI e B w v xs)(hn:0<xs.length):∃g cap,v=.slice (some ⟨g,0,none⟩) xs.length cap/\B<=g/\g<w.heap.size:=World.ownsRow.form h hn
theorem OI.form'{A:Yo}{n c:Nat}(h:OI e B w (.slice A n c) xs)(hn:0<n):∃g,A=some ⟨g,0,none⟩/\B<=g/\g<w.heap.size:=by
 have hn':0<xs.length:=by
  rcases h.2 with⟨h0,_⟩|⟨g',cap',cur,h0,_⟩
  ·simp only[Cz]at h0;omega
  simp only[Cz]at h0;omega
 obtain⟨g,cap,hv,hB,hg⟩:=h.form hn';simp only[Cz]at hv;exact⟨g,hv.1,hB,hg⟩
theorem zc0(w:Yw)(g k:Nat)(u:Value):w.grownBy (w.setCell ⟨g,k,none⟩ u) (some g):=
 ⟨rfl,rfl,rfl,by simp,fun j _ hj=>Fg w ⟨g,k,none⟩ j u (fun e=>hj (by simp[e]))⟩
theorem zql{row:Option Nat}{a b c:Yw}(h:a.grownBy b row)(h':b.grownBy c row):a.grownBy c row:=
 ⟨h'.os.trans h.os,h'.tape.trans h.tape,h'.output.trans h.output,Nat.le_trans h.size h'.size,fun k hk hne=>(h'.block k (Cq hk h.size) hne).trans (h.block k hk hne)⟩
theorem OI.kept{row:Option Nat}(h:OI e B w v xs)(hg:w.grownBy w' row)(hne:v.ownBlock=none\/v.ownBlock≠row):OI e B w' v xs:=World.ownsRow.kept h hg hne
theorem zbo{P:Program}{f:FuncId}{args:Array Value}{w:Yw}{n:Nat}{v:Value}
 (h:Calls P f args (w.drewN n) fun e w'=>e=.returned v/\w.drewN n=w'):Calls P f args (w.drewN n) fun e w''=>e=.returned v/\∃m,w''=w.drewN m:=
 h.mono fun _ _ ⟨he,hm⟩=>⟨he,n,hm.symm⟩
theorem zlo{P:Program}{f:FuncId}{args:Array Value}{w:Yw}{v:Value}(h:Calls P f args w fun e w'=>e=.returned v/\w=w'):
 Calls P f args w fun e w'=>e=.returned v/\w'=w:=h.mono fun _ _ h=>⟨h.1,h.2.symm⟩
def Ret2 (e:TypeId) (w:Yw) (r:List Int×Int) (en:Ending) (w':Yw):Prop:=∃v,en=.returned (.tuple #[v,.int .i64 r.2])/\OI e w.heap.size w' v r.1/\Below w.heap.size w w'
def Ret1 (e:TypeId) (w:Yw) (r:List Int) (en:Ending) (w':Yw):Prop:=∃v,en=.returned v/\OI e w.heap.size w' v r/\Below w.heap.size w w'
theorem OI.nil(e:TypeId)(B:Nat)(w:Yw):OI e B w (.slice none 0 0) []:=World.ownsRow_nil _ _ _ _
theorem OI.made(e:TypeId)(w:Yw):OI e w.heap.size (w.alloc (.cells #[] e)) (.slice (some ⟨w.heap.size,0,none⟩) 0 0) []:=World.ownsRow_made _ _ _ (Aj _) (by simp[maxLen]) rfl
theorem OI.ri{A:Yo}{c:Nat}(h:OI e B w (.slice A xs.length c) xs):RI w w.heap.size A xs.length xs:=Reads.of_own h
end
end
section
namespace M
def inn (n lo hi:Int):Bool:=decide (lo<=n)&&decide (n<=hi)
def smp (n:Int):Bool:=inn n (-2147483648) 2147483647
def sig (xs:List Int):Bool:=decide (xs.length<=4000)&&xs.all smp
def at_ (xs:List Int) (i:Int):Int:=if 0<=i/\i<xs.length then xs[i.toNat]?.getD 0 else 0
theorem at_nat{xs:List Int}{k:Nat}{x:Int}(h:xs[k]?=some x):at_ xs k=x:=by
 obtain⟨hk,_⟩:=Bk.1 h;rw[at_,if_pos ⟨by omega,by omega⟩,Fq,h]
 rfl
theorem wrap32_64(a:Int):wrap32 (wrap64 a)=wrap32 a:=by unfold wrap32 wrap64;omega
theorem wrap64_32(a:Int):wrap64 (wrap32 a)=wrap32 a:=by unfold wrap32 wrap64;omega
theorem wrap32_addl(a b:Int):wrap32 (wrap32 a+b)=wrap32 (a+b):=by unfold wrap32;omega
theorem wrap32_addr(a b:Int):wrap32 (a+wrap32 b)=wrap32 (a+b):=by unfold wrap32;omega
theorem wrap32_of(a:Int)(h:smp a=true):wrap32 a=a:=by simp[smp,inn]at h;unfold wrap32;omega
theorem smp_wrap(a:Int):smp (wrap32 a)=true:=by simp[smp,inn];unfold wrap32;omega
theorem wrap64_mul_bd(a b:Int)(ha:-2147483648<=a/\a<=2147483647)(hb:-2147483648<=b/\b<=2147483647):-4611686018427387904<=a*b/\a*b<=4611686018427387904:=by
 have h1:a.natAbs<=2147483648:=by omega
 have h2:b.natAbs<=2147483648:=by omega
 have h3:(a*b).natAbs<=2147483648*2147483648:=by rw[Int.natAbs_mul];exact Nat.mul_le_mul h1 h2
 omega
theorem wrap64_in(a:Int)(h:-9223372036854775808<=a/\a<=9223372036854775807):wrap64 a=a:=by unfold wrap64;omega
theorem and_low(n:Int):bits .and .i64 n 4294967295=n % 4294967296:=by
 have h0:0<=n % 18446744073709551616:=Int.emod_nonneg _ (by decide)
 have hx:((BitVec.ofInt 64 n &&& BitVec.ofInt 64 4294967295).toNat:Int)=n % 4294967296:=by
  rw[BitVec.toNat_and,show (BitVec.ofInt 64 4294967295).toNat=2 ^ 32-1 from by decide,Nat.and_two_pow_sub_one_eq_mod,BitVec.toNat_ofInt];omega
 show IntKind.i64.wrap ((BitVec.ofInt 64 n &&& BitVec.ofInt 64 4294967295).toNat:Int)=_
 rw[hx,IntKind.wrap_i64];omega
theorem drop_at{α:Type}{xs:List α}{k:Nat}{x:α}(h:xs[k]?=some x):xs.drop k=x::xs.drop (k+1):=by
 obtain⟨hk,rfl⟩:=Bk.1 h;exact List.drop_eq_getElem_cons hk
theorem take_at{α:Type}{xs:List α}{k:Nat}{x:α}(h:xs[k]?=some x):xs.take (k+1)=xs.take k++[x]:=by
 rw[List.take_add_one,h];rfl
def fold (x:Int):Int:=if x<0 then -2*x-1 else 2*x
theorem smp_bd{x:Int}(h:smp x=true):-2147483648<=x/\x<=2147483647:=by simpa [smp,inn]using h
def bits (x k:Int):Int:=if fold x / 2 ^ k.toNat<20 then fold x / 2 ^ k.toNat+1+k else 52
end M
end
theorem zb1{k:IntKind}{a b:Int}(h:a=b):Ending.returned (.int k a)=.returned (.int k b):=by rw[h]
theorem zac{a b:Bool}(h:a=b):Ending.returned (.bool a)=.returned (.bool b):=by rw[h]
theorem zbu:EI Tryz.prog 24 2 (.int .i64 0) 1 8:=⟨Tryz.underlying24,by kernel_rfl,rfl,by decide⟩
theorem zav(n lo hi:Int)(w:Yw):
 Calls Tryz.prog 81 #[.int .i64 n,.int .i64 lo,.int .i64 hi] w fun e w'=>e=.returned (.bool (M.inn n lo hi))/\w=w':=by
 go_enter Tryz.func81,Tryz.ntmps81
 go_wp2
 all_goals go_ret
 all_goals exact⟨by simp[M.inn] <;> omega,rfl⟩
theorem za0(n lo hi:Int)(w:Yw):
 Calls Tryz.prog 67 #[.int .i64 n,.int .i64 lo,.int .i64 hi] w fun e w'=>e=.returned (.bool (M.inn n lo hi))/\w=w':=by
 go_enter Tryz.func67,Tryz.ntmps67
 go_wp2
 all_goals go_ret
 all_goals exact⟨by simp[M.inn] <;> omega,rfl⟩
theorem zfi(n:Int)(w:Yw):
 Calls Tryz.prog 193 #[.int .i64 n] w fun e w'=>e=.returned (.bool (M.smp n))/\w=w':=by
 go_enter Tryz.func193,Tryz.ntmps193
 go_wp2_with (go_at_call 81;refine(zav _ _ _ _).mono ?_;rintro e w' ⟨rfl,rfl⟩);go_ret;exact⟨rfl,rfl⟩
theorem zej(n:Int)(w:Yw):
 Calls Tryz.prog 128 #[.int .i64 n] w fun e w'=>e=.returned (.bool (M.smp n))/\w=w':=by
 go_enter Tryz.func128,Tryz.ntmps128
 go_wp2_with (go_at_call 67;refine(za0 _ _ _ _).mono ?_;rintro e w' ⟨rfl,rfl⟩);go_ret;exact⟨rfl,rfl⟩
theorem zdq(n:Int)(w:Yw):Calls Tryz.prog 168 #[.int .i64 n] w fun e w'=>e=.returned (.int .i64 (wrap32 n))/\w=w':=by
 go_enter Tryz.func168,Tryz.ntmps168
 go_wp2;go_ret;exact⟨zb1 (M.wrap64_32 _),rfl⟩
theorem zqm(n:Int)(w:Yw):Calls Tryz.prog 211 #[.int .i64 n] w fun e w'=>e=.returned (.int .i64 (wrap32 n))/\w=w':=by
 have h:=Aq (M.and_low n)
 by_cases hm:2147483647<bits BinOp.and IntKind.i64 n 4294967295
 all_goals
  go_enter Tryz.func211,Tryz.ntmps211
  go_wp2;go_ret;exact⟨zb1 (by have:=h.out;unfold wrap32;(try unfold wrap64);omega),rfl⟩
theorem zb2(A:Yo)(n c:Nat)(w:Yw):Calls Tryz.prog 169 #[.slice A n c] w fun e w'=>e=.returned (.int .i64 n)/\w=w':=by
 go_enter Tryz.func169,Tryz.ntmps169
 go_wp2;go_ret;exact⟨rfl,rfl⟩
theorem zj4(A:Yo)(n c:Nat)(xs:List Int)(w:Yw)(hx:RI w w.heap.size A n xs)(hn:n<=1000000000000):
 Calls Tryz.prog 233 #[.slice A n c] w fun e w'=>e=.returned (.bool (xs.all M.smp))/\w=w':=by
 go_enter Tryz.func233,Tryz.ntmps233
 go_wp2
 go_loop [7] (fun i=>∃k:Nat,i=.int .i64 k/\k<=n/\Hid (xs.all M.smp=(xs.drop k).all M.smp)) (fun i=>n-(intOf i).toNat)
 case atStart=>exact⟨0,rfl,by omega,Aq (by simp)⟩
 case round=>
  obtain⟨k,rfl,hk,H⟩:=hrel;have hl:=Aq hx.len
  by_cases hlt:k<n
  ·obtain⟨ad,x,rfl,hab,X,hc⟩:=hx.at hlt;have hd:=Aq (M.drop_at X.out);cases hs:M.smp x
   ·go_wp2_with (go_at_call 193;refine(zfi _ _).mono ?_;rintro e w' ⟨rfl,rfl⟩);go_ret;exact⟨by rw[H.out,hd.out];simp[hs],rfl⟩
   go_wp2_with (go_at_call 193;refine(zfi _ _).mono ?_;rintro e w' ⟨rfl,rfl⟩);go_round
   case rel=>exact⟨k+1,by go_num,by omega,Aq (by rw[H.out,hd.out];simp[hs])⟩
   case measure=>simp[intOf];omega
  go_wp2;go_ret;have e0:xs.drop k=[]:=Ej (by rw[hl.out];omega);exact⟨by rw[H.out,e0];rfl,rfl⟩
theorem zlp(A:Yo)(n c:Nat)(xs:List Int)(w:Yw)(hx:RI w w.heap.size A n xs)(hn:n<=1000000000000):
 Calls Tryz.prog 192 #[.slice A n c] w fun e w'=>e=.returned (.bool (M.sig xs))/\w=w':=by
 have hl:=Aq hx.len
 by_cases hlen:n<=4000
 ·go_enter Tryz.func192,Tryz.ntmps192
  go_wp2_with (go_at_call 233;refine(zj4 _ _ _ _ _ hx hn).mono ?_;rintro e w' ⟨rfl,rfl⟩);go_ret;exact⟨by simp[M.sig,hl.out,hlen],rfl⟩
 go_enter Tryz.func192,Tryz.ntmps192
 go_wp2_with fail;go_ret;exact⟨by simp[M.sig,hl.out];omega,rfl⟩
theorem zil(A:Yo)(n c:Nat)(xs:List Int)(w:Yw)(hx:RI w w.heap.size A n xs)(hn:n<=1000000000000):
 Calls Tryz.prog 69 #[.slice A n c] w fun e w'=>e=.returned (.bool (M.sig xs))/\w=w':=by
 have hl:=Aq hx.len
 by_cases hlen:n<=4000
 ·go_enter Tryz.func69,Tryz.ntmps69
  go_wp2
  go_loop [3] (fun i=>∃k:Nat,i=.int .i64 k/\k<=n/\Hid (xs.all M.smp=(xs.drop k).all M.smp)) (fun i=>n-(intOf i).toNat)
  case atStart=>exact⟨0,rfl,by omega,Aq (by simp)⟩
  case round=>
   obtain⟨k,rfl,hk,H⟩:=hrel
   by_cases hlt:k<n
   ·obtain⟨ad,x,rfl,hab,X,hc⟩:=hx.at hlt;have hd:=Aq (M.drop_at X.out);cases hs:M.smp x
    ·go_wp2_with (go_at_call 128;refine(zej _ _).mono ?_;rintro e w' ⟨rfl,rfl⟩);go_ret;exact⟨by rw[M.sig,H.out,hd.out];simp[hs],rfl⟩
    go_wp2_with (go_at_call 128;refine(zej _ _).mono ?_;rintro e w' ⟨rfl,rfl⟩);go_round
    case rel=>exact⟨k+1,by go_num,by omega,Aq (by rw[H.out,hd.out];simp[hs])⟩
    case measure=>simp[intOf];omega
   go_wp2;go_ret;have e0:xs.drop k=[]:=Ej (by rw[hl.out];omega);exact⟨by rw[M.sig,H.out,e0,hl.out];simp[hlen],rfl⟩
 go_enter Tryz.func69,Tryz.ntmps69
 go_wp2;go_ret;exact⟨by simp[M.sig,hl.out];omega,rfl⟩
theorem zhn(A:Yo)(n c:Nat)(xs:List Int)(i:Int)(w:Yw)(hx:RI w w.heap.size A n xs)(hn:n<=1000000000000)(h0:0<=i):
 Calls Tryz.prog 121 #[.slice A n c,.int .i64 i] w fun e w'=>e=.returned (.int .i64 (M.at_ xs i))/\w=w':=by
 have hl:=Aq hx.len;obtain⟨k,rfl⟩:=Int.eq_ofNat_of_zero_le h0
 by_cases hlt:k<n
 ·obtain⟨ad,x,rfl,hab,X,hc⟩:=hx.at hlt
  go_enter Tryz.func121,Tryz.ntmps121
  go_wp2_with (go_at_call 169;refine(zb2 _ _ _ _).mono ?_;rintro e w' ⟨rfl,rfl⟩);go_ret;exact⟨zb1 (M.at_nat X.out).symm,rfl⟩
 go_enter Tryz.func121,Tryz.ntmps121
 go_wp2_with (go_at_call 169;refine(zb2 _ _ _ _).mono ?_;rintro e w' ⟨rfl,rfl⟩);go_ret;exact⟨zb1 (by simp[M.at_,hl.out,hlt]),rfl⟩
theorem zdr(A:Yo)(n c:Nat)(xs:List Int)(w:Yw)(hx:RI w w.heap.size A n xs)(hn:n<=1000000000):
 Calls Tryz.prog 91 #[.slice A n c] w fun e w'=>∃v,e=.returned v/\OI 2 w.heap.size w' v xs/\Below w.heap.size w w':=by
 have hl:=Aq hx.len;have h0:(w.alloc (.cells #[] 2)).ownsRow w.heap.size 2 1 (.slice (some ⟨w.heap.size,0,none⟩) 0 0) 0 []:=World.ownsRow_made _ _ _ (Aj _) (by simp[maxLen]) rfl;have hb0:Below w.heap.size w (w.alloc (.cells #[] 2)):=(Aw _ _).alloc (Aj _) _
 go_enter Tryz.func91,Tryz.ntmps91
 go_wp2_with (at_builtin;refine zcz zbu rfl _ _ rfl h0 rfl (Reads.below hx hb0) rfl (ints_oneCell _ _) (by unfold maxLen;omega) (by omega) hb0.size ?_;intro v1 w1 own1 gr1 bel1);go_ret;exact⟨_,rfl,by unfold OI;simpa [hl.out]using own1,hb0.trans bel1⟩
theorem zc5(i:Int)(w:Yw)(h0:0<=i)(hi:i<=1000000000):
 Calls Tryz.prog 116 #[.int .i64 i] w fun e w'=>∃v,e=.returned v/\OI 2 w.heap.size w' v (List.replicate i.toNat 0)/\Below w.heap.size w w':=by
 obtain⟨n,rfl⟩:=Int.eq_ofNat_of_zero_le h0
 go_enter Tryz.func116,Tryz.ntmps116
 go_wp2_with (at_make;refine zhm zbu rfl _ _ rfl n _ _ rfl rfl rfl rfl (by omega) (by unfold maxLen;omega) ?_;intro w1 own1 bel1);go_ret;refine⟨_,rfl,?_,bel1⟩;unfold OI;have:=toList_madeCells_one (.int .i64 0) n;simp only[Nat.mul_one,Value.cells]at own1;rw[this]at own1;simpa using own1
section
structure Mid (lo hi:Nat) (w w':Yw):Prop where
 os:w'.os=w.os
 tape:w'.tape=w.tape
 output:w'.output=w.output
 size:w.heap.size<=w'.heap.size
 block:∀k,k<w.heap.size->(k<lo\/hi<=k)->w'.heap[k]?=w.heap[k]?
section
variable {lo hi lo' hi' B:Nat} {a b c w w':Yw}
theorem Mid.refl(lo hi:Nat)(w:Yw):Mid lo hi w w:=⟨rfl,rfl,rfl,Aj _,fun _ _ _=>rfl⟩
theorem Mid.trans(h:Mid lo hi a b)(k:Mid lo hi b c):Mid lo hi a c:=
 ⟨k.os.trans h.os,k.tape.trans h.tape,k.output.trans h.output,Nat.le_trans h.size k.size,fun i hi' hm=>(k.block i (Cq hi' h.size) hm).trans (h.block i hi' hm)⟩
theorem Mid.toBelow(h:Mid lo hi a b)(hl:lo<=a.heap.size):Below lo a b:=⟨h.os,h.tape,h.output,h.size,fun k hk=>h.block k (by omega) (.inl hk)⟩
theorem Mid.of_below(h:Below a.heap.size a b)(lo hi:Nat):Mid lo hi a b:=⟨h.os,h.tape,h.output,h.size,fun k hk _=>h.block k hk⟩
theorem Mid.of_grown{row:Option Nat}(h:a.grownBy b row)(hr:∀k,row=some k->lo<=k/\k<hi):Mid lo hi a b:=
 ⟨h.os,h.tape,h.output,h.size,fun k hk hm=>h.block k hk (fun e=>by have:=hr k e.symm;omega)⟩
theorem Mid.wide(h:Mid lo hi a b)(h1:lo'<=lo)(h2:hi<=hi'):Mid lo' hi' a b:=⟨h.os,h.tape,h.output,h.size,fun k hk hm=>h.block k hk (by omega)⟩
end
def OX (e:TypeId) (s lo hi:Nat) (w:Yw) (v:Value) (n:Nat) (cs:List Value):Prop:=w.ownsRow lo e s v n cs/\∀k,v.ownBlock=some k->k<hi
section
variable {e:TypeId} {s lo hi lo' hi' n:Nat} {w w':Yw} {v:Value} {cs:List Value}
theorem OX.of_own(h:w.ownsRow lo e s v n cs):OX e s lo w.heap.size w v n cs:=⟨h,fun k hk=>(h.lt k hk).2⟩
theorem OX.same(h:OX e s lo hi w v n cs)(hk:∀k,lo<=k->k<hi->w'.heap[k]?=w.heap[k]?):OX e s lo hi w' v n cs:=by
 refine⟨⟨h.1.1,?_⟩,h.2⟩;rcases h.1.2 with h2|⟨g,cap,cur,rfl,hg,hh,r⟩
 ·exact .inl h2
 exact .inr ⟨g,cap,cur,rfl,hg,by rw[hk g hg (h.2 g rfl)];exact hh,r⟩
theorem OX.below{B:Nat}(h:OX e s lo hi w v n cs)(hb:Below B w w')(hB:hi<=B):OX e s lo hi w' v n cs:=h.same fun k _ hk=>hb.block k (by omega)
theorem OX.mid{l r:Nat}(h:OX e s lo hi w v n cs)(hm:Mid l r w w')(hd:hi<=l\/r<=lo)(hs:hi<=w.heap.size):OX e s lo hi w' v n cs:=h.same fun k h1 h2=>hm.block k (by omega) (by omega)
theorem OX.wide(h:OX e s lo hi w v n cs)(h1:lo'<=lo)(h2:hi<=hi'):OX e s lo' hi' w v n cs:=⟨zhl h.1 h1,fun k hk=>Cq (h.2 k hk) h2⟩
theorem OX.nil(e:TypeId)(s lo hi:Nat)(w:Yw):OX e s lo hi w (.slice none 0 0) 0 []:=⟨World.ownsRow_nil _ _ _ _,by simp[Value.ownBlock]⟩
theorem OX.reads{A:Yo}{c:Nat}(h:OX e s lo hi w (.slice A n c) n cs):Reads w w.heap.size s A n cs:=Reads.of_own h.1
theorem OX.shape(h:OX e s lo hi w v n cs):∃A c,v=.slice A n c/\n<=c/\Reads w w.heap.size s A n cs:=by
 obtain⟨A,c,hv,h1,_,hr⟩:=zb0 h.1;exact⟨A,c,hv,h1,hr⟩
theorem OX.form{A:Yo}{c m:Nat}(h:OX e s lo hi w (.slice A m c) n cs)(hn:0<m):∃g,A=some ⟨g,0,none⟩/\lo<=g/\g<hi/\g<w.heap.size/\m=n:=by
 rcases h.1.2 with⟨h0,_⟩|⟨g,cap,cur,h0,h1,h2,_⟩
 ·simp only[Cz]at h0;omega
 simp only[Cz]at h0;obtain⟨rfl,rfl,rfl⟩:=h0;exact⟨g,rfl,h1,h.2 g rfl,(Array.getElem?_eq_some_iff.1 h2).1,rfl⟩
theorem OX.cell{g c:Nat}(h:OX e s lo hi w (.slice (some ⟨g,0,none⟩) n c) n cs){j:Nat}{u:Value}(hj:cs[j]?=some u):w.cell? ⟨g,j,none⟩=some u/\w.frozen? ⟨g,j,none⟩=false:=by
 obtain⟨hl,_⟩:=Bk.1 hj;exact⟨by rw[World.ownsRow.cellAt h.1 j (by rw[<-h.1.1];exact hl)];exact hj,World.ownsRow.frozenAt h.1 j⟩
theorem OX.set{g c:Nat}(h:OX e s lo hi w (.slice (some ⟨g,0,none⟩) n c) n cs)(j:Nat)(u:Value):
 OX e s lo hi (w.setCell ⟨g,j,none⟩ u) (.slice (some ⟨g,0,none⟩) n c) n (cs.set j u)/\Mid lo hi w (w.setCell ⟨g,j,none⟩ u):=by
 have h1:=World.ownsRow.stored h.1 j u;refine⟨⟨h1.1,h.2⟩,Mid.of_grown h1.2 fun k hk=>?_⟩;injection hk with hk
 subst hk;exact⟨(Gq h.1 g rfl).1,h.2 g rfl⟩
end
def RA {α:Type} (enc:α->List Value) (s:Nat) (w:Yw) (B:Nat) (A:Yo) (n:Nat) (xs:List α):Prop:=xs.length=n/\Reads w B s A n (xs.flatMap enc)
section
variable {α:Type} {enc:α->List Value} {s:Nat} {w w':Yw} {B B' n:Nat} {A :Yo} {xs:List α}
theorem zj5(henc:∀x,(enc x).length=s){xs:List α}{k:Nat}{x:α}(hk:xs[k]?=some x)(j:Nat)(hj:j<s):(xs.flatMap enc)[k*s+j]?=(enc x)[j]?:=by
 induction xs generalizing k with
 | nil=>simp at hk
 | cons y ys ih=>
  cases k with
  | zero=>
   simp only[Bg,Dq]at hk;subst hk;rw[List.flatMap_cons,Nat.zero_mul,Nat.zero_add,List.getElem?_append_left (by rw[henc];exact hj)]
  | succ k=>
   simp only[By]at hk;rw[List.flatMap_cons,Gz (by rw[henc,Nat.succ_mul];omega),henc,<-ih hk];congr 1;rw[Nat.succ_mul];omega
theorem zj6(henc:∀x,(enc x).length=s)(xs:List α):(xs.flatMap enc).length=xs.length*s:=by
 induction xs with
 | nil=>simp
 | cons y ys ih=>rw[List.flatMap_cons,Cw,henc,ih,Dk,Nat.succ_mul,Nat.add_comm]
theorem zqn(henc:∀x,(enc x).length=s){xs:List α}{k:Nat}{x y:α}{j:Nat}{u:Value}(hk:xs[k]?=some x)(hj:j<s)(hy:enc y=(enc x).set j u):(xs.flatMap enc).set (k*s+j) u=(xs.set k y).flatMap enc:=by
 induction xs generalizing k with
 | nil=>simp at hk
 | cons z zs ih=>
  cases k with
  | zero=>
   simp only[Bg,Dq]at hk;subst hk;rw[List.flatMap_cons,Nat.zero_mul,Nat.zero_add,List.set_append_left _ _ (by rw[henc];exact hj),List.set_cons_zero,List.flatMap_cons,hy]
  | succ k=>
   simp only[By]at hk;rw[List.flatMap_cons,List.set_append_right _ _ (by rw[henc,Nat.succ_mul];omega),henc,List.set_cons_succ,List.flatMap_cons,<-ih hk];congr 2;rw[Nat.succ_mul];omega
theorem RA.len(h:RA enc s w B A n xs):xs.length=n:=h.1
theorem RA.below(h:RA enc s w B A n xs)(hb:Below B w w'):RA enc s w' B A n xs:=⟨h.1,h.2.below hb⟩
theorem RA.later(h:RA enc s w w.heap.size A n xs)(hb:Below w.heap.size w w'):RA enc s w' w'.heap.size A n xs:=⟨h.1,h.2.later hb⟩
theorem RA.more(h:RA enc s w B A n xs)(hB:B<=B'):RA enc s w B' A n xs:=⟨h.1,h.2.more hB⟩
theorem RA.nil(w:Yw)(B:Nat)(A:Yo):RA enc s w B A 0 []:=⟨rfl,Reads.none_⟩
theorem zim{ad:Addr}{u:Value}(h:w.cell? ad=some u):ad=⟨ad.block,ad.off,none⟩:=by
 cases ad with
 | mk b o sp=>
  cases sp with
  | none=>rfl
  | some x=>
   exfalso
   simp only[World.cell?]at h
   split at h <;> simp at h
theorem RA.at(henc:∀x,(enc x).length=s)(hs:0<s)(h:RA enc s w B A n xs){k:Nat}(hk:k<n):
 ∃b o x,A=some ⟨b,o,none⟩/\b<B/\Hid (xs[k]?=some x)/\∀j u,(enc x)[j]?=some u->w.cell? ⟨b,o+k*s+j,none⟩=some u:=by
 obtain⟨ad,e,hb,hc⟩:=h.2.2 (by omega);have hl:k<xs.length:=by rw[h.1];exact hk
 have h0:0<(xs.flatMap enc).length:=by
  rw[zj6 henc];exact Nat.mul_pos (by omega) hs
 have hsp:=zim (hc 0 _ (Ak h0));have hsp':ad=⟨ad.block,ad.off,none⟩:=by simpa [Addr.add]using hsp
 refine⟨ad.block,ad.off,xs[k],by rw[e,<-hsp'],hb,Ak hl,fun j u hu=>?_⟩
 have:=hc (k*s+j) u (by
  rw[zj5 henc (Ak hl) j (by rw[<-henc xs[k]];exact(Bk.1 hu).1)];exact hu)
 rw[hsp',Addr.add_lit,<-Nat.add_assoc]at this;exact this
theorem RA.cells{b o:Nat}(henc:∀x,(enc x).length=s)(hs:0<s)(h:RA enc s w B (some ⟨b,o,none⟩) n xs){k:Nat}(hk:k<n):
 ∃x,Hid (xs[k]?=some x)/\∀j u,(enc x)[j]?=some u->w.cell? ⟨b,o+k*s+j,none⟩=some u:=by
 obtain⟨b',o',x,e,_,h1,h2⟩:=h.at henc hs hk;injection e with e
 injection e with e1 e2
 subst e1 e2;exact⟨x,h1,h2⟩
end
def OA {α:Type} (enc:α->List Value) (e:TypeId) (s lo hi:Nat) (w:Yw) (v:Value) (xs:List α):Prop:=OX e s lo hi w v xs.length (xs.flatMap enc)
section
variable {α:Type} {enc:α->List Value} {e:TypeId} {s lo hi lo' hi':Nat} {w w':Yw} {v:Value} {xs:List α}
theorem OA.below{B:Nat}(h:OA enc e s lo hi w v xs)(hb:Below B w w')(hB:hi<=B):OA enc e s lo hi w' v xs:=OX.below h hb hB
theorem OA.mid{l r:Nat}(h:OA enc e s lo hi w v xs)(hm:Mid l r w w')(hd:hi<=l\/r<=lo)(hs:hi<=w.heap.size):OA enc e s lo hi w' v xs:=OX.mid h hm hd hs
theorem OA.wide(h:OA enc e s lo hi w v xs)(h1:lo'<=lo)(h2:hi<=hi'):OA enc e s lo' hi' w v xs:=OX.wide h h1 h2
theorem OA.nil(w:Yw):OA enc e s lo hi w (.slice none 0 0) []:=OX.nil _ _ _ _ _
theorem OA.shape(h:OA enc e s lo hi w v xs):∃A c,v=.slice A xs.length c/\RA enc s w w.heap.size A xs.length xs:=by
 obtain⟨A,c,hv,_,hr⟩:=OX.shape h;exact⟨A,c,hv,rfl,hr⟩
theorem OA.ra{A:Yo}{c:Nat}(h:OA enc e s lo hi w (.slice A xs.length c) xs):RA enc s w w.heap.size A xs.length xs:=⟨rfl,OX.reads h⟩
theorem OX.m_eq{g c m n:Nat}{cs:List Value}(h:OX e s lo hi w (.slice (some ⟨g,0,none⟩) m c) n cs):m=n:=by
 rcases h.1.2 with⟨h0,_⟩|⟨g',cap,cur,h0,_⟩
 ·simp at h0
 simp only[Cz]at h0;exact h0.2.1
theorem OA.set{g c m:Nat}(henc:∀x,(enc x).length=s)(h:OA enc e s lo hi w (.slice (some ⟨g,0,none⟩) m c) xs){k j:Nat}{x y:α}{u:Value}(hk:xs[k]?=some x)(hj:j<s)(hy:enc y=(enc x).set j u):
 OA enc e s lo hi (w.setCell ⟨g,k*s+j,none⟩ u) (.slice (some ⟨g,0,none⟩) m c) (xs.set k y)/\Mid lo hi w (w.setCell ⟨g,k*s+j,none⟩ u):=by
 have hm:=OX.m_eq h;subst hm;have h1:=OX.set h (k*s+j) u;rw[zqn henc hk hj hy]at h1;refine⟨?_,h1.2⟩;unfold OA;rw[Fx];exact h1.1
theorem OA.cell{g c m:Nat}(henc:∀x,(enc x).length=s)(h:OA enc e s lo hi w (.slice (some ⟨g,0,none⟩) m c) xs){k:Nat}{x:α}(hk:xs[k]?=some x){j:Nat}{u:Value}(hj:(enc x)[j]?=some u):
 w.cell? ⟨g,k*s+j,none⟩=some u/\w.frozen? ⟨g,k*s+j,none⟩=false:=by
 have hm:=OX.m_eq h;subst hm;exact OX.cell h (by rw[zj5 henc hk j (by rw[<-henc x];exact(Bk.1 hj).1)];exact hj)
theorem zlq(zs:Array Value)(n:Nat)(x:α)(hz:enc x=zs.toList)(henc:∀x,(enc x).length=s)(hs:0<s):(madeCells zs (n*s)).toList=(List.replicate n x).flatMap enc:=by
 have hzs:zs.size=s:=by have:=henc x;rw[hz]at this;simpa using this
 apply List.ext_getElem?
 intro i
 by_cases hi:i<n*s
 ·have hk:i / s<n:=Nat.div_lt_of_lt_mul (by rw[Nat.mul_comm];exact hi);have hj:i % s<s:=Nat.mod_lt _ hs;have e0:i / s*s+i % s=i:=by rw[Nat.mul_comm];exact Nat.div_add_mod i s
  have h1:=zj5 henc (xs:=List.replicate n x) (k:=i / s) (x:=x) (by simp[hk]) (i % s) hj;rw[e0]at h1;rw[h1,hz];simp[madeCells,hi,hzs,hj]
 rw[List.getElem?_eq_none (by simp[madeCells];omega),List.getElem?_eq_none (by rw[zj6 henc,Fz];omega)]
theorem OA.made{z:Value}{n:Nat}{x:α}(henc:∀x,(enc x).length=s)(hs:0<s)(hz:enc x=z.cells.toList)(h:w.ownsRow lo e s v n (madeCells z.cells (n*s)).toList)(hv:∀k,v.ownBlock=some k->k<hi):
 OA enc e s lo hi w v (List.replicate n x):=by
 unfold OA;rw[Fz,<-zlq z.cells n x hz henc hs];exact⟨h,hv⟩
theorem OA.form{A:Yo}{c m:Nat}(h:OA enc e s lo hi w (.slice A m c) xs)(hn:0<m):∃g,A=some ⟨g,0,none⟩/\lo<=g/\g<hi/\g<w.heap.size/\m=xs.length:=OX.form h hn
theorem OA.push{x:α}(h:w.ownsRow lo e s v (xs.length+1) (xs.flatMap enc++enc x)):OA enc e s lo w.heap.size w v (xs++[x]):=by
 unfold OA;have:=OX.of_own h;simpa [List.flatMap_append]using this
end
end
section
structure Chg (F:Nat->Prop) (w w':Yw):Prop where
 os:w'.os=w.os
 tape:w'.tape=w.tape
 output:w'.output=w.output
 size:w.heap.size<=w'.heap.size
 block:∀k,k<w.heap.size->¬F k->w'.heap[k]?=w.heap[k]?
section
variable {F F':Nat->Prop} {a b c w w':Yw} {lo hi B:Nat}
theorem Chg.refl(F:Nat->Prop)(w:Yw):Chg F w w:=⟨rfl,rfl,rfl,Aj _,fun _ _ _=>rfl⟩
theorem Chg.trans(h:Chg F a b)(k:Chg F b c):Chg F a c:=
 ⟨k.os.trans h.os,k.tape.trans h.tape,k.output.trans h.output,Nat.le_trans h.size k.size,fun i hi hm=>(k.block i (Cq hi h.size) hm).trans (h.block i hi hm)⟩
theorem Chg.wide(h:Chg F a b)(hf:∀k,F k->F' k):Chg F' a b:=⟨h.os,h.tape,h.output,h.size,fun k hk hn=>h.block k hk fun hF=>hn (hf k hF)⟩
theorem Chg.of_below(h:Below a.heap.size a b)(F:Nat->Prop):Chg F a b:=⟨h.os,h.tape,h.output,h.size,fun k hk _=>h.block k hk⟩
theorem Chg.of_mid(h:Mid lo hi a b):Chg (fun k=>lo<=k/\k<hi) a b:=⟨h.os,h.tape,h.output,h.size,fun k hk hn=>h.block k hk (by omega)⟩
theorem Chg.of_grown{row:Option Nat}(h:a.grownBy b row)(hr:∀k,row=some k->F k):Chg F a b:=
 ⟨h.os,h.tape,h.output,h.size,fun k hk hn=>h.block k hk fun e=>hn (hr k e.symm)⟩
theorem Chg.toBelow(h:Chg F a b)(hF:∀k,F k->B<=k)(hB:B<=a.heap.size):Below B a b:=⟨h.os,h.tape,h.output,h.size,fun k hk=>h.block k (by omega) fun hk'=>by have:=hF k hk';omega⟩
theorem Chg.set(w:Yw)(g o:Nat)(u:Value)(hF:F g):Chg F w (w.setCell ⟨g,o,none⟩ u):=Chg.of_grown (zc0 w g o u) fun k hk=>by injection hk with hk;rw[<-hk];exact hF
end
theorem zin{s:Nat}{css:List (List Value)}(hs:∀c∈css,c.length=s){k:Nat}{c:List Value}(hk:css[k]?=some c)(j:Nat)(hj:j<s):css.flatten[k*s+j]?=c[j]?:=by
 induction css generalizing k with
 | nil=>simp at hk
 | cons y ys ih=>
  have hy:=hs y (by simp);cases k with
  | zero=>
   simp only[Bg,Dq]at hk;subst hk;rw[List.flatten_cons,Nat.zero_mul,Nat.zero_add,List.getElem?_append_left (by omega)]
  | succ k=>
   simp only[By]at hk;rw[List.flatten_cons,Gz (by rw[hy,Nat.succ_mul];omega),hy,<-ih (fun c hc=>hs c (by simp[hc])) hk];congr 1;rw[Nat.succ_mul];omega
theorem zj7{s:Nat}{css:List (List Value)}(hs:∀c∈css,c.length=s):css.flatten.length=css.length*s:=by
 induction css with
 | nil=>simp
 | cons y ys ih=>rw[List.flatten_cons,Cw,hs y (by simp),ih (fun c hc=>hs c (by simp[hc])),Dk,Nat.succ_mul,Nat.add_comm]
theorem zqo{s:Nat}{css:List (List Value)}(hs:∀c∈css,c.length=s){k j:Nat}{c:List Value}{u:Value}(hk:css[k]?=some c)(hj:j<s):css.flatten.set (k*s+j) u=(css.set k (c.set j u)).flatten:=by
 induction css generalizing k with
 | nil=>simp at hk
 | cons y ys ih=>
  have hy:=hs y (by simp);cases k with
  | zero=>
   simp only[Bg,Dq]at hk;subst hk;rw[List.flatten_cons,Nat.zero_mul,Nat.zero_add,List.set_append_left _ _ (by omega),List.set_cons_zero,List.flatten_cons]
  | succ k=>
   simp only[By]at hk;rw[List.flatten_cons,List.set_append_right _ _ (by rw[hy,Nat.succ_mul];omega),hy,List.set_cons_succ,List.flatten_cons,<-ih (fun c hc=>hs c (by simp[hc])) hk];congr 2;rw[Nat.succ_mul];omega
structure Ty (α:Type) where
 s:Nat
 pos:0<s
 zero:α
 R:Yw->Nat->List Value->α->Prop
 O:Yw->(Nat->Prop)->List Value->α->Prop
 rlen:∀{w B cs x},R w B cs x->cs.length=s
 keep:∀{w w' B cs x},(∀p:Addr,p.block<B->w'.cell? p=w.cell? p)->R w B cs x->R w' B cs x
 more:∀{w B B' cs x},B<=B'->R w B cs x->R w B' cs x
 read:∀{w F cs x},O w F cs x->R w w.heap.size cs x
 okeep:∀{w w' F cs x},(∀b,F b->w'.heap[b]?=w.heap[b]?)->O w F cs x->O w' F cs x
 owide:∀{w F F' cs x},(∀b,F b->F' b)->O w F cs x->O w F' cs x
 ocells:∀{w F cs x},O w F cs x->∀u∈cs,u.oneCell'=true
 oreal:∀{w F cs x},O w F cs x->O w (fun b=>F b/\b<w.heap.size) cs x
def Ty.flat {α:Type} (s:Nat) (pos:0<s) (zero:α) (enc:α->List Value) (henc:∀x,(enc x).length=s) (h1:∀x,∀u∈enc x,u.oneCell'=true):Ty α where
 s:=s
 pos:=pos
 zero:=zero
 R _ _ cs x:=cs=enc x
 O _ _ cs x:=cs=enc x
 rlen h:=by rw[h];exact henc _
 keep _ h:=h
 more _ h:=h
 read h:=h
 okeep _ h:=h
 owide _ h:=h
 ocells h:=by rw[h];exact h1 _
 oreal h:=h
def tI:Ty Int:=Ty.flat 1 (by decide) 0 (fun x=>[.int .i64 x]) (fun _=>rfl) (by simp[Value.oneCell'])
def Ty.prod {α β:Type} (a:Ty α) (b:Ty β):Ty (α×β) where
 s:=a.s+b.s
 pos:=Nat.add_pos_left a.pos _
 zero:=(a.zero,b.zero)
 R w B cs x:=∃c1 c2,cs=c1++c2/\a.R w B c1 x.1/\b.R w B c2 x.2
 O w F cs x:=∃c1 c2 F1 F2,cs=c1++c2/\a.O w F1 c1 x.1/\b.O w F2 c2 x.2/\(∀k,F1 k->F k)/\(∀k,F2 k->F k)/\(∀k,F1 k->¬F2 k)
 rlen:=by rintro w B cs x ⟨c1,c2,rfl,h1,h2⟩;rw[Cw,a.rlen h1,b.rlen h2]
 keep:=by rintro w w' B cs x hk ⟨c1,c2,rfl,h1,h2⟩;exact⟨c1,c2,rfl,a.keep hk h1,b.keep hk h2⟩
 more:=by rintro w B B' cs x hk ⟨c1,c2,rfl,h1,h2⟩;exact⟨c1,c2,rfl,a.more hk h1,b.more hk h2⟩
 read:=by rintro w F cs x ⟨c1,c2,F1,F2,rfl,h1,h2,_⟩;exact⟨c1,c2,rfl,a.read h1,b.read h2⟩
 okeep:=by rintro w w' F cs x hk ⟨c1,c2,F1,F2,rfl,h1,h2,f1,f2,f3⟩;exact⟨c1,c2,F1,F2,rfl,a.okeep (fun b hb=>hk b (f1 b hb)) h1,b.okeep (fun b hb=>hk b (f2 b hb)) h2,f1,f2,f3⟩
 owide:=by rintro w F F' cs x hk ⟨c1,c2,F1,F2,rfl,h1,h2,f1,f2,f3⟩;exact⟨c1,c2,F1,F2,rfl,h1,h2,fun k h=>hk k (f1 k h),fun k h=>hk k (f2 k h),f3⟩
 ocells:=by
  rintro w F cs x ⟨c1,c2,F1,F2,rfl,h1,h2,_⟩ u hu;rcases Gx.1 hu with h|h
  ·exact a.ocells h1 u h
  exact b.ocells h2 u h
 oreal:=by
  rintro w F cs x ⟨c1,c2,F1,F2,rfl,h1,h2,f1,f2,f3⟩;exact⟨c1,c2,_,_,rfl,a.oreal h1,b.oreal h2,fun k h=>⟨f1 k h.1,h.2⟩,fun k h=>⟨f2 k h.1,h.2⟩,fun k h h'=>f3 k h.1 h'.1⟩
section
variable {α:Type} (t:Ty α)
def RS (w:Yw) (B:Nat) (v:Value) (xs:List α):Prop:=
 ∃(A:Yo) (c:Nat) (css:List (List Value)),v=.slice A xs.length c/\xs.length<=c/\c<=maxLen/\css.length=xs.length/\Reads w B t.s A xs.length css.flatten/\∀k (h:k<xs.length) (h':k<css.length),t.R w B css[k] xs[k]
def OS (e:TypeId) (w:Yw) (F:Nat->Prop) (v:Value) (xs:List α):Prop:=
 ∃(css:List (List Value)) (Fs:Nat->Nat->Prop),w.ownsRow 0 e t.s v xs.length css.flatten/\css.length=xs.length/\(∀g,v.ownBlock=some g->F g)/\(∀k b,Fs k b->F b/\v.ownBlock≠some b)/\
  (∀j k b,j≠k->Fs j b->¬Fs k b)/\∀k (h:k<xs.length) (h':k<css.length),t.O w (Fs k) css[k] xs[k]
end
section
variable {α:Type} {t:Ty α} {e:TypeId} {w w':Yw} {F F':Nat->Prop} {B B':Nat} {v:Value} {xs:List α}
theorem RS.keep(hk:∀p:Addr,p.block<B->w'.cell? p=w.cell? p)(h:RS t w B v xs):RS t w' B v xs:=by
 obtain⟨A,c,css,hv,h1,h2,h3,h4,h5⟩:=h;exact⟨A,c,css,hv,h1,h2,h3,h4.keep hk,fun k h h'=>t.keep hk (h5 k h h')⟩
theorem RS.more(hB:B<=B')(h:RS t w B v xs):RS t w B' v xs:=by
 obtain⟨A,c,css,hv,h1,h2,h3,h4,h5⟩:=h;exact⟨A,c,css,hv,h1,h2,h3,h4.more hB,fun k h h'=>t.more hB (h5 k h h')⟩
theorem OS.read(h:OS t e w F v xs):RS t w w.heap.size v xs:=by
 obtain⟨css,Fs,h1,h2,_,_,_,h6⟩:=h;obtain⟨A,c,rfl,hc,hm,hr⟩:=zb0 h1;exact⟨A,c,css,rfl,hc,hm,h2,hr,fun k h h'=>t.read (h6 k h h')⟩
theorem OS.keep(hk:∀b,F b->w'.heap[b]?=w.heap[b]?)(h:OS t e w F v xs):OS t e w' F v xs:=by
 obtain⟨css,Fs,h1,h2,h3,h4,h5,h6⟩:=h;refine⟨css,Fs,⟨h1.1,?_⟩,h2,h3,h4,h5,fun k h h'=>t.okeep (fun b hb=>hk b (h4 k b hb).1) (h6 k h h')⟩;rcases h1.2 with hn|⟨g,cap,cur,rfl,hb,hg,rest⟩
 ·exact .inl hn
 exact .inr ⟨g,cap,cur,rfl,hb,by rw[hk g (h3 g rfl)];exact hg,rest⟩
theorem OS.wide(hF:∀b,F b->F' b)(h:OS t e w F v xs):OS t e w F' v xs:=by
 obtain⟨css,Fs,h1,h2,h3,h4,h5,h6⟩:=h;exact⟨css,Fs,h1,h2,fun g hg=>hF g (h3 g hg),fun k b hb=>⟨hF b (h4 k b hb).1,(h4 k b hb).2⟩,h5,h6⟩
theorem RS.cap{A:Yo}{n c:Nat}(h:RS t w B (.slice A n c) xs):xs.length=n/\n<=c/\c<=maxLen:=by
 obtain⟨A',c',css,hv,h1,h2,_⟩:=h;simp only[Cz]at hv;obtain⟨rfl,rfl,rfl⟩:=hv;exact⟨rfl,h1,h2⟩
theorem RS.shape(h:RS t w B v xs):∃A c,v=.slice A xs.length c:=by
 obtain⟨A,c,css,hv,_⟩:=h;exact⟨A,c,hv⟩
theorem OS.shape(h:OS t e w F v xs):∃A c,v=.slice A xs.length c:=RS.shape h.read
theorem RS.at(h:RS t w B v xs){k:Nat}(hk:k<xs.length):∃b o c cs,v=.slice (some ⟨b,o,none⟩) xs.length c/\b<B/\cs.length=t.s/\t.R w B cs xs[k]/\∀j u,cs[j]?=some u->w.cell? ⟨b,o+k*t.s+j,none⟩=some u:=by
 obtain⟨A,c,css,rfl,h1,h2,h3,h4,h5⟩:=h;obtain⟨ad,rfl,hb,hc⟩:=h4.2 (by omega)
 have hs:∀c∈css,c.length=t.s:=fun c hc=>by
  obtain⟨i,hi,rfl⟩:=List.getElem_of_mem hc;exact t.rlen (h5 i (by omega) hi)
 have h0:0<css.flatten.length:=by
  rw[zj7 hs];exact Nat.mul_pos (by omega) t.pos
 have hsp:=zim (hc 0 _ (Ak h0));have hsp':ad=⟨ad.block,ad.off,none⟩:=by simpa [Addr.add]using hsp
 have hr:=h5 k hk (by omega);refine⟨ad.block,ad.off,c,css[k]'(by omega),by rw[<-hsp'],hb,t.rlen hr,hr,fun j u hu=>?_⟩;have hj:j<t.s:=by rw[<-t.rlen hr];exact(Bk.1 hu).1
 have:=hc (k*t.s+j) u (by rw[zin hs (Ak (by omega)) j hj];exact hu);rw[hsp',Addr.add_lit,<-Nat.add_assoc]at this;exact this
end
def Ty.sl {α:Type} (t:Ty α) (e:TypeId):Ty (List α) where
 s:=1
 pos:=Nat.one_pos
 zero:=[]
 R w B cs x:=∃v,cs=[v]/\RS t w B v x
 O w F cs x:=∃v,cs=[v]/\OS t e w F v x
 rlen:=by rintro w B cs x ⟨v,rfl,_⟩;rfl
 keep:=by rintro w w' B cs x hk ⟨v,rfl,h⟩;exact⟨v,rfl,h.keep hk⟩
 more:=by rintro w B B' cs x hk ⟨v,rfl,h⟩;exact⟨v,rfl,h.more hk⟩
 read:=by rintro w F cs x ⟨v,rfl,h⟩;exact⟨v,rfl,h.read⟩
 okeep:=by rintro w w' F cs x hk ⟨v,rfl,h⟩;exact⟨v,rfl,h.keep hk⟩
 owide:=by rintro w F F' cs x hk ⟨v,rfl,h⟩;exact⟨v,rfl,h.wide hk⟩
 ocells:=by
  rintro w F cs x ⟨v,rfl,h⟩ u hu;obtain⟨A,c,hv⟩:=h.shape;simp only[List.mem_singleton]at hu;subst hu hv
  rfl
 oreal:=by
  rintro w F cs x ⟨v,rfl,css,Fs,h1,h2,h3,h4,h5,h6⟩;exact⟨v,rfl,css,_,h1,h2,fun g hg=>⟨h3 g hg,(h1.lt g hg).2⟩,fun k b hb=>⟨⟨(h4 k b hb.1).1,hb.2⟩,(h4 k b hb.1).2⟩,fun j k b hne h h'=>h5 j k b hne h.1 h'.1,fun k h h'=>t.oreal (h6 k h h')⟩
section
variable {α:Type} {t:Ty α} {e:TypeId} {w w':Yw} {F F':Nat->Prop} {B B' lo hi:Nat} {v:Value} {xs:List α}
def Iv (lo hi:Nat):Nat->Prop:=fun k=>lo<=k/\k<hi
theorem Iv.mono{lo hi lo' hi':Nat}(h1:lo'<=lo)(h2:hi<=hi'):∀b,Iv lo hi b->Iv lo' hi' b:=fun b ⟨h,h'⟩=>⟨Nat.le_trans h1 h,Cq h' h2⟩
theorem RS.later(h:RS t w w.heap.size v xs)(hb:Below w.heap.size w w'):RS t w' w'.heap.size v xs:=(h.keep fun _ hp=>hb.cell hp).more hb.size
theorem RS.below(h:RS t w B v xs)(hb:Below B w w'):RS t w' B v xs:=h.keep fun _ hp=>hb.cell hp
theorem OS.below(h:OS t e w (Iv lo hi) v xs)(hb:Below B w w')(hB:hi<=B):OS t e w' (Iv lo hi) v xs:=h.keep fun b hF=>hb.block b (Cq hF.2 hB)
theorem OS.mid{l r:Nat}(h:OS t e w (Iv lo hi) v xs)(hm:Mid l r w w')(hd:hi<=l\/r<=lo)(hs:hi<=w.heap.size):OS t e w' (Iv lo hi) v xs:=
 h.keep fun b ⟨h1,h2⟩=>hm.block b (by omega) (by omega)
theorem OS.iv{lo' hi':Nat}(h:OS t e w (Iv lo hi) v xs)(h1:lo'<=lo)(h2:hi<=hi'):OS t e w (Iv lo' hi') v xs:=h.wide (Iv.mono h1 h2)
theorem OS.nil(t:Ty α)(e:TypeId)(w:Yw)(F:Nat->Prop):OS t e w F (.slice none 0 0) []:=
 ⟨[],fun _ _=>False,World.ownsRow_nil _ _ _ _,rfl,by simp[Value.ownBlock],fun _ _ h=>h.elim,fun _ _ _ _ h=>h.elim,fun k h=>by simp at h⟩
theorem RS.nil(t:Ty α)(w:Yw)(B:Nat):RS t w B (.slice none 0 0) []:=⟨none,0,[],rfl,Aj _,by simp[maxLen],rfl,Reads.none_,fun k h=>by simp at h⟩
def OH (t:Ty α) (e:TypeId) (w:Yw) (F:Nat->Prop) (v:Value) (xs:List α) (css:List (List Value)) (Fs:Nat->Nat->Prop) (k:Nat):Prop:=
 w.ownsRow 0 e t.s v xs.length css.flatten/\css.length=xs.length/\(∀c∈css,c.length=t.s)/\(∀g,v.ownBlock=some g->F g)/\(∀k b,Fs k b->F b/\v.ownBlock≠some b)/\
  (∀j k b,j≠k->Fs j b->¬Fs k b)/\∀i (h:i<xs.length) (h':i<css.length),i≠k->t.O w (Fs i) css[i] xs[i]
theorem OS.open(h:OS t e w F v xs){k:Nat}(hk:k<xs.length):∃css Fs,OH t e w F v xs css Fs k/\∃cs,css[k]?=some cs/\t.O w (Fs k) cs xs[k]:=by
 obtain⟨css,Fs,h1,h2,h3,h4,h5,h6⟩:=h
 exact⟨css,Fs,⟨h1,h2,fun c hc=>by
  obtain⟨i,hi,rfl⟩:=List.getElem_of_mem hc;exact t.rlen (t.read (h6 i (by omega) hi)),h3,h4,h5,fun i h h' _=>h6 i h h'⟩,css[k]'(by omega),Ak (by omega),h6 k hk (by omega)⟩
variable {css:List (List Value)} {Fs:Nat->Nat->Prop} {k:Nat}
theorem OH.fits(h:OH t e w F v xs css Fs k):∀b,Fs k b->F b:=fun b hb=>(h.2.2.2.2.1 k b hb).1
theorem OH.form{A:Yo}{m c:Nat}(h:OH t e w F (.slice A m c) xs css Fs k)(hk:k<xs.length):∃g,A=some ⟨g,0,none⟩/\F g/\¬Fs k g/\g<w.heap.size/\m=xs.length:=by
 obtain⟨h1,h2,h3,h4,h5,h6,h7⟩:=h;rcases h1.2 with⟨h0,_⟩|⟨g,cap,cur,h0,hg1,hg2,_⟩
 ·simp only[Cz]at h0;omega
 simp only[Cz]at h0;obtain⟨rfl,rfl,rfl⟩:=h0;exact⟨g,rfl,h4 g rfl,fun hf=>(h5 k g hf).2 rfl,(Array.getElem?_eq_some_iff.1 hg2).1,rfl⟩
theorem OH.cell{g m c:Nat}(h:OH t e w F (.slice (some ⟨g,0,none⟩) m c) xs css Fs k){cs:List Value}(hcs:css[k]?=some cs){j:Nat}{u:Value}(hj:cs[j]?=some u):
 w.cell? ⟨g,k*t.s+j,none⟩=some u/\w.frozen? ⟨g,k*t.s+j,none⟩=false:=by
 obtain⟨h1,h2,h3,_⟩:=h;have hk:k<css.length:=(Bk.1 hcs).1
 have hm:m=xs.length:=by
  rcases h1.2 with⟨h0,_⟩|⟨g',cap,cur,h0,_⟩
  ·simp at h0
  simp only[Cz]at h0;exact h0.2.1
 subst hm;have hl:cs.length=t.s:=h3 cs (Eg hcs);have hjs:j<t.s:=by rw[<-hl];exact(Bk.1 hj).1
 have hf:=zin h3 hcs j hjs;rw[hj]at hf;have hlt:=(Bk.1 hf).1;exact⟨by rw[World.ownsRow.cellAt h1 _ (by rw[<-h1.1];exact hlt)];exact hf,World.ownsRow.frozenAt h1 _⟩
theorem OH.set{g m c:Nat}(h:OH t e w F (.slice (some ⟨g,0,none⟩) m c) xs css Fs k){cs:List Value}(hcs:css[k]?=some cs)(j:Nat)(hj:j<t.s)(u:Value):
 OH t e (w.setCell ⟨g,k*t.s+j,none⟩ u) F (.slice (some ⟨g,0,none⟩) m c) xs (css.set k (cs.set j u)) Fs k/\(css.set k (cs.set j u))[k]?=some (cs.set j u):=by
 obtain⟨h1,h2,h3,h4,h5,h6,h7⟩:=h;have hk:k<css.length:=(Bk.1 hcs).1
 have hm:m=xs.length:=by
  rcases h1.2 with⟨h0,_⟩|⟨g',cap,cur,h0,_⟩
  ·simp at h0
  simp only[Cz]at h0;exact h0.2.1
 subst hm;have hl:cs.length=t.s:=h3 cs (Eg hcs);have hst:=(World.ownsRow.stored h1 (k*t.s+j) u).1;rw[zqo h3 hcs hj]at hst;refine⟨⟨hst,by rw[Fx];exact h2,fun c hc=>?_,h4,h5,h6,fun i hi hi' hne=>?_⟩,by simp[hk]⟩
 ·rcases List.mem_or_eq_of_mem_set hc with hc|rfl
  ·exact h3 c hc
  rw[Fx];exact hl
 rw[List.getElem_set_ne (fun e=>hne e.symm)];refine t.okeep (fun b hb=>?_) (h7 i hi (by rw[Fx]at hi';exact hi') hne);exact Fg w ⟨g,k*t.s+j,none⟩ b u (fun e=>(h5 i b hb).2 (by rw[e];rfl))
theorem OH.chg(h:OH t e w F v xs css Fs k)(hc:Chg (Fs k) w w'):OH t e w' F v xs css Fs k:=by
 obtain⟨h1,h2,h3,h4,h5,h6,h7⟩:=h;refine⟨⟨h1.1,?_⟩,h2,h3,h4,h5,h6,fun i hi hi' hne=>?_⟩
 ·rcases h1.2 with hn|⟨g,cap,cur,rfl,hb,hg,rest⟩
  ·exact .inl hn
  exact .inr ⟨g,cap,cur,rfl,hb,by rw[hc.block g (Array.getElem?_eq_some_iff.1 hg).1 (fun hf=>(h5 k g hf).2 rfl)];exact hg,rest⟩
 have ho:=h7 i hi hi' hne;exact t.owide (fun b hb=>hb.1) (t.okeep (fun b hb=>hc.block b hb.2 (fun hk=>h6 k i b (fun e=>hne e.symm) hk hb.1)) (t.oreal ho))
theorem OH.keep(h:OH t e w F v xs css Fs k)(hk:∀b,F b->w'.heap[b]?=w.heap[b]?):OH t e w' F v xs css Fs k:=by
 obtain⟨h1,h2,h3,h4,h5,h6,h7⟩:=h;refine⟨⟨h1.1,?_⟩,h2,h3,h4,h5,h6,fun i hi hi' hne=>t.okeep (fun b hb=>hk b (h5 i b hb).1) (h7 i hi hi' hne)⟩;rcases h1.2 with hn|⟨g,cap,cur,rfl,hb,hg,rest⟩
 ·exact .inl hn
 exact .inr ⟨g,cap,cur,rfl,hb,by rw[hk g (h4 g rfl)];exact hg,rest⟩
theorem OH.fill(h:OH t e w F v xs css Fs k){cs:List Value}(hcs:css[k]?=some cs){y:α}(hy:t.O w (Fs k) cs y):OS t e w F v (xs.set k y):=by
 obtain⟨h1,h2,h3,h4,h5,h6,h7⟩:=h;refine⟨css,Fs,by rw[Fx];exact h1,by rw[Fx];exact h2,h4,h5,h6,fun i hi hi'=>?_⟩
 by_cases hik:i=k
 ·subst hik;rw[List.getElem_set_self];rw[Ak hi',Dq]at hcs;rw[hcs];exact hy
 rw[List.getElem_set_ne (fun e=>hik e.symm)];exact h7 i (by rw[Fx]at hi;exact hi) hi' hik
theorem OH.fill'(h:OH t e w F v xs css Fs k){cs:List Value}(hcs:css[k]?=some cs){y:α}{Fe:Nat->Prop}(hy:t.O w Fe cs y)(hd:∀b,Fe b->¬F b):OS t e w (fun b=>F b\/Fe b) v (xs.set k y):=by
 obtain⟨h1,h2,h3,h4,h5,h6,h7⟩:=h;refine⟨css,fun i=>if i=k then Fe else Fs i,by rw[Fx];exact h1,by rw[Fx];exact h2,fun g hg=>.inl (h4 g hg),fun i b hb=>?_,fun i j b hne hi hj=>?_,fun i hi hi'=>?_⟩
 ·change (if i=k then Fe else Fs i) b at hb
  by_cases hik:i=k
  ·rw[if_pos hik]at hb;exact⟨.inr hb,fun hg=>hd b hb (h4 b hg)⟩
  rw[if_neg hik]at hb;exact⟨.inl (h5 i b hb).1,(h5 i b hb).2⟩
 ·change (if i=k then Fe else Fs i) b at hi;change (if j=k then Fe else Fs j) b at hj
  by_cases hik:i=k
  ·rw[if_pos hik]at hi;rw[if_neg (fun e=>hne (hik.trans e.symm))]at hj;exact hd b hi (h5 j b hj).1
  rw[if_neg hik]at hi
  by_cases hjk:j=k
  ·rw[if_pos hjk]at hj;exact hd b hj (h5 i b hi).1
  rw[if_neg hjk]at hj;exact h6 i j b hne hi hj
 by_cases hik:i=k
 ·subst hik;rw[List.getElem_set_self];rw[Ak hi',Dq]at hcs;rw[hcs];simpa using hy
 rw[List.getElem_set_ne (fun e=>hik e.symm)];simpa [hik]using h7 i (by rw[Fx]at hi;exact hi) hi' hik
theorem OS.made{zc:List Value}{n:Nat}{z:Value}{c:Nat}(hz:∀w F,t.O w F zc t.zero)(hzl:z.cells.toList=zc)(hF:F w.heap.size)(h:w'.ownsRow w.heap.size e t.s (.slice (some ⟨w.heap.size,0,none⟩) n c) n (madeCells z.cells (n*t.s)).toList):
 OS t e w' F (.slice (some ⟨w.heap.size,0,none⟩) n c) (List.replicate n t.zero):=by
 have hl:zc.length=t.s:=t.rlen (t.read (hz w F));have hm:=zlq (enc:=fun _:Unit=>zc) (s:=t.s) z.cells n () hzl.symm (fun _=>hl) t.pos;refine⟨List.replicate n zc,fun _ _=>False,?_,by simp,fun g hg=>?_,fun _ _ h=>h.elim,fun _ _ _ _ h=>h.elim,fun k hk hk'=>by simpa using hz w' _⟩
 ·rw[Fz];rw[hm]at h
  have e0:(List.replicate n ()).flatMap (fun _=>zc)=(List.replicate n zc).flatten:=by
   rw[List.flatMap_def,List.map_replicate]
  rw[e0]at h;exact zhl h (Nat.zero_le _)
 simp only[Value.ownBlock,Dq]at hg;rw[<-hg];exact hF
theorem OS.lt(h:OS t e w F v xs):∀g,v.ownBlock=some g->F g/\g<w.heap.size:=by
 obtain⟨css,Fs,h1,_,h3,_⟩:=h;exact fun g hg=>⟨h3 g hg,(h1.lt g hg).2⟩
theorem OS.real(h:OS t e w F v xs):OS t e w (fun b=>F b/\b<w.heap.size) v xs:=by
 obtain⟨css,Fs,h1,h2,h3,h4,h5,h6⟩:=h;exact⟨css,_,h1,h2,fun g hg=>⟨h3 g hg,(h1.lt g hg).2⟩,fun k b hb=>⟨⟨(h4 k b hb.1).1,hb.2⟩,(h4 k b hb.1).2⟩,fun j k b hne h h'=>h5 j k b hne h.1 h'.1,fun k h h'=>t.oreal (h6 k h h')⟩
theorem OS.chg(h:OS t e w F v xs)(hc:Chg F' w w')(hd:∀b,F b->¬F' b):OS t e w' F v xs:=
 (h.real.keep fun b hb=>hc.block b hb.2 (hd b hb.1)).wide fun _ hb=>hb.1
end
section
variable {α:Type} {t:Ty α} {P:Program} {T e:TypeId} {z:Value} {bytes:Nat}
theorem za8(hE:EI P T e z t.s bytes){w:Yw}{ops:Array Oper}{rest:List Oper}{o:Oper}{a:Act}{Q:Exit->Act->Yw->Prop}(us:Array Value)
 (hgd:o.guard=none) (s x:Operand) (ho:o.op=.call { callee:=.builtin .append,args:=#[s,x],argTypes:=#[T,T] })
 {F Fe:Nat->Prop} {v:Value} {xs:List α} {y:α} (hown:OS t e w F v xs) (hy:t.O w Fe us.toList y) (hd:∀b,F b->¬Fe b) (hs:a.eval s=v)
 (hx:a.eval x=.slice (some ⟨w.heap.size,0,none⟩) 1 1)
 (hn:xs.length+1<=maxLen) (hbytes:(xs.length+1)*bytes<=140737488355328)
 (K:∀v' w',OS t e w' (fun b=>F b\/Fe b\/w.heap.size<b/\b<w'.heap.size) v' (xs++[y])->Chg F w w'->wpList P ops Q rest (a.put o.dst v') w') :
 wpList P ops Q (o::rest) a (w.alloc (.cells us e)):=by
 obtain⟨ht,hinfo,hzs,hsz⟩:=hE;obtain⟨i0,hi,hz0,hz1,hz2⟩:=info_parts hinfo;have hown':=hown.real;have hy':=t.oreal hy;obtain⟨css,Fs,h1,h2,h3,h4,h5,h6⟩:=hown';have hus:us.toList.length=t.s:=t.rlen (t.read hy);refine wpList_append_own_at _ hgd s x T ho 0 e i0 z t.s bytes ht hi hz0 hz1 hz2 hzs hsz v xs.length css.flatten hs (h1.alloc _) ⟨w.heap.size,0,none⟩ 1 1 us.toList hx (by rw[hus,Nat.one_mul]) ?_ (t.ocells hy) hn hbytes (Nat.zero_le _) ?_
 ·intro j u hj;have hadd:(⟨w.heap.size,0,none⟩:Addr).add j=⟨w.heap.size,j,none⟩:=by unfold Addr.add;split <;> simp_all
  rw[hadd,cell_of_row _ w.heap.size j us e (0,0) (Df w _)];simpa using hj
 intro v' w' g1 g2 _ g4;have hsz':(w.alloc (.cells us e)).heap.size=w.heap.size+1:=by simp
 have hg:w.grownBy w' v.ownBlock:=by
  have:=World.grownBy_alloc w (.cells us e) none
  exact⟨g2.os.trans this.os,g2.tape.trans this.tape,g2.output.trans this.output,Nat.le_trans this.size g2.size,fun k hk hne=>by
   rw[g2.block k (by simp;omega) hne];exact this.block k hk (by simp)⟩
 have hc:Chg F w w':=Chg.of_grown hg fun k hk=>(h3 k hk).1
 refine K v' w' ⟨css++[us.toList],fun i b=>if i=xs.length then Fe b/\b<w.heap.size else Fs i b,?_,by simp[h2],fun g hgb=>?_,fun i b hb=>?_,fun i j b hne hbi hbj=>?_,fun i hi1 hi2=>?_⟩ hc
 ·rw[List.flatten_append,Cw];simpa using g1
 ·rcases g4 with h|h
  ·rw[h]at hgb;exact .inl (h3 g hgb).1
  rw[h,hsz',Dq]at hgb;exact .inr (.inr ⟨by omega,(g1.lt g (by rw[h,hsz'];simp;omega)).2⟩)
 ·change (if i=xs.length then Fe b/\b<w.heap.size else Fs i b)at hb
  have hlt:b<w.heap.size:=by
   by_cases hil:i=xs.length
   ·rw[if_pos hil]at hb;exact hb.2
   rw[if_neg hil]at hb;exact(h4 i b hb).1.2
  refine⟨?_,?_⟩
  ·by_cases hil:i=xs.length
   ·rw[if_pos hil]at hb;exact .inr (.inl hb.1)
   rw[if_neg hil]at hb;exact .inl (h4 i b hb).1.1
  rcases g4 with h|h
  ·rw[h]
   by_cases hil:i=xs.length
   ·rw[if_pos hil]at hb;exact fun e=>hd b (h3 b e).1 hb.1
   rw[if_neg hil]at hb;exact(h4 i b hb).2
  rw[h,hsz'];intro e;injection e with e
  omega
 ·change (if i=xs.length then Fe b/\b<w.heap.size else Fs i b)at hbi;change (if j=xs.length then Fe b/\b<w.heap.size else Fs j b)at hbj
  by_cases hil:i=xs.length
  ·rw[if_pos hil]at hbi;rw[if_neg (fun e=>hne (hil.trans e.symm))]at hbj;exact hd b (h4 j b hbj).1.1 hbi.1
  rw[if_neg hil]at hbi
  by_cases hjl:j=xs.length
  ·rw[if_pos hjl]at hbj;exact hd b (h4 i b hbi).1.1 hbj.1
  rw[if_neg hjl]at hbj;exact h5 i j b hne hbi hbj
 by_cases hil:i=xs.length
 ·subst hil;rw[List.getElem_append_right (by omega),List.getElem_append_right (by omega)];simp only[h2,Nat.sub_self,List.getElem_singleton,if_true];exact t.okeep (fun b hb=>hg.block b hb.2 (fun e=>hd b (h3 b e.symm).1 hb.1)) hy'
 have hi':i<xs.length:=by rw[Cw]at hi1;simp at hi1;omega
 rw[List.getElem_append_left (by omega),List.getElem_append_left hi'];simp only[if_neg hil];exact t.okeep (fun b hb=>hg.block b (h4 i b hb).1.2 (fun e=>(h4 i b hb).2 e.symm)) (h6 i hi' (by omega))
end
end
section
section
variable {α:Type} (t:Ty α) {w w':Yw} {B lo hi lo' hi' l r:Nat} {cs:List Value} {x:α} {F F':Nat->Prop}
theorem Ty.below(h:t.R w B cs x)(hb:Below B w w'):t.R w' B cs x:=t.keep (fun _ hp=>hb.cell hp) h
theorem Ty.later(h:t.R w w.heap.size cs x)(hb:Below w.heap.size w w'):t.R w' w'.heap.size cs x:=t.more hb.size (t.below h hb)
theorem Ty.omid(h:t.O w (Iv lo hi) cs x)(hm:Mid l r w w')(hd:hi<=l\/r<=lo)(hs:hi<=w.heap.size):t.O w' (Iv lo hi) cs x:=
 t.okeep (fun b ⟨h1,h2⟩=>hm.block b (by omega) (by omega)) h
theorem Ty.oiv(h:t.O w (Iv lo hi) cs x)(h1:lo'<=lo)(h2:hi<=hi'):t.O w (Iv lo' hi') cs x:=t.owide (Iv.mono h1 h2) h
theorem Ty.ochg(h:t.O w F cs x)(hc:Chg F' w w')(hd:∀b,F b->¬F' b):t.O w' F cs x:=t.owide (fun b hb=>hb.1) (t.okeep (fun b hb=>hc.block b hb.2 (hd b hb.1)) (t.oreal h))
end
section
variable {w w':Yw} {B lo hi n c:Nat} {A :Yo} {v:Value} {e:TypeId}
theorem RS.flat{α:Type}{s:Nat}{pos:0<s}{zero:α}{enc:α->List Value}{henc:∀x,(enc x).length=s}{h1:∀x,∀u∈enc x,u.oneCell'=true}{xs:List α}
 (h:RS (Ty.flat s pos zero enc henc h1) w B (.slice A n c) xs):RA enc s w B A n xs/\n<=c/\c<=maxLen:=by
 obtain⟨A',c',css,hv,h1',h2,h3,h4,h5⟩:=h;simp only[Cz]at hv;obtain⟨rfl,rfl,rfl⟩:=hv;refine⟨⟨rfl,?_⟩,h1',h2⟩
 have e0:css=xs.map enc:=by
  apply List.ext_getElem (by simp[h3]);intro i hi hi';rw[List.getElem_map];exact h5 i (by omega) hi
 rw[List.flatMap_def,<-e0];exact h4
theorem RS.of_flat{α:Type}{s:Nat}{pos:0<s}{zero:α}{enc:α->List Value}{henc:∀x,(enc x).length=s}{h1:∀x,∀u∈enc x,u.oneCell'=true}{xs:List α}
 (h:RA enc s w B A n xs) (hc:n<=c) (hm:c<=maxLen):RS (Ty.flat s pos zero enc henc h1) w B (.slice A n c) xs:=by
 obtain⟨rfl,h2⟩:=h;rw[List.flatMap_def]at h2
 exact⟨A,c,xs.map enc,rfl,hc,hm,by simp,h2,fun k hk hk'=>by
  show (xs.map enc)[k]=enc xs[k]
  rw[List.getElem_map]⟩
theorem OS.flat{α:Type}{s:Nat}{pos:0<s}{zero:α}{enc:α->List Value}{henc:∀x,(enc x).length=s}{h1:∀x,∀u∈enc x,u.oneCell'=true}{xs:List α}
 (h:OS (Ty.flat s pos zero enc henc h1) e w (Iv lo hi) v xs):OA enc e s lo hi w v xs:=by
 obtain⟨css,Fs,g1,g2,g3,_,_,g6⟩:=h
 have e0:css=xs.map enc:=by
  apply List.ext_getElem (by simp[g2]);intro i hi hi';rw[List.getElem_map];exact g6 i (by omega) hi
 subst e0;refine⟨⟨by rw[List.flatMap_def];exact g1.1,?_⟩,fun k hk=>(g3 k hk).2⟩;rcases g1.2 with hn|⟨g,cap,cur,rfl,hb,rest⟩
 ·exact .inl hn
 rw[List.flatMap_def];exact .inr ⟨g,cap,cur,rfl,(g3 g rfl).1,rest⟩
theorem OS.of_flat{α:Type}{s:Nat}{pos:0<s}{zero:α}{enc:α->List Value}{henc:∀x,(enc x).length=s}{h1:∀x,∀u∈enc x,u.oneCell'=true}{xs:List α}
 (h:OA enc e s lo hi w v xs):OS (Ty.flat s pos zero enc henc h1) e w (Iv lo hi) v xs:=by
 refine⟨xs.map enc,fun _ _=>False,?_,by simp,fun g hg=>⟨(h.1.lt g hg).1,h.2 g hg⟩,fun _ _ h=>h.elim,fun _ _ _ _ h=>h.elim,fun k hk hk'=>?_⟩
 ·rw[<-List.flatMap_def];exact zhl h.1 (Nat.zero_le _)
 show (xs.map enc)[k]=enc xs[k]
 rw[List.getElem_map]
theorem zio(xs:List Int):xs.flatMap (fun x:Int=>[Value.int .i64 x])=xs.map (.int .i64):=by
 induction xs with
 | nil=>rfl
 | cons y ys ih=>rw[List.flatMap_cons,ih];rfl
theorem RS.ri{xs:List Int}(h:RS tI w B (.slice A n c) xs):RI w B A n xs:=by
 have:=h.flat.1.2;rw[zio]at this;exact this
theorem RS.of_ri{xs:List Int}(h:RI w B A n xs)(hc:n<=c)(hm:c<=maxLen):RS tI w B (.slice A n c) xs:=
 RS.of_flat ⟨h.len,by rw[zio];exact h⟩ hc hm
theorem OS.oi{xs:List Int}(h:OS tI e w (Iv lo hi) v xs):OI e lo w v xs:=by
 have:=h.flat.1;rw[zio]at this;exact this
theorem OS.of_oi{xs:List Int}(h:OI e lo w v xs)(hh:∀k,v.ownBlock=some k->k<hi):OS tI e w (Iv lo hi) v xs:=
 OS.of_flat ⟨by rw[zio];exact h,hh⟩
theorem OI.os{xs:List Int}(h:OI e lo w v xs):OS tI e w (Iv lo w.heap.size) v xs:=OS.of_oi h fun k hk=>(Gq h k hk).2
end
structure Hs (α:Type) where
 sz:α->Nat
 mark:Int->α->α
 cnt:α->Nat
def hI:Hs Int:=⟨fun _=>0,fun k _=>k,fun _=>1⟩
section
variable {α β:Type}
def Hs.mkL (h:Hs α):Int->List α->List α
 | _,[]=>[]
 | k,x::xs=>h.mark k x::h.mkL (k+h.cnt x) xs
def Hs.cntL (h:Hs α):List α->Nat
 | []=>0
 | x::xs=>h.cnt x+h.cntL xs
def Hs.szL (h:Hs α):List α->Nat
 | []=>0
 | x::xs=>h.sz x+h.szL xs
def Hs.sl (h:Hs α):Hs (List α):=⟨fun xs=>xs.length+h.szL xs,h.mkL,h.cntL⟩
def Hs.prod (a:Hs α) (b:Hs β):Hs (α×β):=⟨fun x=>a.sz x.1+b.sz x.2,fun k x=>(a.mark k x.1,b.mark (k+a.cnt x.1) x.2),fun x=>a.cnt x.1+b.cnt x.2⟩
theorem Hs.szL_take(h:Hs α){xs:List α}{i:Nat}{x:α}(hx:xs[i]?=some x):h.szL (xs.take (i+1))=h.szL (xs.take i)+h.sz x:=by
 induction xs generalizing i with
 | nil=>simp at hx
 | cons y ys ih=>
  cases i with
  | zero=>simp at hx;subst hx;simp[Hs.szL]
  | succ i=>
   simp only[By]at hx;rw[List.take_succ_cons,List.take_succ_cons,Hs.szL,Hs.szL,ih hx];omega
theorem Hs.szL_mono(h:Hs α)(xs:List α)(i:Nat):h.szL (xs.take i)<=h.szL xs:=by
 induction xs generalizing i with
 | nil=>simp
 | cons y ys ih=>
  cases i with
  | zero=>simp[Hs.szL]
  | succ i=>rw[List.take_succ_cons,Hs.szL,Hs.szL];have:=ih i;omega
theorem Hs.szL_at(h:Hs α){xs:List α}{i:Nat}{x:α}(hx:xs[i]?=some x):h.szL (xs.take i)+h.sz x<=h.szL xs:=by
 rw[<-h.szL_take hx];exact h.szL_mono _ _
end
theorem zqp(xs:List Int):hI.szL xs=0:=by
 induction xs with
 | nil=>rfl
 | cons x xs ih=>rw[Hs.szL,ih];rfl
end
abbrev tS:Ty (List Int):=tI.sl 2
abbrev hS:Hs (List Int):=hI.sl
theorem zb3(xs:List Int):hS.sz xs=xs.length:=by show xs.length+hI.szL xs=_;rw[zqp];rfl
theorem tS_R{w:Yw}{B:Nat}{A:Yo}{n c:Nat}{xs:List Int}:tS.R w B [.slice A n c] xs↔RS tI w B (.slice A n c) xs:=
 ⟨fun⟨v,h,h'⟩=>by injection h with h;rw[h];exact h',fun h=>⟨_,rfl,h⟩⟩
theorem tS_O{w:Yw}{F:Nat->Prop}{v:Value}{xs:List Int}:tS.O w F [v] xs↔OS tI 2 w F v xs:=
 ⟨fun⟨v,h,h'⟩=>by injection h with h;rw[h];exact h',fun h=>⟨_,rfl,h⟩⟩
theorem zcu{w:Yw}{B:Nat}{A:Yo}{n c:Nat}{xs:List Int}(h:tS.R w B [.slice A n c] xs):xs.length=n:=(tS_R.1 h).cap.1
section
section
variable {α:Type} {t:Ty α} {e:TypeId} {w:Yw} {B:Nat} {F:Nat->Prop} {v:Value} {xs:List α}
theorem sl_R:(t.sl e).R w B [v] xs↔RS t w B v xs:=⟨fun⟨v,h,h'⟩=>by injection h with h;rw[h];exact h',fun h=>⟨_,rfl,h⟩⟩
theorem sl_O:(t.sl e).O w F [v] xs↔OS t e w F v xs:=⟨fun⟨v,h,h'⟩=>by injection h with h;rw[h];exact h',fun h=>⟨_,rfl,h⟩⟩
end
theorem zqq{w:Yw}{B:Nat}{cs:List Value}{x:List Int}(h:tS.R w B cs x):∃A n c,cs=[.slice A n c]:=by
 obtain⟨v,rfl,hr⟩:=h;obtain⟨A,c,rfl⟩:=hr.shape;exact⟨_,_,_,rfl⟩
theorem OS.openAt{α:Type}{t:Ty α}{e:TypeId}{w:Yw}{F:Nat->Prop}{v:Value}{xs:List α}(h:OS t e w F v xs){k:Nat}{x:α}(hx:xs[k]?=some x):∃css Fs,OH t e w F v xs css Fs k/\∃cs,css[k]?=some cs/\t.O w (Fs k) cs x:=by
 obtain⟨hk,rfl⟩:=Bk.1 hx;exact h.open hk
theorem RS.atX{α:Type}{t:Ty α}{w:Yw}{B:Nat}{v:Value}{xs:List α}(h:RS t w B v xs){k:Nat}{x:α}(hx:xs[k]?=some x):∃b o c cs,v=.slice (some ⟨b,o,none⟩) xs.length c/\b<B/\cs.length=t.s/\t.R w B cs x/\∀j u,cs[j]?=some u->w.cell? ⟨b,o+k*t.s+j,none⟩=some u:=by
 obtain⟨hk,rfl⟩:=Bk.1 hx;exact h.at hk
abbrev tSS:Ty (List (List Int)):=tS.sl 24
abbrev hSS:Hs (List (List Int)):=hS.sl
end
theorem zc6:EI Tryz.prog 96 165 (.agg #[.int .i64 0,.int .i64 0,.int .i64 0,.int .i64 0,.int .i64 0]) 5 40:=⟨Tryz.underlying96,by kernel_rfl,rfl,by decide⟩
def cl (p:(Int×Int×Int×Int×Int)):List Value:=[.int .i64 p.1,.int .i64 p.2.1,.int .i64 p.2.2.1,.int .i64 p.2.2.2.1,.int .i64 p.2.2.2.2]
theorem zde(p:(Int×Int×Int×Int×Int)):(cl p).length=5:=rfl
abbrev tCl:Ty (Int×Int×Int×Int×Int):=Ty.flat 5 (by decide) (0,0,0,0,0) cl zde (by simp[cl,Value.oneCell'])
abbrev hCl:Hs (Int×Int×Int×Int×Int):=hI.prod (hI.prod (hI.prod (hI.prod hI)))
abbrev tT:Ty (List (Int×Int×Int×Int×Int)):=tCl.sl 165
abbrev hT:Hs (List (Int×Int×Int×Int×Int)):=hCl.sl
theorem zqr(xs:List (Int×Int×Int×Int×Int)):hCl.szL xs=0:=by
 induction xs with
 | nil=>rfl
 | cons x xs ih=>rw[Hs.szL,ih];rfl
theorem zlr(xs:List (Int×Int×Int×Int×Int)):hT.sz xs=xs.length:=by show xs.length+hCl.szL xs=_;rw[zqr];rfl
def pt (p:Int×Int):List Value:=[.int .i64 p.1,.int .i64 p.2]
theorem zls(w:Yw)(u:Value)(e:TypeId):(w.alloc (.cells #[u] e)).cell? ⟨w.heap.size,0,none⟩=some u:=by
 rw[cell_of_row _ w.heap.size 0 #[u] e (0,0) (Df w _)]
 rfl
theorem Mid.cell(w:Yw)(b o:Nat)(u:Value):Mid b (b+1) w (w.setCell ⟨b,o,none⟩ u):=
 Mid.of_grown (zc0 w b o u) fun k hk=>by
  injection hk with hk
  omega
def z0g (xs:List (Int×Int)) (k:Nat):Bool:=k == 0||decide (((xs[k-1]?).getD (0,0)).1<((xs[k]?).getD (0,0)).1)
theorem zlt{n:Nat}{f:Nat->Bool}(h:∀j,j<n->f j=true):(List.range n).all f=true:=by
 rw[Ef];intro j hj;exact h j (Gj.1 hj)
theorem zip{n k:Nat}{f:Nat->Bool}(hk:k<n)(h:f k=false):(List.range n).all f=false:=by
 rw[List.all_eq_false];exact⟨k,Gj.2 hk,by simp[h]⟩
theorem za3{n a b:Int}:M.inn n a b=true↔a<=n/\n<=b:=by simp[M.inn]
end Go.Proofs.YtifeldeikhmckaaGreat
