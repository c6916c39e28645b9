import Derived.Test.YtifeldeikhmckaaGreatFnExactOptimizeSessionG2
import Derived.Test.YtifeldeikhmckaaGreatFnExactOptimizeSessionG1
set_option linter.unusedVariables false
set_option linter.unusedSimpArgs false
set_option maxRecDepth 100000
set_option maxHeartbeats 4000000
namespace Go.Proofs.YtifeldeikhmckaaGreat
open Go.RowKit
section
section
variable {α:Type} (t:Ty α) {w w':Yw} {B lo hi lo' hi' l r:Nat} {cs:List Value} {x:α} {F F':Nat->Prop}
theorem Ty.below(h:t.R w B cs x)(hb:Below B w w'):t.R w' B cs x:=t.keep (fun _ hp=>hb.cell hp) h
theorem Ty.later(h:t.R w w.heap.size cs x)(hb:Below w.heap.size w w'):t.R w' w'.heap.size cs x:=t.more hb.size (t.below h hb)
theorem Ty.obelow(h:t.O w (Iv lo hi) cs x)(hb:Below B w w')(hB:hi<=B):t.O w' (Iv lo hi) cs x:=t.okeep (fun b hF=>hb.block b (Nat.lt_of_lt_of_le hF.2 hB)) h
theorem Ty.omid(h:t.O w (Iv lo hi) cs x)(hm:Mid l r w w')(hd:hi<=l\/r<=lo)(hs:hi<=w.heap.size):t.O w' (Iv lo hi) cs x:=
 t.okeep (fun b ⟨h1,h2⟩=>hm.block b (by omega) (by omega)) h
theorem Ty.oiv(h:t.O w (Iv lo hi) cs x)(h1:lo'<=lo)(h2:hi<=hi'):t.O w (Iv lo' hi') cs x:=t.owide (Iv.mono h1 h2) h
theorem Ty.ochg(h:t.O w F cs x)(hc:Chg F' w w')(hd:∀b,F b->¬F' b):t.O w' F cs x:=t.owide (fun b hb=>hb.1) (t.okeep (fun b hb=>hc.block b hb.2 (hd b hb.1)) (t.oreal h))
end
section
variable {w w':Yw} {B lo hi n c:Nat} {A :Yo} {v:Value} {e:TypeId}
theorem RS.flat{α:Type}{s:Nat}{pos:0<s}{zero:α}{enc:α->List Value}{henc:∀x,(enc x).length=s}{h1:∀x,∀u∈enc x,u.oneCell'=true}{xs:List α}
 (h:RS (Ty.flat s pos zero enc henc h1) w B (.slice A n c) xs):RA enc s w B A n xs/\n<=c/\c<=maxLen:=by
 obtain⟨A',c',css,hv,h1',h2,h3,h4,h5⟩:=h;simp only[Value.slice.injEq]at hv;obtain⟨rfl,rfl,rfl⟩:=hv;refine⟨⟨rfl,?_⟩,h1',h2⟩
 have e0:css=xs.map enc:=by
  apply List.ext_getElem (by simp[h3]);intro i hi hi';rw[List.getElem_map];exact h5 i (by omega) hi
 rw[List.flatMap_def,<-e0];exact h4
theorem RS.of_flat{α:Type}{s:Nat}{pos:0<s}{zero:α}{enc:α->List Value}{henc:∀x,(enc x).length=s}{h1:∀x,∀u∈enc x,u.oneCell'=true}{xs:List α}
 (h:RA enc s w B A n xs) (hc:n<=c) (hm:c<=maxLen):RS (Ty.flat s pos zero enc henc h1) w B (.slice A n c) xs:=by
 obtain⟨rfl,h2⟩:=h;rw[List.flatMap_def]at h2
 exact⟨A,c,xs.map enc,rfl,hc,hm,by simp,h2,fun k hk hk'=>by
  show (xs.map enc)[k]=enc xs[k]
  rw[List.getElem_map]⟩
theorem OS.flat{α:Type}{s:Nat}{pos:0<s}{zero:α}{enc:α->List Value}{henc:∀x,(enc x).length=s}{h1:∀x,∀u∈enc x,u.oneCell'=true}{xs:List α}
 (h:OS (Ty.flat s pos zero enc henc h1) e w (Iv lo hi) v xs):OA enc e s lo hi w v xs:=by
 obtain⟨css,Fs,g1,g2,g3,_,_,g6⟩:=h
 have e0:css=xs.map enc:=by
  apply List.ext_getElem (by simp[g2]);intro i hi hi';rw[List.getElem_map];exact g6 i (by omega) hi
 subst e0;refine⟨⟨by rw[List.flatMap_def];exact g1.1,?_⟩,fun k hk=>(g3 k hk).2⟩;rcases g1.2 with hn|⟨g,cap,cur,rfl,hb,rest⟩
 ·exact .inl hn
 rw[List.flatMap_def];exact .inr ⟨g,cap,cur,rfl,(g3 g rfl).1,rest⟩
theorem OS.of_flat{α:Type}{s:Nat}{pos:0<s}{zero:α}{enc:α->List Value}{henc:∀x,(enc x).length=s}{h1:∀x,∀u∈enc x,u.oneCell'=true}{xs:List α}
 (h:OA enc e s lo hi w v xs):OS (Ty.flat s pos zero enc henc h1) e w (Iv lo hi) v xs:=by
 refine⟨xs.map enc,fun _ _=>False,?_,by simp,fun g hg=>⟨(h.1.lt g hg).1,h.2 g hg⟩,fun _ _ h=>h.elim,fun _ _ _ _ h=>h.elim,fun k hk hk'=>?_⟩
 ·rw[<-List.flatMap_def];exact zg1 h.1 (Nat.zero_le _)
 show (xs.map enc)[k]=enc xs[k]
 rw[List.getElem_map]
theorem zfk(xs:List Int):xs.flatMap (fun x:Int=>[Value.int .i64 x])=xs.map (.int .i64):=by
 induction xs with
 | nil=>rfl
 | cons y ys ih=>rw[List.flatMap_cons,ih];rfl
theorem RS.ri{xs:List Int}(h:RS tI w B (.slice A n c) xs):RI w B A n xs:=by
 have:=h.flat.1.2;rw[zfk]at this;exact this
theorem RS.of_ri{xs:List Int}(h:RI w B A n xs)(hc:n<=c)(hm:c<=maxLen):RS tI w B (.slice A n c) xs:=
 RS.of_flat ⟨h.len,by rw[zfk];exact h⟩ hc hm
theorem OS.oi{xs:List Int}(h:OS tI e w (Iv lo hi) v xs):OI e lo w v xs:=by
 have:=h.flat.1;rw[zfk]at this;exact this
theorem OS.of_oi{xs:List Int}(h:OI e lo w v xs)(hh:∀k,v.ownBlock=some k->k<hi):OS tI e w (Iv lo hi) v xs:=
 OS.of_flat ⟨by rw[zfk];exact h,hh⟩
theorem OI.os{xs:List Int}(h:OI e lo w v xs):OS tI e w (Iv lo w.heap.size) v xs:=OS.of_oi h fun k hk=>(World.ownsRow.lt h k hk).2
end
structure Hs (α:Type) where
 sz:α->Nat
 mark:Int->α->α
 cnt:α->Nat
def hI:Hs Int:=⟨fun _=>0,fun k _=>k,fun _=>1⟩
section
variable {α β:Type}
def Hs.mkL (h:Hs α):Int->List α->List α
 | _,[]=>[]
 | k,x::xs=>h.mark k x::h.mkL (k+h.cnt x) xs
def Hs.cntL (h:Hs α):List α->Nat
 | []=>0
 | x::xs=>h.cnt x+h.cntL xs
def Hs.szL (h:Hs α):List α->Nat
 | []=>0
 | x::xs=>h.sz x+h.szL xs
def Hs.sl (h:Hs α):Hs (List α):=⟨fun xs=>xs.length+h.szL xs,h.mkL,h.cntL⟩
def Hs.prod (a:Hs α) (b:Hs β):Hs (α×β):=⟨fun x=>a.sz x.1+b.sz x.2,fun k x=>(a.mark k x.1,b.mark (k+a.cnt x.1) x.2),fun x=>a.cnt x.1+b.cnt x.2⟩
theorem Hs.mkL_len(h:Hs α)(k:Int)(xs:List α):(h.mkL k xs).length=xs.length:=by
 induction xs generalizing k with
 | nil=>rfl
 | cons x xs ih=>simp[Hs.mkL,ih]
theorem Hs.cntL_take(h:Hs α){xs:List α}{i:Nat}{x:α}(hx:xs[i]?=some x):h.cntL (xs.take (i+1))=h.cntL (xs.take i)+h.cnt x:=by
 induction xs generalizing i with
 | nil=>simp at hx
 | cons y ys ih=>
  cases i with
  | zero=>simp at hx;subst hx;simp[Hs.cntL]
  | succ i=>
   simp only[List.getElem?_cons_succ]at hx;rw[List.take_succ_cons,List.take_succ_cons,Hs.cntL,Hs.cntL,ih hx];omega
theorem Hs.szL_take(h:Hs α){xs:List α}{i:Nat}{x:α}(hx:xs[i]?=some x):h.szL (xs.take (i+1))=h.szL (xs.take i)+h.sz x:=by
 induction xs generalizing i with
 | nil=>simp at hx
 | cons y ys ih=>
  cases i with
  | zero=>simp at hx;subst hx;simp[Hs.szL]
  | succ i=>
   simp only[List.getElem?_cons_succ]at hx;rw[List.take_succ_cons,List.take_succ_cons,Hs.szL,Hs.szL,ih hx];omega
theorem Hs.mkL_at(h:Hs α){xs:List α}{i:Nat}{x:α}(k:Int)(hx:xs[i]?=some x):(h.mkL k xs)[i]?=some (h.mark (k+h.cntL (xs.take i)) x):=by
 induction xs generalizing i k with
 | nil=>simp at hx
 | cons y ys ih=>
  cases i with
  | zero=>simp at hx;subst hx;simp[Hs.mkL,Hs.cntL]
  | succ i=>
   simp only[List.getElem?_cons_succ]at hx;rw[Hs.mkL,List.getElem?_cons_succ,ih _ hx,List.take_succ_cons,Hs.cntL];congr 2;omega
theorem Hs.cntL_mono(h:Hs α)(xs:List α)(i:Nat):h.cntL (xs.take i)<=h.cntL xs:=by
 induction xs generalizing i with
 | nil=>simp
 | cons y ys ih=>
  cases i with
  | zero=>simp[Hs.cntL]
  | succ i=>rw[List.take_succ_cons,Hs.cntL,Hs.cntL];have:=ih i;omega
theorem Hs.szL_mono(h:Hs α)(xs:List α)(i:Nat):h.szL (xs.take i)<=h.szL xs:=by
 induction xs generalizing i with
 | nil=>simp
 | cons y ys ih=>
  cases i with
  | zero=>simp[Hs.szL]
  | succ i=>rw[List.take_succ_cons,Hs.szL,Hs.szL];have:=ih i;omega
theorem Hs.szL_at(h:Hs α){xs:List α}{i:Nat}{x:α}(hx:xs[i]?=some x):h.szL (xs.take i)+h.sz x<=h.szL xs:=by
 rw[<-h.szL_take hx];exact h.szL_mono _ _
theorem Hs.cntL_at(h:Hs α){xs:List α}{i:Nat}{x:α}(hx:xs[i]?=some x):h.cntL (xs.take i)+h.cnt x<=h.cntL xs:=by
 rw[<-h.cntL_take hx];exact h.cntL_mono _ _
end
theorem zoz(xs:List Int):hI.cntL xs=xs.length:=by
 induction xs with
 | nil=>rfl
 | cons x xs ih=>rw[Hs.cntL,ih,List.length_cons,Nat.add_comm];rfl
theorem zo0(xs:List Int):hI.szL xs=0:=by
 induction xs with
 | nil=>rfl
 | cons x xs ih=>rw[Hs.szL,ih];rfl
theorem zo1(k:Int)(xs:List Int):hI.mkL k xs=M.ramp k xs.length:=by
 induction xs generalizing k with
 | nil=>simp[Hs.mkL,M.ramp]
 | cons x xs ih=>
  rw[Hs.mkL,ih];apply List.ext_getElem?
  intro i;cases i with
  | zero=>simp[M.ramp,hI]
  | succ i=>
   rw[List.getElem?_cons_succ];simp only[M.ramp,List.getElem?_map,List.length_cons]
   by_cases hi:i<xs.length
   ·rw[List.getElem?_range hi,List.getElem?_range (by omega)];simp[hI];omega
   rw[List.getElem?_eq_none (by simp;omega),List.getElem?_eq_none (by simp;omega)]
   rfl
end
theorem OS.oi0{e:TypeId}{w:Yw}{F:Nat->Prop}{v:Value}{xs:List Int}(h:OS tI e w F v xs):OI e 0 w v xs/\∀g,v.ownBlock=some g->F g:=by
 obtain⟨css,Fs,g1,g2,g3,_,_,g6⟩:=h
 have e0:css=xs.map fun x:Int=>[Value.int .i64 x]:=by
  apply List.ext_getElem (by simp[g2]);intro i hi hi';rw[List.getElem_map];exact g6 i (by omega) hi
 subst e0;rw[<-List.flatMap_def,zfk]at g1;exact⟨g1,g3⟩
theorem OS.of_oi0{e:TypeId}{w:Yw}{F:Nat->Prop}{v:Value}{xs:List Int}(h:OI e 0 w v xs)(hF:∀g,v.ownBlock=some g->F g):OS tI e w F v xs:=by
 refine⟨xs.map fun x:Int=>[Value.int .i64 x],fun _ _=>False,?_,by simp,hF,fun _ _ h=>h.elim,fun _ _ _ _ h=>h.elim,fun k hk hk'=>?_⟩
 ·rw[<-List.flatMap_def,zfk];exact h
 show (xs.map _)[k]=_
 rw[List.getElem_map]
abbrev tS:Ty (List Int):=tI.sl 2
abbrev hS:Hs (List Int):=hI.sl
theorem zbi(xs:List Int):hS.sz xs=xs.length:=by show xs.length+hI.szL xs=_;rw[zo0];rfl
theorem zfl(xs:List Int):hS.cnt xs=xs.length:=zoz xs
theorem zj6(k:Int)(xs:List Int):hS.mark k xs=M.ramp k xs.length:=zo1 k xs
theorem tS_R{w:Yw}{B:Nat}{A:Yo}{n c:Nat}{xs:List Int}:tS.R w B [.slice A n c] xs↔RS tI w B (.slice A n c) xs:=
 ⟨fun⟨v,h,h'⟩=>by injection h with h;rw[h];exact h',fun h=>⟨_,rfl,h⟩⟩
theorem tS_O{w:Yw}{F:Nat->Prop}{v:Value}{xs:List Int}:tS.O w F [v] xs↔OS tI 2 w F v xs:=
 ⟨fun⟨v,h,h'⟩=>by injection h with h;rw[h];exact h',fun h=>⟨_,rfl,h⟩⟩
theorem zg4(A:Yo)(n c:Nat)(xs:List Int)(w:Yw)(hx:tS.R w w.heap.size [.slice A n c] xs)(hn:hS.sz xs<=100000000):
 Calls Tryz.prog 31 #[.slice A n c] w fun e w'=>∃A' n' c',e=.returned (.slice A' n' c')/\tS.O w' (Iv w.heap.size w'.heap.size) [.slice A' n' c'] xs/\Below w.heap.size w w':=by
 have h:=tS_R.1 hx;have hl:=h.cap.1;rw[zbi]at hn;refine(zot A n c xs w h.ri (by omega)).mono ?_;rintro e w' ⟨v,rfl,own,bel⟩;obtain⟨A',c',rfl,_⟩:=own.shape;exact⟨_,_,_,rfl,tS_O.2 own.os,bel⟩
theorem zg5(A A':Yo)(n c n' c':Nat)(xs:List Int)(w:Yw)(hx:tS.R w w.heap.size [.slice A n c] xs)(hy:tS.R w w.heap.size [.slice A' n' c'] xs)(hn:hS.sz xs<=100000000):
 Calls Tryz.prog 40 #[.slice A n c,.slice A' n' c'] w fun e w'=>e=.returned (.bool true)/\Below w.heap.size w w':=by
 have h:=tS_R.1 hx;have hl:=h.cap.1;rw[zbi]at hn;have:=zou A A' n c n' c' xs xs w h.ri (tS_R.1 hy).ri (by omega);rw[decide_eq_true (rfl:xs=xs)]at this;exact this
theorem zg6(A:Yo)(n c:Nat)(k:Int)(xs:List Int)(w:Yw)(F:Nat->Prop)(hx:tS.O w F [.slice A n c] xs)(hk:0<=k/\k+(hS.cnt xs:Int)<=1000000000):
 Calls Tryz.prog 45 #[.slice A n c,.int .i64 k] w fun e w'=>e=.returned (.int .i64 (k+hS.cnt xs))/\tS.O w' F [.slice A n c] (hS.mark k xs)/\Chg F w w':=by
 obtain⟨h1,h2⟩:=(tS_O.1 hx).oi0;rw[zfl]at *;rw[zj6];refine(zov _ 0 xs.length k xs w h1 rfl (by omega) (by omega)).mono ?_;rintro e w' ⟨rfl,own,hg⟩;exact⟨rfl,tS_O.2 (OS.of_oi0 own h2),Chg.of_grown hg h2⟩
theorem zg7(A:Yo)(n c:Nat)(k:Int)(xs:List Int)(w:Yw)(hx:tS.R w w.heap.size [.slice A n c] (hS.mark k xs))(hk:0<=k/\k+(hS.cnt xs:Int)<=1000000000):
 Calls Tryz.prog 50 #[.slice A n c,.int .i64 k] w fun e w'=>e=.returned (.int .i64 (k+hS.cnt xs))/\Below w.heap.size w w':=by
 have h:=tS_R.1 hx;have hl:=h.cap.1;rw[zj6]at h hl;rw[M.ramp_len]at hl;rw[zfl]at *;subst hl;refine(zow A _ c k w h.ri (by omega) (by omega)).mono ?_;rintro e w' ⟨rfl,rfl⟩;exact⟨rfl,Below.refl _ _⟩
theorem zcn{w:Yw}{B:Nat}{A:Yo}{n c:Nat}{xs:List Int}(h:tS.R w B [.slice A n c] xs):xs.length=n:=(tS_R.1 h).cap.1
section
section
variable {α:Type} {t:Ty α} {e:TypeId} {w:Yw} {B:Nat} {F:Nat->Prop} {v:Value} {xs:List α}
theorem sl_R:(t.sl e).R w B [v] xs↔RS t w B v xs:=⟨fun⟨v,h,h'⟩=>by injection h with h;rw[h];exact h',fun h=>⟨_,rfl,h⟩⟩
theorem sl_O:(t.sl e).O w F [v] xs↔OS t e w F v xs:=⟨fun⟨v,h,h'⟩=>by injection h with h;rw[h];exact h',fun h=>⟨_,rfl,h⟩⟩
end
theorem zf9{w:Yw}{B:Nat}{cs:List Value}{x:List Int}(h:tS.R w B cs x):∃A n c,cs=[.slice A n c]:=by
 obtain⟨v,rfl,hr⟩:=h;obtain⟨A,c,rfl⟩:=hr.shape;exact⟨_,_,_,rfl⟩
theorem zda{B:Nat}{w w1 w2:Yw}(h1:Below B w1 w2)(hB:B=w1.heap.size)(h0:Below w.heap.size w w1):Below w.heap.size w w2:=by
 subst hB;exact h0.trans (h1.mono h0.size)
theorem za8{B:Nat}{w w1 w2:Yw}{b o:Nat}{u:Value}(h1:Below B w1 w2)(hB:B=w1.heap.size)(h0:Below w.heap.size w w1)(h:w.cell? ⟨b,o,none⟩=some u)(hb:b<w.heap.size):w2.cell? ⟨b,o,none⟩=some u:=by
 subst hB;rw[h1.cell (by simpa using Nat.lt_of_lt_of_le hb h0.size),h0.cell (by simpa using hb)];exact h
theorem OS.openAt{α:Type}{t:Ty α}{e:TypeId}{w:Yw}{F:Nat->Prop}{v:Value}{xs:List α}(h:OS t e w F v xs){k:Nat}{x:α}(hx:xs[k]?=some x):∃css Fs,OH t e w F v xs css Fs k/\∃cs,css[k]?=some cs/\t.O w (Fs k) cs x:=by
 obtain⟨hk,rfl⟩:=List.getElem?_eq_some_iff.1 hx;exact h.open hk
theorem RS.atX{α:Type}{t:Ty α}{w:Yw}{B:Nat}{v:Value}{xs:List α}(h:RS t w B v xs){k:Nat}{x:α}(hx:xs[k]?=some x):∃b o c cs,v=.slice (some ⟨b,o,none⟩) xs.length c/\b<B/\cs.length=t.s/\t.R w B cs x/\∀j u,cs[j]?=some u->w.cell? ⟨b,o+k*t.s+j,none⟩=some u:=by
 obtain⟨hk,rfl⟩:=List.getElem?_eq_some_iff.1 hx;exact h.at hk
abbrev tSS:Ty (List (List Int)):=tS.sl 24
abbrev hSS:Hs (List (List Int)):=hS.sl
theorem zj7(A A':Yo)(n c n' c':Nat)(xs:List (List Int))(w:Yw)(hx:tSS.R w w.heap.size [.slice A n c] xs)(hy:tSS.R w w.heap.size [.slice A' n' c'] xs)(hn:hSS.sz xs<=100000000):
 Calls Tryz.prog 38 #[.slice A n c,.slice A' n' c'] w fun e w'=>e=.returned (.bool true)/\Below w.heap.size w w':=by
 have hr:=sl_R.1 hx;have hr':=sl_R.1 hy;obtain rfl:xs.length=n:=hr.cap.1;obtain rfl:xs.length=n':=hr'.cap.1;have hsz:xs.length+hS.szL xs<=100000000:=hn;clear hx hy hn
 go_enter Tryz.func38,Tryz.ntmps38
 go_wp2
 go_loopw [5] (fun i wr=>∃k:Nat,i=.int .i64 k/\k<=xs.length/\Below w.heap.size w wr) (fun i _=>xs.length-(intOf i).toNat)
 case atStart=>exact⟨0,rfl,by omega,Below.refl _ _⟩
 case round=>
  obtain⟨k,rfl,hk,hb⟩:=hrel
  by_cases hlt:k<xs.length
  ·obtain⟨b,o,c1,cs,hv,hab,-,hE,hc⟩:=(hr.below hb).at hlt;obtain⟨b',o',c1',cs',hv',hab',-,hE',hc'⟩:=(hr'.below hb).at hlt;simp only[Value.slice.injEq]at hv hv';obtain⟨rfl,-,rfl⟩:=hv;obtain⟨rfl,-,rfl⟩:=hv';obtain⟨A1,n1,c1,rfl⟩:=zf9 hE;obtain⟨A2,n2,c2,rfl⟩:=zf9 hE';have hc0:wr.cell? ⟨b,o+k*1,none⟩=some (.slice A1 n1 c1):=hc 0 _ rfl;have hd0:wr.cell? ⟨b',o'+k*1,none⟩=some (.slice A2 n2 c2):=hc' 0 _ rfl;have hbr:b<wr.heap.size:=Nat.lt_of_lt_of_le hab hb.size;have hbr':b'<wr.heap.size:=Nat.lt_of_lt_of_le hab' hb.size;have hs1:hS.sz xs[k]<=100000000:=(by have:=hS.szL_at (List.getElem?_eq_getElem hlt);omega);have hF:=tS.later (tS.more hb.size hE) (zae (Below.refl _ _) 1);have hF':=tS.later (tS.more hb.size hE') (zae (Below.refl _ _) 1);clear hc hc' hE hE';rw[Nat.mul_one]at hc0 hd0;go_wp2
   go_region_held3 (fun w'=>Below wr.heap.size wr w'/\w'.cell? ⟨b,o+k,none⟩=some (.slice A1 n1 c1)/\w'.cell? ⟨b',o'+k,none⟩=some (.slice A2 n2 c2))
    (first
     | exact⟨zae (Below.refl _ _) _,hc0,hd0⟩
     | exact⟨zda bel2 rfl (And.left (by assumption)),za8 bel2 rfl (And.left (by assumption)) hc0 hbr,za8 bel2 rfl (And.left (by assumption)) hd0 hbr'⟩)
    (first|(go_at_call 40;refine(zg5 _ _ _ _ _ _ _ _ hF hF' hs1).mono ?_;rintro e w2 ⟨rfl,bel2⟩))
   go_wp2;go_roundw
   case rel=>exact⟨k+1,by go_num,by omega,hb.trans ((zda bel2 rfl (zae (Below.refl _ _) _)).mono hb.size)⟩
   case measure=>simp[intOf];omega
  go_wp2;go_ret;exact⟨rfl,hb⟩
theorem zj8(A:Yo)(n c:Nat)(k:Int)(xs:List (List Int))(w:Yw)(F:Nat->Prop)(hx:tSS.O w F [.slice A n c] xs)(hk:0<=k/\k+(hSS.cnt xs:Int)<=1000000000):
 Calls Tryz.prog 43 #[.slice A n c,.int .i64 k] w fun e w'=>e=.returned (.int .i64 (k+hSS.cnt xs))/\tSS.O w' F [.slice A n c] (hSS.mark k xs)/\Chg F w w':=by
 have ow:=sl_O.1 hx;have hcap:=ow.read.cap;obtain rfl:xs.length=n:=hcap.1;have hl:xs.length<=9223372036854775807:=by have h1:=hcap.2;unfold maxLen at h1;omega
 clear hcap;have hcn:k+(hS.cntL xs:Int)<=1000000000:=hk.2;clear hx
 go_enter Tryz.func43,Tryz.ntmps43
 go_wp2
 go_loopw [1,5] (fun q i wr=>∃j:Nat,i=.int .i64 j/\j<=xs.length/\q=.int .i64 (k+(hS.cntL (xs.take j):Int))/\OS tS 24 wr F (.slice A xs.length c) ((hS.mkL k xs).take j++xs.drop j)/\Chg F w wr)
  (fun _ i _=>xs.length-(intOf i).toNat)
 case atStart=>exact⟨0,rfl,by omega,by simp[Hs.cntL],by simpa using ow,Chg.refl _ _⟩
 case round=>
  obtain⟨j,rfl,hj,rfl,own,hg⟩:=hrel;have hct:=hS.cntL_mono xs j
  by_cases hlt:j<xs.length
  ·have hml:=hS.mkL_len k xs;have hyj:=Lib.hid (show ((hS.mkL k xs).take j++xs.drop j)[j]?=some xs[j]by rw[M.mid_at hml];exact List.getElem?_eq_getElem hlt);obtain⟨css,Fs,hole,cs,hcs,hE⟩:=own.openAt hyj.out;obtain⟨A1,n1,c1,rfl⟩:=zf9 (tS.read hE);obtain⟨g,rfl,hFg,hFn,hgl,-⟩:=hole.form (List.getElem?_eq_some_iff.1 hyj.out).1;have hc0:wr.cell? ⟨g,j*1+0,none⟩=some (.slice A1 n1 c1):=(hole.cell hcs (j:=0) rfl).1;rw[Nat.mul_one,Nat.add_zero]at hc0;have hc1:=hS.cntL_at (List.getElem?_eq_getElem hlt);have hmk:=Lib.hid (hS.mkL_at k (List.getElem?_eq_getElem hlt));have hct2:=Lib.hid (hS.cntL_take (List.getElem?_eq_getElem hlt));have hml':=Lib.hid hml;clear hml;go_wp2_with (go_at_call 45;refine(zg6 _ _ _ _ _ _ _ hE (by omega)).mono ?_;rintro e w2 ⟨rfl,o2,ch⟩);go_roundw
   case rel=>
    have h3:=(hole.chg ch).fill hcs o2;rw[M.set_mid hml'.out hmk.out]at h3;exact⟨j+1,by go_num,by omega,by rw[hct2.out];go_num,h3,hg.trans (ch.wide hole.fits)⟩
   case measure=>simp[intOf];omega
  obtain rfl:xs.length=j:=by omega
  go_wp2;go_ret;rw[List.take_of_length_le (by rw[Hs.mkL_len];omega),List.drop_eq_nil_of_le (by omega),List.append_nil]at own;exact⟨by rw[List.take_of_length_le (Nat.le_refl _)];rfl,sl_O.2 own,hg⟩
theorem zj9(A:Yo)(n c:Nat)(k:Int)(xs:List (List Int))(w:Yw)(hx:tSS.R w w.heap.size [.slice A n c] (hSS.mark k xs))(hk:0<=k/\k+(hSS.cnt xs:Int)<=1000000000):
 Calls Tryz.prog 48 #[.slice A n c,.int .i64 k] w fun e w'=>e=.returned (.int .i64 (k+hSS.cnt xs))/\Below w.heap.size w w':=by
 have hr:RS tS w w.heap.size (.slice A n c) (hS.mkL k xs):=sl_R.1 hx;obtain rfl:xs.length=n:=by rw[<-hr.cap.1,Hs.mkL_len]
 have hl:xs.length<=9223372036854775807:=by have h1:=hr.cap.2;unfold maxLen at h1;omega
 have hcn:k+(hS.cntL xs:Int)<=1000000000:=hk.2;have hml:=Lib.hid (hS.mkL_len k xs);clear hx
 go_enter Tryz.func48,Tryz.ntmps48
 go_wp2
 go_loopw [1,5] (fun q i wr=>∃j:Nat,i=.int .i64 j/\j<=xs.length/\q=.int .i64 (k+(hS.cntL (xs.take j):Int))/\Below w.heap.size w wr) (fun _ i _=>xs.length-(intOf i).toNat)
 case atStart=>exact⟨0,rfl,by omega,by simp[Hs.cntL],Below.refl _ _⟩
 case round=>
  obtain⟨j,rfl,hj,rfl,hb⟩:=hrel;have hct:=hS.cntL_mono xs j
  by_cases hlt:j<xs.length
  ·obtain⟨b,o,c1,cs,hv,hab,-,hE,hc⟩:=(hr.below hb).at (k:=j) (by rw[hml.out];exact hlt);simp only[Value.slice.injEq]at hv;obtain⟨rfl,-,rfl⟩:=hv;obtain⟨A1,n1,c1,rfl⟩:=zf9 hE;have hc0:wr.cell? ⟨b,o+j*1,none⟩=some (.slice A1 n1 c1):=hc 0 _ rfl;rw[Nat.mul_one]at hc0;have hmk:=hS.mkL_at k (List.getElem?_eq_getElem hlt);rw[List.getElem?_eq_getElem (by rw[hml.out];exact hlt),Option.some.injEq]at hmk;rw[hmk]at hE;have hF:=tS.more hb.size hE;have hc1:=hS.cntL_at (List.getElem?_eq_getElem hlt);have hct2:=Lib.hid (hS.cntL_take (List.getElem?_eq_getElem hlt));clear hc hE hmk;go_wp2_with (go_at_call 50;refine(zg7 _ _ _ _ _ _ hF (by omega)).mono ?_;rintro e w2 ⟨rfl,bel2⟩);go_roundw
   case rel=>exact⟨j+1,by go_num,by omega,by rw[hct2.out];go_num,hb.trans (bel2.mono hb.size)⟩
   case measure=>simp[intOf];omega
  obtain rfl:xs.length=j:=by omega
  go_wp2;go_ret;exact⟨by rw[List.take_of_length_le (Nat.le_refl _)];rfl,hb⟩
end
end Go.Proofs.YtifeldeikhmckaaGreat
