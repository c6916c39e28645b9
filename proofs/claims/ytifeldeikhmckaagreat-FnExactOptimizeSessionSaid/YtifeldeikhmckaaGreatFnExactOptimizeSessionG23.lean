import Derived.Test.YtifeldeikhmckaaGreatFnExactOptimizeSessionG22
import Derived.Test.YtifeldeikhmckaaGreatFnExactOptimizeSessionG20
set_option linter.unusedVariables false
set_option linter.unusedSimpArgs false
set_option maxRecDepth 100000
set_option maxHeartbeats 4000000
namespace Go.Proofs.YtifeldeikhmckaaGreat
open Go.RowKit Go.Sort
section
section
variable {tb:List (List Int)} {p:NO} {R:Nat->Nat}
theorem zl6{ns:List Node}{f:Nat}:zbl ns f=true↔(zab ns f).1=2:=by simp[zbl]
theorem zho{k:Int}(h:zai M.k8 k=true):k=3\/k=4\/k=5\/k=9\/k=10\/k=11\/k=13\/k=15:=by
 simp[zai,M.k8]at h;omega
theorem zto{ns:List Node}{x:Node}(h:zbv ns x=true):x.1=4\/x.1=5\/x.1=6\/x.1=7\/x.1=8\/x.1=11\/x.1=17:=by
 unfold zbv at h
 split at h
 ·omega
 split at h
 ·omega
 split at h
 ·omega
 simp at h
theorem ztp{ns:List Node}{x:Node}(h:0<=zbb ns x):(x.1=3\/x.1=4\/x.1=5\/x.1=10\/x.1=15\/x.1=16)/\∃k,k<zc5 x.1/\zbb ns x=M.i_ x.2.2.2 k:=by
 obtain⟨k,a,b,l⟩:=x;unfold zbb at h ⊢;dsimp only at h ⊢
 by_cases h5:k=5
 ·subst h5;simp only[if_true]at h ⊢
  split at h
  ·rename_i e;rw[if_pos e];exact⟨by decide,0,by decide,rfl⟩
  simp at h
 rw[if_neg h5]at h ⊢
 by_cases h10:k=10
 ·subst h10;simp only[if_true]at h ⊢
  split at h
  ·rename_i e;rw[if_pos e];exact⟨by decide,0,by decide,rfl⟩
  simp at h
 rw[if_neg h10]at h ⊢
 by_cases h3:k=3
 ·subst h3;simp only[if_true]at h ⊢
  split at h
  ·rename_i e;rw[if_pos e];exact⟨by decide,1,by decide,rfl⟩
  rename_i e
  rw[if_neg e]
  split at h
  ·rename_i e2;rw[if_pos e2];exact⟨by decide,0,by decide,rfl⟩
  simp at h
 rw[if_neg h3]at h ⊢
 by_cases h4:k=4
 ·subst h4;simp only[if_true]at h ⊢
  split at h
  ·rename_i e;rw[if_pos e];exact⟨by decide,0,by decide,rfl⟩
  simp at h
 rw[if_neg h4]at h ⊢
 by_cases h16:k=16
 ·subst h16;simp only[if_true]at h ⊢
  split at h
  ·rename_i e;rw[if_pos e];exact⟨by decide,0,by decide,rfl⟩
  simp at h
 rw[if_neg h16]at h ⊢
 by_cases h15:k=15
 ·subst h15;simp only[if_true]at h ⊢;refine⟨by decide,?_⟩
  split at h
  ·rename_i e
   rw[if_pos e]
   split
   ·exact⟨1,by decide,rfl⟩
   exact⟨2,by decide,rfl⟩
  rename_i e
  rw[if_neg e]
  split at h
  ·rename_i e2;rw[if_pos e2];exact⟨1,by decide,rfl⟩
  simp at h
 rw[if_neg h15]at h;omega
theorem M.WP.flen(h:M.WP tb p R){i:Nat}(hi:i<p.1.length)(h1:(zab p.1 i).1≠1):(zab p.1 i).2.2.2.length=zc5 (zab p.1 i).1:=zc6 (a1:=(zab p.1 i).2.1) (a2:=(zab p.1 i).2.2.1) (h.node hi).2 h1
theorem M.WP.rlt(h:M.WP tb p R){i:Nat}(hi:i<p.1.length)(h6:(zab p.1 i).1≠6){f:Int}(hf:f∈(zab p.1 i).2.2.2):R f.toNat<R i:=(h.rk i _ (zcq hi) f (by rw[zq6 h6];exact hf)).2
structure M.Falls (tb:List (List Int)) (p p':NO) (R R':Nat->Nat):Prop where
 wp:M.WP tb p' R'
 sub:∀j,M.Rch p'.1 p'.2 j->M.Rch p.1 p.2 j
 low:(∃j,j<p.1.length/\M.Rch p.1 p.2 j/\¬M.Rch p'.1 p'.2 j)\/(R'=R/\(zcy p'.1<zcy p.1\/(zcy p'.1=zcy p.1/\(zc9 R p'.1<zc9 R p.1\/(zc9 R p'.1=zc9 R p.1/\zed p'.1<zed p.1)))))
 len:p'.1.length=p.1.length
 olen:p'.2.length=p.2.length
theorem zl7(h:M.WP tb p R){i:Nat}(hi:i<p.1.length){v:Int}(hv:M.smp v=true)(h2:(zab p.1 i).1≠2):M.Falls tb p (p.1.set i (2,v,0,[]),p.2) R R:=by
 have hb:=smp_bd hv;have hx:=zcq hi;refine⟨h.set hi (zi4 (by decide) (by omega) (by omega) (by omega) (by omega) (by omega) (by omega) (fun e=>by simp[zdy]at e) (by omega) (by omega) (by decide) (by simp)) (by simp) (by simp) (by simp[zau]),fun j hj=>M.Rch.set hi (by simp) hj,.inr ⟨rfl,.inl ?_⟩,by simp,rfl⟩;have e:=zfv (fun x=>zc8 x.1) p.1 i _ (2,v,0,[]) hx;have e1:zc8 ((2,v,0,[]):Node).1=0:=rfl
 have e2:1<=zc8 (zab p.1 i).1:=by
  unfold zc8;rw[if_neg h2]
  split <;> omega
 simp only[zcy]at e ⊢;rw[e1]at e;omega
theorem zl8{k:Int}(h:k=5\/k=6\/k=7\/k=8\/k=10\/k=11\/k=12\/k=13\/k=17):zc5 k=1:=by
 rcases h with rfl|rfl|rfl|rfl|rfl|rfl|rfl|rfl|rfl <;> rfl
theorem ztq{k:Int}(h:k=3\/k=4\/k=9\/k=16):zc5 k=2:=by
 rcases h with rfl|rfl|rfl|rfl <;> rfl
theorem M.WP.inp_at(h:M.WP tb p R){i:Nat}(hi:i<p.1.length)(h1:(zab p.1 i).1≠1){k:Nat}(hk:k<zc5 (zab p.1 i).1):
 M.i_ (zab p.1 i).2.2.2 k∈(zab p.1 i).2.2.2/\M.fk (zab p.1 i) k<p.1.length/\M.i_ (zab p.1 i).2.2.2 k=(M.fk (zab p.1 i) k:Int):=ztk h hi (by rw[h.flen hi h1];exact hk)
theorem M.WP.smpA(h:M.WP tb p R){f:Nat}(hc:zbl p.1 f=true):M.smp (zab p.1 f).2.1=true:=by
 have hk:=zl6.1 hc;have hl:f<p.1.length:=zl2 (by omega);have:=(zes (a0:=(zab p.1 f).1) (a1:=(zab p.1 f).2.1) (a2:=(zab p.1 f).2.2.1) (h.node hl).2).2.2.2.2.2.1 hk;exact zbf.2 this
theorem zi7(h:M.WP tb p R){x:Node}(hc:zbj p.1 x=true):(zc7 p.1 x).all M.smp=true:=by
 rw[zbj,Bool.and_eq_true]at hc;rw[zc7,List.all_map,List.all_eq_true];intro f hf;exact h.smpA (List.all_eq_true.1 hc.2 f hf)
theorem zl9(h:M.WP tb p R){i b:Nat}(hi:i<p.1.length)(hb:b<p.1.length)(hne:b≠i)(hr:M.Rch p.1 p.2 i)(hy:M.Rch p.1 p.2 b){R':Nat->Nat}(hR:zet (za5 i b p).1 R'):M.Falls tb p (za5 i b p) R R':=
 ⟨h.rpl hb hR,fun j hj=>(M.Rch.rpl hne (fun _=>hy) hj).1,.inl ⟨i,hi,hr,fun hj=>(M.Rch.rpl hne (fun _=>hy) hj).2 rfl⟩,by simp[za5],by simp[za5,zcx]⟩
theorem zi8(h:M.WP tb p R){i:Nat}(hi:i<p.1.length){v:Int}(hv:M.smp v=true){f:Nat}(hf:f<p.1.length)(hrf:R f<R i)(hre:M.Rch p.1 p.2 i->M.Rch p.1 p.2 f)(hd:(zab p.1 i).1≠6)
 (hm:(zab p.1 i).1≠2/\(zab p.1 i).1≠5\/((zab p.1 i).1=5/\R f<R (M.fk (zab p.1 i) 0))):M.Falls tb p (p.1.set i (5,v,0,[(f:Int)]),p.2) R R:=by
 have hb:=smp_bd hv;have hx:=zcq hi;have hlen:=h.len;refine⟨h.set hi (zi4 (by decide) (by omega) (by omega) (by omega) (by omega) (by omega) (by omega) (fun e=>by simp[zdy]at e) (by omega) (by omega) rfl (by simp;omega)) (by simp;omega) (by simp) (by simp[zau];exact hrf),fun j hj=>M.Rch.set hi (fun g hg=>?_) hj,.inr ⟨rfl,?_⟩,by simp,rfl⟩
 ·simp at hg;have:g=f:=by omega
  subst this;exact hre
 have e:=zfv (fun x=>zc8 x.1) p.1 i _ (5,v,0,[(f:Int)]) hx;have g:=zfv (fun x=>if x.1=5 then R (M.fk x 0)else 0) p.1 i _ (5,v,0,[(f:Int)]) hx;have e1:zc8 ((5,v,0,[(f:Int)]):Node).1=1:=rfl;have g1:M.fk ((5,v,0,[(f:Int)]):Node) 0=f:=by simp[M.fk,M.i_]
 simp only[zcy,zc9]at e g ⊢;rw[e1]at e;simp only[if_true,g1]at g;rcases hm with⟨h2,h5⟩|⟨h5,hlt⟩
 ·left
  have:zc8 (zab p.1 i).1=2:=by
   unfold zc8;rw[if_neg h2,if_neg h5]
  omega
 right
 have:zc8 (zab p.1 i).1=1:=by rw[h5];rfl
 rw[if_pos h5]at g;refine⟨by omega,.inl ?_⟩;omega
theorem ztr(h:M.WP tb p R){i:Nat}(hi:i<p.1.length){v:Int}{f:Nat}(hf:f<p.1.length)(hre:M.Rch p.1 p.2 i->M.Rch p.1 p.2 f)(hd:(zab p.1 i).1=6)(hv:(zab p.1 i).2.1<v)(hv16:v<=16)(hp:1<=(zab p.1 i).2.1):M.Falls tb p (p.1.set i (6,v,0,[(f:Int)]),p.2) R R:=by
 have hx:=zcq hi;have hlen:=h.len;refine⟨h.set hi (zi4 (by decide) (by omega) (by omega) (by omega) (by omega) (by omega) (by omega) (fun e=>by simp[zdy]at e) (by omega) (by omega) rfl (by simp;omega)) (by simp;omega) (by simp) (by simp[zau]),fun j hj=>M.Rch.set hi (fun g hg=>?_) hj,.inr ⟨rfl,.inr ?_⟩,by simp,rfl⟩
 ·simp at hg;have:g=f:=by omega
  subst this;exact hre
 have e:=zfv (fun x=>zc8 x.1) p.1 i _ (6,v,0,[(f:Int)]) hx;have g:=zfv (fun x=>if x.1=5 then R (M.fk x 0)else 0) p.1 i _ (6,v,0,[(f:Int)]) hx;have d:=zfv (fun x=>if x.1=6 then 16-x.2.1.toNat else 0) p.1 i _ (6,v,0,[(f:Int)]) hx;have e1:zc8 ((6,v,0,[(f:Int)]):Node).1=2:=rfl;have e2:zc8 (zab p.1 i).1=2:=by rw[hd];rfl
 simp only[zcy,zc9,zed]at e g d ⊢;rw[e1]at e;rw[if_neg (show ¬(6:Int)=5 by decide),if_neg (by omega)]at g;simp only[if_true,if_pos hd]at d;refine⟨by omega,.inr ⟨by omega,?_⟩⟩;omega
theorem zts(h:M.WP tb p R){nd:Nat->Bool}(hnd:∀j,nd j=true->M.Rch p.1 p.2 j){i:Nat}(hi:i<p.1.length)(hr:zav nd p.1 i≠0):∃R',M.Falls tb p (zbs nd tb p i (zav nd p.1 i)) R R':=by
 have hx:=zcq hi;have hok:=(h.node hi).2;have hko:=(zdj hok).1;have dep:∀f:Nat,(f:Int)∈(zab p.1 i).2.2.2->M.Rch p.1 p.2 i->M.Rch p.1 p.2 f:=fun f hf hr=>.dep i f hr hf
 unfold zav at hr ⊢
 split at hr
 ·exact absurd rfl hr
 rename_i hn
 have hri:M.Rch p.1 p.2 i:=hnd i (by simpa using hn);rw[if_neg hn]
 split at hr
 ·rename_i h1
  rw[if_pos h1];have hk:=zho (by rw[zbj,Bool.and_eq_true]at h1;exact h1.1);exact⟨R,zl7 h hi (zta hok h.tabs (zi7 h h1) (by rfl)) (by omega)⟩
 rename_i h1
 rw[if_neg h1]
 split at hr
 ·rename_i h2
  rw[if_pos h2];have hk:=zto h2;exact⟨R,zl7 h hi (by decide) (by omega)⟩
 rename_i h2
 rw[if_neg h2]
 split at hr
 ·rename_i h3
  rw[if_pos h3];obtain⟨hk,k,hkl,he⟩:=ztp h3;obtain⟨a1,a2,a3⟩:=h.inp_at hi (by omega) hkl;have hlt:=h.rlt hi (by omega) a1;rw[a3,Int.toNat_natCast]at hlt;refine⟨R,?_⟩;show M.Falls tb p (za5 i (zbb p.1 (zab p.1 i)) p) R R
  rw[he,a3];exact zl9 h hi a2 (fun e=>by rw[e]at hlt;omega) hri (dep _ (by rw[<-a3];exact a1) hri) (ztm h a2 hlt)
 rename_i h3
 rw[if_neg h3]
 split at hr
 ·rename_i h4
  rw[if_pos h4];rw[zbw,Bool.and_eq_true,decide_eq_true_eq,Bool.or_eq_true]at h4;have hl2:zc5 (zab p.1 i).1=2:=ztq (by omega);obtain⟨a1,a2,a3⟩:=h.inp_at hi (k:=0) (by omega) (by omega);obtain⟨b1,b2,b3⟩:=h.inp_at hi (k:=1) (by omega) (by omega);have la:=h.rlt hi (by omega) a1;have lb:=h.rlt hi (by omega) b1;rw[a3,Int.toNat_natCast]at la;rw[b3,Int.toNat_natCast]at lb;refine⟨R,?_⟩;show M.Falls tb p (p.1.set i (zdp p.1 (zab p.1 i)),p.2) R R
  rw[zdp]
  by_cases hc:zbl p.1 (M.fk (zab p.1 i) 0)=true
  ·rw[if_pos hc,b3];exact zi8 h hi (h.smpA hc) b2 lb (dep _ (by rw[<-b3];exact b1)) (by omega) (.inl (by omega))
  rw[if_neg hc,a3];have hc1:=h4.2.resolve_left hc;exact zi8 h hi (h.smpA hc1) a2 la (dep _ (by rw[<-a3];exact a1)) (by omega) (.inl (by omega))
 rename_i h4
 rw[if_neg h4]
 split at hr
 ·rename_i h5
  rw[if_pos h5];rw[zb4,Bool.and_eq_true,decide_eq_true_eq,decide_eq_true_eq]at h5;obtain⟨a1,a2,a3⟩:=h.inp_at hi (k:=0) (by omega) (by rw[zl8 (by omega)];omega);have hl1:=h.flen a2 (by omega);rw[h5.2,show zc5 5=1 from rfl]at hl1;obtain⟨b1,b2,b3⟩:=h.inp_at a2 (k:=0) (by omega) (by rw[h5.2];decide)
  have hfe:(zab p.1 (M.fk (zab p.1 i) 0)).2.2.2=[((M.fk (zab p.1 (M.fk (zab p.1 i) 0)) 0:Nat):Int)]:=by
   obtain⟨u,hu⟩:=List.length_eq_one_iff.1 hl1;rw[<-b3,hu]
   rfl
  have la:=h.rlt hi (by omega) a1;rw[a3,Int.toNat_natCast]at la;have lb:=h.rlt a2 (by omega) b1;rw[b3,Int.toNat_natCast]at lb;refine⟨R,?_⟩;show M.Falls tb p (p.1.set i (zeb p.1 (zab p.1 i)),p.2) R R
  rw[zeb,hfe];exact zi8 h hi (M.smp_wrap _) b2 (by omega) (fun hr=>.dep _ _ (dep _ (by rw[<-a3];exact a1) hr) (by rw[<-b3];exact b1)) (by omega) (.inr ⟨h5.1,lb⟩)
 rename_i h5
 rw[if_neg h5]
 split at hr
 ·rename_i h6
  rw[if_pos h6];rw[zbq]at h6;simp only[Bool.and_eq_true,decide_eq_true_eq]at h6;obtain⟨⟨⟨g1,g2⟩,g3⟩,g4⟩:=h6;obtain⟨a1,a2,a3⟩:=h.inp_at hi (k:=0) (by omega) (by rw[zl8 (by omega)];omega);have hl1:=h.flen a2 (by omega);rw[g3,show zc5 6=1 from rfl]at hl1;obtain⟨b1,b2,b3⟩:=h.inp_at a2 (k:=0) (by omega) (by rw[g3];decide)
  have hfe:(zab p.1 (M.fk (zab p.1 i) 0)).2.2.2=[((M.fk (zab p.1 (M.fk (zab p.1 i) 0)) 0:Nat):Int)]:=by
   obtain⟨u,hu⟩:=List.length_eq_one_iff.1 hl1;rw[<-b3,hu]
   rfl
  have q1:=(zdj hok).2.1 g1;have q2:=(zdj (h.node a2).2).2.1 g3;refine⟨R,?_⟩;show M.Falls tb p (p.1.set i (zec p.1 (zab p.1 i)),p.2) R R
  rw[zec,hfe];exact ztr h hi b2 (fun hr=>.dep _ _ (dep _ (by rw[<-a3];exact a1) hr) (by rw[<-b3];exact b1)) g1 (by omega) (by omega) (by omega)
 rename_i h6
 rw[if_neg h6]
 split at hr
 ·rename_i h7
  rw[if_pos h7];obtain⟨k,hk⟩:=Option.isSome_iff_exists.1 h7;have hk2:=hk;rw[zci,List.find?_range_eq_some]at hk2;obtain⟨q1,q2,q3⟩:=hk2;rw[Bool.and_eq_true,decide_eq_true_eq]at q1;have q2:=List.mem_range.1 q2;refine⟨fun j=>if j=k then min (R k) (R i)else R j,?_⟩;show M.Falls tb p (za5 i (((zci nd p.1 i).getD 0:Nat):Int) p) R _
  rw[hk];exact zl9 h hi (show k<p.1.length by omega) (by omega) hri (hnd k q1.1) (ztn h hi (by omega) q1.2)
 exact absurd rfl hr
theorem zi9{ND:NO->Nat->Bool}{p q:NO}(h:zbk ND tb p=some q):∀t,zah ND tb p (t+1)=zah ND tb q t:=by
 intro t
 induction t with
 | zero=>
  show (zbk ND tb p).getD p=q
  rw[h];rfl
 | succ t ih=>rw[zah,ih,<-zah]
theorem ztt{nd:Nat->Bool}{ns:List Node}{i:Nat}(h:zfu nd ns=some i):i<ns.length/\zav nd ns i≠0/\∀j,j<i->zav nd ns j=0:=by
 rw[zfu,List.find?_range_eq_some]at h;obtain⟨h1,h2,h3⟩:=h;exact⟨List.mem_range.1 h2,by simpa using h1,fun j hj=>by simpa using h3 j hj⟩
theorem zja{ND:NO->Nat->Bool}(hND:∀p j,ND p j=true↔M.Rch p.1 p.2 j){p q:NO}{R:Nat->Nat}(h:M.WP tb p R)(hs:zbk ND tb p=some q):∃R',M.Falls tb p q R R':=by
 rw[zbk,Option.map_eq_some_iff]at hs;obtain⟨i,hi,rfl⟩:=hs;obtain⟨h1,h2,-⟩:=ztt hi;exact zts h (fun j=>(hND p j).1) h1 h2
theorem zma{ND:NO->Nat->Bool}(hND:∀p j,ND p j=true↔M.Rch p.1 p.2 j)(p:NO)(R:Nat->Nat)(h:M.WP tb p R):∃N,zbk ND tb (zah ND tb p N)=none:=by
 cases hs:zbk ND tb p with
 | none=>exact⟨0,hs⟩
 | some q=>
  obtain⟨R',hf⟩:=zja hND h hs;have hlow:=hf.low;have hle:zal (ND q) 24<=zal (ND p) 24:=zi5 (fun j hj=>(hND p j).2 (hf.sub j ((hND q j).1 hj))) 24
  have hlt:(∃j,j<p.1.length/\M.Rch p.1 p.2 j/\¬M.Rch q.1 q.2 j)->zal (ND q) 24<zal (ND p) 24:=fun⟨j,h1,h2,h3⟩=>zi6 (i:=j) (fun j hj=>(hND p j).2 (hf.sub j ((hND q j).1 hj))) (by have:=h.len;omega) (by
   cases e:ND q j
   ·rfl
   exact absurd ((hND q j).1 e) h3) ((hND p j).2 h2)
  have dec:zal (ND q) 24<zal (ND p) 24\/(zal (ND q) 24=zal (ND p) 24/\(zcy q.1<zcy p.1\/(zcy q.1=zcy p.1/\(zc9 R' q.1<zc9 R p.1\/(zc9 R' q.1=zc9 R p.1/\zed q.1<zed p.1))))):=by
   rcases hlow with h1|⟨rfl,h1⟩
   ·exact .inl (hlt h1)
   rcases Nat.lt_or_eq_of_le hle with h2|h2
   ·exact .inl h2
   exact .inr ⟨h2,h1⟩
  obtain⟨N,hN⟩:=zma hND q R' hf.wp;exact⟨N+1,by rw[zi9 hs];exact hN⟩
termination_by (zal (ND p) 24,zcy p.1,zc9 R p.1,zed p.1)
decreasing_by
 rcases dec with h1|⟨h1,h2|⟨h2,h3|⟨h3,h4⟩⟩⟩
 ·exact Prod.Lex.left _ _ h1
 ·rw[h1];exact Prod.Lex.right _ (Prod.Lex.left _ _ h2)
 ·rw[h1,h2];exact Prod.Lex.right _ (Prod.Lex.right _ (Prod.Lex.left _ _ h3))
 rw[h1,h2,h3];exact Prod.Lex.right _ (Prod.Lex.right _ (Prod.Lex.right _ h4))
theorem zhp{ND:NO->Nat->Bool}(hND:∀p j,ND p j=true↔M.Rch p.1 p.2 j){p:NO}{R:Nat->Nat}(h:M.WP tb p R):∀t,∃R',M.WP tb (zah ND tb p t) R'/\(zah ND tb p t).1.length=p.1.length/\(zah ND tb p t).2.length=p.2.length:=by
 intro t
 induction t with
 | zero=>exact⟨R,h,rfl,rfl⟩
 | succ t ih=>
  obtain⟨R',h1,h2,h3⟩:=ih;rw[zah];cases hs:zbk ND tb (zah ND tb p t)with
  | none=>exact⟨R',h1,h2,h3⟩
  | some q=>
   obtain⟨R2,hf⟩:=zja hND h1 hs;exact⟨R2,hf.wp,hf.len.trans h2,hf.olen.trans h3⟩
theorem zjb{ND:NO->Nat->Bool}{p:NO}{t:Nat}(h:zbk ND tb (zah ND tb p t)=none):∀d,zah ND tb p (t+d)=zah ND tb p t:=by
 intro d
 induction d with
 | zero=>rfl
 | succ d ih=>rw[<-Nat.add_assoc,zah,ih,h];rfl
theorem zxk:∃ND:NO->Nat->Bool,∀p j,ND p j=true↔M.Rch p.1 p.2 j:=by
 refine⟨fun p j=>@decide (M.Rch p.1 p.2 j) (Classical.propDecidable _),fun p j=>?_⟩;exact @decide_eq_true_iff (M.Rch p.1 p.2 j) (Classical.propDecidable _)
theorem ztu{ns:List Node}{O:List Int}(h:M.Topo ns O)(hfr:∀(i:Nat) (x:Node),ns[i]?=some x->∀f∈x.2.2.2,0<=f/\f<ns.length):∃R,zet ns R:=by
 have hc:∀j:Nat,∃t,j<ns.length->t<O.length/\zbu O t=j:=fun j=>by
  by_cases hj:j<ns.length
  ·obtain⟨t,ht⟩:=h.all hj;exact⟨t,fun _=>ht⟩
  exact⟨0,fun e=>absurd e hj⟩
 refine⟨fun j=>Classical.choose (hc j),fun i x hx f hf=>?_⟩;have hi:i<ns.length:=(List.getElem?_eq_some_iff.1 hx).1;have hx2:=zl0 hx;obtain⟨a1,a2⟩:=Classical.choose_spec (hc i) hi;have hff:=hfr i x hx f (by unfold zau at hf;split at hf;simp at hf;exact hf);refine⟨hff,?_⟩;obtain⟨b1,b2⟩:=Classical.choose_spec (hc f.toNat) (by omega);obtain⟨s,hs,he⟩:=h.aft _ a1 f (by rw[a2,hx2];exact hf);have:zbu O s=f.toNat:=by rw[zbu,<-he]
 rcases Nat.lt_trichotomy (Classical.choose (hc f.toNat)) s with h1|h1|h1
 ·exact absurd (by rw[b2,this]) (h.new _ _ h1 (by omega))
 ·show Classical.choose (hc f.toNat)<Classical.choose (hc i)
  omega
 exact absurd (by rw[b2,this]) (h.new _ _ h1 (by omega))
theorem zjc{ns:List Node}{O os:List Int}(h:M.PF ns tb O)(ho:∀o∈os,0<=o/\o<ns.length):∃R,M.WP tb (ns,os) R:=by
 obtain⟨R,hR⟩:=ztu h.top h.fr;exact⟨R,h.tabs,h.ok,h.fr,h.inp,hR,h.len,ho⟩
end
end
section
def zgr (xs:List Int) (V:Nat->Nat->Int) (x:Node) (t:Nat):List Int:=if x.1=1 then[M.at_ xs (t:Int)]else x.2.2.2.map fun f=>V f.toNat t
def M.NS (tb:List (List Int)) (x:Node) (I:Nat->List Int) (v:Nat->Int) (s:Nat->List Int):Prop:=
 s 0=zep x/\∀t,v t=zam x tb (I t) (s t)/\s (t+1)=zcg x (I t) (s t) (v t)
def M.Sol (tb:List (List Int)) (xs:List Int) (ns:List Node) (V:Nat->Nat->Int):Prop:=∀i,i<ns.length->∃s,M.NS tb (zab ns i) (zgr xs V (zab ns i)) (V i) s
section
variable {tb:List (List Int)} {xs:List Int}
theorem M.WP.frs{p:NO}{R:Nat->Nat}(h:M.WP tb p R):∀i,i<p.1.length->∀f∈(zab p.1 i).2.2.2,0<=f/\f<p.1.length:=fun i hi=>h.fr i _ (zcq hi)
theorem M.Sol.const{p:NO}{V:Nat->Nat->Int}(h:M.Sol tb xs p.1 V){f:Nat}(hc:zbl p.1 f=true)(t:Nat):V f t=(zab p.1 f).2.1:=by
 have hk:=zl6.1 hc;obtain⟨s,hs⟩:=h f (zl2 (by omega));rw[(hs.2 t).1];simp[zam,hk]
theorem M.Sol.zero{p:NO}{V:Nat->Nat->Int}(h:M.Sol tb xs p.1 V){f:Nat}(hc:zcw p.1 f=true)(t:Nat):V f t=0:=by
 rw[zcw,Bool.and_eq_true,decide_eq_true_eq]at hc;rw[h.const hc.1 t,hc.2]
theorem M.Sol.set{ns:List Node}{V:Nat->Nat->Int}(h:M.Sol tb xs ns V){i:Nat}(hi:i<ns.length){y:Node}(hy:∃s,M.NS tb y (zgr xs V y) (V i) s):M.Sol tb xs (ns.set i y) V:=by
 intro j hj;rw[List.length_set]at hj;rw[zl3 hi]
 split
 ·rename_i e
  rw[e];exact hy
 exact h j hj
theorem M.Sol.rpl{p:NO}{V:Nat->Nat->Int}(h:M.Sol tb xs p.1 V){i b:Nat}(he:∀t,V i t=V b t):M.Sol tb xs (za5 i b p).1 V:=by
 intro j hj;have hl:(za5 i b p).1.length=p.1.length:=by simp[za5]
 rw[hl]at hj;rw[zl4];obtain⟨s,hs⟩:=h j hj;refine⟨s,?_⟩
 have e1:zgr xs V (zcr i b (zab p.1 j))=zgr xs V (zab p.1 j):=by
  funext t
  unfold zgr;have:(zcr i b (zab p.1 j)).1=(zab p.1 j).1:=rfl;rw[this]
  split
  ·rfl
  simp only[zcr,zcx,List.map_map];refine List.map_congr_left fun f hf=>?_
  simp only[Function.comp]
  split
  ·rename_i e
   rw[e,Int.toNat_natCast,Int.toNat_natCast];exact(he t).symm
  rfl
 rw[e1];refine⟨hs.1,fun t=>⟨?_,?_⟩⟩
 ·rw[(hs.2 t).1];rfl
 rw[(hs.2 t).2];rfl
theorem M.NS.const(a b:Int)(l:List Int)(I:Nat->List Int):∃s,M.NS tb (2,a,b,l) I (fun _=>a) s:=⟨fun _=>[],by simp[zep,zd8],fun t=>⟨by simp[zam],by simp[zcg]⟩⟩
end
end
section
section
variable {tb:List (List Int)} {xs:List Int} {p:NO} {R:Nat->Nat} {V:Nat->Nat->Int}
end
end
section
def zcz (nd:Nat->Bool) (n:Nat):List Nat:=(List.range n).filter nd
def zbn (nd:Nat->Bool) (n:Nat):List Int:=(List.range n).map fun j=>if nd j then(zal nd j:Int)else 0
def zcs (nd:Nat->Bool) (ns:List Node):List Node:=(zcz nd ns.length).map fun i=>((zab ns i).1,(zab ns i).2.1,(zab ns i).2.2.1,zbc (zab ns i).2.2.2 (zbn nd ns.length))
def zbo (nd:Nat->Bool) (p:NO):NO:=(zcs nd p.1,zbc p.2 (zbn nd p.1.length))
theorem zmb(nd:Nat->Bool)(n:Nat):(zcz nd n).length=zal nd n:=rfl
theorem zfx(nd:Nat->Bool)(n:Nat):zal nd (n+1)=zal nd n+(if nd n then 1 else 0):=by
 unfold zal;rw[List.range_succ,List.filter_append,List.length_append];cases e:nd n <;> simp[e]
theorem zgs(nd:Nat->Bool){a b:Nat}(h:a<=b):zal nd a<=zal nd b:=by
 obtain⟨d,rfl⟩:∃d,b=a+d:=⟨b-a,by omega⟩
 induction d with
 | zero=>exact Nat.le_refl _
 | succ d ih=>
  rw[<-Nat.add_assoc,zfx];have:=ih (by omega);omega
theorem zeu(nd:Nat->Bool)(n:Nat):zal nd n<=n:=by
 unfold zal;exact Nat.le_trans (List.length_filter_le _ _) (by rw[List.length_range];exact Nat.le_refl _)
theorem zez(nd:Nat->Bool){n j:Nat}(hj:j<n)(h:nd j=true):(zcz nd n)[zal nd j]?=some j:=by
 induction n with
 | zero=>omega
 | succ n ih=>
  rw[zcz,List.range_succ,List.filter_append];rcases Nat.lt_or_ge j n with h1|h1
  ·have:=ih h1
   rw[List.getElem?_append_left (by
    have h2:=zgs nd (show j+1<=n by omega);rw[zfx,h]at h2;show _<zal nd n
    simp at h2;omega)]
   exact this
  have e:j=n:=by omega
  subst e;rw[List.getElem?_append_right (by show zal nd j<=_;exact Nat.le_refl _)];show ([j].filter nd)[zal nd j-zal nd j]?=_
  simp[h]
theorem zmc{nd:Nat->Bool}{n k j:Nat}(h:(zcz nd n)[k]?=some j):j<n/\nd j=true:=by
 have:=List.mem_of_getElem? h;rw[zcz,List.mem_filter,List.mem_range]at this;exact this
theorem zmd(nd:Nat->Bool){n j:Nat}(hj:j<n)(h:nd j=true):M.i_ (zbn nd n) j=(zal nd j:Int):=by
 rw[M.i_,zbn,List.getElem?_map,List.getElem?_range hj];simp[h]
section
variable {tb:List (List Int)} {xs:List Int} {p:NO} {R:Nat->Nat}
theorem zhq{nd:Nat->Bool}{ns:List Node}{k:Nat}{x:Node}(h:(zcs nd ns)[k]?=some x):∃j,(zcz nd ns.length)[k]?=some j/\j<ns.length/\nd j=true/\x=((zab ns j).1,(zab ns j).2.1,(zab ns j).2.2.1,zbc (zab ns j).2.2.2 (zbn nd ns.length)):=by
 rw[zcs,List.getElem?_map,Option.map_eq_some_iff]at h;obtain⟨j,h1,h2⟩:=h;obtain⟨h3,h4⟩:=zmc h1;exact⟨j,h1,h3,h4,h2.symm⟩
theorem zjd(nd:Nat->Bool)(ns:List Node):(zcs nd ns).length=zal nd ns.length:=by rw[zcs,List.length_map,zmb]
theorem ztv(h:M.WP tb p R){nd:Nat->Bool}(hnd:∀j,nd j=true↔M.Rch p.1 p.2 j):∃R',M.WP tb (zbo nd p) R':=by
 have hlen:=h.len;have hc:=zeu nd p.1.length
 have hfr:∀j,j<p.1.length->nd j=true->∀f∈(zab p.1 j).2.2.2,(f.toNat<p.1.length/\nd f.toNat=true/\(f.toNat:Int)=f):=fun j hj hn f hf=>by
  have h1:=h.frs j hj f hf;refine⟨by omega,(hnd _).2 (.dep j _ ((hnd j).1 hn) (by rw[show ((f.toNat:Nat):Int)=f by omega];exact hf)),by omega⟩
 have htl:∀f,f<p.1.length->nd f=true->0<=M.i_ (zbn nd p.1.length) f/\M.i_ (zbn nd p.1.length) f<(zal nd p.1.length:Nat):=fun f h1 h2=>by
  rw[zmd nd h1 h2];have:=zgs nd (show f+1<=p.1.length by omega);rw[zfx,h2]at this;simp at this;omega
 have hl:(zbo nd p).1.length=zal nd p.1.length:=zjd nd p.1;refine⟨fun k=>R (((zcz nd p.1.length)[k]?).getD 0),h.tabs,fun k x hx=>?_,fun k x hx f hf=>?_,fun k x hx e=>?_,fun k x hx f hf=>?_,by rw[hl];omega,fun o ho=>?_⟩
 ·obtain⟨j,h1,h2,h3,rfl⟩:=zhq hx;have hok:=(h.node h2).2;rw[zaj]at hok ⊢;simp only[Bool.and_eq_true]at hok ⊢;obtain⟨g1,⟨⟨⟨g2,g3⟩,g4⟩,g5⟩,g6⟩:=hok;refine⟨g1,⟨⟨⟨g2,g3⟩,?_⟩,by simpa [zbc]using g5⟩,g6⟩;rw[List.all_eq_true];intro f hf;rw[zbc,List.mem_map]at hf;obtain⟨g,hg,rfl⟩:=hf;obtain⟨q1,q2,q3⟩:=hfr j h2 h3 g hg;have:=htl _ q1 q2;exact zbf.2 (by omega)
 ·obtain⟨j,h1,h2,h3,rfl⟩:=zhq hx;rw[hl];simp only[zbc,List.mem_map]at hf;obtain⟨g,hg,rfl⟩:=hf;obtain⟨q1,q2,q3⟩:=hfr j h2 h3 g hg;exact htl _ q1 q2
 ·obtain⟨j,h1,h2,h3,rfl⟩:=zhq hx;exact h.inp j (zab p.1 j) (zcq h2) e
 ·obtain⟨j,h1,h2,h3,rfl⟩:=zhq hx;rw[hl];unfold zau at hf;dsimp only at hf
  split at hf
  ·simp at hf
  rename_i h6
  rw[zbc,List.mem_map]at hf;obtain⟨g,hg,rfl⟩:=hf;obtain⟨q1,q2,q3⟩:=hfr j h2 h3 g hg;refine⟨htl _ q1 q2,?_⟩;rw[zmd nd q1 q2,Int.toNat_natCast,zez nd q1 q2,h1];exact h.rlt h2 h6 hg
 rw[hl];simp only[zbo,zbc,List.mem_map]at ho;obtain⟨g,hg,rfl⟩:=ho;have h1:=h.outs g hg;exact htl _ (by omega) ((hnd _).2 (.out _ (by rw[show ((g.toNat:Nat):Int)=g by omega];exact hg)))
end
end
def zdk (l:List Int):Prop:=l.Pairwise (· < ·)
def zb5 (l:List Int) (n:Int):List Int:=l.filter (fun x=>decide (x<n))++n::l.filter (fun x=>decide (n<x))
theorem ztw{l:List Int}{n:Int}(h:∀x∈l,x<n):zb5 l n=l++[n]:=by
 rw[zb5,List.filter_eq_self.2 (fun x hx=>by simpa using h x hx),List.filter_eq_nil_iff.2 (fun x hx=>by have:=h x hx;simp;omega)]
theorem ztx{l:List Int}{n x:Int}(h:∀x∈l,x<n)(hx:n<=x):zb5 (l++[x]) n=(if n<x then l++[n]else l)++[x]:=by
 have f1:l.filter (fun x=>decide (x<n))=l:=List.filter_eq_self.2 (fun y hy=>by simpa using h y hy);have f2:l.filter (fun x=>decide (n<x))=[]:=List.filter_eq_nil_iff.2 (fun y hy=>by have:=h y hy;simp;omega);have e1:decide (x<n)=false:=by simp;omega
 rw[zb5,List.filter_append,List.filter_append,f1,f2,List.filter_cons,List.filter_cons,e1]
 by_cases hh:n<x
 ·simp[hh]
 obtain rfl:x=n:=by omega
 simp
theorem zty{l:List Int}{n x:Int}(h:n<x):zb5 (l++[x]) n=zb5 l n++[x]:=by
 have e1:decide (x<n)=false:=by simp;omega
 simp[zb5,List.filter_append,List.filter,e1,h]
theorem ze0{l:List Int}{n x:Int}:x∈zb5 l n↔x∈l\/x=n:=by
 simp only[zb5,List.mem_append,List.mem_cons,List.mem_filter,decide_eq_true_eq];constructor
 ·rintro(h|h|h)
  ·exact .inl h.1
  ·exact .inr h
  exact .inl h.1
 rintro(h|h)
 ·rcases Int.lt_trichotomy x n with h1|h1|h1
  ·exact .inl ⟨h,h1⟩
  ·exact .inr (.inl h1)
  exact .inr (.inr ⟨h,h1⟩)
 exact .inr (.inl h)
theorem zme{l:List Int}{n:Int}(h:zdk l):zdk (zb5 l n):=by
 unfold zdk zb5 at *;rw[List.pairwise_append];refine⟨h.filter _,List.pairwise_cons.2 ⟨fun x hx=>by simpa using (List.mem_filter.1 hx).2,h.filter _⟩,fun a ha b hb=>?_⟩;have h1:a<n:=by simpa using (List.mem_filter.1 ha).2
 rcases List.mem_cons.1 hb with rfl|hb
 ·exact h1
 have h2:n<b:=by simpa using (List.mem_filter.1 hb).2
 omega
theorem zje:∀{a b:List Int},zdk a->zdk b->(∀x,x∈a↔x∈b)->a=b
 | [],[],_,_,_=>rfl
 | [],y::b,_,_,h=>absurd ((h y).2 (List.mem_cons_self ..)) (by simp)
 | x::a,[],_,_,h=>absurd ((h x).1 (List.mem_cons_self ..)) (by simp)
 | x::a,y::b,ha,hb,h=>by
  obtain⟨a1,a2⟩:=List.pairwise_cons.1 ha;obtain⟨b1,b2⟩:=List.pairwise_cons.1 hb
  have e:x=y:=by
   rcases List.mem_cons.1 ((h x).1 (List.mem_cons_self ..))with e|hx
   ·exact e
   rcases List.mem_cons.1 ((h y).2 (List.mem_cons_self ..))with e|hy
   ·exact e.symm
   have:=a1 y hy;have:=b1 x hx;omega
  subst e;rw[zje a2 b2 fun z=>?_];constructor
  ·intro hz;rcases List.mem_cons.1 ((h z).1 (List.mem_cons_of_mem _ hz))with e|hz'
   ·have:=a1 z hz;omega
   exact hz'
  intro hz;rcases List.mem_cons.1 ((h z).2 (List.mem_cons_of_mem _ hz))with e|hz'
  ·have:=b1 z hz;omega
  exact hz'
theorem ztz{l:List Int}{n:Int}(h:zdk l)(hn:n∈l):zb5 l n=l:=
 zje (zme h) h fun x=>by
  rw[ze0];exact⟨fun e=>e.elim id (fun e=>e▸hn),.inl⟩
theorem zmf:∀{l:List Int} {n:Int},n∉l->(zb5 l n).length=l.length+1
 | [],n,_=>rfl
 | x::l,n,h=>by
  have h1:x≠n:=fun e=>h (e▸List.mem_cons_self ..)
  have ih:=zmf (l:=l) (n:=n) (fun hh=>h (List.mem_cons_of_mem _ hh));simp only[zb5,List.length_append,List.length_cons]at ih ⊢
  by_cases hlt:x<n
  ·have e:decide (n<x)=false:=(by simp;omega);simp only[List.filter_cons,hlt,e,decide_true,if_true,List.length_cons,Bool.false_eq_true,if_false];omega
  have e1:decide (x<n)=false:=by simpa using hlt
  have e:n<x:=by omega
  simp only[List.filter_cons,e,e1,decide_true,if_true,List.length_cons,Bool.false_eq_true,if_false];omega
theorem zmg:∀{l:List Int} {a n:Int},zdk l->a<=n->(∀x∈l,a<=x/\x<n)->(l.length:Int)<=n-a
 | [],a,n,_,h,_=>by simp;omega
 | x::l,a,n,h,ha,hh=>by
  obtain⟨h1,h2⟩:=List.pairwise_cons.1 h;have hx:=hh x (List.mem_cons_self ..);have:=zmg (l:=l) (a:=x+1) (n:=n) h2 (by omega) (fun y hy=>⟨by have:=h1 y hy;omega,(hh y (List.mem_cons_of_mem _ hy)).2⟩);simp only[List.length_cons];omega
structure M.NI (ns:List Node) (os l:List Int):Prop where
 ris:zdk l
 rch:∀x∈l,0<=x/\M.Rch ns os x.toNat
theorem M.NI.nil(ns:List Node)(os:List Int):M.NI ns os []:=⟨List.Pairwise.nil,fun _ h=>by cases h⟩
theorem M.NI.put{ns:List Node}{os l:List Int}{n:Int}(h:M.NI ns os l)(h0:0<=n)(hn:M.Rch ns os n.toNat):M.NI ns os (zb5 l n):=
 ⟨zme h.ris,fun x hx=>by
  rcases ze0.1 hx with h1|rfl
  ·exact h.rch x h1
  exact⟨h0,hn⟩⟩
theorem M.NI.len{tb:List (List Int)}{R:Nat->Nat}{p:NO}{l:List Int}(hp:M.WP tb p R)(h:M.NI p.1 p.2 l):l.length<=p.1.length:=by
 have:=zmg (l:=l) (a:=0) (n:=p.1.length) h.ris (by omega) (fun x hx=>⟨(h.rch x hx).1,by
  have:=M.Rch.lt hp (h.rch x hx).2;have:=(h.rch x hx).1;omega⟩)
 omega
theorem zt0(nd:Nat->Bool)(n:Nat):zdk ((zcz nd n).map Int.ofNat):=by
 unfold zdk zcz;rw[List.pairwise_map];exact(List.Pairwise.imp (fun h=>Int.ofNat_lt.2 h) (List.pairwise_lt_range (n:=n))).filter _
theorem M.NI.whole{tb:List (List Int)}{R:Nat->Nat}{p:NO}{l:List Int}(hp:M.WP tb p R)(h:M.NI p.1 p.2 l)(ho:∀o∈p.2,o∈l)(hc:∀i f:Nat,(i:Int)∈l->(f:Int)∈(zab p.1 i).2.2.2->(f:Int)∈l){nd:Nat->Bool}(hnd:∀j,nd j=true↔M.Rch p.1 p.2 j):
 l=(zcz nd p.1.length).map Int.ofNat:=by
 refine zje h.ris (zt0 _ _) fun x=>?_
 constructor
 ·intro hx;obtain⟨h0,hr⟩:=h.rch x hx;refine List.mem_map.2 ⟨x.toNat,List.mem_filter.2 ⟨List.mem_range.2 (M.Rch.lt hp hr),(hnd _).2 hr⟩,Int.toNat_of_nonneg h0⟩
 intro hx;obtain⟨k,hk,rfl⟩:=List.mem_map.1 hx;have hr:=(hnd k).1 (List.mem_filter.1 hk).2;clear hk hx
 induction hr with
 | out i hi=>exact ho _ hi
 | dep i f _ hf ih=>exact hc i f ih hf
structure M.BI (ns:List Node) (os:List Int) (m:List Bool) (q:List Int):Prop where
 len:m.length=ns.length
 qr:∀x∈q,0<=x/\M.Rch ns os x.toNat
 mr:∀j:Nat,m[j]?=some true->M.Rch ns os j
 ou:∀o:Nat,(o:Int)∈os->(o:Int)∈q\/m[o]?=some true
 cl:∀j f:Nat,m[j]?=some true->(f:Int)∈(zab ns j).2.2.2->(f:Int)∈q\/m[f]?=some true
theorem M.BI.start{ns:List Node}{os:List Int}(ho:∀o∈os,0<=o):M.BI ns os (List.replicate ns.length false) os where
 len:=by simp
 qr x hx:=⟨ho x hx,M.Rch.out _ (by rw[Int.toNat_of_nonneg (ho x hx)];exact hx)⟩
 mr j h:=by rw[List.getElem?_replicate]at h;split at h <;> simp at h
 ou o h:=.inl h
 cl j f h:=by rw[List.getElem?_replicate]at h;split at h <;> simp at h
theorem M.BI.skip{ns:List Node}{os:List Int}{m:List Bool}{x:Nat}{q:List Int}(h:M.BI ns os m ((x:Int)::q))(hx:m[x]?=some true):M.BI ns os m q where
 len:=h.len
 qr y hy:=h.qr y (List.mem_cons_of_mem _ hy)
 mr:=h.mr
 ou o ho:=by
  rcases h.ou o ho with h1|h1
  ·rcases List.mem_cons.1 h1 with e|h1
   ·obtain rfl:o=x:=by omega
    exact .inr hx
   exact .inl h1
  exact .inr h1
 cl j f hj hf:=by
  rcases h.cl j f hj hf with h1|h1
  ·rcases List.mem_cons.1 h1 with e|h1
   ·obtain rfl:f=x:=by omega
    exact .inr hx
   exact .inl h1
  exact .inr h1
theorem M.BI.mark{ns:List Node}{os:List Int}{m:List Bool}{x:Nat}{q:List Int}(h:M.BI ns os m ((x:Int)::q))(hx:x<m.length)(hf:∀f∈(zab ns x).2.2.2,0<=f):M.BI ns os (m.set x true) (q++(zab ns x).2.2.2):=by
 have hr:M.Rch ns os x:=(h.qr x (List.mem_cons_self ..)).2
 have hs:∀j:Nat,(m.set x true)[j]?=some true↔j=x\/m[j]?=some true:=fun j=>by
  rw[List.getElem?_set]
  by_cases e:x=j
  ·subst e;simp[hx]
  simp[e,Ne.symm e]
 refine⟨by rw[List.length_set];exact h.len,fun y hy=>?_,fun j hj=>?_,fun o ho=>?_,fun j f hj hff=>?_⟩
 ·rcases List.mem_append.1 hy with h1|h1
  ·exact h.qr y (List.mem_cons_of_mem _ h1)
  exact⟨hf y h1,M.Rch.dep x _ hr (by rw[Int.toNat_of_nonneg (hf y h1)];exact h1)⟩
 ·rcases(hs j).1 hj with rfl|h1
  ·exact hr
  exact h.mr j h1
 ·rw[hs];rcases h.ou o ho with h1|h1
  ·rcases List.mem_cons.1 h1 with e|h1
   ·exact .inr (.inl (by omega))
   exact .inl (List.mem_append_left _ h1)
  exact .inr (.inr h1)
 rw[hs];rcases(hs j).1 hj with rfl|h0
 ·exact .inl (List.mem_append_right _ hff)
 rcases h.cl j f h0 hff with h1|h1
 ·rcases List.mem_cons.1 h1 with e|h1
  ·exact .inr (.inl (by omega))
  exact .inl (List.mem_append_left _ h1)
 exact .inr (.inr h1)
theorem M.BI.whole{ns:List Node}{os:List Int}{m:List Bool}(h:M.BI ns os m []){nd:Nat->Bool}(hnd:∀j,nd j=true↔M.Rch ns os j):m=(List.range ns.length).map nd:=by
 have key:∀j,M.Rch ns os j->m[j]?=some true:=fun j hr=>by
  induction hr with
  | out i hi=>exact(h.ou i hi).elim (fun e=>by cases e) id
  | dep i f _ hf ih=>exact(h.cl i f ih hf).elim (fun e=>by cases e) id
 apply List.ext_getElem (by simp[h.len]);intro j h1 h2;rw[List.getElem_map,List.getElem_range];cases e:m[j]
 ·cases e2:nd j
  ·rfl
  have:=key j ((hnd j).1 e2);rw[List.getElem?_eq_getElem h1,e]at this;cases this
 exact((hnd j).2 (h.mr j (by rw[List.getElem?_eq_getElem h1,e]))).symm
def zdd (m:List Bool):Nat:=(m.filter id).length
theorem zt1(m:List Bool):zdd m<=m.length:=List.length_filter_le _ _
theorem zmh:∀{m:List Bool} {x:Nat},m[x]?=some false->zdd (m.set x true)=zdd m+1
 | [],x,h=>by simp at h
 | b::m,0,h=>by
  obtain rfl:b=false:=by simpa using h
  simp[zdd]
 | b::m,x+1,h=>by
  have ih:=zmh (m:=m) (x:=x) (by simpa using h);cases b <;> simp_all [zdd]
end Go.Proofs.YtifeldeikhmckaaGreat
