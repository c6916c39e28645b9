import Derived.Test.YtifeldeikhmckaaGreatFnExactOptimizeSessionG40
import Derived.Test.YtifeldeikhmckaaGreatFnExactOptimizeSessionG21
import Derived.Test.YtifeldeikhmckaaGreatFnExactOptimizeSessionG34
import Derived.Test.YtifeldeikhmckaaGreatFnExactOptimizeSessionG35
set_option linter.unusedVariables false
set_option linter.unusedSimpArgs false
set_option maxRecDepth 100000
set_option maxHeartbeats 4000000
namespace Go.Proofs.YtifeldeikhmckaaGreat
open Go.RowKit Go.Sort
section
structure M.NJ (ns:List Node) (os l0 l:List Int):Prop where
 ni:M.NI ns os l
 sub:∀x∈l0,x∈l
 gr:l=l0\/l0.length<l.length
theorem M.NJ.put{ns:List Node}{os l0 l:List Int}{n:Int}(h:M.NJ ns os l0 l)(h0:0<=n)(hn:M.Rch ns os n.toNat):M.NJ ns os l0 (zb5 l n):=by
 refine⟨h.ni.put h0 hn,fun x hx=>ze0.2 (.inl (h.sub x hx)),?_⟩
 by_cases hm:n∈l
 ·rw[ztz h.ni.ris hm];exact h.gr
 right
 rw[zmf hm];rcases h.gr with e|g
 ·rw[e];omega
 omega
section
variable {tb:List (List Int)} {p:NO} {R:Nat->Nat} {w:Yw} {vb vo:Nat} {a0:Int} {A1 :Yo} {n1 c1:Nat} {A2 :Yo} {n2 c2:Nat} {A3 :Yo} {n3 c3:Nat}
theorem zjv(V:PV w vb vo a0 A1 n1 c1 A2 n2 c2 A3 n3 c3)(h:M.WP tb p R)(ho:p.2.length<=1000)(hr:RS tN w w.heap.size (.slice A2 n2 c2) p.1)(k3:RI w w.heap.size A3 n3 p.2){nd:Nat->Bool}(hnd:∀j,nd j=true↔M.Rch p.1 p.2 j):
 Calls Tryz.prog 76 #[.pointer (some ⟨vb,vo,none⟩)] w fun e w'=>∃(A:Yo) (c:Nat),e=.returned (.slice A (M.nl nd n2).length c)/\RI w' w'.heap.size A (M.nl nd n2).length (M.nl nd n2)/\Below w.heap.size w w':=by
 have hl:=hr.cap.1;have hlen:=h.len;have hn2:n2<=24:=by omega
 have L3:=Lib.hid k3.len;have hn3:n3<=1000:=by rw[<-L3.out];exact ho
 have HV:=Lib.hid V;have HR:=Lib.hid hr;have HP:=Lib.hid h;have HND:=Lib.hid hnd;have HL:=Lib.hid hl;have lv:=V.lt;clear hr h hnd hl ho V
 go_enter Tryz.func76,Tryz.ntmps76
 go_wp2_with fail
 go_loopw [3,4] (fun v3 v4 wr=>∃(k:Nat) (l:List Int) (A:Yo) (c:Nat),v4=.int .i64 k/\k<=n3/\v3=.slice A l.length c/\RI wr wr.heap.size A l.length l/\Hid (M.NI p.1 p.2 l/\∀o∈p.2.take k,o∈l)/\Below w.heap.size w wr) (fun _ v4 _=>n3-(intOf v4).toNat)
 case atStart=>exact⟨0,[],some ⟨w.heap.size,0,none⟩,0,rfl,by omega,rfl,RI.nil _ _ _,Lib.hid ⟨M.NI.nil _ _,fun o ho=>by cases ho⟩,(Below.refl _ _).alloc (Nat.le_refl _) _⟩
 case round=>
  obtain⟨k,l,A,c,rfl,hk,rfl,ri,H,B⟩:=hrel;obtain⟨z0,z1,z2,z3⟩:=HV.out.later B;have sB:=B.size
  by_cases hlt:k<n3
  ·have X:=Lib.hid (List.getElem?_eq_getElem (show k<p.2.length by rw[L3.out];exact hlt));generalize p.2[k]'(by rw[L3.out];exact hlt)=x at X;obtain⟨b,o,rfl,hb,hc⟩:=zak k3 (by omega);have v0:=(B.cell (by exact hb)).trans (hc k _ X.out);have hkn:(k:Int)<(n3:Int):=(by omega);have hx:=HP.out.outs x (List.mem_of_getElem? X.out);have hrc:M.Rch p.1 p.2 x.toNat:=M.Rch.out _ (by rw[Int.toNat_of_nonneg hx.1];exact List.mem_of_getElem? X.out)
   have H2:=Lib.hid (show M.NI p.1 p.2 (zb5 l x)/\∀o∈p.2.take (k+1),o∈zb5 l x from
    ⟨H.out.1.put hx.1 hrc,fun o ho=>by
     rw[List.take_add_one,X.out]at ho;rcases List.mem_append.1 ho with ho|ho
     ·exact ze0.2 (.inl (H.out.2 o ho))
     exact ze0.2 (.inr (by simpa using ho))⟩)
   have hll:l.length<=24:=Nat.le_trans (H.out.1.len HP.out) hlen;have hris:=Lib.hid H.out.1.ris;have hx0:=hx.1;clear hc hx hrc H;go_wp2_with fail;refine(zoi _ _ _ _ _ _ ri (by omega) hris).mono ?_;rintro e w2 ⟨v2,rfl,own2,b2⟩;obtain⟨A',c',rfl,r2⟩:=own2.shape;go_wp2_with fail;go_roundw
   case rel=>exact⟨k+1,_,A',c',by go_num,by omega,rfl,r2,H2,zaa B b2⟩
   case measure=>simp[intOf];omega
  obtain rfl:k=n3:=by omega
  have HO:=Lib.hid (show ∀o∈p.2,o∈l by
   have:=H.out.2;rwa [List.take_of_length_le (by rw[L3.out];exact Nat.le_refl _)]at this)
  have HN:=Lib.hid H.out.1;clear H;go_wp2_with fail
  go_loopg [3,5] 100 (fun gk v3 v5 wr=>∃(l:List Int) (A:Yo) (c:Nat) (more:Bool),v5=.bool more/\v3=.slice A l.length c/\RI wr wr.heap.size A l.length l/\Hid (M.NI p.1 p.2 l/\(∀o∈p.2,o∈l)/\(more=false->∀x∈l,∀f∈(zab p.1 x.toNat).2.2.2,f∈l))/\Below w.heap.size w wr/\(more=true->30<=gk+l.length))
  case atStart=>exact⟨l,A,c,true,rfl,rfl,ri,Lib.hid ⟨HN.out,HO.out,fun e=>by cases e⟩,B,fun _=>by omega⟩
  case round=>
   clear z0 z1 z2 z3 sB ri HO HN B;obtain⟨l0,A0,c0,more,rfl,rfl,ri0,H,B,hg⟩:=hrel;have hl0:l0.length<=24:=Nat.le_trans (H.out.1.len HP.out) hlen;cases more
   ·have E:=Lib.hid (show l0=M.nl nd n2 by
     rw[M.nl,<-HL.out];refine H.out.1.whole HP.out H.out.2.1 (fun i f hi hf=>?_) HND.out;exact H.out.2.2 rfl (i:Int) hi (f:Int) (by rw[Int.toNat_natCast];exact hf))
    clear H hg;go_wp2;go_ret;rw[<-E.out];exact⟨A0,c0,rfl,ri0,B⟩
   have hg2:=hg rfl;clear hg;have N0:=Lib.hid H.out.1;have O0:=Lib.hid H.out.2.1;clear H;go_wp2_with fail;refine(zd4 _ _ _ _ _ ri0 (by omega)).mono ?_;rintro e w2 ⟨v2,rfl,own2,b2⟩;obtain⟨A7,c7,rfl,r7⟩:=own2.shape;have r02:=ri0.later b2;have B2:=zaa B b2;clear own2;go_wp2_with fail
   go_loopw [3,8] (fun v3 v8 wt=>∃(q:Nat) (l:List Int) (A:Yo) (c:Nat),v8=.int .i64 q/\q<=l0.length/\v3=.slice A l.length c/\RI wt wt.heap.size A l.length l/\Hid (M.NJ p.1 p.2 l0 l/\∀x∈l0.take q,∀f∈(zab p.1 x.toNat).2.2.2,f∈l)/\Below w2.heap.size w2 wt) (fun _ v8 _=>l0.length-(intOf v8).toNat)
   case atStart=>exact⟨0,l0,A0,c0,rfl,by omega,rfl,r02,Lib.hid ⟨⟨N0.out,fun x hx=>hx,.inl rfl⟩,fun x hx=>by cases hx⟩,Below.refl _ _⟩
   case round=>
    rename Yw=>wt
    obtain⟨q,l,A,c,rfl,hq,rfl,ri,H,Bt⟩:=hrel;have B3:=zaa B2 Bt;have st:=Bt.size
    by_cases hlt:q<l0.length
    ·have X:=Lib.hid (List.getElem?_eq_getElem hlt);generalize l0[q]'hlt=x at X;obtain⟨b,o,rfl,hb,hc⟩:=zak r7 (by omega);have v0:=(Bt.cell (by exact hb)).trans (hc q _ X.out);have hqn:(q:Int)<(l0.length:Int):=(by omega);have hx:=N0.out.rch x (List.mem_of_getElem? X.out);obtain⟨xi,rfl⟩:∃xi:Nat,x=(xi:Int):=⟨x.toNat,(Int.toNat_of_nonneg hx.1).symm⟩;rw[Int.toNat_natCast]at hx;have hxn:xi<n2:=(by rw[<-HL.out];exact M.Rch.lt HP.out hx.2);have hr3:=HR.out.later B3;obtain⟨bb,on,kk,ka,kb,A4,c4,fs,rfl,hbb,Y,e0,e1,e2,e3,hrf,hlf⟩:=zbg HP.out hr3 hxn;have IN:=Lib.hid (fun j (hj:j<fs.length)=>HP.out.inpt (by rw[HL.out];exact hxn:xi<p.1.length) Y.out hj);obtain⟨z0,z1,z2,z3⟩:=HV.out.later B3;have hxi:(xi:Int)<(n2:Int):=(by omega);have hx0:(0:Int)<=(xi:Int):=(by omega);have HX:=Lib.hid hx.2;clear hc hx hr3;have riD:RI wt.drew wt.drew.heap.size A l.length l:=ri.later (Below.refl _ _).drew;have rfD:RI wt.drew wt.drew.heap.size A4 fs.length fs:=hrf.later (Below.refl _ _).drew;go_wp2_with fail;refine wp_region_still_lit (by kernel_rfl) (by kernel_rfl) ?_
     iterate 12 still_step
     refine wpStill_nil ?_;go_wp2_with fail
     go_loopw [3,10] (fun v3 v10 wu=>∃(j:Nat) (l:List Int) (A:Yo) (c:Nat),v10=.int .i64 j/\j<=fs.length/\v3=.slice A l.length c/\RI wu wu.heap.size A l.length l/\Hid (M.NJ p.1 p.2 l0 l/\(∀x∈l0.take q,∀f∈(zab p.1 x.toNat).2.2.2,f∈l)/\∀f∈fs.take j,f∈l)/\Below wt.drew.heap.size wt.drew wu) (fun _ v10 _=>fs.length-(intOf v10).toNat)
     case atStart=>exact⟨0,l,A,c,rfl,by omega,rfl,riD,Lib.hid ⟨H.out.1,H.out.2,fun f hf=>by cases hf⟩,Below.refl _ _⟩
     case round=>
      clear H ri riD z0 z1 z2 z3 v0 e0 e1 e2 e3
      rename Yw=>wu
      obtain⟨j,l,A,c,rfl,hj,rfl,ri,H,Bu⟩:=hrel;have su:=Bu.size
      by_cases hlt:j<fs.length
      ·obtain⟨f,f1,f2,f3,f4⟩:=IN.out j hlt;obtain⟨bf,of_,rfl,hbf,hcf⟩:=zak rfD (by omega);have v1:=(Bu.cell (by exact hbf)).trans (hcf j _ f1);have hjn:(j:Int)<(fs.length:Int):=(by omega);have hrc:M.Rch p.1 p.2 f:=M.Rch.dep xi f HX.out (by rw[Y.out];exact List.mem_of_getElem? f1);have hll:l.length<=24:=Nat.le_trans (H.out.1.ni.len HP.out) hlen;have hris:=Lib.hid H.out.1.ni.ris
       have H2:=Lib.hid (show M.NJ p.1 p.2 l0 (zb5 l (f:Int))/\(∀x∈l0.take q,∀g∈(zab p.1 x.toNat).2.2.2,g∈zb5 l (f:Int))/\∀g∈fs.take (j+1),g∈zb5 l (f:Int)from
        ⟨H.out.1.put (by omega) (by rw[Int.toNat_natCast];exact hrc),fun x hx g hg=>ze0.2 (.inl (H.out.2.1 x hx g hg)),fun g hg=>by
         rw[List.take_add_one,f1]at hg;rcases List.mem_append.1 hg with hg|hg
         ·exact ze0.2 (.inl (H.out.2.2 g hg))
         exact ze0.2 (.inr (by simpa using hg))⟩)
       clear hcf f1 f2 f3 f4 hrc H;go_wp2_with fail;refine(zoi _ _ _ _ _ _ ri (by omega) hris).mono ?_;rintro e w5 ⟨v5,rfl,own5,b5⟩;obtain⟨A',c',rfl,r5⟩:=own5.shape;go_wp2_with fail;go_roundw
       case rel=>exact⟨j+1,_,A',c',by go_num,by omega,rfl,r5,H2,zaa Bu b5⟩
       case measure=>simp[intOf];omega
      obtain rfl:j=fs.length:=by omega
      have H2:=Lib.hid (show M.NJ p.1 p.2 l0 l/\∀x∈l0.take (q+1),∀f∈(zab p.1 x.toNat).2.2.2,f∈l from
       ⟨H.out.1,fun x hx g hg=>by
        rw[List.take_add_one,X.out]at hx;rcases List.mem_append.1 hx with hx|hx
        ·exact H.out.2.1 x hx g hg
        obtain rfl:x=(xi:Int):=by simpa using hx
        rw[Int.toNat_natCast,Y.out]at hg;exact H.out.2.2 g (by rw[List.take_of_length_le (Nat.le_refl _)];exact hg)⟩)
      clear H;have B4:Below w2.heap.size w2 wu:=zaa Bt (zaa (Below.refl _ _).drew Bu);go_wp2_with fail;go_roundw
      case rel=>exact⟨q+1,l,A,c,by go_num,by omega,rfl,ri,H2,B4⟩
      case measure=>simp[intOf];omega
    obtain rfl:q=l0.length:=by omega
    have C:=H.out.2;rw[List.take_of_length_le (Nat.le_refl _)]at C;have hll:l.length<=24:=Nat.le_trans (H.out.1.ni.len HP.out) hlen;have HA:=Lib.hid H.out.1.ni;have HB:=Lib.hid (show ∀o∈p.2,o∈l from fun o ho=>H.out.1.sub o (O0.out o ho))
    by_cases hgr:l0.length<l.length
    ·clear H C;go_wp2_with fail
     go_roundg (gk-1)
     case measure=>omega
     case rel=>exact⟨l,A,c,true,rfl,rfl,ri,Lib.hid ⟨HA.out,HB.out,fun e=>by cases e⟩,B3,fun _=>by omega⟩
    have HC:=Lib.hid (show ∀x∈l,∀f∈(zab p.1 x.toNat).2.2.2,f∈l by
     rcases H.out.1.gr with e|e
     ·rw[e];rw[e]at C;exact C
     exact absurd e hgr)
    clear H C;go_wp2_with fail
    go_roundg (gk-1)
    case measure=>omega
    case rel=>exact⟨l,A,c,false,rfl,rfl,ri,Lib.hid ⟨HA.out,HB.out,fun _=>HC.out⟩,B3,fun e=>by cases e⟩
end
end
section
theorem zv5{k a b:Int}{fs:List Int}(h:zai M.k8 k=true):zd8 (k,a,b,fs)=0:=by
 rcases zho h with rfl|rfl|rfl|rfl|rfl|rfl|rfl|rfl <;> simp[zd8]
section
variable {tb:List (List Int)} {p:NO} {R:Nat->Nat} {w:Yw} {vb vo:Nat} {a0:Int} {A1 :Yo} {n1 c1:Nat} {A2 :Yo} {n2 c2:Nat} {A3 :Yo} {n3 c3:Nat}
theorem zv6(V:PV w vb vo a0 A1 n1 c1 A2 n2 c2 A3 n3 c3)(h:M.WP tb p R)(ht:RS tS w w.heap.size (.slice A1 n1 c1) tb)(hr:RS tN w w.heap.size (.slice A2 n2 c2) p.1){i:Nat}(hi:i<n2)(hC:zbj p.1 (zab p.1 i)=true):
 Calls Tryz.prog 183 #[.pointer (some ⟨vb,vo,none⟩),.int .i64 i] w fun e w'=>e=.returned (.int .i64 (zam (zab p.1 i) tb (zc7 p.1 (zab p.1 i)) []))/\Below w.heap.size w w':=by
 have hl:=hr.cap.1;have hlt:=ht.cap.1;have hlen:=h.len;obtain⟨bb,o,k,a,b,A4,c4,fs,hA,hb,X,e0,e1,e2,e3,hr3,hl3⟩:=zbg h hr hi;have hok:=(h.node (i:=i) (by omega)).2;rw[X.out]at hok hC ⊢;have hins:=zm3 hok;have hia:=Lib.hid (zi7 h hC)
 have hm:zai M.k8 k=true:=by
  rw[zbj,Bool.and_eq_true]at hC;exact hC.1
 have HST:=Lib.hid (zv5 (a:=a) (b:=b) (fs:=fs) hm)
 have hil:=Lib.hid (show (zc7 p.1 (k,a,b,fs)).length=zc5 k by
  show (fs.map _).length=_
  rw[List.length_map];exact hins hm)
 have HOK:=Lib.hid hok;have IN:=Lib.hid (fun j (hj:j<fs.length)=>h.inpt (by omega:i<p.1.length) X.out hj);have hi2:(i:Int)<(n2:Int):=by omega
 have hn2:n2<=24:=by omega
 have HV:=Lib.hid V;have HR:=Lib.hid hr;have HT:=Lib.hid ht;have HP:=Lib.hid h;have HL:=Lib.hid hl;have HLT:=Lib.hid hlt;obtain⟨z0,z1,z2,z3⟩:=V;obtain⟨w0,rfl⟩:∃w0:Yw,w0=w:=⟨_,rfl⟩;have q3:=e3;have q0:=e0;have q1:=e1;subst hA;clear hok hC hins hm hl hlt ht hr h;obtain⟨vv,hvv⟩:∃vv,zam (k,a,b,fs) tb (zc7 p.1 (k,a,b,fs)) []=vv:=⟨_,rfl⟩;rw[hvv];have HVV:=Lib.hid hvv;clear hvv
 go_enter Tryz.func183,Tryz.ntmps183
 go_wp2_with fail
 go_loopw [6,7] (fun v j wr=>∃t:Nat,j=.int .i64 t/\t<=fs.length/\OI 2 w0.heap.size wr v ((fs.take t).map (fun f=>(zab p.1 f.toNat).2.1))/\Below w0.heap.size w0 wr) (fun _ j _=>fs.length-(intOf j).toNat)
 case atStart=>exact⟨0,rfl,by omega,OI.made _ _,(Below.refl _ _).alloc (Nat.le_refl _) _⟩
 case round=>
  obtain⟨t,rfl,htl,own,Bw⟩:=hrel;have sw:=Bw.size;obtain⟨z0,z1,z2,z3⟩:=HV.out.later Bw;replace e3:=(Bw.cell (by exact hb)).trans q3;replace e0:=(Bw.cell (by exact hb)).trans q0;replace e1:=(Bw.cell (by exact hb)).trans q1
  by_cases hlt2:t<fs.length
  ·obtain⟨f,f1,f2,f3,f4⟩:=IN.out t hlt2;have hfn:f<n2:=(by rw[<-HL.out];exact f2);obtain⟨bb',o',y0,y1,y2,A5,c5,y3,hA,hb',Z',u0,u1,u2,u3,hr5,hl5⟩:=zbg HP.out (HR.out.later Bw) hfn;simp only[Option.some.injEq,Addr.mk.injEq,and_true]at hA;obtain⟨rfl,rfl⟩:=hA;obtain⟨bf,of_,rfl,hbf,hcf⟩:=zak hr3 (by omega);have v0:=(Bw.cell (by exact hbf)).trans (hcf t _ f1)
   have HE:=Lib.hid (show (fs.take (t+1)).map (fun f=>(zab p.1 f.toNat).2.1)=(fs.take t).map (fun f=>(zab p.1 f.toNat).2.1)++[y1]by
    rw[List.take_add_one,f1,List.map_append];simp[Z'.out])
   have hk1:((fs.take t).map (fun f=>(zab p.1 f.toNat).2.1)).length<=1000000000:=(by rw[List.length_map,List.length_take];omega);have hlt3:(t:Int)<(fs.length:Int):=(by omega);have hfi:(f:Int)<(n2:Int):=(by omega);have hf0:(0:Int)<=(f:Int):=(by omega);have m1:=cell_regrown z2;have m2:=cell_regrown e3;have m3:=cell_regrown v0;have m4:=cell_regrown u1;have DV:Below wr.heap.size wr wr.drew:=zae (Below.refl _ _) 1;have hdv:wr.drew.heap.size=wr.heap.size:=rfl;have own2:=own.below DV;have hk2:w0.heap.size<=wr.drew.heap.size:=(by omega);clear hcf f1 f2 f3 f4 Z' u0 u2 u3 hr5 own;go_wp2_with fail
   (refine zcp [0,1,2,3,5,6,7,9] [4,8,10,11,12,13,14] 1 (.one 15 .rest) [16,17] (by kernel_rfl) (by kernel_rfl) ?_;simp only[zar];simp only[List.filterMap,List.getElem?_cons_succ,List.getElem?_cons_zero];(repeat (go_big_quiet_step (fail)));refine wpQuiet_nil ?_;(repeat (go_big_quiet_step (fail)));refine wpQuiet_nil ?_)
   refine zat rfl ?_;go_wp2_with fail;refine⟨regrown_of_below (zaa DV ((Below.refl _ _).alloc (Nat.le_refl _) _)),zbr ?_⟩;go_wp2_with (at_builtin;refine zdf zce rfl _ _ rfl own2 rfl rfl rfl (by unfold maxLen;omega) (by omega) hk2 ?_;intro v1 w4 own4 gr4 bel4);go_roundw
   case rel=>exact⟨t+1,by go_num,by omega,by rw[HE.out];exact OI.push own4,Bw.trans ((DV.mono sw).trans bel4)⟩
   case measure=>simp[intOf];omega
  obtain rfl:t=fs.length:=by omega
  rw[List.take_length]at own;have hcin:zc7 p.1 (k,a,b,fs)=fs.map (fun f=>(zab p.1 f.toNat).2.1):=rfl;rw[<-hcin]at own;obtain⟨A9,c9,rfl,rv⟩:=own.shape;have CO:=Lib.hid (zs5 bb (o+i*4) k a b fs A1 n1 c1 tb A9 _ c9 _ none 0 0 [] wr (HT.out.later Bw) HP.out.tabs rv (RI.nil _ _ _) (Nat.le_refl _) (by rw[<-HLT.out];exact HOK.out) hil.out hia.out (by rw[HST.out];rfl) rfl e0 e1);rw[HVV.out]at CO;clear own hcin;go_wp2_with fail;refine CO.out.mono ?_;rintro e w2 ⟨rfl,b2⟩;go_wp2;go_ret;exact⟨rfl,zaa Bw b2⟩
end
end
theorem zoj(i b:Int)(A:Yo)(n c:Nat)(xs:List Int)(w:Yw)(F:Nat->Prop)(O:OS tI 2 w F (.slice A n c) xs)(hn:n<=1000000):
 Calls Tryz.prog 229 #[.slice A n c,.int .i64 i,.int .i64 b] w fun e w'=>e=.returned (.tuple #[])/\OS tI 2 w' F (.slice A n c) (zcx i b xs)/\Chg F w w':=by
 have hl:=Lib.hid O.read.cap.1
 go_enter Tryz.func229,Tryz.ntmps229
 go_wp2_with fail
 go_loopw [6] (fun j wr=>∃k:Nat,j=.int .i64 k/\k<=n/\OS tI 2 wr F (.slice A n c) (zc0 i b k xs)/\Chg F w wr) (fun j _=>n-(intOf j).toNat)
 case atStart=>exact⟨0,rfl,by omega,O,Chg.refl _ _⟩
 case round=>
  obtain⟨k,rfl,hk,own,ch⟩:=hrel
  by_cases hlt:k<n
  ·have X:=Lib.hid (List.getElem?_eq_getElem (show k<xs.length by rw[hl.out];exact hlt));generalize xs[k]'(by rw[hl.out];exact hlt)=x at X;obtain⟨g,x',rfl,hgF,hgl,X',c0,f0,S⟩:=own.seti hlt;have hxx:=X'.out;rw[zjk X.out,Option.some.injEq]at hxx;subst hxx;have SS:=Lib.hid (S b);have hkn:(k:Int)<(n:Int):=(by omega);clear S O
   by_cases hx:x=i
   ·have E:=Lib.hid (show zc0 i b (k+1) xs=(zc0 i b k xs).set k b by rw[zjl X.out,if_pos hx]);have g_:(x == i)=true:=(by simpa using hx);clear hx;go_wp2_with fail;go_roundw
    case rel=>exact⟨k+1,by go_num,by omega,by rw[E.out];exact SS.out.1,ch.trans SS.out.2⟩
    case measure=>simp[intOf];omega
   have E:=Lib.hid (zm9 (b:=b) X.out hx);have g_:(x == i)=false:=(by simpa using hx);clear hx;go_wp2_with fail;go_roundw
   case rel=>exact⟨k+1,by go_num,by omega,by rw[E.out];exact own,ch⟩
   case measure=>simp[intOf];omega
  obtain rfl:k=n:=by omega
  rw[zm8 _ _ (by rw[hl.out];exact Nat.le_refl _)]at own;go_wp2;refine bodyPost_end (v:=.tuple #[]) (by simp[results,Tryz.results229,go_sem]) rfl ?_;exact⟨rfl,own,ch⟩
theorem zok{tb:List (List Int)}{p:NO}{R:Nat->Nat}{w:Yw}{vb vo:Nat}{a0:Int}{A1:Yo}{n1 c1:Nat}{A2:Yo}{n2 c2:Nat}{A3:Yo}{n3 c3:Nat}{F2 F3:Nat->Prop}(V:PV w vb vo a0 A1 n1 c1 A2 n2 c2 A3 n3 c3)(h:M.WP tb p R)(ho:p.2.length<=1000)(O2:OS tN 169 w F2 (.slice A2 n2 c2) p.1)(O3:OS tI 2 w F3 (.slice A3 n3 c3) p.2)(d23:∀x,F2 x->¬F3 x)(v2:¬F2 vb)(v3:¬F3 vb)(i:Nat)(b:Int):
 Calls Tryz.prog 184 #[.pointer (some ⟨vb,vo,none⟩),.int .i64 i,.int .i64 b] w fun e w'=>e=.returned (.tuple #[])/\OS tN 169 w' F2 (.slice A2 n2 c2) (za5 i b p).1/\OS tI 2 w' F3 (.slice A3 n3 c3) (za5 i b p).2/\Chg (fun x=>F2 x\/F3 x) w w':=by
 have hlen:=h.len;have HL:=Lib.hid O2.read.cap.1;have hn2:n2<=24:=by rw[<-HL.out];exact hlen
 have L3:=Lib.hid O3.read.cap.1;have HO:=Lib.hid ho;obtain⟨w0,rfl⟩:∃w0:Yw,w0=w:=⟨_,rfl⟩;have lv:=V.lt;have HV:=Lib.hid V;clear V ho
 go_enter Tryz.func184,Tryz.ntmps184
 go_wp2_with fail
 go_loopw [6] (fun j wr=>∃k:Nat,j=.int .i64 k/\k<=n2/\OS tN 169 wr F2 (.slice A2 n2 c2) (zdr i b k p.1)/\Chg F2 w0 wr) (fun j _=>n2-(intOf j).toNat)
 case atStart=>exact⟨0,rfl,by omega,O2,Chg.refl _ _⟩
 case round=>
  obtain⟨k,rfl,hk,own,ch⟩:=hrel;have g2:=(ch.cell lv v2).trans HV.out.c2;have g3:=(ch.cell lv v2).trans HV.out.c3
  by_cases hlt:k<n2
  ·have X:=Lib.hid (zcq (ns:=p.1) (i:=k) (by have:=HL.out;omega));have hl3:=zfy (h.node (i:=k) (by have:=HL.out;omega)).2;generalize zab p.1 k=x at X hl3;obtain⟨css,Fs,hole,cs,hcs,hE⟩:=own.real.openAt (znc (i:=i) (b:=b) X.out);have SU:=Lib.hid (zne (i:=i) (b:=b) X.out);obtain⟨kk,ka,kb,l⟩:=x;obtain⟨A5,m5,c5,F5,rfl,o5,hF5⟩:=tN_O.1 hE;obtain rfl:l.length=m5:=zcn (tS.read o5);obtain⟨g,rfl,hgF,hgn,hgl,-⟩:=hole.form (by rw[znd];have:=HL.out;omega);have c3_:=(hole.cell hcs (j:=3) rfl).1;change wr.cell? ⟨g,k*4+3,none⟩=_ at c3_;have hf5:∀x,F5 x->F2 x:=fun x hx=>(hole.fits x (hF5 x hx)).1
   have CC:=Lib.hid (zoj i b A5 l.length c5 l wr F5 (tS_O.1 o5) (by simp only at hl3;omega));have hkn:(k:Int)<(n2:Int):=(by omega);clear hE o5;go_wp2_with fail;refine CC.out.mono ?_;rintro e w3 ⟨rfl,o6,ch6⟩;go_wp2_with fail;go_roundw
   case rel=>
    have h3:=(hole.chg (ch6.wide hF5)).fill hcs (y:=zcr i b (kk,ka,kb,l)) (tN_O.2 ⟨A5,l.length,c5,F5,rfl,tS_O.2 o6,hF5⟩);exact⟨k+1,by go_num,by omega,by rw[SU.out];exact h3.wide (fun x hx=>hx.1),ch.trans (ch6.wide hf5)⟩
   case measure=>simp[intOf];omega
  obtain rfl:k=n2:=by omega
  rw[znb _ _ (by have:=HL.out;omega)]at own;have o3w:=O3.chg ch (fun x hx hf=>d23 x hf hx);have ho3:=HO.out;have CC:=Lib.hid (zoj i b A3 n3 c3 p.2 wr F3 o3w (by have:=L3.out;omega));clear ho3;go_wp2_with fail;refine CC.out.mono ?_;rintro e w4 ⟨rfl,o7,ch7⟩;go_wp2_with fail;refine bodyPost_end (v:=.tuple #[]) (by simp[results,Tryz.results184,go_sem]) rfl ?_;exact⟨rfl,own.chg ch7 (fun x hx hf=>d23 x hx hf),o7,(ch.wide (fun x hx=>.inl hx)).trans (ch7.wide (fun x hx=>.inr hx))⟩
section
theorem BX2.new(w:Yw)(z0 z1:Value)(t:TypeId):BX2 (w.alloc (.cells #[z0,z1] t)) w.heap.size z0 z1:=⟨by simp[go_sem],by simp[go_sem],fun j=>by simp[go_sem],by simp⟩
section
variable {tb:List (List Int)} {p:NO} {R:Nat->Nat} {w:Yw} {vb vo:Nat} {a0:Int} {A1 :Yo} {n1 c1:Nat} {A2 :Yo} {n2 c2:Nat} {A3 :Yo} {n3 c3:Nat}
theorem zv7(V:PV w vb vo a0 A1 n1 c1 A2 n2 c2 A3 n3 c3)(h:M.WP tb p R)(ho:p.2.length<=1000)(hr:RS tN w w.heap.size (.slice A2 n2 c2) p.1)(k3:RI w w.heap.size A3 n3 p.2){nd:Nat->Bool}(hnd:∀j,nd j=true↔M.Rch p.1 p.2 j):
 Calls Tryz.prog 132 #[.pointer (some ⟨vb,vo,none⟩)] w fun e w'=>(((∀j,j<p.1.length->zav nd p.1 j=0)/\e=.returned (.tuple #[.agg #[.int .i64 0,.int .i64 0],.bool false]))\/
  ∃(k:Nat) (r:Int),k<p.1.length/\zav nd p.1 k=r/\r≠0/\(∀j,j<k->zav nd p.1 j=0)/\e=.returned (.tuple #[.agg #[.int .i64 r,.int .i64 k],.bool true]))/\Below w.heap.size w w':=by
 have hl:=hr.cap.1;have hlen:=h.len;have hn2:n2<=24:=by omega
 obtain⟨W,hW⟩:∃W,W=w.alloc (.cells #[.int .i64 0,.int .i64 0] 134):=⟨_,rfl⟩;have B0:Below w.heap.size w W:=by rw[hW];exact zaf _ _
 have RX:BX2 W w.heap.size (.int .i64 0) (.int .i64 0):=by rw[hW];exact BX2.new _ _ _ _
 have HW:=Lib.hid hW;have lW:w.heap.size<W.heap.size:=RX.lt;have HV:=Lib.hid V;have HR:=Lib.hid hr;have HP:=Lib.hid h;have HL:=Lib.hid hl;have CN:=Lib.hid (zjv (V.later B0) h ho (hr.later B0) (k3.later B0) hnd);clear hW hr h hl ho hnd V k3
 go_enter Tryz.func132,Tryz.ntmps132
 go_wp2_with fail;rw[<-HW.out];refine CN.out.mono ?_;rintro e w1 ⟨Al,cl,rfl,rl,b1⟩;obtain⟨nn,hnn⟩:∃nn,(M.nl nd n2).length=nn:=⟨_,rfl⟩;rw[hnn]at rl ⊢;have HNN:=Lib.hid hnn;have hnb:nn<=24:=by have:=zeu nd n2;rw[zej]at hnn;omega
 clear hnn;go_wp2_with fail
 go_loopw [5,6] (fun j _ wr=>∃q:Nat,j=.int .i64 q/\q<=nn/\Hid (∀j,j<n2->nd j=true->zal nd j<q->zav nd p.1 j=0)/\Below w1.heap.size w1 wr) (fun j _ _=>nn-(intOf j).toNat)
 case atStart=>exact⟨0,rfl,by omega,Lib.hid (fun j _ _ hc=>by omega),Below.refl _ _⟩
 case round=>
  obtain⟨q,rfl,hq,H,Bw⟩:=hrel;have B1:=zaa b1 Bw;have Bq:=zaa B0 B1;have s1:=B1.size
  by_cases hlt:q<nn
  ·obtain⟨j,hj,g1,g2,g3,g4⟩:=zfi (List.getElem?_eq_getElem (show q<(M.nl nd n2).length by rw[HNN.out];exact hlt));obtain⟨bl,ol,rfl,hbl,hcl⟩:=zak rl (by omega);have v0:=(Bw.cell (by exact hbl)).trans (hcl q _ (List.getElem?_eq_getElem (show q<(M.nl nd n2).length by rw[HNN.out];exact hlt)));rw[hj]at v0;have hqn:(q:Int)<(nn:Int):=(by omega);have CR:=Lib.hid (zv3 (cl:=cl) (HV.out.later Bq) HP.out (HR.out.later Bq) g2 nd (rl.later Bw))
   have low:=Lib.hid (show ∀j',j'<j->zav nd p.1 j'=0 from fun j' h1=>by
    cases h2:nd j'
    ·exact zgy h2
    refine H.out j' (by omega) h2 ?_;have h3:=zgs nd (show j'+1<=j from h1);rw[zfx,h2,g4]at h3;simp only[if_true]at h3;omega)
   obtain⟨r,hr_⟩:∃r,zav nd p.1 j=r:=⟨_,rfl⟩;rw[hr_]at CR
   by_cases hz:r=0
   ·subst hz
    have H2:=Lib.hid (show ∀j,j<n2->nd j=true->zal nd j<q+1->zav nd p.1 j=0 from fun j' h1 h2 h3=>by
     rcases Nat.lt_or_ge (zal nd j') q with h4|h4
     ·exact H.out j' h1 h2 h4
     have e2:=zju h2 g3 (by omega);subst e2;exact hr_)
    clear H hj g1 g4 g3 hcl hr_ low;go_wp2_with fail;refine CR.out.mono ?_;rintro e w2 ⟨rfl,b2⟩;go_wp2_with fail;go_roundw
    case rel=>exact⟨q+1,by go_num,by omega,H2,zaa Bw b2⟩
    case measure=>simp[intOf];omega
   have g:(r != 0)=true:=(by simpa using hz);have HZ:=Lib.hid hz;have HRR:=Lib.hid hr_;have hjl:j<p.1.length:=(by rw[HL.out];exact g2);clear H hj g1 g4 g3 hcl hr_ hz;go_wp2_with fail;refine CR.out.mono ?_;rintro e w2 ⟨rfl,b2⟩;have B2:=zaa B1 b2;have R2:=RX.later B2;have v1:=(b2.cell (by have:=Bw.size;show bl<_;omega)).trans v0;obtain⟨U,hU,RU,chU,sU⟩:=R2.set (.int .i64 r) (.int .i64 j);have HU:=Lib.hid hU;have s2:=B2.size;have BU:Below w.heap.size w U:=(B0.trans (B2.mono (by omega))).trans (chU.toBelow (fun b (hb:b=_)=>by omega) (by omega));obtain⟨x0,x1,xf,xl⟩:=R2;have xf0:=xf 0;have xf1:=xf 1;obtain⟨y0,y1,yf,yl⟩:=RU;have yf0:=yf 0;have yf1:=yf 1;clear hU sU;go_wp2_with fail;rw[<-HU.out];refine bodyPost_ret (v:=.tuple #[.agg #[.int .i64 r,.int .i64 (j:Int)],.bool true]) (by simp[results,Tryz.results132,go_sem,y0,y1,yf0,yf1]) rfl ?_;exact⟨.inr ⟨j,r,hjl,HRR.out,HZ.out,low.out,rfl⟩,BU⟩
  obtain rfl:q=nn:=by omega
  have E:=Lib.hid (show ∀j,j<p.1.length->zav nd p.1 j=0 from fun j hj=>by
   rw[HL.out]at hj;cases h2:nd j
   ·exact zgy h2
   exact H.out j hj h2 (by rw[<-HNN.out];exact zog hj h2))
  have R2:=RX.later B1;obtain⟨U,hU,RU,chU,sU⟩:=R2.set (.int .i64 0) (.int .i64 0);have HU:=Lib.hid hU;have BU:Below w.heap.size w U:=(B0.trans (B1.mono (by omega))).trans (chU.toBelow (fun b (hb:b=_)=>by omega) (by omega));obtain⟨x0,x1,xf,xl⟩:=R2;have xf0:=xf 0;have xf1:=xf 1;obtain⟨y0,y1,yf,yl⟩:=RU;have yf0:=yf 0;have yf1:=yf 1;clear hU sU H;go_wp2_with fail;rw[<-HU.out];refine bodyPost_ret (v:=.tuple #[.agg #[.int .i64 0,.int .i64 0],.bool false]) (by simp[results,Tryz.results132,go_sem,y0,y1,yf0,yf1]) rfl ?_;exact⟨.inl ⟨E.out,rfl⟩,BU⟩
end
end
section
structure OWN (X:Yw) (lo gb:Nat) (a0:Int) (A1:Yo) (n1 c1:Nat) (A2:Yo) (n2 c2:Nat) (A3:Yo) (n3 c3:Nat) (tb:List (List Int)) (p:NO) (F1 F2 F3:Nat->Prop):Prop where
 bx:BX X gb (.int .i64 a0) (.slice A1 n1 c1) (.slice A2 n2 c2) (.slice A3 n3 c3)
 g1:tSS.O X F1 [.slice A1 n1 c1] tb
 g2:OS tN 169 X F2 (.slice A2 n2 c2) p.1
 g3:OS tI 2 X F3 (.slice A3 n3 c3) p.2
 z1:∀b,F1 b->lo<=b/\b<gb
 z2:∀b,F2 b->lo<=b/\b<gb
 z3:∀b,F3 b->lo<=b/\b<gb
 d12:∀b,F1 b->¬F2 b
 d13:∀b,F1 b->¬F3 b
 d23:∀b,F2 b->¬F3 b
section
variable {X X' w:Yw} {lo gb:Nat} {a0:Int} {A1 :Yo} {n1 c1:Nat} {A2 :Yo} {n2 c2:Nat} {A3 :Yo} {n3 c3:Nat} {tb:List (List Int)} {p:NO} {F1 F2 F3:Nat->Prop} {R:Nat->Nat}
theorem OWN.later(h:OWN X lo gb a0 A1 n1 c1 A2 n2 c2 A3 n3 c3 tb p F1 F2 F3)(hb:Below X.heap.size X X'):OWN X' lo gb a0 A1 n1 c1 A2 n2 c2 A3 n3 c3 tb p F1 F2 F3:=
 ⟨h.bx.later hb,tSS.ochg h.g1 (Chg.of_below hb (fun _=>False)) (fun _ _ e=>e),h.g2.chg (Chg.of_below hb (fun _=>False)) (fun _ _ e=>e),h.g3.chg (Chg.of_below hb (fun _=>False)) (fun _ _ e=>e),h.z1,h.z2,h.z3,h.d12,h.d13,h.d23⟩
theorem OWN.of{w1:Yw}(oz:tP.O w1 (Iv lo w1.heap.size) [.int .i64 a0,.slice A1 n1 c1,.slice A2 n2 c2,.slice A3 n3 c3] (a0,tb,p.1,p.2))(t:TypeId):∃V,V=w1.alloc (.cells #[.int .i64 a0,.slice A1 n1 c1,.slice A2 n2 c2,.slice A3 n3 c3] t)/\Below w1.heap.size w1 V/\∃F1 F2 F3,OWN V lo w1.heap.size a0 A1 n1 c1 A2 n2 c2 A3 n3 c3 tb p F1 F2 F3:=by
 obtain⟨_,_,_,_,_,_,_,_,_,F1,F2,F3,hcs,g1,g2,g3,z1,z2,z3,d12,d13,d23⟩:=tP_O.1 oz;simp only[List.cons.injEq,Value.slice.injEq,and_true,true_and]at hcs;obtain⟨⟨rfl,rfl,rfl⟩,⟨rfl,rfl,rfl⟩,⟨rfl,rfl,rfl⟩⟩:=hcs;refine⟨_,rfl,zaf _ _,F1,F2,F3,⟨BX.new _ _ _ _ _ _,?_,?_,?_,z1,z2,z3,d12,d13,d23⟩⟩
 ·exact tSS.ochg g1 (Chg.of_below (zaf _ _) (fun _=>False)) (fun _ _ e=>e)
 ·exact(sl_O.1 g2).chg (Chg.of_below (zaf _ _) (fun _=>False)) (fun _ _ e=>e)
 exact(tS_O.1 g3).chg (Chg.of_below (zaf _ _) (fun _=>False)) (fun _ _ e=>e)
theorem OWN.node(h:OWN X lo gb a0 A1 n1 c1 A2 n2 c2 A3 n3 c3 tb p F1 F2 F3)(hW:M.WP tb p R){i:Nat}(hi:i<n2):
 ∃(g:Nat) (k a b:Int) (A4:Yo) (c4:Nat) (fs:List Int),A2=some ⟨g,0,none⟩/\F2 g/\g<X.heap.size/\Hid (zab p.1 i=(k,a,b,fs))/\X.cell? ⟨g,i*4,none⟩=some (.int .i64 k)/\X.cell? ⟨g,i*4+1,none⟩=some (.int .i64 a)/\X.cell? ⟨g,i*4+2,none⟩=some (.int .i64 b)/\X.cell? ⟨g,i*4+3,none⟩=some (.slice A4 fs.length c4)/\RI X X.heap.size A4 fs.length fs/\fs.length<=3:=by
 obtain⟨g,y0,y1,y2,y3,hA2,hgF,hgl,-⟩:=zjj h.g2 hi 0 0 0 none 0 0;obtain⟨bb,o,k,a,b,A4,c4,fs,hA,hb,Y,e0,e1,e2,e3,hr3,hl3⟩:=zbg hW h.g2.read hi;rw[hA2]at hA;simp only[Option.some.injEq,Addr.mk.injEq,and_true]at hA;obtain⟨rfl,rfl⟩:=hA;rw[Nat.zero_add]at e0 e1 e2 e3;exact⟨g,k,a,b,A4,c4,fs,hA2,hgF,hgl,Y,e0,e1,e2,e3,hr3,hl3⟩
theorem OWN.fin{g:Nat}(h:OWN X lo gb a0 A1 n1 c1 (some ⟨g,0,none⟩) n2 c2 A3 n3 c3 tb p F1 F2 F3){y0 y1 y2 y3:Value}(ZX:BX X w.heap.size y0 y1 y2 y3)(hlo:w.heap.size+1<=lo)(hgb:lo<=gb)(B:Below w.heap.size w X){i:Nat}(hi:i<n2)(x0 x1 x2:Int)(Ax:Yo)(nx cx:Nat):
 ∃z0 z1 z2 z3:Value,X.cell? ⟨g,i*4,none⟩=some z0/\X.cell? ⟨g,i*4+1,none⟩=some z1/\X.cell? ⟨g,i*4+2,none⟩=some z2/\X.cell? ⟨g,i*4+3,none⟩=some z3/\X.frozen? ⟨g,i*4,none⟩=false/\X.frozen? ⟨g,i*4+1,none⟩=false/\X.frozen? ⟨g,i*4+2,none⟩=false/\X.frozen? ⟨g,i*4+3,none⟩=false/\
  ∃T,T=(((X.setCell ⟨g,i*4,none⟩ (.int .i64 x0)).setCell ⟨g,i*4+1,none⟩ (.int .i64 x1)).setCell ⟨g,i*4+2,none⟩ (.int .i64 x2)).setCell ⟨g,i*4+3,none⟩ (.slice Ax nx cx)/\BX T gb (.int .i64 a0) (.slice A1 n1 c1) (.slice (some ⟨g,0,none⟩) n2 c2) (.slice A3 n3 c3)/\BX T w.heap.size y0 y1 y2 y3/\
  ∃U,U=(((T.setCell ⟨w.heap.size,0,none⟩ (.int .i64 a0)).setCell ⟨w.heap.size,1,none⟩ (.slice A1 n1 c1)).setCell ⟨w.heap.size,2,none⟩ (.slice (some ⟨g,0,none⟩) n2 c2)).setCell ⟨w.heap.size,3,none⟩ (.slice A3 n3 c3)/\BX U w.heap.size (.int .i64 a0) (.slice A1 n1 c1) (.slice (some ⟨g,0,none⟩) n2 c2) (.slice A3 n3 c3)/\Below w.heap.size w U/\Chg (fun b=>w.heap.size<=b/\b<gb) X U/\
  ∀T' x3,Chg (fun b=>b<w.heap.size) U T'->tS.R T' T'.heap.size [.slice Ax nx cx] x3->PRd A1 n1 c1 (some ⟨g,0,none⟩) n2 c2 A3 n3 c3 tb (p.1.set i (x0,x1,x2,x3),p.2) T':=by
 obtain⟨g',z0,z1,z2,z3,hA,hgF,hgl,e0,e1,e2,e3,r0,r1,r2,r3,T,hT,chT,sT,RD⟩:=zjj h.g2 hi x0 x1 x2 Ax nx cx;simp only[Option.some.injEq,Addr.mk.injEq,and_true]at hA;subst hA;have OT:=h.bx.chg chT (fun hf=>by have:=(h.z2 _ hf).2;omega);have ZT:=ZX.chg chT (fun hf=>by have:=(h.z2 _ hf).1;omega);obtain⟨U,hU,ZU,chU,sU⟩:=ZT.set (.int .i64 a0) (.slice A1 n1 c1) (.slice (some ⟨g,0,none⟩) n2 c2) (.slice A3 n3 c3);have sB:=B.size;refine⟨z0,z1,z2,z3,e0,e1,e2,e3,r0,r1,r2,r3,T,hT,OT,ZT,U,hU,ZU,?_,(chT.wide (fun b hb=>by have:=h.z2 b hb;omega)).trans (chU.wide (fun b (hb:b=_)=>by omega)),fun T' x3 hT' hx=>?_⟩
 ·exact(B.trans (chT.toBelow (fun b hb=>by have:=(h.z2 b hb).1;omega) (by omega))).trans (chU.toBelow (fun b (hb:b=_)=>by omega) (by omega))
 refine⟨tSS.read (tSS.ochg (tSS.ochg (tSS.ochg h.g1 chT (fun b hb=>h.d12 b hb)) chU (fun b hb (e:b=_)=>by have:=(h.z1 b hb).1;omega)) hT' (fun b hb (e:b<_)=>by have:=(h.z1 b hb).1;omega)),RD T' x3 ((chU.wide (fun b (hb:b=_) hf=>by have:=(h.z2 b hf).1;omega)).trans (hT'.wide (fun b (hb:b<_) hf=>by have:=(h.z2 b hf).1;omega))) hx,tS.read (tS.ochg (tS.ochg (tS.ochg (tS_O.2 h.g3) chT (fun b hb hf=>h.d23 b hf hb)) chU (fun b hb (e:b=_)=>by have:=(h.z3 b hb).1;omega)) hT' (fun b hb (e:b<_)=>by have:=(h.z3 b hb).1;omega))⟩
end
end
section
section
variable {tb:List (List Int)} {p:NO} {R:Nat->Nat} {w:Yw} {vb vo:Nat} {a0:Int} {A1 :Yo} {n1 c1:Nat} {A2 :Yo} {n2 c2:Nat} {A3 :Yo} {n3 c3:Nat}
theorem zv8(V:PV w vb vo a0 A1 n1 c1 A2 n2 c2 A3 n3 c3)(h:M.WP tb p R)(ho:p.2.length<=1000)(k1:tSS.R w w.heap.size [.slice A1 n1 c1] tb)(k2:tNS.R w w.heap.size [.slice A2 n2 c2] p.1)(k3:tS.R w w.heap.size [.slice A3 n3 c3] p.2){i:Nat}(hi:i<n2)(hC:zbj p.1 (zab p.1 i)=true):
 Calls Tryz.prog 133 #[.pointer (some ⟨vb,vo,none⟩),.int .i64 1,.int .i64 i] w fun e w'=>∃A1' n1' c1' A2' n2' c2' A3' n3' c3',e=.returned (.agg #[.int .i64 a0,.slice A1' n1' c1',.slice A2' n2' c2',.slice A3' n3' c3'])/\(∀T,Chg (fun b=>b<w.heap.size) w' T->PRd A1' n1' c1' A2' n2' c2' A3' n3' c3' tb (p.1.set i (2,zam (zab p.1 i) tb (zc7 p.1 (zab p.1 i)) [],0,[]),p.2) T)/\Below w.heap.size w w':=by
 obtain⟨W,hW⟩:∃W,W=w.alloc (.cells #[.int .i64 0,.slice none 0 0,.slice none 0 0,.slice none 0 0] 67):=⟨_,rfl⟩;have B0:Below w.heap.size w W:=by rw[hW];exact zaf _ _
 have ZX:BX W w.heap.size (.int .i64 0) (.slice none 0 0) (.slice none 0 0) (.slice none 0 0):=by rw[hW];exact BX.new _ _ _ _ _ _
 have sW:W.heap.size=w.heap.size+1:=by rw[hW];simp
 have lW:w.heap.size+1<=W.heap.size:=by omega
 have HW:=Lib.hid hW;have VW:=V.later B0;have q1:=tSS.later k1 B0;have q2:=tNS.later k2 B0;have q3:=tS.later k3 B0;have hl:=(sl_R.1 k2).cap.1;have hlen:=h.len;have hn2:n2<=24:=by omega
 have hi2:(i:Int)<(n2:Int):=by omega
 have HL:=Lib.hid hl;have CP:=Lib.hid (zee vb vo a0 A1 n1 c1 A2 n2 c2 A3 n3 c3 tb p.1 p.2 W VW.c0 VW.c1 VW.c2 VW.c3 q1 q2 q3 (h.szP ho a0));have HK1:=Lib.hid k1;have HK2:=Lib.hid k2;have HK3:=Lib.hid k3;have HV:=Lib.hid V;have HP:=Lib.hid h;have HO:=Lib.hid ho;have HC:=Lib.hid hC;obtain⟨vv,hvv⟩:∃vv,zam (zab p.1 i) tb (zc7 p.1 (zab p.1 i)) []=vv:=⟨_,rfl⟩;rw[hvv];have HVV:=Lib.hid hvv;clear hW sW q1 q2 q3 hl k1 k2 k3 V VW h ho hC hvv
 go_enter Tryz.func133,Tryz.ntmps133
 go_wp2_with fail;rw[<-HW.out];refine CP.out.mono ?_;rintro e w1 ⟨A1',n1',c1',A2',n2',c2',A3',n3',c3',rfl,oz,bel⟩;obtain⟨X,hX,b1,F1,F2,F3,OW⟩:=OWN.of oz 67;have HX:=Lib.hid hX;clear hX oz;have hl2:=OW.g2.read.cap.1;obtain rfl:n2'=n2:=by have:=HL.out;omega
 clear hl2;obtain⟨g,k,a,b,A4,c4,fs,rfl,hgF,hgl,Y,e0,e1,e2,e3,hr3,hl3⟩:=OW.node HP.out hi;have s1:=bel.size;have BWX:=zaa bel b1;have ZXX:=ZX.later BWX;have BX_:=zaa B0 BWX;have sX:=OW.bx.lt;obtain⟨o0,o1,o2,o3,of_,ol⟩:=OW.bx;go_upto_region 2 with fail
 rw[<-HX.out];clear e0 e1 e2 e3 hr3 hl3;have CV:=Lib.hid (zv6 (HV.out.later BX_) HP.out (sl_R.1 (tSS.later HK1.out BX_)) (sl_R.1 (tNS.later HK2.out BX_)) hi HC.out);rw[HVV.out]at CV;go_wp2_with fail;refine CV.out.mono ?_;rintro e w2 ⟨rfl,b2⟩;have B2:=zaa BX_ b2;clear o0 o1 o2 o3 of_;obtain⟨o0,o1,o2,o3,of_,ol⟩:=OW.bx.later b2;obtain⟨z0,z1,z2,z3,y0,y1,y2,y3,r0,r1,r2,r3,T,hT,OT,ZT,U,hU,ZU,BU,cU,RK⟩:=((OW.later b2).later (zaf w2 (.cells #[] 2))).fin ((ZXX.later b2).later (zaf w2 (.cells #[] 2))) lW s1 (zaa B2 (zaf w2 (.cells #[] 2))) hi 2 vv 0 (some ⟨w2.heap.size,0,none⟩) 0 0;have HT:=Lib.hid hT;have HU:=Lib.hid hU;have RK:=Lib.hid RK;clear hT hU;go_upto_region 24 with fail
 rw[<-HT.out];clear o0 o1 o2 o3 of_;obtain⟨o0,o1,o2,o3,of_,ol⟩:=OT;obtain⟨t0,t1,t2,t3,tf,tl⟩:=ZT;have u0:=tf 0;have u1:=tf 1;have u2:=tf 2;have u3:=tf 3;obtain⟨d0,d1,d2,d3,df,dl⟩:=ZU;have f0:=df 0;have f1:=df 1;have f2:=df 2;have f3:=df 3;clear y0 y1 y2 y3 r0 r1 r2 r3;go_wp2_with fail;rw[<-HU.out];refine bodyPost_ret (v:=.agg #[.int .i64 a0,.slice A1' n1' c1',.slice (some ⟨g,0,none⟩) n2' c2',.slice A3' n3' c3']) (by simp[results,Tryz.results133,go_sem,d0,d1,d2,d3,f0,f1,f2,f3]) rfl ?_;exact⟨_,_,_,_,_,_,_,_,_,rfl,(fun T hT=>RK.out T [] hT (tS_R.2 (RS.of_ri (RI.nil _ _ _) (Nat.le_refl _) (by simp[maxLen])))),BU⟩
end
end
end Go.Proofs.YtifeldeikhmckaaGreat
