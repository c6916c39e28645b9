import Derived.Test.YtifeldeikhmckaaGreatFnExactOptimizeSessionG39
import Derived.Test.YtifeldeikhmckaaGreatFnExactOptimizeSessionG21
set_option linter.unusedVariables false
set_option linter.unusedSimpArgs false
set_option maxRecDepth 100000
set_option maxHeartbeats 4000000
namespace Go.Proofs.YtifeldeikhmckaaGreat
open Go.RowKit Go.Sort
section
set_option synthInstance.maxSize 2000
set_option synthInstance.maxHeartbeats 400000
theorem zv1{nd:Nat->Bool}{n i:Nat}(hi:i<n):zai (M.nl nd n) (i:Int)=nd i:=by
 rw[Bool.eq_iff_iff,ziw];constructor
 ·intro h;obtain⟨k,hk⟩:=List.getElem?_of_mem h;obtain⟨j,e,-,-,h2,-⟩:=zfi hk;have:j=i:=by omega
  rw[<-this];exact h2
 intro h;exact List.mem_map.2 ⟨i,List.mem_of_getElem? (zez nd hi h),rfl⟩
theorem zog{nd:Nat->Bool}{n j:Nat}(hj:j<n)(h:nd j=true):zal nd j<(M.nl nd n).length:=by
 have:=(List.getElem?_eq_some_iff.1 (zez nd hj h)).1;rw[M.nl,List.length_map];exact this
theorem zju{nd:Nat->Bool}{i j:Nat}(h:nd j=true)(h2:nd i=true)(e:zal nd j=zal nd i):j=i:=by
 have h1:=zez nd (show j<i+j+1 by omega) h;have h3:=zez nd (show i<i+j+1 by omega) h2;rw[e,h3,Option.some.injEq]at h1;exact h1.symm
section
variable {tb:List (List Int)} {p:NO} {R:Nat->Nat} {w:Yw} {vb vo:Nat} {a0:Int} {A1 :Yo} {n1 c1:Nat} {A2 :Yo} {n2 c2:Nat} {A3 :Yo} {n3 c3:Nat}
theorem zv2(h:M.WP tb p R){bb o:Nat}(hr:RS tN w w.heap.size (.slice (some ⟨bb,o,none⟩) n2 c2) p.1){k i:Nat}(hk:k<n2)(hi:i<n2):
 Calls Tryz.prog 123 #[.pointer (some ⟨bb,o+k*4,none⟩),.pointer (some ⟨bb,o+i*4,none⟩)] w fun e w'=>e=.returned (.bool (decide (zab p.1 k=zab p.1 i)))/\Below w.heap.size w w':=by
 obtain⟨bb',o',x0,x1,x2,A4,c4,fs,hA,hb,X,e0,e1,e2,e3,hr3,hl3⟩:=zbg h hr hk;simp only[Option.some.injEq,Addr.mk.injEq,and_true]at hA;obtain⟨rfl,rfl⟩:=hA;obtain⟨bb',o',y0,y1,y2,A5,c5,gs,hA,hb,Y,f0,f1,f2,f3,hr5,hl5⟩:=zbg h hr hi;simp only[Option.some.injEq,Addr.mk.injEq,and_true]at hA;obtain⟨rfl,rfl⟩:=hA;rw[X.out,Y.out];exact zru _ _ _ _ _ _ _ _ _ _ _ _ _ _ _ _ _ _ w e0 f0 e1 f1 e2 f2 e3 f3 hr3 hr5 (by omega)
theorem zoh(V:PV w vb vo a0 A1 n1 c1 A2 n2 c2 A3 n3 c3)(h:M.WP tb p R)(hr:RS tN w w.heap.size (.slice A2 n2 c2) p.1){i:Nat}(hi:i<n2)(nd:Nat->Bool){Al:Yo}{nn cl:Nat}(hd:RI w w.heap.size Al nn (M.nl nd n2)):
 Calls Tryz.prog 188 #[.pointer (some ⟨vb,vo,none⟩),.slice Al nn cl,.int .i64 i] w fun e w'=>e=.returned (.int .i64 (zds nd p.1 i))/\Below w.heap.size w w':=by
 have hl:=hr.cap.1;have hlen:=h.len;have hn2:n2<=24:=by omega
 have hdl:=hd.len;have hnn:nn<=24:=by have:=zeu nd n2;rw[zej]at hdl;omega
 obtain⟨bb,o,k,a,b,A4,c4,fs,rfl,hb,X,-⟩:=zbg h hr hi;have CT:=Lib.hid (fun W' (B':Below w.heap.size w W') k (hk:k<n2)=>zv2 h (hr.later B') hk hi);have HV:=Lib.hid V;have HDL:=Lib.hid hdl;have hi2:(i:Int)<(n2:Int):=by omega
 clear X hr hdl V
 go_enter Tryz.func188,Tryz.ntmps188
 go_wp2_with fail
 go_loopw [7,8] (fun j _ wr=>∃q:Nat,j=.int .i64 q/\q<=nn/\Hid (∀j,j<i->nd j=true->zal nd j<q->zab p.1 j≠zab p.1 i)/\Below w.heap.size w wr) (fun j _ _=>nn-(intOf j).toNat)
 case atStart=>exact⟨0,rfl,by omega,Lib.hid (fun j _ _ hc=>by omega),Below.refl _ _⟩
 case round=>
  obtain⟨q,rfl,hq,H,B⟩:=hrel
  by_cases hlt:q<nn
  ·obtain⟨j,hj,g1,g2,g3,g4⟩:=zfi (List.getElem?_eq_getElem (show q<(M.nl nd n2).length by rw[HDL.out];exact hlt));obtain⟨bl,ol,rfl,hbl,hcl⟩:=zak hd (by omega);have v0:=(B.cell (by exact hbl)).trans (hcl q _ (List.getElem?_eq_getElem (show q<(M.nl nd n2).length by rw[HDL.out];exact hlt)));rw[hj]at v0;have hqn:(q:Int)<(nn:Int):=(by omega);have hj2:(j:Int)<(n2:Int):=(by omega);have hj0:(0:Int)<=(j:Int):=(by omega);have HC:=Lib.hid g4;have HN:=Lib.hid g3;have gz2:=cell_regrown (HV.out.later B).c2;have sB:=B.size;clear hj g1 g4 g3 hcl
   by_cases hji:j<i
   ·have gji:decide ((j:Int)<(i:Int))=true:=decide_eq_true (by omega);have cS:∀d os,Calls Tryz.prog 123 #[.pointer (some ⟨bb,o+j*4,none⟩),.pointer (some ⟨bb,o+i*4,none⟩)] (grow (redrawn wr d) os) fun e w''=>e=.returned (.bool (decide (zab p.1 j=zab p.1 i)))/\∃p:Regrown,w''=grow (redrawn wr p.d) p.os:=fun d os=>Calls.regrown_of (CT.out _ (zaa B (below_regrown wr d os)) j g2)
    have HJI:=Lib.hid hji;cases he:decide (zab p.1 j=zab p.1 i)
    ·have H2:=Lib.hid (show ∀j,j<i->nd j=true->zal nd j<q+1->zab p.1 j≠zab p.1 i from fun j' h1 h2 h3=>by
      rcases Nat.lt_or_ge (zal nd j') q with h4|h4
      ·exact H.out j' h1 h2 h4
      have e2:=zju h2 HN.out (by rw[HC.out];omega);subst e2;exact of_decide_eq_false he)
     rw[he]at cS;clear he H;go_wp2_with fail
     (refine wp_region_quiet_below (by kernel_rfl) (by kernel_rfl) ?_;(repeat (go_big_quiet_step (exact cS _ _)));refine wpQuiet_nil ?_;intro _ hw';obtain⟨⟨dq,osq⟩,hw''⟩:=hw';subst hw'')
     go_wp2;go_roundw
     case rel=>exact⟨q+1,by go_num,by omega,H2,zaa B (below_regrown wr dq osq)⟩
     case measure=>simp[intOf];omega
    have E:=Lib.hid (zng (nd:=nd) (ns:=p.1) (i:=i) (k:=j) HJI.out (by rw[HN.out,he];rfl) (fun j' h1=>by
     cases h2:nd j'
     ·rfl
     rw[Bool.true_and];refine decide_eq_false (H.out j' (Nat.lt_trans h1 HJI.out) h2 ?_);have h3:=zgs nd (show j'+1<=j from h1);rw[zfx,h2,HC.out]at h3;simp only[if_true]at h3;omega))
    rw[he]at cS;clear he H;go_wp2_with fail
    (refine wp_region_quiet_below (by kernel_rfl) (by kernel_rfl) ?_;(repeat (go_big_quiet_step (exact cS _ _)));refine wpQuiet_nil ?_;intro _ hw';obtain⟨⟨dq,osq⟩,hw''⟩:=hw';subst hw'')
    go_wp2;go_ret;exact⟨by rw[E.out];rfl,zaa B (below_regrown wr dq osq)⟩
   have gji:decide ((j:Int)<(i:Int))=false:=decide_eq_false (by omega)
   have H2:=Lib.hid (show ∀j,j<i->nd j=true->zal nd j<q+1->zab p.1 j≠zab p.1 i from fun j' h1 h2 h3=>by
    rcases Nat.lt_or_ge (zal nd j') q with h4|h4
    ·exact H.out j' h1 h2 h4
    have e2:=zju h2 HN.out (by rw[HC.out];omega);omega)
   clear H;go_wp2_with fail
   (refine wp_region_quiet_below (by kernel_rfl) (by kernel_rfl) ?_;(repeat (go_big_quiet_step (fail)));refine wpQuiet_nil ?_;intro _ hw';obtain⟨⟨dq,osq⟩,hw''⟩:=hw';subst hw'')
   go_wp2;go_roundw
   case rel=>exact⟨q+1,by go_num,by omega,H2,zaa B (below_regrown wr dq osq)⟩
   case measure=>simp[intOf];omega
  obtain rfl:q=nn:=by omega
  have E:=Lib.hid (znh (nd:=nd) (ns:=p.1) (i:=i) (fun j' h1=>by
   cases h2:nd j'
   ·rfl
   rw[Bool.true_and];refine decide_eq_false (H.out j' h1 h2 ?_);rw[<-HDL.out];exact zog (by omega) h2))
  clear H;go_wp2;go_ret;exact⟨by rw[E.out];rfl,B⟩
theorem zv3(V:PV w vb vo a0 A1 n1 c1 A2 n2 c2 A3 n3 c3)(h:M.WP tb p R)(hr:RS tN w w.heap.size (.slice A2 n2 c2) p.1){i:Nat}(hi:i<n2)(nd:Nat->Bool){Al:Yo}{nn cl:Nat}(hd:RI w w.heap.size Al nn (M.nl nd n2)):
 Calls Tryz.prog 182 #[.pointer (some ⟨vb,vo,none⟩),.slice Al nn cl,.int .i64 i] w fun e w'=>e=.returned (.int .i64 (zav nd p.1 i))/\Below w.heap.size w w':=by
 have hl:=hr.cap.1;have hlen:=h.len;have hn2:n2<=24:=by omega
 have hdl:=hd.len;have hnn:nn<=24:=by have:=zeu nd n2;rw[zej]at hdl;omega
 obtain⟨bb,o,k,a,b,A4,c4,fs,rfl,hb,X,e0,e1,e2,e3,hr3,hl3⟩:=zbg h hr hi;have hok:=(h.node (i:=i) (by omega)).2;rw[X.out]at hok;have hfl:=zc6 hok;have IN:=fun j (hj:j<fs.length)=>h.inpt (by omega:i<p.1.length) X.out hj
 have HAS:=Lib.hid (zd1 Al nn cl (M.nl nd n2) i w hd (by omega));rw[zv1 hi]at HAS;have CC:=Lib.hid (zvy V h hr hi);have CN:=Lib.hid (fun W' (B':Below w.heap.size w W')=>zvz (V.later B') h (hr.later B') hi);have CS:=Lib.hid (fun W' (B':Below w.heap.size w W')=>zof (V.later B') h (hr.later B') hi);have CT:=Lib.hid (fun W' (B':Below w.heap.size w W')=>zoh (cl:=cl) (V.later B') h (hr.later B') hi nd (hd.later B'));have CI:=Lib.hid (fun W' (B':Below w.heap.size w W') f (hf:f<n2)=>zf6 (V.later B') h (hr.later B') hf);have HV:=Lib.hid V;have HL:=Lib.hid hl;have hi2:(i:Int)<(n2:Int):=by omega
 obtain⟨z0,z1,z2,z3⟩:=V;cases hn:nd i
 ·rw[hn]at HAS;have E:=Lib.hid (zgy (ns:=p.1) hn);clear hn hfl hok hl hlen hr hr3 X CC CN CS CT CI IN hd hdl
  go_enter Tryz.func182,Tryz.ntmps182
  go_wp2_with fail;refine HAS.out.mono ?_;rintro e w1 ⟨rfl,rfl⟩;go_wp2;go_ret;exact⟨by rw[E.out];rfl,Below.refl _ _⟩
 rw[hn]at HAS;have HN:=Lib.hid hn;clear hn hd hdl;rcases(show k=9\/k=5\/k=6\/(k≠9/\k≠5/\k≠6)by omega)with rfl|rfl|rfl|hk
 ·have hl2:fs.length=2:=hfl (by decide);obtain⟨bf,of_,rfl,hbf,hcf⟩:=zak hr3 (by omega);obtain⟨f,f1,f2,f3,f4⟩:=IN 0 (by omega);have hfn:f<n2:=by rw[<-HL.out];exact f2
  have v0:=hcf 0 _ f1;rw[Nat.add_zero]at v0;obtain⟨q,q1,q2,q3,q4⟩:=IN 1 (by omega);have hqn:q<n2:=by rw[<-HL.out];exact q2
  have v1:=hcf 1 _ q1;rw[hl2]at e3;have FB:=Lib.hid (show zbw p.1 (zab p.1 i)=(zbl p.1 f||zbl p.1 q)by rw[X.out,zbw,f3,q3];rfl);have FG:=Lib.hid (show zb4 p.1 (zab p.1 i)=false by rw[X.out];simp[zb4]);have FD:=Lib.hid (show zbq p.1 i (zab p.1 i)=false by rw[X.out];simp[zbq]);clear hfl hok hl hlen hr hr3 hcf IN X f1 f3 f4 q1 q3 q4
  go_enter Tryz.func182,Tryz.ntmps182
  go_wp2_with fail;refine HAS.out.mono ?_;rintro e w1 ⟨rfl,rfl⟩;go_wp2_with fail;refine CC.out.mono ?_;rintro e w1 ⟨rfl,b1⟩;cases hc:zbj p.1 (zab p.1 i)
  ·have HC:=Lib.hid hc;clear hc;go_wp2_with fail;refine(CN.out w1 b1).mono ?_;rintro e w2 ⟨rfl,b2⟩;have B2:=zaa b1 b2;cases hz:zbv p.1 (zab p.1 i)
   ·have HZ:=Lib.hid hz;clear hz;go_wp2_with fail;refine(CS.out w2 B2).mono ?_;rintro e w3 ⟨rfl,b3⟩;have B3:=zaa B2 b3
    by_cases hs:0<=zbb p.1 (zab p.1 i)
    ·have E:=Lib.hid (zfh (ns:=p.1) HN.out HC.out HZ.out hs);go_wp2;go_ret;exact⟨by rw[E.out];rfl,B3⟩
    have HS:=Lib.hid hs;replace z2:=(B3.cell (by exact HV.out.lt)).trans z2;replace e0:=(B3.cell (by exact hb)).trans e0;replace e1:=(B3.cell (by exact hb)).trans e1;replace e3:=(B3.cell (by exact hb)).trans e3;have ge0:=cell_regrown e0;have ge1:=cell_regrown e1;have gz2:=cell_regrown z2;replace v0:=(B3.cell (by exact hbf)).trans v0;replace v1:=(B3.cell (by exact hbf)).trans v1;go_wp2_with fail;refine(CI.out w3 B3 f hfn).mono ?_;rintro e w4 ⟨rfl,rfl⟩;cases hf:zbl p.1 f
    ·go_wp2_with fail;refine(CI.out w3 B3 q hqn).mono ?_;rintro e w4 ⟨rfl,rfl⟩;cases hq:zbl p.1 q
     ·have FC:=Lib.hid (show zbw p.1 (zab p.1 i)=false by rw[FB.out,hf,hq];rfl);clear hf hq;go_wp2_with fail
      (refine wp_region_quiet_below (by kernel_rfl) (by kernel_rfl) ?_;(repeat (go_big_quiet_step (fail)));refine wpQuiet_nil ?_;intro _ hw';obtain⟨⟨dq,osq⟩,hw''⟩:=hw';subst hw'')
      have B4:=zaa B3 (below_regrown w3 dq osq);go_wp2_with fail;refine(CT.out _ B4).mono ?_;rintro e w5 ⟨rfl,b5⟩;have E7:=zew (ns:=p.1) HN.out HC.out HZ.out (by have:=HS.out;omega) FC.out FG.out FD.out;rcases zei (nd:=nd) (ns:=p.1) (i:=i)with⟨t1,t2,t3⟩|⟨t1,t2⟩
      ·rw[t1]at E7;have E:=Lib.hid E7;clear E7 t1 t3;go_wp2;go_ret;exact⟨by rw[E.out];rfl,zaa B4 b5⟩
      rw[t1]at E7;have E:=Lib.hid E7;clear E7 t1;rw[t2];clear t2;go_wp2;go_ret;exact⟨by rw[E.out];rfl,zaa B4 b5⟩
     have E:=Lib.hid (zhy (ns:=p.1) HN.out HC.out HZ.out (by have:=HS.out;omega) (by rw[FB.out,hf,hq];rfl));clear hf hq;go_wp2;go_ret;exact⟨by rw[E.out];rfl,B3⟩
    have E:=Lib.hid (zhy (ns:=p.1) HN.out HC.out HZ.out (by have:=HS.out;omega) (by rw[FB.out,hf];rfl));clear hf;go_wp2;go_ret;exact⟨by rw[E.out];rfl,B3⟩
   have E:=Lib.hid (zfg (ns:=p.1) HN.out HC.out hz);clear hz;go_wp2;go_ret;exact⟨by rw[E.out];rfl,B2⟩
  have E:=Lib.hid (zff (ns:=p.1) HN.out hc);clear hc;go_wp2;go_ret;exact⟨by rw[E.out];rfl,b1⟩
 ·have hl2:fs.length=1:=hfl (by decide);obtain⟨bf,of_,rfl,hbf,hcf⟩:=zak hr3 (by omega);obtain⟨f,f1,f2,f3,f4⟩:=IN 0 (by omega);have hfn:f<n2:=by rw[<-HL.out];exact f2
  have v0:=hcf 0 _ f1;rw[Nat.add_zero]at v0;obtain⟨bb',o',y0,y1,y2,A5,c5,y3,hA,hb',Z',u0,u1,u2,u3,hr5,hl5⟩:=zbg h hr hfn;simp only[Option.some.injEq,Addr.mk.injEq,and_true]at hA;obtain⟨rfl,rfl⟩:=hA;have hfi_:(f:Int)<(n2:Int):=by omega
  have hf0:(0:Int)<=(f:Int):=by omega
  rw[hl2]at e3;have FG:=Lib.hid (show zb4 p.1 (zab p.1 i)=decide (y0=5)by rw[X.out,zb4,f3,Z'.out];rfl);have FC:=Lib.hid (show zbw p.1 (zab p.1 i)=false by rw[X.out];simp[zbw]);have FD:=Lib.hid (show zbq p.1 i (zab p.1 i)=false by rw[X.out];simp[zbq]);clear hfl hok hl hlen hr hr3 hcf IN X f1 f3 f4
  go_enter Tryz.func182,Tryz.ntmps182
  go_wp2_with fail;refine HAS.out.mono ?_;rintro e w1 ⟨rfl,rfl⟩;go_wp2_with fail;refine CC.out.mono ?_;rintro e w1 ⟨rfl,b1⟩;cases hc:zbj p.1 (zab p.1 i)
  ·have HC:=Lib.hid hc;clear hc;go_wp2_with fail;refine(CN.out w1 b1).mono ?_;rintro e w2 ⟨rfl,b2⟩;have B2:=zaa b1 b2;cases hz:zbv p.1 (zab p.1 i)
   ·have HZ:=Lib.hid hz;clear hz;go_wp2_with fail;refine(CS.out w2 B2).mono ?_;rintro e w3 ⟨rfl,b3⟩;have B3:=zaa B2 b3
    by_cases hs:0<=zbb p.1 (zab p.1 i)
    ·have E:=Lib.hid (zfh (ns:=p.1) HN.out HC.out HZ.out hs);go_wp2;go_ret;exact⟨by rw[E.out];rfl,B3⟩
    have HS:=Lib.hid hs;replace z2:=(B3.cell (by exact HV.out.lt)).trans z2;replace e0:=(B3.cell (by exact hb)).trans e0;replace e1:=(B3.cell (by exact hb)).trans e1;replace e3:=(B3.cell (by exact hb)).trans e3;have ge0:=cell_regrown e0;have ge1:=cell_regrown e1;have gz2:=cell_regrown z2;replace u0:=(B3.cell (by exact hb)).trans u0
    by_cases hy:y0=5
    ·subst hy;have E:=Lib.hid (zjm (ns:=p.1) HN.out HC.out HZ.out (by have:=HS.out;omega) FC.out (by rw[FG.out];rfl));go_wp2;go_ret;exact⟨by rw[E.out];rfl,B3⟩
    have gy:(y0 == 5)=false:=(by simpa using hy);have FG2:=Lib.hid (show zb4 p.1 (zab p.1 i)=false by rw[FG.out];exact decide_eq_false hy);clear hy;go_wp2_with fail
    (refine wp_region_quiet_below (by kernel_rfl) (by kernel_rfl) ?_;(repeat (go_big_quiet_step (fail)));refine wpQuiet_nil ?_;intro _ hw';obtain⟨⟨dq,osq⟩,hw''⟩:=hw';subst hw'')
    have B4:=zaa B3 (below_regrown w3 dq osq);go_wp2_with fail;refine(CT.out _ B4).mono ?_;rintro e w5 ⟨rfl,b5⟩;have E7:=zew (ns:=p.1) HN.out HC.out HZ.out (by have:=HS.out;omega) FC.out FG2.out FD.out;rcases zei (nd:=nd) (ns:=p.1) (i:=i)with⟨t1,t2,t3⟩|⟨t1,t2⟩
    ·rw[t1]at E7;have E:=Lib.hid E7;clear E7 t1 t3;go_wp2;go_ret;exact⟨by rw[E.out];rfl,zaa B4 b5⟩
    rw[t1]at E7;have E:=Lib.hid E7;clear E7 t1;rw[t2];clear t2;go_wp2;go_ret;exact⟨by rw[E.out];rfl,zaa B4 b5⟩
   have E:=Lib.hid (zfg (ns:=p.1) HN.out HC.out hz);clear hz;go_wp2;go_ret;exact⟨by rw[E.out];rfl,B2⟩
  have E:=Lib.hid (zff (ns:=p.1) HN.out hc);clear hc;go_wp2;go_ret;exact⟨by rw[E.out];rfl,b1⟩
 ·have hl2:fs.length=1:=hfl (by decide);obtain⟨bf,of_,rfl,hbf,hcf⟩:=zak hr3 (by omega);obtain⟨f,f1,f2,f3,f4⟩:=IN 0 (by omega);have hfn:f<n2:=by rw[<-HL.out];exact f2
  have v0:=hcf 0 _ f1;rw[Nat.add_zero]at v0;obtain⟨bb',o',y0,y1,y2,A5,c5,y3,hA,hb',Z',u0,u1,u2,u3,hr5,hl5⟩:=zbg h hr hfn;simp only[Option.some.injEq,Addr.mk.injEq,and_true]at hA;obtain⟨rfl,rfl⟩:=hA;have hfi_:(f:Int)<(n2:Int):=by omega
  have hf0:(0:Int)<=(f:Int):=by omega
  rw[hl2]at e3;have h16:=(zdj hok).2.1 rfl;have hoky:=(h.node (i:=f) (by omega)).2;rw[Z'.out]at hoky;have HOKY:=Lib.hid (zdj hoky).2.1;simp only at h16 HOKY;have FD:=Lib.hid (show zbq p.1 i (zab p.1 i)=(!decide ((f:Int)=i)&&decide (y0=6)&&decide (a+y1<=16))by rw[X.out,zbq,f3,Z'.out];show (decide ((6:Int)=6)&&!decide (M.i_ fs 0=i)&&_&&_)=_;rw[f4];simp);have FC:=Lib.hid (show zbw p.1 (zab p.1 i)=false by rw[X.out];simp[zbw]);have FG:=Lib.hid (show zb4 p.1 (zab p.1 i)=false by rw[X.out];simp[zb4]);clear hfl hok hl hlen hr hr3 hcf IN X f1 f3 f4 hoky
  go_enter Tryz.func182,Tryz.ntmps182
  go_wp2_with fail;refine HAS.out.mono ?_;rintro e w1 ⟨rfl,rfl⟩;go_wp2_with fail;refine CC.out.mono ?_;rintro e w1 ⟨rfl,b1⟩;cases hc:zbj p.1 (zab p.1 i)
  ·have HC:=Lib.hid hc;clear hc;go_wp2_with fail;refine(CN.out w1 b1).mono ?_;rintro e w2 ⟨rfl,b2⟩;have B2:=zaa b1 b2;cases hz:zbv p.1 (zab p.1 i)
   ·have HZ:=Lib.hid hz;clear hz;go_wp2_with fail;refine(CS.out w2 B2).mono ?_;rintro e w3 ⟨rfl,b3⟩;have B3:=zaa B2 b3
    by_cases hs:0<=zbb p.1 (zab p.1 i)
    ·have E:=Lib.hid (zfh (ns:=p.1) HN.out HC.out HZ.out hs);go_wp2;go_ret;exact⟨by rw[E.out];rfl,B3⟩
    have HS:=Lib.hid hs;replace z2:=(B3.cell (by exact HV.out.lt)).trans z2;replace e0:=(B3.cell (by exact hb)).trans e0;replace e1:=(B3.cell (by exact hb)).trans e1;replace e3:=(B3.cell (by exact hb)).trans e3;have ge0:=cell_regrown e0;have ge1:=cell_regrown e1;have gz2:=cell_regrown z2;replace u0:=(B3.cell (by exact hb)).trans u0;replace u1:=(B3.cell (by exact hb)).trans u1;have gu0:=cell_regrown u0;have gu1:=cell_regrown u1
    by_cases hfi:f=i
    ·subst hfi;clear u0 u1 gu0 gu1;have FD2:=Lib.hid (show zbq p.1 f (zab p.1 f)=false by rw[FD.out];simp);go_wp2_with fail
     (refine wp_region_quiet_below (by kernel_rfl) (by kernel_rfl) ?_;(repeat (go_big_quiet_step (fail)));refine wpQuiet_nil ?_;intro _ hw';obtain⟨⟨dq,osq⟩,hw''⟩:=hw';subst hw'')
     have B4:=zaa B3 (below_regrown w3 dq osq);go_wp2_with fail;refine(CT.out _ B4).mono ?_;rintro e w5 ⟨rfl,b5⟩;have E7:=zew (ns:=p.1) HN.out HC.out HZ.out (by have:=HS.out;omega) FC.out FG.out FD2.out;rcases zei (nd:=nd) (ns:=p.1) (i:=f)with⟨t1,t2,t3⟩|⟨t1,t2⟩
     ·rw[t1]at E7;have E:=Lib.hid E7;clear E7 t1 t3;go_wp2;go_ret;exact⟨by rw[E.out];rfl,zaa B4 b5⟩
     rw[t1]at E7;have E:=Lib.hid E7;clear E7 t1;rw[t2];clear t2;go_wp2;go_ret;exact⟨by rw[E.out];rfl,zaa B4 b5⟩
    have hfi2:((f:Int) != (i:Int))=true:=by simp;omega
    by_cases hy:y0=6
    ·subst hy;have h16y:=HOKY.out rfl;have hs_:-9000000000<=a+y1/\a+y1<=9000000000:=by omega
     by_cases h16s:a+y1<=16
     ·have E:=Lib.hid (zjn (ns:=p.1) HN.out HC.out HZ.out (by have:=HS.out;omega) FC.out FG.out (by rw[FD.out];simp[h16s];omega));go_wp2_with fail
      (refine wp_region_quiet_below (by kernel_rfl) (by kernel_rfl) ?_;(repeat (go_big_quiet_step (fail)));refine wpQuiet_nil ?_;intro _ hw';obtain⟨⟨dq,osq⟩,hw''⟩:=hw';subst hw'')
      go_wp2;go_ret;exact⟨by rw[E.out];rfl,zaa B3 (below_regrown w3 dq osq)⟩
     have FD2:=Lib.hid (show zbq p.1 i (zab p.1 i)=false by rw[FD.out];simp[h16s]);go_wp2_with fail
     (refine wp_region_quiet_below (by kernel_rfl) (by kernel_rfl) ?_;(repeat (go_big_quiet_step (fail)));refine wpQuiet_nil ?_;intro _ hw';obtain⟨⟨dq,osq⟩,hw''⟩:=hw';subst hw'')
     have B4:=zaa B3 (below_regrown w3 dq osq);go_wp2_with fail;refine(CT.out _ B4).mono ?_;rintro e w5 ⟨rfl,b5⟩;have E7:=zew (ns:=p.1) HN.out HC.out HZ.out (by have:=HS.out;omega) FC.out FG.out FD2.out;rcases zei (nd:=nd) (ns:=p.1) (i:=i)with⟨t1,t2,t3⟩|⟨t1,t2⟩
     ·rw[t1]at E7;have E:=Lib.hid E7;clear E7 t1 t3;go_wp2;go_ret;exact⟨by rw[E.out];rfl,zaa B4 b5⟩
     rw[t1]at E7;have E:=Lib.hid E7;clear E7 t1;rw[t2];clear t2;go_wp2;go_ret;exact⟨by rw[E.out];rfl,zaa B4 b5⟩
    have gy:(y0 == 6)=false:=(by simpa using hy);have FD2:=Lib.hid (show zbq p.1 i (zab p.1 i)=false by rw[FD.out];simp[hy]);clear hy;go_wp2_with fail
    (refine wp_region_quiet_below (by kernel_rfl) (by kernel_rfl) ?_;(repeat (go_big_quiet_step (fail)));refine wpQuiet_nil ?_;intro _ hw';obtain⟨⟨dq,osq⟩,hw''⟩:=hw';subst hw'')
    have B4:=zaa B3 (below_regrown w3 dq osq);go_wp2_with fail;refine(CT.out _ B4).mono ?_;rintro e w5 ⟨rfl,b5⟩;have E7:=zew (ns:=p.1) HN.out HC.out HZ.out (by have:=HS.out;omega) FC.out FG.out FD2.out;rcases zei (nd:=nd) (ns:=p.1) (i:=i)with⟨t1,t2,t3⟩|⟨t1,t2⟩
    ·rw[t1]at E7;have E:=Lib.hid E7;clear E7 t1 t3;go_wp2;go_ret;exact⟨by rw[E.out];rfl,zaa B4 b5⟩
    rw[t1]at E7;have E:=Lib.hid E7;clear E7 t1;rw[t2];clear t2;go_wp2;go_ret;exact⟨by rw[E.out];rfl,zaa B4 b5⟩
   have E:=Lib.hid (zfg (ns:=p.1) HN.out HC.out hz);clear hz;go_wp2;go_ret;exact⟨by rw[E.out];rfl,B2⟩
  have E:=Lib.hid (zff (ns:=p.1) HN.out hc);clear hc;go_wp2;go_ret;exact⟨by rw[E.out];rfl,b1⟩
 obtain⟨k9,k5,k6⟩:=hk;have FC:=Lib.hid (show zbw p.1 (zab p.1 i)=false by rw[X.out,zbw];show (decide (k=9)&&_)=_;rw[decide_eq_false k9];rfl);have FG:=Lib.hid (show zb4 p.1 (zab p.1 i)=false by rw[X.out,zb4];show (decide (k=5)&&_)=_;rw[decide_eq_false k5];rfl);have FD:=Lib.hid (show zbq p.1 i (zab p.1 i)=false by rw[X.out,zbq];show (decide (k=6)&&_&&_&&_)=_;rw[decide_eq_false k6];rfl);have g9:(k == 9)=false:=by simpa using k9
 have g5:(k == 5)=false:=by simpa using k5
 have g6:(k == 6)=false:=by simpa using k6
 clear k9 k5 k6
 by_cases hl2:fs.length=1
 ·obtain⟨bf,of_,rfl,hbf,hcf⟩:=zak hr3 (by omega);obtain⟨f,f1,f2,f3,f4⟩:=IN 0 (by omega);have hfn:f<n2:=by rw[<-HL.out];exact f2
  have v0:=hcf 0 _ f1;rw[Nat.add_zero]at v0;rw[hl2]at e3;clear hfl hok hl hlen hr hr3 hcf IN X f1 f3 f4
  go_enter Tryz.func182,Tryz.ntmps182
  go_wp2_with fail;refine HAS.out.mono ?_;rintro e w1 ⟨rfl,rfl⟩;go_wp2_with fail;refine CC.out.mono ?_;rintro e w1 ⟨rfl,b1⟩;cases hc:zbj p.1 (zab p.1 i)
  ·have HC:=Lib.hid hc;clear hc;go_wp2_with fail;refine(CN.out w1 b1).mono ?_;rintro e w2 ⟨rfl,b2⟩;have B2:=zaa b1 b2;cases hz:zbv p.1 (zab p.1 i)
   ·have HZ:=Lib.hid hz;clear hz;go_wp2_with fail;refine(CS.out w2 B2).mono ?_;rintro e w3 ⟨rfl,b3⟩;have B3:=zaa B2 b3
    by_cases hs:0<=zbb p.1 (zab p.1 i)
    ·have E:=Lib.hid (zfh (ns:=p.1) HN.out HC.out HZ.out hs);go_wp2;go_ret;exact⟨by rw[E.out];rfl,B3⟩
    have HS:=Lib.hid hs;replace z2:=(B3.cell (by exact HV.out.lt)).trans z2;replace e0:=(B3.cell (by exact hb)).trans e0;replace e1:=(B3.cell (by exact hb)).trans e1;replace e3:=(B3.cell (by exact hb)).trans e3;have ge0:=cell_regrown e0;have ge1:=cell_regrown e1;have gz2:=cell_regrown z2;go_wp2_with fail
    (refine wp_region_quiet_below (by kernel_rfl) (by kernel_rfl) ?_;(repeat (go_big_quiet_step (fail)));refine wpQuiet_nil ?_;intro _ hw';obtain⟨⟨dq,osq⟩,hw''⟩:=hw';subst hw'')
    have B4:=zaa B3 (below_regrown w3 dq osq);go_wp2_with fail;refine(CT.out _ B4).mono ?_;rintro e w5 ⟨rfl,b5⟩;have E7:=zew (ns:=p.1) HN.out HC.out HZ.out (by have:=HS.out;omega) FC.out FG.out FD.out;rcases zei (nd:=nd) (ns:=p.1) (i:=i)with⟨t1,t2,t3⟩|⟨t1,t2⟩
    ·rw[t1]at E7;have E:=Lib.hid E7;clear E7 t1 t3;go_wp2;go_ret;exact⟨by rw[E.out];rfl,zaa B4 b5⟩
    rw[t1]at E7;have E:=Lib.hid E7;clear E7 t1;rw[t2];clear t2;go_wp2;go_ret;exact⟨by rw[E.out];rfl,zaa B4 b5⟩
   have E:=Lib.hid (zfg (ns:=p.1) HN.out HC.out hz);clear hz;go_wp2;go_ret;exact⟨by rw[E.out];rfl,B2⟩
  have E:=Lib.hid (zff (ns:=p.1) HN.out hc);clear hc;go_wp2;go_ret;exact⟨by rw[E.out];rfl,b1⟩
 have gl:((fs.length:Int) == 1)=false:=by simp;omega
 clear hfl hok hl hlen hr hr3 IN X
 go_enter Tryz.func182,Tryz.ntmps182
 go_wp2_with fail;refine HAS.out.mono ?_;rintro e w1 ⟨rfl,rfl⟩;go_wp2_with fail;refine CC.out.mono ?_;rintro e w1 ⟨rfl,b1⟩;cases hc:zbj p.1 (zab p.1 i)
 ·have HC:=Lib.hid hc;clear hc;go_wp2_with fail;refine(CN.out w1 b1).mono ?_;rintro e w2 ⟨rfl,b2⟩;have B2:=zaa b1 b2;cases hz:zbv p.1 (zab p.1 i)
  ·have HZ:=Lib.hid hz;clear hz;go_wp2_with fail;refine(CS.out w2 B2).mono ?_;rintro e w3 ⟨rfl,b3⟩;have B3:=zaa B2 b3
   by_cases hs:0<=zbb p.1 (zab p.1 i)
   ·have E:=Lib.hid (zfh (ns:=p.1) HN.out HC.out HZ.out hs);go_wp2;go_ret;exact⟨by rw[E.out];rfl,B3⟩
   have HS:=Lib.hid hs;replace z2:=(B3.cell (by exact HV.out.lt)).trans z2;replace e0:=(B3.cell (by exact hb)).trans e0;replace e1:=(B3.cell (by exact hb)).trans e1;replace e3:=(B3.cell (by exact hb)).trans e3;have ge0:=cell_regrown e0;have ge1:=cell_regrown e1;have gz2:=cell_regrown z2;go_wp2_with fail
   (refine wp_region_quiet_below (by kernel_rfl) (by kernel_rfl) ?_;(repeat (go_big_quiet_step (fail)));refine wpQuiet_nil ?_;intro _ hw';obtain⟨⟨dq,osq⟩,hw''⟩:=hw';subst hw'')
   have B4:=zaa B3 (below_regrown w3 dq osq);go_wp2_with fail;refine(CT.out _ B4).mono ?_;rintro e w5 ⟨rfl,b5⟩;have E7:=zew (ns:=p.1) HN.out HC.out HZ.out (by have:=HS.out;omega) FC.out FG.out FD.out;rcases zei (nd:=nd) (ns:=p.1) (i:=i)with⟨t1,t2,t3⟩|⟨t1,t2⟩
   ·rw[t1]at E7;have E:=Lib.hid E7;clear E7 t1 t3;go_wp2;go_ret;exact⟨by rw[E.out];rfl,zaa B4 b5⟩
   rw[t1]at E7;have E:=Lib.hid E7;clear E7 t1;rw[t2];clear t2;go_wp2;go_ret;exact⟨by rw[E.out];rfl,zaa B4 b5⟩
  have E:=Lib.hid (zfg (ns:=p.1) HN.out HC.out hz);clear hz;go_wp2;go_ret;exact⟨by rw[E.out];rfl,B2⟩
 have E:=Lib.hid (zff (ns:=p.1) HN.out hc);clear hc;go_wp2;go_ret;exact⟨by rw[E.out];rfl,b1⟩
end
end
theorem zv4(l:List Int)(n:Int):(zb5 l n).length<=l.length+1:=by
 induction l with
 | nil=>exact Nat.le_refl _
 | cons x l ih=>
  simp only[zb5,List.length_append,List.length_cons,List.filter_cons]at ih ⊢
  by_cases hlt:x<n
  ·have e:decide (n<x)=false:=(by simp;omega);simp only[hlt,e,decide_true,if_true,List.length_cons,Bool.false_eq_true,if_false];omega
  have e1:decide (x<n)=false:=by simpa using hlt
  simp only[e1,Bool.false_eq_true,if_false]
  split
  ·simp only[List.length_cons];omega
  omega
structure M.PU (xs:List Int) (n:Int) (k:Nat) (d:Bool) (l:List Int):Prop where
 no:d=false->l=xs.take k/\∀x∈l,x<n
 yes:d=true->l=zb5 (xs.take k) n/\∃y∈xs.take k,n<=y
theorem M.PU.len{xs:List Int}{n:Int}{k:Nat}{d:Bool}{l:List Int}(h:M.PU xs n k d l):l.length<=xs.length+1:=by
 cases d
 ·rw[(h.no rfl).1,List.length_take];omega
 have:=zv4 (xs.take k) n;rw[(h.yes rfl).1];rw[List.length_take]at this;omega
theorem M.PU.after{xs:List Int}{n x:Int}{k:Nat}{l:List Int}(hr:zdk xs)(h:M.PU xs n k true l)(hx:xs[k]?=some x):M.PU xs n (k+1) true (l++[x]):=by
 obtain⟨h1,y,hy,hny⟩:=h.yes rfl;have e:xs.take (k+1)=xs.take k++[x]:=by rw[List.take_add_one,hx];rfl
 have hyx:y<x:=by
  have:=hr;rw[zdk,<-List.take_append_drop k xs,List.pairwise_append]at this;refine this.2.2 y hy x ?_;rw[List.drop_eq_getElem_cons (List.getElem?_eq_some_iff.1 hx).1,(List.getElem?_eq_some_iff.1 hx).2];exact List.mem_cons_self ..
 exact⟨(fun e=>by cases e),fun _=>⟨by rw[e,zty (by omega),h1],y,by rw[e];exact List.mem_append_left _ hy,hny⟩⟩
theorem M.PU.hit{xs:List Int}{n x:Int}{k:Nat}{l:List Int}(h:M.PU xs n k false l)(hx:xs[k]?=some x)(hn:n<=x):M.PU xs n (k+1) true ((if n<x then l++[n]else l)++[x]):=by
 obtain⟨h1,h2⟩:=h.no rfl;have e:xs.take (k+1)=xs.take k++[x]:=by rw[List.take_add_one,hx];rfl
 rw[h1]at h2;exact⟨(fun e=>by cases e),fun _=>⟨by rw[e,ztx h2 hn,h1],x,by rw[e];simp,hn⟩⟩
theorem M.PU.low{xs:List Int}{n x:Int}{k:Nat}{l:List Int}(h:M.PU xs n k false l)(hx:xs[k]?=some x)(hn:x<n):M.PU xs n (k+1) false (l++[x]):=by
 obtain⟨h1,h2⟩:=h.no rfl;have e:xs.take (k+1)=xs.take k++[x]:=by rw[List.take_add_one,hx];rfl
 refine⟨fun _=>⟨by rw[e,h1],fun y hy=>?_⟩,fun e=>by cases e⟩;rcases List.mem_append.1 hy with hy|hy
 ·exact h2 y hy
 rw[List.mem_singleton.1 hy];exact hn
theorem zoi(A:Yo)(n c:Nat)(xs:List Int)(m:Int)(w:Yw)(hx:RI w w.heap.size A n xs)(hn:n<=1000)(hr:Hid (zdk xs)):
 Calls Tryz.prog 135 #[.slice A n c,.int .i64 m] w (Ret1 2 w (zb5 xs m)):=by
 have hl:=Lib.hid hx.len
 go_enter Tryz.func135,Tryz.ntmps135
 go_wp2_with fail
 go_loopw [5,6,7] (fun v dv i wr=>∃(k:Nat) (d:Bool) (l:List Int),i=.int .i64 k/\dv=.bool d/\k<=n/\Hid (M.PU xs m k d l)/\OI 2 w.heap.size wr v l/\Below w.heap.size w wr) (fun _ _ i _=>n-(intOf i).toNat)
 case atStart=>exact⟨0,false,[],rfl,rfl,by omega,Lib.hid ⟨fun _=>⟨rfl,fun x h=>by cases h⟩,fun e=>by cases e⟩,OI.made _ _,(Below.refl _ _).alloc (Nat.le_refl _) _⟩
 case round=>
  obtain⟨k,d,l,rfl,rfl,hk,H,own,B⟩:=hrel;have hll:=H.out.len;rw[hl.out]at hll;have sB:=B.size
  by_cases hlt:k<n
  ·have X:=Lib.hid (List.getElem?_eq_getElem (show k<xs.length by rw[hl.out];exact hlt));generalize xs[k]'(by rw[hl.out];exact hlt)=x at X;obtain⟨b,o,rfl,hb,hc⟩:=zak hx (by omega);have v0:=(B.cell (by exact hb)).trans (hc k _ X.out);have hkn:(k:Int)<(n:Int):=(by omega);have lb:b<wr.heap.size:=(by omega);clear hc;cases d
   ·by_cases hmx:m<=x
    ·have hd:decide (x≥m)=true:=decide_eq_true hmx
     by_cases hlt2:m<x
     ·have hd2:decide (x>m)=true:=decide_eq_true hlt2;have H2:=Lib.hid (H.out.hit X.out hmx);rw[if_pos hlt2]at H2;clear H;have hl1:(l++[m]).length+1<=maxLen:=(by rw[List.length_append,List.length_singleton];unfold maxLen;omega);have hl2:((l++[m]).length+1)*8<=140737488355328:=(by rw[List.length_append,List.length_singleton];omega);go_upto_region 10 with(at_builtin;refine zdf zce rfl _ _ rfl own rfl rfl rfl (by unfold maxLen;omega) (by omega) sB ?_;intro v1 w1 own1 gr1 bel1)
      have ownp:=OI.push own1;have s1:=bel1.size;have v0b:w1.cell? ⟨b,o+k,none⟩=some (.int .i64 x):=(bel1.cell (by exact hb)).trans v0;go_wp2_with (at_builtin;refine zdf zce rfl _ _ rfl ownp rfl rfl rfl hl1 hl2 (by omega) ?_;intro v2 w2 own2 gr2 bel2);go_roundw
      case rel=>exact⟨k+1,true,_,by go_num,rfl,by omega,H2,OI.push own2,B.trans (bel1.trans bel2)⟩
      case measure=>simp[intOf];omega
     have hd2:decide (x>m)=false:=decide_eq_false hlt2;have H2:=Lib.hid (H.out.hit X.out hmx);rw[if_neg hlt2]at H2;clear H;have hl1:l.length+1<=maxLen:=(by unfold maxLen;omega);have hl2:(l.length+1)*8<=140737488355328:=(by omega);go_wp2_with (at_builtin;refine zdf zce rfl _ _ rfl own rfl rfl rfl hl1 hl2 sB ?_;intro v2 w2 own2 gr2 bel2);go_roundw
     case rel=>exact⟨k+1,true,_,by go_num,rfl,by omega,H2,OI.push own2,B.trans bel2⟩
     case measure=>simp[intOf];omega
    have hd:decide (x≥m)=false:=decide_eq_false hmx;have H2:=Lib.hid (H.out.low X.out (by omega));clear H;have hl1:l.length+1<=maxLen:=(by unfold maxLen;omega);have hl2:(l.length+1)*8<=140737488355328:=(by omega);go_wp2_with (at_builtin;refine zdf zce rfl _ _ rfl own rfl rfl rfl hl1 hl2 sB ?_;intro v2 w2 own2 gr2 bel2);go_roundw
    case rel=>exact⟨k+1,false,_,by go_num,rfl,by omega,H2,OI.push own2,B.trans bel2⟩
    case measure=>simp[intOf];omega
   have H2:=Lib.hid (H.out.after hr.out X.out);clear H;have hl1:l.length+1<=maxLen:=(by unfold maxLen;omega);have hl2:(l.length+1)*8<=140737488355328:=(by omega);go_wp2_with (at_builtin;refine zdf zce rfl _ _ rfl own rfl rfl rfl hl1 hl2 sB ?_;intro v2 w2 own2 gr2 bel2);go_roundw
   case rel=>exact⟨k+1,true,_,by go_num,rfl,by omega,H2,OI.push own2,B.trans bel2⟩
   case measure=>simp[intOf];omega
  obtain rfl:k=n:=by omega
  have et:xs.take k=xs:=List.take_of_length_le (by rw[hl.out];exact Nat.le_refl _);cases d
  ·obtain⟨h1,h2⟩:=H.out.no rfl;rw[et]at h1;subst h1;have E:=Lib.hid (ztw h2);have hl1:l.length+1<=maxLen:=(by unfold maxLen;omega);have hl2:(l.length+1)*8<=140737488355328:=(by omega);clear H et h2;go_wp2_with (at_builtin;refine zdf zce rfl _ _ rfl own rfl rfl rfl hl1 hl2 sB ?_;intro v2 w2 own2 gr2 bel2);go_ret;exact⟨_,rfl,by rw[E.out];exact OI.push own2,B.trans bel2⟩
  obtain⟨h1,-⟩:=H.out.yes rfl;rw[et]at h1;subst h1;clear H et;go_wp2;go_ret;exact⟨_,rfl,own,B⟩
end Go.Proofs.YtifeldeikhmckaaGreat
