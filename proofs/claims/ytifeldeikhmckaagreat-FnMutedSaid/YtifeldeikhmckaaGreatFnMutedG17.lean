import Derived.Test.YtifeldeikhmckaaGreatFnMutedG14
import Derived.Test.YtifeldeikhmckaaGreatFnMutedG16
import Derived.Test.YtifeldeikhmckaaGreatFnMutedG15
import Derived.Test.YtifeldeikhmckaaGreatFnMutedG4
import Derived.Test.YtifeldeikhmckaaGreatFnMutedG8
import Derived.Test.YtifeldeikhmckaaGreatFnMutedG12
import Derived.Test.YtifeldeikhmckaaGreatFnMutedG13
set_option linter.unusedVariables false
set_option linter.unusedSimpArgs false
set_option maxRecDepth 100000
set_option maxHeartbeats 4000000
namespace Go.Proofs.YtifeldeikhmckaaGreat
open Go.RowKit Go.Sort
theorem zzk(b lo:Nat)(A:Yo)(n c:Nat)(code:List UInt8)(K:Nat)(w:Yw)(h:Src w b lo A n c code K)(hK:K<=1000000000):
 Calls Tryz.prog 108 #[.pointer (some ⟨b,0,none⟩),.slice (some ⟨w.heap.size,0,none⟩) 5 5] (w.alloc (.cells #[.int .i64 1,.int .i64 2,.int .i64 5,.int .i64 9,.int .i64 3] 2)) (Drew b lo A n c code (K+2) (fun v=>0<=v/\v<=32) w):=by
 have hB:Below w.heap.size w (w.alloc (.cells #[.int .i64 1,.int .i64 2,.int .i64 5,.int .i64 9,.int .i64 3] 2)):=(Aw _ _).alloc (Aj _) _;have hb:=h.lt;refine(zgs b lo A n c code K w.heap.size 5 5 [1,2,5,9,3] _ (h.below hB hb) (by omega) rfl (by omega) (by omega) (by simp) ?_).mono ?_
 ·intro j x hx;rw[cell_of_row _ w.heap.size j _ 2 (0,0) (Df w _)]
  match j,hx with
  | 0,hx=>simp at hx;subst hx;rfl
  | 1,hx=>simp at hx;subst hx;rfl
  | 2,hx=>simp at hx;subst hx;rfl
  | 3,hx=>simp at hx;subst hx;rfl
  | 4,hx=>simp at hx;subst hx;rfl
  | j+5,hx=>simp at hx
 rintro e w2 ⟨x,rfl,hx,s3,m3⟩;exact⟨x,rfl,by simp only[List.mem_cons,List.not_mem_nil,or_false]at hx;omega,s3,(Mid.of_below hB _ _).trans m3⟩
theorem zp9(b lo:Nat)(A:Yo)(n c:Nat)(code:List UInt8)(K:Nat)(w:Yw)(h:Src w b lo A n c code K)(hK:K<=1000000):
 Calls Tryz.prog 162 #[.pointer (some ⟨b,0,none⟩)] w (zyv b lo A n c code (K+200) w):=by
 have hbw:=h.lt;obtain⟨W0,hW0⟩:∃W,W=(w.alloc (.cells #[.slice none 0 0] 36)).alloc (.cells #[.slice none 0 0] 36):=⟨_,rfl⟩;have B0:Below w.heap.size w W0:=by rw[hW0];exact((Aw _ _).alloc (Aj _) _).alloc (by simp) _
 have z0:W0.heap.size=w.heap.size+2:=by rw[hW0];simp
 have c0:W0.cell? ⟨w.heap.size,0,none⟩=some (.slice none 0 0):=by rw[hW0];simp[go_sem]
 have f0:W0.frozen? ⟨w.heap.size,0,none⟩=false:=by rw[hW0];simp[go_sem]
 have c1:W0.cell? ⟨w.heap.size+1,0,none⟩=some (.slice none 0 0):=by rw[hW0];simp[go_sem]
 have f1:W0.frozen? ⟨w.heap.size+1,0,none⟩=false:=by rw[hW0];simp[go_sem]
 have s0:=h.below B0 hbw;have HW0:=Aq hW0;have HZ0:=Aq z0;clear hW0
 go_enter Tryz.func162,Tryz.ntmps162
 go_wp2_with fail;rw[<-HW0.out];refine(zbg b lo A n c code K 5 W0 s0 (by omega) (by omega)).mono ?_;rintro e x1 ⟨N1,rfl,⟨N0,N2⟩,s1,m1⟩;obtain⟨N',rfl⟩:∃q:Nat,N1=q:=⟨N1.toNat,by omega⟩;have hN':N'<=4:=by omega
 clear N2 N0;have t1:=m1.size
 have D1:DM w b lo A n c code x1.heap.size (K+2) [] (.slice none 0 0) (x1.alloc (.cells #[.string ⟨#[100,114,117,109,115]⟩,.string ⟨#[98,97,115,115]⟩,.string ⟨#[98,117,115]⟩,.string ⟨#[101,99,104,111]⟩,.string ⟨#[107,101,121,115]⟩,.string ⟨#[99,104,111,105,114]⟩] 9)):=by
  have hB:Below x1.heap.size x1 (x1.alloc (.cells #[.string ⟨#[100,114,117,109,115]⟩,.string ⟨#[98,97,115,115]⟩,.string ⟨#[98,117,115]⟩,.string ⟨#[101,99,104,111]⟩,.string ⟨#[107,101,121,115]⟩,.string ⟨#[99,104,111,105,114]⟩] 9)):=(Aw _ _).alloc (Aj _) _;have M1:Mid b (b+1) W0 _:=m1.thenB' hB m1.size;refine⟨M1.cellK (by omega) (.inr (by omega)) c0,M1.frozK (by omega) (.inr (by omega)) f0,M1.cellK (by omega) (.inr (by omega)) c1,M1.frozK (by omega) (.inr (by omega)) f1,Aq (zyu x1 _ _ ?_),OS.nil _ _ _ _,Aq (fun x hx=>by simp at hx),s1.below hB (by omega),(Mid.of_below B0 _ _).trans M1,by simp,by omega⟩;exact zhk rfl rfl rfl rfl rfl rfl
 clear s1 m1 c0 f0 c1 f1 s0;obtain⟨NB,hNB⟩:∃q,q=x1.heap.size:=⟨_,rfl⟩;obtain⟨x2,hx2⟩:∃u,u=x1.alloc (.cells #[.string ⟨#[100,114,117,109,115]⟩,.string ⟨#[98,97,115,115]⟩,.string ⟨#[98,117,115]⟩,.string ⟨#[101,99,104,111]⟩,.string ⟨#[107,101,121,115]⟩,.string ⟨#[99,104,111,105,114]⟩] 9):=⟨_,rfl⟩;rw[<-hx2,<-hNB]at D1;have HX2:=Aq hx2;have HNB:=Aq hNB;clear hx2 hNB z0;obtain⟨N,hN⟩:∃q:Nat,q=1+N':=⟨_,rfl⟩;have hN1:1<=N/\N<=5:=by omega
 have HN:=Aq (show 1+(N':Int)=(N:Int)by omega);clear hN;go_wp2_with fail;rw[HN.out,<-HX2.out,<-HNB.out];clear hN'
 go_loopw [6] (fun i wr=>∃(j:Nat) (ms:List zag) (v:Value),i=.int .i64 j/\j+1<=N/\Hid (ms.length=j)/\Hid (M.drawOk N ms)/\DM w b lo A n c code NB (K+2+40*j) ms v wr) (fun i _=>N-(intOf i).toNat)
 case atStart=>exact⟨0,[],_,rfl,by omega,Aq rfl,Aq (M.drawOk.nil N),D1⟩
 case round=>
  clear D1;obtain⟨j,ms,v,rfl,hj,hml,hdr,D⟩:=hrel;have HD:=Aq D;have V1:=D.c1;have V0:=D.c0;have VF:=D.f1;have VF0:=D.f0;have VZ:=D.sz;have VL:=D.lo;obtain⟨Av,cv,ev⟩:=D.own.shape;subst ev
  by_cases hlt:j+1<N
  ·have hnm:=D.nm.out j (by omega);obtain⟨s,hs⟩:∃s,s=zcy j:=⟨_,rfl⟩;rw[<-hs]at hnm;have hs6:s.size<=6:=(by rw[hs];exact zyo j (by omega));have HS6:=Aq hs;clear hs;have E0:=DX.start s D.src;obtain⟨W1,hW1⟩:∃u,u=wr:=⟨_,rfl⟩;have hb1:b<W1.heap.size:=(by rw[hW1];omega);rw[<-hW1]at HD hnm E0 V0 V1 VF VF0 VZ ⊢;clear hW1 D;obtain⟨Y1,hY1⟩:∃u,u=W1.alloc (.cells #[.string s,.int .i64 0,.slice none 0 0] 117):=⟨_,rfl⟩;rw[<-hY1]at E0;have HY1:=Aq hY1;have SO:=Aq (zfg b lo A n c code _ 2 Y1 E0.src (by omega) (by omega));have HE0:=Aq E0;clear hY1 E0;go_wp2_with fail;rw[<-HY1.out];refine SO.out.mono ?_;rintro e y2 ⟨r,rfl,s2,m2⟩;have E0:=HE0.out.step hb1 s2 m2;cases r
   ·obtain⟨lt,hlt0⟩:∃z:Int,z=0:=⟨_,rfl⟩;rw[<-hlt0]at E0;have HLT:=Aq (show 0<=lt/\lt<=32 by omega);clear hlt0;go_wp2_with fail;obtain⟨wS,hS⟩:∃u,u=y2:=⟨_,rfl⟩;rw[<-hS]at E0 ⊢;clear hS
    go_loopw [8] (fun i wx=>∃(t:Nat) (us:List (Int×Int)) (vu:Value),i=.int .i64 ((j:Int)+1+t)/\j+1+t<=N/\us.length<=4/\Hid (M.usOk N j t us)/\DX W1 b lo A n c code (K+2+40*j+4+8*t) s lt us vu wx) (fun i _=>N-(intOf i).toNat)
    case atStart=>exact⟨0,[],_,by simp,by omega,by simp,Aq (M.usOk.zero (by omega)),E0.more (by omega)⟩
    case round=>
     clear E0;obtain⟨t,us,vu,rfl,ht,hu4,hus,E⟩:=hrel;have hTO:=Aq (show (j:Int)+1+(t:Int)=((j+1+t:Nat):Int)by omega);rw[hTO.out];generalize hTT:j+1+t=TT at ht hTO ⊢;have htt:TT<=j+1+t/\j+1+t<=TT:=(by omega);clear hTT;have HEE:=Aq E;have P0:=E.p0;have P1:=E.p1;have P2:=E.p2;have EX:=E.sz;obtain⟨Au0,cu0,eu0⟩:=E.own.shape;subst eu0
     by_cases hlt:TT<N
     ·by_cases h4:us.length<4
      ·have SO:=Aq (zfg b lo A n c code _ 2 wr E.src (by omega) (by omega));clear E;go_wp2_with fail;refine SO.out.mono ?_;rintro e wx2 ⟨r,rfl,s2,m2⟩;have E2:=HEE.out.step hb1 s2 m2;cases r
       ·have P22:=E2.p2
        by_cases hl1:TT+1<N
        ·have l1:¬(TT:Int)=(N:Int)-1:=(by omega);go_wp2_with fail;go_roundw
         case rel=>exact⟨t+1,us,_,by go_num,by omega,hu4,Aq (hus.out.skip (by omega)),E2.more (by omega)⟩
         case measure=>simp[intOf];omega
        have l1:(TT:Int)=(N:Int)-1:=by omega
        by_cases hl2:us.length=0
        ·obtain rfl:us=[]:=List.eq_nil_of_length_eq_zero hl2;clear l1 hl2;have l1:(N:Int)-1=(TT:Int):=(by omega);clear hl1;simp only[List.length_nil]at E2 P22 P2;obtain⟨U,hU⟩:∃U,U=wx2:=⟨_,rfl⟩;rw[<-hU]at E2 ⊢;have HE2:=Aq E2;have UP2:=E2.p2;have UF2:=E2.f2;have UX:=E2.sz;obtain⟨G,hG⟩:∃G:Nat->Prop,G=fun k=>k=b\/Iv (W1.heap.size+1) U.heap.size k:=⟨_,rfl⟩
         have HG:=Aq hG
         have GX:=Aq (show ¬G W1.heap.size from fun h=>by
          rw[hG]at h;rcases h with h|h
          ·omega
          have h1:W1.heap.size+1<=W1.heap.size:=h.1;omega)
         have g2:=ChgTo.cell (F:=G) UP2 (fun h=>GX.out h);have bsU:=E2.src.lt;clear hU hG;have SD:=Aq (zf8 b lo A n c code _ U.drew (E2.src.below (zad (Aw U.heap.size _) 1) bsU) (by omega));clear E2;go_wp2_with fail
         (refine zc4 G [0,2,3] [1] 5 (.one 4 (.one 5 (.one 6 (.one 7 (.first 8 .rest))))) [9] [9] (by kernel_rfl) (by kernel_rfl) ?_;simp only[zak];simp only[List.filterMap,By,Bg];(repeat (go_big_quiet_step (fail)));refine Cv ?_;(repeat (go_big_quiet_step (fail)));refine Cv ?_)
         refine zai rfl ?_;go_wp2_with fail;refine SD.out.mono ?_;rintro e x5 ⟨gz,rfl,hgz,s5,m5⟩;have HGZ:=Aq hgz;clear hgz;have m5':Mid b (b+1) U x5:=(Mid.of_below (zad (Aw U.heap.size _) 1) b (b+1)).trans m5;have E5:=HE2.out.step hb1 s5 m5';have lt5:=m5'.size
         have C5:Chg G U x5:=⟨m5'.os,m5'.tape,m5'.output,m5'.size,fun i hi hn=>m5'.block i hi (by
          rw[HG.out]at hn;rcases Fj i b with h|h
          ·exact .inl h
          exact .inr (by rcases Fj b i with h2|h2;exact h2;exact absurd (.inl (by omega)) hn))⟩
         have HE5:=Aq E5;have q2:=E5.p2;have r2:=E5.f2;have o5:=E5.own;clear E5;go_wp2_with fail;refine⟨⟨⟨x5,C5⟩,rfl⟩,zai rfl ?_⟩;go_wp2_with fail;refine⟨⟨⟨x5,C5⟩,rfl⟩,zai rfl ?_⟩;go_wp2_with fail;refine⟨⟨⟨_,C5.trans (Chg.of_below ((Aw _ _).alloc (Aj _) _) _)⟩,rfl⟩,zai rfl ?_⟩;go_wp2_with (at_builtin;refine za8 zg0 #[.int .i64 (TT:Int),.int .i64 gz] rfl _ _ rfl o5 (Fe:=fun _=>False) (y:=((TT:Int),gz)) rfl (fun _ _ h=>h) rfl rfl (by unfold maxLen;omega) (by omega) ?_;intro v6 w6 own6 ch6;obtain⟨A6,c6,e6⟩:=own6.shape;rw[Cw,Dw]at e6;subst e6;have q6:w6.cell? ⟨W1.heap.size,2,none⟩=some (.slice Au0 0 cu0):=(by rw[ch6.cell1 (show W1.heap.size<x5.heap.size by omega) (fun h=>by have h1:W1.heap.size+1<=W1.heap.size:=h.1;omega)];exact q2);have r6:w6.frozen? ⟨W1.heap.size,2,none⟩=false:=(by rw[ch6.frozen1 (show W1.heap.size<x5.heap.size by omega) (fun h=>by have h1:W1.heap.size+1<=W1.heap.size:=h.1;omega)];exact r2));have CH6:Chg (fun k=>G k\/Iv (W1.heap.size+1) x5.heap.size k) U w6:=(C5.wide (fun _ h=>.inl h)).trans (ch6.wide (fun _ h=>.inr h))
         have CG6:Chg G U w6:=⟨CH6.os,CH6.tape,CH6.output,CH6.size,fun i hi hn=>CH6.block i hi (fun h=>by
          rcases h with h|h
          ·exact hn h
          exact hn (by rw[HG.out];exact .inr ⟨h.1,hi⟩))⟩
         refine⟨⟨⟨w6,CG6⟩,rfl⟩,?_⟩
         (refine za6 rfl ?_;(repeat (go_big_quiet_step (fail)));refine Cv ?_)
         refine zbc ?_;have E6:=HE5.out.push hb1 own6 ch6;go_wp2_with fail;go_roundw
         case rel=>exact⟨t+1,[]++[((TT:Int),gz)],_,by go_num,by omega,by first|(simp;done)|(simp;omega),Aq (hus.out.push (by omega) (by omega) HGZ.out),E6.more (by omega)⟩
         case measure=>simp[intOf];omega
        have l2:¬(us.length:Int)=0:=(by omega);go_wp2_with fail;go_roundw
        case rel=>exact⟨t+1,us,_,by go_num,by omega,hu4,Aq (hus.out.skip (by omega)),E2.more (by omega)⟩
        case measure=>simp[intOf];omega
       
       obtain⟨U,hU⟩:∃U,U=wx2:=⟨_,rfl⟩;rw[<-hU]at E2 ⊢;have HE2:=Aq E2;have UP2:=E2.p2;have UF2:=E2.f2;have UX:=E2.sz;obtain⟨G,hG⟩:∃G:Nat->Prop,G=fun k=>k=b\/Iv (W1.heap.size+1) U.heap.size k:=⟨_,rfl⟩
       have HG:=Aq hG
       have GX:=Aq (show ¬G W1.heap.size from fun h=>by
        rw[hG]at h;rcases h with h|h
        ·omega
        have h1:W1.heap.size+1<=W1.heap.size:=h.1;omega)
       have g2:=ChgTo.cell (F:=G) UP2 (fun h=>GX.out h);have bsU:=E2.src.lt;clear hU hG;have SD:=Aq (zf8 b lo A n c code _ U.drew (E2.src.below (zad (Aw U.heap.size _) 1) bsU) (by omega));clear E2;go_wp2_with fail
       (refine zc4 G [0,2,3] [1] 5 (.one 4 (.one 5 (.one 6 (.one 7 (.first 8 .rest))))) [9] [9] (by kernel_rfl) (by kernel_rfl) ?_;simp only[zak];simp only[List.filterMap,By,Bg];(repeat (go_big_quiet_step (fail)));refine Cv ?_;(repeat (go_big_quiet_step (fail)));refine Cv ?_)
       refine zai rfl ?_;go_wp2_with fail;refine SD.out.mono ?_;rintro e x5 ⟨gz,rfl,hgz,s5,m5⟩;have HGZ:=Aq hgz;clear hgz;have m5':Mid b (b+1) U x5:=(Mid.of_below (zad (Aw U.heap.size _) 1) b (b+1)).trans m5;have E5:=HE2.out.step hb1 s5 m5';have lt5:=m5'.size
       have C5:Chg G U x5:=⟨m5'.os,m5'.tape,m5'.output,m5'.size,fun i hi hn=>m5'.block i hi (by
        rw[HG.out]at hn;rcases Fj i b with h|h
        ·exact .inl h
        exact .inr (by rcases Fj b i with h2|h2;exact h2;exact absurd (.inl (by omega)) hn))⟩
       have HE5:=Aq E5;have q2:=E5.p2;have r2:=E5.f2;have o5:=E5.own;clear E5;go_wp2_with fail;refine⟨⟨⟨x5,C5⟩,rfl⟩,zai rfl ?_⟩;go_wp2_with fail;refine⟨⟨⟨x5,C5⟩,rfl⟩,zai rfl ?_⟩;go_wp2_with fail;refine⟨⟨⟨_,C5.trans (Chg.of_below ((Aw _ _).alloc (Aj _) _) _)⟩,rfl⟩,zai rfl ?_⟩;go_wp2_with (at_builtin;refine za8 zg0 #[.int .i64 (TT:Int),.int .i64 gz] rfl _ _ rfl o5 (Fe:=fun _=>False) (y:=((TT:Int),gz)) rfl (fun _ _ h=>h) rfl rfl (by unfold maxLen;omega) (by omega) ?_;intro v6 w6 own6 ch6;obtain⟨A6,c6,e6⟩:=own6.shape;rw[Cw,Dw]at e6;subst e6;have q6:w6.cell? ⟨W1.heap.size,2,none⟩=some (.slice Au0 us.length cu0):=(by rw[ch6.cell1 (show W1.heap.size<x5.heap.size by omega) (fun h=>by have h1:W1.heap.size+1<=W1.heap.size:=h.1;omega)];exact q2);have r6:w6.frozen? ⟨W1.heap.size,2,none⟩=false:=(by rw[ch6.frozen1 (show W1.heap.size<x5.heap.size by omega) (fun h=>by have h1:W1.heap.size+1<=W1.heap.size:=h.1;omega)];exact r2));have CH6:Chg (fun k=>G k\/Iv (W1.heap.size+1) x5.heap.size k) U w6:=(C5.wide (fun _ h=>.inl h)).trans (ch6.wide (fun _ h=>.inr h))
       have CG6:Chg G U w6:=⟨CH6.os,CH6.tape,CH6.output,CH6.size,fun i hi hn=>CH6.block i hi (fun h=>by
        rcases h with h|h
        ·exact hn h
        exact hn (by rw[HG.out];exact .inr ⟨h.1,hi⟩))⟩
       refine⟨⟨⟨w6,CG6⟩,rfl⟩,?_⟩
       (refine za6 rfl ?_;(repeat (go_big_quiet_step (fail)));refine Cv ?_)
       refine zbc ?_;have E6:=HE5.out.push hb1 own6 ch6;go_wp2_with fail;go_roundw
       case rel=>exact⟨t+1,us++[((TT:Int),gz)],_,by go_num,by omega,by first|(simp;done)|(simp;omega),Aq (hus.out.push (by omega) (by omega) HGZ.out),E6.more (by omega)⟩
       case measure=>simp[intOf];omega
      clear E;have D2:=HD.out.step hbw HEE.out.src HEE.out.mid;have V12:=D2.c1;have VF2:=D2.f1;have oM:=HD.out.own.mid HEE.out.mid (.inr (by omega)) (Aj _);have sO:tSt.O wr (Iv (W1.heap.size+1) wr.heap.size) [.string s,.int .i64 lt,.slice Au0 us.length cu0] (s,lt,us):=st_O.2 ⟨Au0,us.length,cu0,rfl,by unfold maxLen;omega,sl_O.2 HEE.out.own⟩;have lW:=HEE.out.mid.size;clear hTO;have HD2:=Aq D2;clear D2;go_wp2_with (at_builtin;refine za8 zgm #[.string s,.int .i64 lt,.slice Au0 us.length cu0] rfl _ _ rfl oM sO (fun z h1 h2=>by have a1:z<W1.heap.size:=h1.2;have a2:W1.heap.size+1<=z:=h2.1;omega) rfl rfl (by have:=hml.out;unfold maxLen;omega) (by have:=hml.out;omega) ?_;intro v6 w6 own6 ch6;obtain⟨A6,c6,e6⟩:=own6.shape;rw[Cw,Dw]at e6;subst e6;have q6:w6.cell? ⟨w.heap.size+1,0,none⟩=some (.slice Av ms.length cv):=(by rw[ch6.cell1 (show w.heap.size+1<wr.heap.size by omega) (fun h=>by have h1:NB+1<=w.heap.size+1:=h.1;omega)];exact V12);have r6:w6.frozen? ⟨w.heap.size+1,0,none⟩=false:=(by rw[ch6.frozen1 (show w.heap.size+1<wr.heap.size by omega) (fun h=>by have h1:NB+1<=w.heap.size+1:=h.1;omega)];exact VF2))
      have D6:=HD2.out.push hbw (X:=W1.heap.size+1) (own6.wide (fun z h=>by
       rcases h with h|h|h
       ·exact .inl ⟨h.1,Cq h.2 lW⟩
       ·exact .inr (.inl h)
       exact .inr (.inr h))) (by omega) (ch6.wide (fun z h=>⟨h.1,Cq h.2 lW⟩)) ⟨hs6,hu4⟩
      go_roundw
      case rel=>exact⟨j+1,ms++[(s,lt,us)],_,by go_num,by omega,Aq (by have:=hml.out;simp;omega),Aq (hdr.out.push hml.out (by omega) HS6.out HLT.out hus.out hu4 (by omega)),D6.more (by omega)⟩
      case measure=>simp[intOf];omega
     clear E;have D2:=HD.out.step hbw HEE.out.src HEE.out.mid;have V12:=D2.c1;have VF2:=D2.f1;have oM:=HD.out.own.mid HEE.out.mid (.inr (by omega)) (Aj _);have sO:tSt.O wr (Iv (W1.heap.size+1) wr.heap.size) [.string s,.int .i64 lt,.slice Au0 us.length cu0] (s,lt,us):=st_O.2 ⟨Au0,us.length,cu0,rfl,by unfold maxLen;omega,sl_O.2 HEE.out.own⟩;have lW:=HEE.out.mid.size;clear hTO;have HD2:=Aq D2;clear D2;go_wp2_with (at_builtin;refine za8 zgm #[.string s,.int .i64 lt,.slice Au0 us.length cu0] rfl _ _ rfl oM sO (fun z h1 h2=>by have a1:z<W1.heap.size:=h1.2;have a2:W1.heap.size+1<=z:=h2.1;omega) rfl rfl (by have:=hml.out;unfold maxLen;omega) (by have:=hml.out;omega) ?_;intro v6 w6 own6 ch6;obtain⟨A6,c6,e6⟩:=own6.shape;rw[Cw,Dw]at e6;subst e6;have q6:w6.cell? ⟨w.heap.size+1,0,none⟩=some (.slice Av ms.length cv):=(by rw[ch6.cell1 (show w.heap.size+1<wr.heap.size by omega) (fun h=>by have h1:NB+1<=w.heap.size+1:=h.1;omega)];exact V12);have r6:w6.frozen? ⟨w.heap.size+1,0,none⟩=false:=(by rw[ch6.frozen1 (show w.heap.size+1<wr.heap.size by omega) (fun h=>by have h1:NB+1<=w.heap.size+1:=h.1;omega)];exact VF2))
     have D6:=HD2.out.push hbw (X:=W1.heap.size+1) (own6.wide (fun z h=>by
      rcases h with h|h|h
      ·exact .inl ⟨h.1,Cq h.2 lW⟩
      ·exact .inr (.inl h)
      exact .inr (.inr h))) (by omega) (ch6.wide (fun z h=>⟨h.1,Cq h.2 lW⟩)) ⟨hs6,hu4⟩
     go_roundw
     case rel=>exact⟨j+1,ms++[(s,lt,us)],_,by go_num,by omega,Aq (by have:=hml.out;simp;omega),Aq (hdr.out.push hml.out (by omega) HS6.out HLT.out hus.out hu4 (by omega)),D6.more (by omega)⟩
     case measure=>simp[intOf];omega
   go_wp2_with fail;refine(zzk b lo A n c code _ y2 E0.src (by omega)).mono ?_;rintro e y3 ⟨lt,rfl,hlt32,s3,m3⟩;have HLT:=Aq hlt32;clear hlt32;have E1:=E0.step hb1 s3 m3;have P13:=E1.p1;have PF3:=E1.f1;have E2:=E1.lat hb1 lt;clear E0 E1 s2 m2 s3 m3;have E0:=E2;clear E2;go_wp2_with fail;obtain⟨wS,hS⟩:∃u,u=y3.setCell ⟨W1.heap.size,1,none⟩ (.int .i64 lt):=⟨_,rfl⟩;rw[<-hS]at E0 ⊢;clear hS
   go_loopw [8] (fun i wx=>∃(t:Nat) (us:List (Int×Int)) (vu:Value),i=.int .i64 ((j:Int)+1+t)/\j+1+t<=N/\us.length<=4/\Hid (M.usOk N j t us)/\DX W1 b lo A n c code (K+2+40*j+4+8*t) s lt us vu wx) (fun i _=>N-(intOf i).toNat)
   case atStart=>exact⟨0,[],_,by simp,by omega,by simp,Aq (M.usOk.zero (by omega)),E0.more (by omega)⟩
   case round=>
    clear E0;obtain⟨t,us,vu,rfl,ht,hu4,hus,E⟩:=hrel;have hTO:=Aq (show (j:Int)+1+(t:Int)=((j+1+t:Nat):Int)by omega);rw[hTO.out];generalize hTT:j+1+t=TT at ht hTO ⊢;have htt:TT<=j+1+t/\j+1+t<=TT:=(by omega);clear hTT;have HEE:=Aq E;have P0:=E.p0;have P1:=E.p1;have P2:=E.p2;have EX:=E.sz;obtain⟨Au0,cu0,eu0⟩:=E.own.shape;subst eu0
    by_cases hlt:TT<N
    ·by_cases h4:us.length<4
     ·have SO:=Aq (zfg b lo A n c code _ 2 wr E.src (by omega) (by omega));clear E;go_wp2_with fail;refine SO.out.mono ?_;rintro e wx2 ⟨r,rfl,s2,m2⟩;have E2:=HEE.out.step hb1 s2 m2;cases r
      ·have P22:=E2.p2
       by_cases hl1:TT+1<N
       ·have l1:¬(TT:Int)=(N:Int)-1:=(by omega);go_wp2_with fail;go_roundw
        case rel=>exact⟨t+1,us,_,by go_num,by omega,hu4,Aq (hus.out.skip (by omega)),E2.more (by omega)⟩
        case measure=>simp[intOf];omega
       have l1:(TT:Int)=(N:Int)-1:=by omega
       by_cases hl2:us.length=0
       ·obtain rfl:us=[]:=List.eq_nil_of_length_eq_zero hl2;clear l1 hl2;have l1:(N:Int)-1=(TT:Int):=(by omega);clear hl1;simp only[List.length_nil]at E2 P22 P2;obtain⟨U,hU⟩:∃U,U=wx2:=⟨_,rfl⟩;rw[<-hU]at E2 ⊢;have HE2:=Aq E2;have UP2:=E2.p2;have UF2:=E2.f2;have UX:=E2.sz;obtain⟨G,hG⟩:∃G:Nat->Prop,G=fun k=>k=b\/Iv (W1.heap.size+1) U.heap.size k:=⟨_,rfl⟩
        have HG:=Aq hG
        have GX:=Aq (show ¬G W1.heap.size from fun h=>by
         rw[hG]at h;rcases h with h|h
         ·omega
         have h1:W1.heap.size+1<=W1.heap.size:=h.1;omega)
        have g2:=ChgTo.cell (F:=G) UP2 (fun h=>GX.out h);have bsU:=E2.src.lt;clear hU hG;have SD:=Aq (zf8 b lo A n c code _ U.drew (E2.src.below (zad (Aw U.heap.size _) 1) bsU) (by omega));clear E2;go_wp2_with fail
        (refine zc4 G [0,2,3] [1] 5 (.one 4 (.one 5 (.one 6 (.one 7 (.first 8 .rest))))) [9] [9] (by kernel_rfl) (by kernel_rfl) ?_;simp only[zak];simp only[List.filterMap,By,Bg];(repeat (go_big_quiet_step (fail)));refine Cv ?_;(repeat (go_big_quiet_step (fail)));refine Cv ?_)
        refine zai rfl ?_;go_wp2_with fail;refine SD.out.mono ?_;rintro e x5 ⟨gz,rfl,hgz,s5,m5⟩;have HGZ:=Aq hgz;clear hgz;have m5':Mid b (b+1) U x5:=(Mid.of_below (zad (Aw U.heap.size _) 1) b (b+1)).trans m5;have E5:=HE2.out.step hb1 s5 m5';have lt5:=m5'.size
        have C5:Chg G U x5:=⟨m5'.os,m5'.tape,m5'.output,m5'.size,fun i hi hn=>m5'.block i hi (by
         rw[HG.out]at hn;rcases Fj i b with h|h
         ·exact .inl h
         exact .inr (by rcases Fj b i with h2|h2;exact h2;exact absurd (.inl (by omega)) hn))⟩
        have HE5:=Aq E5;have q2:=E5.p2;have r2:=E5.f2;have o5:=E5.own;clear E5;go_wp2_with fail;refine⟨⟨⟨x5,C5⟩,rfl⟩,zai rfl ?_⟩;go_wp2_with fail;refine⟨⟨⟨x5,C5⟩,rfl⟩,zai rfl ?_⟩;go_wp2_with fail;refine⟨⟨⟨_,C5.trans (Chg.of_below ((Aw _ _).alloc (Aj _) _) _)⟩,rfl⟩,zai rfl ?_⟩;go_wp2_with (at_builtin;refine za8 zg0 #[.int .i64 (TT:Int),.int .i64 gz] rfl _ _ rfl o5 (Fe:=fun _=>False) (y:=((TT:Int),gz)) rfl (fun _ _ h=>h) rfl rfl (by unfold maxLen;omega) (by omega) ?_;intro v6 w6 own6 ch6;obtain⟨A6,c6,e6⟩:=own6.shape;rw[Cw,Dw]at e6;subst e6;have q6:w6.cell? ⟨W1.heap.size,2,none⟩=some (.slice Au0 0 cu0):=(by rw[ch6.cell1 (show W1.heap.size<x5.heap.size by omega) (fun h=>by have h1:W1.heap.size+1<=W1.heap.size:=h.1;omega)];exact q2);have r6:w6.frozen? ⟨W1.heap.size,2,none⟩=false:=(by rw[ch6.frozen1 (show W1.heap.size<x5.heap.size by omega) (fun h=>by have h1:W1.heap.size+1<=W1.heap.size:=h.1;omega)];exact r2));have CH6:Chg (fun k=>G k\/Iv (W1.heap.size+1) x5.heap.size k) U w6:=(C5.wide (fun _ h=>.inl h)).trans (ch6.wide (fun _ h=>.inr h))
        have CG6:Chg G U w6:=⟨CH6.os,CH6.tape,CH6.output,CH6.size,fun i hi hn=>CH6.block i hi (fun h=>by
         rcases h with h|h
         ·exact hn h
         exact hn (by rw[HG.out];exact .inr ⟨h.1,hi⟩))⟩
        refine⟨⟨⟨w6,CG6⟩,rfl⟩,?_⟩
        (refine za6 rfl ?_;(repeat (go_big_quiet_step (fail)));refine Cv ?_)
        refine zbc ?_;have E6:=HE5.out.push hb1 own6 ch6;go_wp2_with fail;go_roundw
        case rel=>exact⟨t+1,[]++[((TT:Int),gz)],_,by go_num,by omega,by first|(simp;done)|(simp;omega),Aq (hus.out.push (by omega) (by omega) HGZ.out),E6.more (by omega)⟩
        case measure=>simp[intOf];omega
       have l2:¬(us.length:Int)=0:=(by omega);go_wp2_with fail;go_roundw
       case rel=>exact⟨t+1,us,_,by go_num,by omega,hu4,Aq (hus.out.skip (by omega)),E2.more (by omega)⟩
       case measure=>simp[intOf];omega
      
      obtain⟨U,hU⟩:∃U,U=wx2:=⟨_,rfl⟩;rw[<-hU]at E2 ⊢;have HE2:=Aq E2;have UP2:=E2.p2;have UF2:=E2.f2;have UX:=E2.sz;obtain⟨G,hG⟩:∃G:Nat->Prop,G=fun k=>k=b\/Iv (W1.heap.size+1) U.heap.size k:=⟨_,rfl⟩
      have HG:=Aq hG
      have GX:=Aq (show ¬G W1.heap.size from fun h=>by
       rw[hG]at h;rcases h with h|h
       ·omega
       have h1:W1.heap.size+1<=W1.heap.size:=h.1;omega)
      have g2:=ChgTo.cell (F:=G) UP2 (fun h=>GX.out h);have bsU:=E2.src.lt;clear hU hG;have SD:=Aq (zf8 b lo A n c code _ U.drew (E2.src.below (zad (Aw U.heap.size _) 1) bsU) (by omega));clear E2;go_wp2_with fail
      (refine zc4 G [0,2,3] [1] 5 (.one 4 (.one 5 (.one 6 (.one 7 (.first 8 .rest))))) [9] [9] (by kernel_rfl) (by kernel_rfl) ?_;simp only[zak];simp only[List.filterMap,By,Bg];(repeat (go_big_quiet_step (fail)));refine Cv ?_;(repeat (go_big_quiet_step (fail)));refine Cv ?_)
      refine zai rfl ?_;go_wp2_with fail;refine SD.out.mono ?_;rintro e x5 ⟨gz,rfl,hgz,s5,m5⟩;have HGZ:=Aq hgz;clear hgz;have m5':Mid b (b+1) U x5:=(Mid.of_below (zad (Aw U.heap.size _) 1) b (b+1)).trans m5;have E5:=HE2.out.step hb1 s5 m5';have lt5:=m5'.size
      have C5:Chg G U x5:=⟨m5'.os,m5'.tape,m5'.output,m5'.size,fun i hi hn=>m5'.block i hi (by
       rw[HG.out]at hn;rcases Fj i b with h|h
       ·exact .inl h
       exact .inr (by rcases Fj b i with h2|h2;exact h2;exact absurd (.inl (by omega)) hn))⟩
      have HE5:=Aq E5;have q2:=E5.p2;have r2:=E5.f2;have o5:=E5.own;clear E5;go_wp2_with fail;refine⟨⟨⟨x5,C5⟩,rfl⟩,zai rfl ?_⟩;go_wp2_with fail;refine⟨⟨⟨x5,C5⟩,rfl⟩,zai rfl ?_⟩;go_wp2_with fail;refine⟨⟨⟨_,C5.trans (Chg.of_below ((Aw _ _).alloc (Aj _) _) _)⟩,rfl⟩,zai rfl ?_⟩;go_wp2_with (at_builtin;refine za8 zg0 #[.int .i64 (TT:Int),.int .i64 gz] rfl _ _ rfl o5 (Fe:=fun _=>False) (y:=((TT:Int),gz)) rfl (fun _ _ h=>h) rfl rfl (by unfold maxLen;omega) (by omega) ?_;intro v6 w6 own6 ch6;obtain⟨A6,c6,e6⟩:=own6.shape;rw[Cw,Dw]at e6;subst e6;have q6:w6.cell? ⟨W1.heap.size,2,none⟩=some (.slice Au0 us.length cu0):=(by rw[ch6.cell1 (show W1.heap.size<x5.heap.size by omega) (fun h=>by have h1:W1.heap.size+1<=W1.heap.size:=h.1;omega)];exact q2);have r6:w6.frozen? ⟨W1.heap.size,2,none⟩=false:=(by rw[ch6.frozen1 (show W1.heap.size<x5.heap.size by omega) (fun h=>by have h1:W1.heap.size+1<=W1.heap.size:=h.1;omega)];exact r2));have CH6:Chg (fun k=>G k\/Iv (W1.heap.size+1) x5.heap.size k) U w6:=(C5.wide (fun _ h=>.inl h)).trans (ch6.wide (fun _ h=>.inr h))
      have CG6:Chg G U w6:=⟨CH6.os,CH6.tape,CH6.output,CH6.size,fun i hi hn=>CH6.block i hi (fun h=>by
       rcases h with h|h
       ·exact hn h
       exact hn (by rw[HG.out];exact .inr ⟨h.1,hi⟩))⟩
      refine⟨⟨⟨w6,CG6⟩,rfl⟩,?_⟩
      (refine za6 rfl ?_;(repeat (go_big_quiet_step (fail)));refine Cv ?_)
      refine zbc ?_;have E6:=HE5.out.push hb1 own6 ch6;go_wp2_with fail;go_roundw
      case rel=>exact⟨t+1,us++[((TT:Int),gz)],_,by go_num,by omega,by first|(simp;done)|(simp;omega),Aq (hus.out.push (by omega) (by omega) HGZ.out),E6.more (by omega)⟩
      case measure=>simp[intOf];omega
     clear E;have D2:=HD.out.step hbw HEE.out.src HEE.out.mid;have V12:=D2.c1;have VF2:=D2.f1;have oM:=HD.out.own.mid HEE.out.mid (.inr (by omega)) (Aj _);have sO:tSt.O wr (Iv (W1.heap.size+1) wr.heap.size) [.string s,.int .i64 lt,.slice Au0 us.length cu0] (s,lt,us):=st_O.2 ⟨Au0,us.length,cu0,rfl,by unfold maxLen;omega,sl_O.2 HEE.out.own⟩;have lW:=HEE.out.mid.size;clear hTO;have HD2:=Aq D2;clear D2;go_wp2_with (at_builtin;refine za8 zgm #[.string s,.int .i64 lt,.slice Au0 us.length cu0] rfl _ _ rfl oM sO (fun z h1 h2=>by have a1:z<W1.heap.size:=h1.2;have a2:W1.heap.size+1<=z:=h2.1;omega) rfl rfl (by have:=hml.out;unfold maxLen;omega) (by have:=hml.out;omega) ?_;intro v6 w6 own6 ch6;obtain⟨A6,c6,e6⟩:=own6.shape;rw[Cw,Dw]at e6;subst e6;have q6:w6.cell? ⟨w.heap.size+1,0,none⟩=some (.slice Av ms.length cv):=(by rw[ch6.cell1 (show w.heap.size+1<wr.heap.size by omega) (fun h=>by have h1:NB+1<=w.heap.size+1:=h.1;omega)];exact V12);have r6:w6.frozen? ⟨w.heap.size+1,0,none⟩=false:=(by rw[ch6.frozen1 (show w.heap.size+1<wr.heap.size by omega) (fun h=>by have h1:NB+1<=w.heap.size+1:=h.1;omega)];exact VF2))
     have D6:=HD2.out.push hbw (X:=W1.heap.size+1) (own6.wide (fun z h=>by
      rcases h with h|h|h
      ·exact .inl ⟨h.1,Cq h.2 lW⟩
      ·exact .inr (.inl h)
      exact .inr (.inr h))) (by omega) (ch6.wide (fun z h=>⟨h.1,Cq h.2 lW⟩)) ⟨hs6,hu4⟩
     go_roundw
     case rel=>exact⟨j+1,ms++[(s,lt,us)],_,by go_num,by omega,Aq (by have:=hml.out;simp;omega),Aq (hdr.out.push hml.out (by omega) HS6.out HLT.out hus.out hu4 (by omega)),D6.more (by omega)⟩
     case measure=>simp[intOf];omega
    clear E;have D2:=HD.out.step hbw HEE.out.src HEE.out.mid;have V12:=D2.c1;have VF2:=D2.f1;have oM:=HD.out.own.mid HEE.out.mid (.inr (by omega)) (Aj _);have sO:tSt.O wr (Iv (W1.heap.size+1) wr.heap.size) [.string s,.int .i64 lt,.slice Au0 us.length cu0] (s,lt,us):=st_O.2 ⟨Au0,us.length,cu0,rfl,by unfold maxLen;omega,sl_O.2 HEE.out.own⟩;have lW:=HEE.out.mid.size;clear hTO;have HD2:=Aq D2;clear D2;go_wp2_with (at_builtin;refine za8 zgm #[.string s,.int .i64 lt,.slice Au0 us.length cu0] rfl _ _ rfl oM sO (fun z h1 h2=>by have a1:z<W1.heap.size:=h1.2;have a2:W1.heap.size+1<=z:=h2.1;omega) rfl rfl (by have:=hml.out;unfold maxLen;omega) (by have:=hml.out;omega) ?_;intro v6 w6 own6 ch6;obtain⟨A6,c6,e6⟩:=own6.shape;rw[Cw,Dw]at e6;subst e6;have q6:w6.cell? ⟨w.heap.size+1,0,none⟩=some (.slice Av ms.length cv):=(by rw[ch6.cell1 (show w.heap.size+1<wr.heap.size by omega) (fun h=>by have h1:NB+1<=w.heap.size+1:=h.1;omega)];exact V12);have r6:w6.frozen? ⟨w.heap.size+1,0,none⟩=false:=(by rw[ch6.frozen1 (show w.heap.size+1<wr.heap.size by omega) (fun h=>by have h1:NB+1<=w.heap.size+1:=h.1;omega)];exact VF2))
    have D6:=HD2.out.push hbw (X:=W1.heap.size+1) (own6.wide (fun z h=>by
     rcases h with h|h|h
     ·exact .inl ⟨h.1,Cq h.2 lW⟩
     ·exact .inr (.inl h)
     exact .inr (.inr h))) (by omega) (ch6.wide (fun z h=>⟨h.1,Cq h.2 lW⟩)) ⟨hs6,hu4⟩
    go_roundw
    case rel=>exact⟨j+1,ms++[(s,lt,us)],_,by go_num,by omega,Aq (by have:=hml.out;simp;omega),Aq (hdr.out.push hml.out (by omega) HS6.out HLT.out hus.out hu4 (by omega)),D6.more (by omega)⟩
    case measure=>simp[intOf];omega
  
  obtain⟨W1,hW1⟩:∃u,u=wr:=⟨_,rfl⟩;have hb1:b<W1.heap.size:=by rw[hW1];omega
  have E0:=DX.start ⟨#[109,97,115,116,101,114]⟩ D.src;rw[<-hW1]at HD E0 V0 V1 VF VF0 VZ ⊢;clear hW1 D;obtain⟨Y1,hY1⟩:∃u,u=W1.alloc (.cells #[.string ⟨#[109,97,115,116,101,114]⟩,.int .i64 0,.slice none 0 0] 117):=⟨_,rfl⟩;rw[<-hY1]at E0;have HY1:=Aq hY1;have SO:=Aq (zfg b lo A n c code _ 3 Y1 E0.src (by omega) (by omega));have HE0:=Aq E0;clear hY1 E0;go_wp2_with fail;rw[<-HY1.out];refine SO.out.mono ?_;rintro e y2 ⟨r,rfl,s2,m2⟩;have E0:=HE0.out.step hb1 s2 m2;cases r
  ·obtain⟨lt,hlt0⟩:∃z:Int,z=0:=⟨_,rfl⟩;obtain⟨wS,hS⟩:∃u,u=y2:=⟨_,rfl⟩;rw[<-hS]at E0 ⊢;rw[<-hlt0]at E0;have HLT:=Aq (show 0<=lt/\lt<=32 by omega);clear hlt0 hS s2 m2;have D2:=HD.out.step hbw E0.src E0.mid;have V12:=D2.c1;have VF2:=D2.f1;have V02:=D2.c0;have VF02:=D2.f0;have oM:=HD.out.own.mid E0.mid (.inr (by omega)) (Aj _);have sO:tSt.O wS (Iv (W1.heap.size+1) wS.heap.size) [.string ⟨#[109,97,115,116,101,114]⟩,.int .i64 lt,.slice none 0 0] (⟨#[109,97,115,116,101,114]⟩,lt,[]):=st_O.2 ⟨none,0,0,rfl,by decide,sl_O.2 E0.own⟩;have lW:=E0.mid.size;have P0:=E0.p0;have P1:=E0.p1;have P2:=E0.p2;have lX:=E0.sz;have HD2:=Aq D2;clear D2 E0;go_wp2_with (at_builtin;refine za8 zgm #[.string ⟨#[109,97,115,116,101,114]⟩,.int .i64 lt,.slice none 0 0] rfl _ _ rfl oM sO (fun z h1 h2=>by have a1:z<W1.heap.size:=h1.2;have a2:W1.heap.size+1<=z:=h2.1;omega) rfl rfl (by have:=hml.out;unfold maxLen;omega) (by have:=hml.out;omega) ?_;intro v6 w6 own6 ch6;obtain⟨A6,c6,e6⟩:=own6.shape;rw[Cw,Dw]at e6;subst e6;have q6:w6.cell? ⟨w.heap.size+1,0,none⟩=some (.slice Av ms.length cv):=(by rw[ch6.cell1 (show w.heap.size+1<wS.heap.size by omega) (fun h=>by have h1:NB+1<=w.heap.size+1:=h.1;omega)];exact V12);have r6:w6.frozen? ⟨w.heap.size+1,0,none⟩=false:=(by rw[ch6.frozen1 (show w.heap.size+1<wS.heap.size by omega) (fun h=>by have h1:NB+1<=w.heap.size+1:=h.1;omega)];exact VF2);have q60:w6.cell? ⟨w.heap.size,0,none⟩=some (.slice none 0 0):=(by rw[ch6.cell1 (show w.heap.size<wS.heap.size by omega) (fun h=>by have h1:NB+1<=w.heap.size:=h.1;omega)];exact V02);have r60:w6.frozen? ⟨w.heap.size,0,none⟩=false:=(by rw[ch6.frozen1 (show w.heap.size<wS.heap.size by omega) (fun h=>by have h1:NB+1<=w.heap.size:=h.1;omega)];exact VF02))
   have D6:=HD2.out.push hbw (X:=W1.heap.size+1) (own6.wide (fun z h=>by
    rcases h with h|h|h
    ·exact .inl ⟨h.1,Cq h.2 lW⟩
    ·exact .inr (.inl h)
    exact .inr (.inr h))) (by omega) (ch6.wide (fun z h=>⟨h.1,Cq h.2 lW⟩)) ⟨by show (⟨#[109,97,115,116,101,114]⟩:ByteArray).size<=6;decide,by simp⟩
   refine Cy (v:=.agg #[.slice A6 (ms.length+1) c6]) (by simp[results,Tryz.results162,go_sem,q60,r60]) rfl ?_;have hm:Mid w.heap.size (w.heap.size+1) (w6.setCell ⟨w.heap.size+1,0,none⟩ (.slice A6 (ms.length+1) c6)) ((w6.setCell ⟨w.heap.size+1,0,none⟩ (.slice A6 (ms.length+1) c6)).setCell ⟨w.heap.size,0,none⟩ (.slice A6 (ms.length+1) c6)):=Mid.cell _ w.heap.size 0 _;have eL:(ms++[((⟨#[109,97,115,116,101,114]⟩:ByteArray),lt,([]:List (Int×Int)))]).length=ms.length+1:=(by simp);have HL:=hml.out;refine⟨A6,c6,ms++[(⟨#[109,97,115,116,101,114]⟩,lt,[])],by rw[eL],?_,by omega,by omega,D6.tiny,Aq (hdr.out.mix (by omega) (by omega) HLT.out),(D6.src.mid hm hbw).more (by omega),D6.mid.thenB' ((Aw w.heap.size _).setCell (Aj _) _) (Aj _)⟩;rw[eL];exact(D6.own.mid hm (.inr (by omega)) (Aj _)).iv (by omega) hm.size
  go_wp2_with fail;refine(zbg b lo A n c code _ 4 y2 E0.src (by omega) (by omega)).mono ?_;rintro e y3 ⟨lt,rfl,hlt4,s3,m3⟩;have HLT:=Aq (show 0<=lt/\lt<=32 by omega);clear hlt4;have E1:=E0.step hb1 s3 m3;have P13:=E1.p1;have PF3:=E1.f1;have E2:=E1.lat hb1 lt;obtain⟨wS,hS⟩:∃u,u=y3.setCell ⟨W1.heap.size,1,none⟩ (.int .i64 lt):=⟨_,rfl⟩;rw[<-hS]at E2;have HS:=Aq hS;clear hS E0 E1 s2 m2 s3 m3;have E0:=E2;clear E2;go_upto_region 19 with fail
  rw[<-HS.out];have D2:=HD.out.step hbw E0.src E0.mid;have V12:=D2.c1;have VF2:=D2.f1;have V02:=D2.c0;have VF02:=D2.f0;have oM:=HD.out.own.mid E0.mid (.inr (by omega)) (Aj _);have sO:tSt.O wS (Iv (W1.heap.size+1) wS.heap.size) [.string ⟨#[109,97,115,116,101,114]⟩,.int .i64 lt,.slice none 0 0] (⟨#[109,97,115,116,101,114]⟩,lt,[]):=st_O.2 ⟨none,0,0,rfl,by decide,sl_O.2 E0.own⟩;have lW:=E0.mid.size;have P0:=E0.p0;have P1:=E0.p1;have P2:=E0.p2;have lX:=E0.sz;have HD2:=Aq D2;clear D2 E0;go_wp2_with (at_builtin;refine za8 zgm #[.string ⟨#[109,97,115,116,101,114]⟩,.int .i64 lt,.slice none 0 0] rfl _ _ rfl oM sO (fun z h1 h2=>by have a1:z<W1.heap.size:=h1.2;have a2:W1.heap.size+1<=z:=h2.1;omega) rfl rfl (by have:=hml.out;unfold maxLen;omega) (by have:=hml.out;omega) ?_;intro v6 w6 own6 ch6;obtain⟨A6,c6,e6⟩:=own6.shape;rw[Cw,Dw]at e6;subst e6;have q6:w6.cell? ⟨w.heap.size+1,0,none⟩=some (.slice Av ms.length cv):=(by rw[ch6.cell1 (show w.heap.size+1<wS.heap.size by omega) (fun h=>by have h1:NB+1<=w.heap.size+1:=h.1;omega)];exact V12);have r6:w6.frozen? ⟨w.heap.size+1,0,none⟩=false:=(by rw[ch6.frozen1 (show w.heap.size+1<wS.heap.size by omega) (fun h=>by have h1:NB+1<=w.heap.size+1:=h.1;omega)];exact VF2);have q60:w6.cell? ⟨w.heap.size,0,none⟩=some (.slice none 0 0):=(by rw[ch6.cell1 (show w.heap.size<wS.heap.size by omega) (fun h=>by have h1:NB+1<=w.heap.size:=h.1;omega)];exact V02);have r60:w6.frozen? ⟨w.heap.size,0,none⟩=false:=(by rw[ch6.frozen1 (show w.heap.size<wS.heap.size by omega) (fun h=>by have h1:NB+1<=w.heap.size:=h.1;omega)];exact VF02))
  have D6:=HD2.out.push hbw (X:=W1.heap.size+1) (own6.wide (fun z h=>by
   rcases h with h|h|h
   ·exact .inl ⟨h.1,Cq h.2 lW⟩
   ·exact .inr (.inl h)
   exact .inr (.inr h))) (by omega) (ch6.wide (fun z h=>⟨h.1,Cq h.2 lW⟩)) ⟨by show (⟨#[109,97,115,116,101,114]⟩:ByteArray).size<=6;decide,by simp⟩
  refine Cy (v:=.agg #[.slice A6 (ms.length+1) c6]) (by simp[results,Tryz.results162,go_sem,q60,r60]) rfl ?_;have hm:Mid w.heap.size (w.heap.size+1) (w6.setCell ⟨w.heap.size+1,0,none⟩ (.slice A6 (ms.length+1) c6)) ((w6.setCell ⟨w.heap.size+1,0,none⟩ (.slice A6 (ms.length+1) c6)).setCell ⟨w.heap.size,0,none⟩ (.slice A6 (ms.length+1) c6)):=Mid.cell _ w.heap.size 0 _;have eL:(ms++[((⟨#[109,97,115,116,101,114]⟩:ByteArray),lt,([]:List (Int×Int)))]).length=ms.length+1:=by simp
  have HL:=hml.out;refine⟨A6,c6,ms++[(⟨#[109,97,115,116,101,114]⟩,lt,[])],by rw[eL],?_,by omega,by omega,D6.tiny,Aq (hdr.out.mix (by omega) (by omega) HLT.out),(D6.src.mid hm hbw).more (by omega),D6.mid.thenB' ((Aw w.heap.size _).setCell (Aj _) _) (Aj _)⟩;rw[eL];exact(D6.own.mid hm (.inr (by omega)) (Aj _)).iv (by omega) hm.size
set_option maxHeartbeats 40000000
structure M.zD (lin:Bool) (x:Sess):Prop where
 len:x.1=20\/x.1=32\/x.1=40\/x.1=0\/x.1=7
 sn:1<=x.2.1.length/\x.2.1.length<=3
 sl:∀s∈x.2.1,(1<=s.length/\s.length<=15)/\∀y∈s,M.smp y=true
 tn:x.2.2.1.length<=3
 tk:∀t∈x.2.2.1,t.length<=3/\zf4 x.2.1.length t
 fn:x.2.2.2.1.length=x.2.2.1.length
 fd:∀f∈x.2.2.2.1,0<=f/\f<(x.2.2.2.2.2.length:Int)
 en:x.2.2.2.2.1.length=x.2.2.2.2.2.length
 ef:∀p∈x.2.2.2.2.1,p=(0,[],[],[])\/M.pD 1 1 lin p
 mn:1<=x.2.2.2.2.2.length/\x.2.2.2.2.2.length<=6
 mt:M.tiny 4 x.2.2.2.2.2
 mx:zay x.2.2.2.2.2=true
theorem Mid.toG{w x y:Yw}{b g:Nat}{G:Nat->Prop}(hG:G=fun z=>z=b\/(w.heap.size<z/\z≠g))(m:Mid b (b+1) x y):Chg G x y:=
 ⟨m.os,m.tape,m.output,m.size,fun i hi hn=>m.block i hi (by
  rw[hG]at hn;rcases Fj i b with h|h
  ·exact .inl h
  exact .inr (by rcases Fj b i with h2|h2;exact h2;exact absurd (.inl (by omega)) hn))⟩
theorem OA.toOS{α:Type}{s:Nat}{pos:0<s}{zero:α}{enc:α->List Value}{henc:∀x,(enc x).length=s}{h1:∀x,∀u∈enc x,u.oneCell'=true}{e:TypeId}{lo hi:Nat}{w:Yw}{v:Value}{xs:List α}(h:OA enc e s lo hi w v xs):OS (Ty.flat s pos zero enc henc h1) e w (Iv lo hi) v xs:=by
 obtain⟨⟨hl,hr⟩,hb⟩:=h;have e1:(xs.map enc).flatten=xs.flatMap enc:=by rw[List.flatMap_def]
 refine⟨xs.map enc,fun _ _=>False,⟨?_,?_⟩,by simp,fun g hg=>⟨?_,hb g hg⟩,fun _ _ h=>h.elim,fun _ _ _ _ h=>h.elim,fun k h h'=>by simp[Ty.flat]⟩
 ·rw[e1];exact hl
 ·rw[e1];rcases hr with h|⟨g,cap,cur,h2,h3,rest⟩
  ·exact .inl h
  exact .inr ⟨g,cap,cur,h2,Nat.zero_le _,rest⟩
 rcases hr with h|⟨g',cap,cur,h2,h3,rest⟩
 ·rw[h.1]at hg;cases hg
 rw[h2]at hg;injection hg with hg
 rw[<-hg];exact h3
theorem OS.readB{α:Type}{t:Ty α}{e:TypeId}{w:Yw}{F:Nat->Prop}{v:Value}{xs:List α}(h:OS t e w F v xs){B:Nat}(hB:B<=w.heap.size)(hF:∀z,F z->z<B):RS t w B v xs:=by
 obtain⟨u,hu⟩:∃u:Yw,u={ w with heap:=w.heap.extract 0 B }:=⟨_,rfl⟩;have hs:u.heap.size=B:=by rw[hu];simp;omega
 have hk:∀z,z<B->w.heap[z]?=u.heap[z]?:=fun z hz=>by
  rw[hu];simp only[Array.getElem?_extract];rw[if_pos (by omega),Nat.zero_add]
 have h1:OS t e u F v xs:=h.keep fun z hz=>(hk z (hF z hz)).symm
 have h2:=h1.read;rw[hs]at h2;exact h2.below ⟨by rw[hu],by rw[hu],by rw[hu],by omega,fun k hk2=>hk k hk2⟩
theorem DS.off{w wr w':Yw}{b lo:Nat}{A:Yo}{n c:Nat}{code:List UInt8}{g K M:Nat}{i:Int}{v1 v2 v3 v4 v5:Value}{x1:List (List Int)}{x2:List (List zap)}{x3:List Int}{x4:List zae}{x5:List zag}(h:DS w b lo A n c code g K M i v1 v2 v3 v4 v5 x1 x2 x3 x4 x5 wr)(hb:b<w.heap.size)(hc:Chg (fun z=>M<=z) wr w'):DS w b lo A n c code g K M i v1 v2 v3 v4 v5 x1 x2 x3 x4 x5 w':=by
 obtain⟨F1,F2,F3,F4,F5,h,hB,hM,hg⟩:=h;have hl:=h.lo;obtain⟨h1,h2,h3,h4,h5,h6⟩:=h.turn hb (F:=fun z=>M<=z) (fun z hz=>by omega) hc;exact⟨F1,F2,F3,F4,F5,⟨h1,h2 _ _ h.p0,h2 _ _ h.p1,h2 _ _ h.p2,h2 _ _ h.p3,h2 _ _ h.p4,h2 _ _ h.p5,h3,h.r1.chg hc (fun z a b=>by have:=hB z (by simp[a]);omega),h.r2.chg hc (fun z a b=>by have:=hB z (by simp[a]);omega),h.r3.chg hc (fun z a b=>by have:=hB z (by simp[a]);omega),h.r4.chg hc (fun z a b=>by have:=hB z (by simp[a]);omega),h.r5.chg hc (fun z a b=>by have:=hB z (by simp[a]);omega),h.fd,h4,h5,h6,h.lo⟩,hB,Nat.le_trans hM hc.size,hg⟩
theorem zzl(b lo:Nat)(A:Yo)(n c:Nat)(code:List UInt8)(K:Nat)(lin:Bool)(w:Yw)(h:Src w b lo A n c code K)(hK:K<=1000):
 Calls Tryz.prog 105 #[.pointer (some ⟨b,0,none⟩),.bool lin] w (DrewZ b lo A n c code (K+20000) (M.zD lin) w):=by
 have hbw:=h.lt;obtain⟨W0,hW0⟩:∃W,W=w.alloc (.cells #[.int .i64 0,.slice none 0 0,.slice none 0 0,.slice none 0 0,.slice none 0 0,.slice none 0 0] 38):=⟨_,rfl⟩;have z0:W0.heap.size=w.heap.size+1:=by rw[hW0];simp
 obtain⟨W1,hW1⟩:∃W,W=W0.alloc (.cells #[.int .i64 20,.int .i64 32,.int .i64 40,.int .i64 0,.int .i64 7] 2):=⟨_,rfl⟩;have z1:W1.heap.size=w.heap.size+1+1:=by rw[hW1];simp;omega
 have B0:Below w.heap.size w W0:=by rw[hW0];exact(Aw _ _).alloc (Aj _) _
 have BA:Below W0.heap.size W0 W1:=by rw[hW1];exact(Aw _ _).alloc (Aj _) _
 have B1:Below w.heap.size w W1:=zaa B0 BA
 have eW:∀j u,(#[Value.int .i64 0,.slice none 0 0,.slice none 0 0,.slice none 0 0,.slice none 0 0,.slice none 0 0]:Array Value)[j]?=some u->W1.cell? ⟨w.heap.size,j,none⟩=some u/\W1.frozen? ⟨w.heap.size,j,none⟩=false:=fun j u hj=>by
  refine⟨?_,?_⟩
  ·rw[BA.cell (by show w.heap.size<_;omega),hW0,cell_of_row _ w.heap.size j _ 38 (0,0) (Df w _)];exact hj
  rw[BA.frozen (by show w.heap.size<_;omega),hW0];simp[go_sem]
 have cA:∀j x,([20,32,40,0,7]:List Int)[j]?=some x->W1.cell? ⟨w.heap.size+1,j,none⟩=some (.int .i64 x):=fun j x hx=>by
  rw[hW1,<-z0,cell_of_row _ W0.heap.size j _ 2 (0,0) (Df W0 _)]
  have:(#[Value.int .i64 20,.int .i64 32,.int .i64 40,.int .i64 0,.int .i64 7]:Array Value).toList[j]?=some (.int .i64 x):=by
   rw[show (#[Value.int .i64 20,.int .i64 32,.int .i64 40,.int .i64 0,.int .i64 7]:Array Value).toList=([20,32,40,0,7]:List Int).map (.int .i64)from rfl,Fv,hx]
   rfl
  simpa using this
 have s1:=h.below B1 hbw;have hAM:=Aq (zgs b lo A n c code _ (w.heap.size+1) 5 5 [20,32,40,0,7] W1 s1 (by omega) rfl (by decide) (by omega) (by omega) cA);have HW0:=Aq hW0;have HW1:=Aq hW1;have HB:=Aq B1;have HE:=Aq eW;have hlw:w.heap.size+1<W1.heap.size:=by omega
 clear hW0 hW1 B0 BA B1 eW cA z1
 go_enter Tryz.func105,Tryz.ntmps105
 go_wp2_with fail;rw[<-HW0.out,<-HW1.out];refine hAM.out.mono ?_;rintro e x1 ⟨L,rfl,hL,s2,m2⟩;have HL:Hid (L=20\/L=32\/L=40\/L=0\/L=7):=Aq (by simpa using hL);have lx1:=m2.size;obtain⟨X2,hX2⟩:∃W,W=x1.alloc (.cells #[] 2):=⟨_,rfl⟩;have y2:X2.heap.size=x1.heap.size+1:=by rw[hX2];simp
 obtain⟨X3,hX3⟩:∃W,W=X2.alloc (.cells #[.int .i64 L,.slice none 0 0,.slice none 0 0,.slice (some ⟨x1.heap.size,0,none⟩) 0 0,.slice none 0 0,.slice none 0 0] 38):=⟨_,rfl⟩;have y3:X3.heap.size=x1.heap.size+1+1:=by rw[hX3];simp;omega
 have C2:Below x1.heap.size x1 X2:=by rw[hX2];exact(Aw _ _).alloc (Aj _) _
 have C3:Below X2.heap.size X2 X3:=by rw[hX3];exact(Aw _ _).alloc (Aj _) _
 have C4:Below x1.heap.size x1 X3:=zaa C2 C3
 have D0:DS w b lo A n c code (x1.heap.size+1) (K+2) X3.heap.size L (.slice none 0 0) (.slice none 0 0) (.slice (some ⟨x1.heap.size,0,none⟩) 0 0) (.slice none 0 0) (.slice none 0 0) [] [] [] [] [] X3:=by
  have eP:∀j u,(#[Value.int .i64 L,.slice none 0 0,.slice none 0 0,.slice (some ⟨x1.heap.size,0,none⟩) 0 0,.slice none 0 0,.slice none 0 0]:Array Value)[j]?=some u->X3.cell? ⟨x1.heap.size+1,j,none⟩=some u/\X3.frozen? ⟨x1.heap.size+1,j,none⟩=false:=fun j u hj=>by
   rw[hX3,<-y2];refine⟨?_,?_⟩
   ·rw[cell_of_row _ X2.heap.size j _ 38 (0,0) (Df X2 _)];exact hj
   simp[go_sem]
  have own0:OS tI 2 X2 (Iv x1.heap.size X2.heap.size) (.slice (some ⟨x1.heap.size,0,none⟩) 0 0) []:=by rw[hX2];exact OS.made0 tI 2 x1
  have own1:=own0.below C3 (Aj _)
  have eR:∀j u,(#[Value.int .i64 0,.slice none 0 0,.slice none 0 0,.slice none 0 0,.slice none 0 0,.slice none 0 0]:Array Value)[j]?=some u->X3.cell? ⟨w.heap.size,j,none⟩=some u/\X3.frozen? ⟨w.heap.size,j,none⟩=false:=fun j u hj=>by
   refine⟨?_,?_⟩
   ·rw[C4.cell (by show w.heap.size<_;omega)];exact m2.cellK (by omega) (.inr (by omega)) (HE.out j u hj).1
   rw[C4.frozen (by show w.heap.size<_;omega)];exact m2.frozK (by omega) (.inr (by omega)) (HE.out j u hj).2
  refine⟨fun _=>False,fun _=>False,fun z=>z=x1.heap.size,fun _=>False,fun _=>False,⟨fun j hj=>?_,(eP 0 _ rfl).1,(eP 1 _ rfl).1,(eP 2 _ rfl).1,(eP 3 _ rfl).1,(eP 4 _ rfl).1,(eP 5 _ rfl).1,fun j hj=>?_,OS.nil _ _ _ _,OS.nil _ _ _ _,own1.wide (fun z hz=>by have a1:x1.heap.size<=z:=hz.1;have a2:z<X2.heap.size:=hz.2;omega),OS.nil _ _ _ _,OS.nil _ _ _ _,
   ⟨fun z h=>h.elim,fun z h=>h.elim,fun z h=>by omega,fun z h=>h.elim,fun z h=>h.elim,fun z h=>h.elim,fun z h=>h.elim,fun z h=>h.elim,fun z h=>h.elim,fun z h h2=>h.elim,fun z h=>h.elim,fun z h=>h.elim,fun z h h2=>h2.elim,fun z h h2=>h2.elim,fun z h=>h.elim⟩,
   s2.below C4 (by omega),((Mid.of_below HB.out b (b+1)).trans m2).thenB' (C4.mono (by omega)) (Aj _),by omega,by omega⟩,fun z hz=>by simp at hz;omega,Aj _,by omega⟩
  ·rcases(show j=0\/j=1\/j=2\/j=3\/j=4\/j=5 by omega)with rfl|rfl|rfl|rfl|rfl|rfl
   ·exact eR 0 _ rfl
   ·exact eR 1 _ rfl
   ·exact eR 2 _ rfl
   ·exact eR 3 _ rfl
   ·exact eR 4 _ rfl
   exact eR 5 _ rfl
  rcases(show j=0\/j=1\/j=2\/j=3\/j=4\/j=5 by omega)with rfl|rfl|rfl|rfl|rfl|rfl
  ·exact(eP 0 _ rfl).2
  ·exact(eP 1 _ rfl).2
  ·exact(eP 2 _ rfl).2
  ·exact(eP 3 _ rfl).2
  ·exact(eP 4 _ rfl).2
  exact(eP 5 _ rfl).2
 obtain⟨g,hg⟩:∃g,g=x1.heap.size+1:=⟨_,rfl⟩;rw[<-hg]at D0;have HG:=Aq hg;have HX2:=Aq hX2;have HX3:=Aq hX3;clear hg hX2 hX3 C2 C3 C4 y2 y3 hL s2 m2 hAM HW0 HW1 HB HE z0;go_upto_region 2 with fail
 rw[<-HX2.out,<-HX3.out,<-HG.out];have s3:=D0.src;go_wp2_with fail;refine(zbg b lo A n c code _ 3 X3 s3 (by omega) (by omega)).mono ?_;rintro e X4 ⟨N',rfl,hN,s4,m4⟩;have D1:=D0.step hbw s4 m4;obtain⟨N',rfl⟩:∃q:Nat,N'=q:=⟨N'.toNat,by omega⟩;obtain⟨N,hNd⟩:∃q:Nat,q=1+N':=⟨_,rfl⟩;have hN1:1<=N/\N<=3:=by omega
 have HN:=Aq (show 1+(N':Int)=(N:Int)by omega);clear D0 s3 s4 m4 hNd;go_wp2_with fail;rw[HN.out];clear hN
 go_loopw [6] (fun i wr=>∃(u:Nat) (xs:List (List Int)) (v1:Value),i=.int .i64 u/\u<=N/\Hid (xs.length+u=N)/\Hid (∀s∈xs,(1<=s.length/\s.length<=15)/\∀y∈s,M.smp y=true)/\DS w b lo A n c code g (K+4+100*(N-u)) wr.heap.size L v1 (.slice none 0 0) (.slice (some ⟨x1.heap.size,0,none⟩) 0 0) (.slice none 0 0) (.slice none 0 0) xs [] [] [] [] wr) (fun i _=>(intOf i).toNat)
 case atStart=>exact⟨N,[],_,rfl,by omega,Aq (by simp),Aq (fun s hs=>by simp at hs),D1.up.more (by omega)⟩
 case round=>
  clear D1;obtain⟨u,xs,v1,rfl,huN,hxl,hxs,D⟩:=hrel;obtain⟨A1,c1,hv1⟩:=D.shape1;subst hv1
  by_cases hlu:0<u
  ·have hlui:(0:Int)<(u:Int):=(by omega);have hxb:xs.length<=2:=(by have:=hxl.out;omega);obtain⟨U,hU⟩:∃U,U=wr:=⟨_,rfl⟩;rw[<-hU]at D ⊢;have HD:=Aq D;have UP1:=D.p1;have UX:=D.sz;obtain⟨G,hG⟩:∃G:Nat->Prop,G=fun z=>z=b\/(w.heap.size<z/\z≠g):=⟨_,rfl⟩
   have HG2:=Aq hG
   have GX:=Aq (show ¬G g from fun h=>by
    rw[hG]at h;rcases h with h|h
    ·omega
    exact h.2 rfl)
   have g1:=ChgTo.cell (F:=G) UP1 (fun h=>GX.out h);have bsU:=D.src.lt;clear hU hG;have SD:=Aq (zyy b lo A n c code _ 14 U.drew (D.src.below (zad (Aw U.heap.size _) 1) bsU) (by omega) (by omega));clear D;go_wp2_with fail
   (refine zc4 G [0,2,4] [1] 7 (.one 3 (.one 5 (.one 6 (.one 7 (.one 8 (.one 9 (.first 10 .rest))))))) [11] [11] (by kernel_rfl) (by kernel_rfl) ?_;simp only[zak];simp only[List.filterMap,By,Bg];(repeat (go_big_quiet_step (fail)));refine Cv ?_;(repeat (go_big_quiet_step (fail)));refine Cv ?_)
   refine zai rfl ?_;go_wp2_with fail;refine SD.out.mono ?_;rintro e x5 ⟨v5,ys,rfl,o5,hy14,hys,s5,m5⟩;obtain⟨A5,c5,hv5⟩:=o5.shape;subst hv5;have m5':Mid b (b+1) U x5:=(Mid.of_below (zad (Aw U.heap.size _) 1) b (b+1)).trans m5;have C5:Chg G U x5:=Mid.toG HG2.out m5';have l5:U.heap.size<=x5.heap.size:=m5'.size;have o5':OS tI 2 x5 (Iv U.heap.size x5.heap.size) (.slice A5 ys.length c5) ys:=o5;clear o5;go_wp2_with fail;refine⟨⟨⟨x5,C5⟩,rfl⟩,zai rfl ?_⟩;go_wp2_with fail;refine(zf8 b lo A n c code _ x5 s5 (by omega)).mono ?_;rintro e x6 ⟨y,rfl,hy,s6,m6⟩;have HY:=Aq hy;have m6':=m5'.trans m6;have C6:Chg G U x6:=Mid.toG HG2.out m6';have l6:=m6.size;have o6:=o5'.mid m6 (.inr (by omega)) (Aj _);have s6':=s6;clear o5' hy;go_wp2_with fail;refine⟨⟨⟨x6,C6⟩,rfl⟩,zai rfl ?_⟩;go_wp2_with fail;refine⟨⟨⟨_,C6.trans (Chg.of_below ((Aw _ _).alloc (Aj _) _) _)⟩,rfl⟩,zai rfl ?_⟩;go_wp2_with (at_builtin;refine za8 zbu #[.int .i64 y] rfl _ _ rfl o6 (Fe:=fun _=>False) (y:=y) rfl (fun _ _ h=>h) rfl rfl (by unfold maxLen;omega) (by omega) ?_;intro v7 w7 own7 ch7;obtain⟨A7,c7,e7⟩:=own7.shape;rw[Cw,Dw]at e7;subst e7);have l7:=ch7.size;have B7:Below U.heap.size x6 w7:=ch7.toBelow (fun z h=>h.1) (by omega);have m7':Mid b (b+1) U w7:=m6'.thenB' B7 (Aj _);have s7:=s6.below B7 bsU;have C7:Chg G U w7:=Mid.toG HG2.out m7'
   have o7:OS tI 2 w7 (fun z=>U.heap.size<=z) (.slice A7 (ys.length+1) c7) (ys++[y]):=own7.wide (fun z h=>by
    rcases h with h|h|h
    ·exact h.1
    ·exact h.elim
    have h3:=h.1;show U.heap.size<=z
    omega)
   obtain⟨F1,r1,hF1,K1⟩:=(HD.out.step hbw s7 m7').open1 hbw;have K1':=Aq K1;clear own7 o6 K1;refine⟨⟨⟨w7,C7⟩,rfl⟩,zai rfl ?_⟩;go_wp2_with fail;refine⟨⟨⟨_,C7.trans (Chg.of_below ((Aw _ _).alloc (Aj _) _) _)⟩,rfl⟩,zai rfl ?_⟩;have P7:w7.cell? ⟨g,1,none⟩=some (.slice A1 xs.length c1):=(HD.out.step hbw s7 m7').p1;have Q7:w7.frozen? ⟨g,1,none⟩=false:=(HD.out.step hbw s7 m7').q 1 (by omega);go_wp2_with (at_builtin;refine za8 (t:=tS) zke #[.slice A7 (ys.length+1) c7] rfl _ _ rfl r1 (Fe:=fun z=>U.heap.size<=z) (y:=ys++[y]) (sl_O.2 o7) (fun z h1 h2=>by have a1:=(hF1 z h1).2.2;have a2:U.heap.size<=z:=h2;omega) rfl rfl (by unfold maxLen;omega) (by omega) ?_;intro v8 w8 own8 ch8;obtain⟨A8,c8,e8⟩:=own8.shape;rw[Cw,Dw]at e8;subst e8;have P8:w8.cell? ⟨g,1,none⟩=some (.slice A1 xs.length c1):=(by rw[ch8.cell1 (show g<w7.heap.size by omega) (fun h=>(hF1 g h).2.1 rfl)];exact P7);have Q8:w8.frozen? ⟨g,1,none⟩=false:=(by rw[ch8.frozen1 (show g<w7.heap.size by omega) (fun h=>(hF1 g h).2.1 rfl)];exact Q7));have C8:Chg G U w8:=C7.trans (ch8.wide (fun z h=>by rw[HG2.out];exact .inr ⟨(hF1 z h).1,(hF1 z h).2.1⟩))
   have D9:=Aq (K1'.out w8 _ (.slice A8 (xs.length+1) c8) (xs++[ys++[y]]) ch8 own8 (fun z h=>by
    rcases h with h|h|h
    ·exact .inl h
    ·exact .inr h
    have h3:=h.1;exact .inr (by omega))).up
   refine⟨⟨⟨w8,C8⟩,rfl⟩,?_⟩
   (refine za6 rfl ?_;(repeat (go_big_quiet_step (fail)));refine Cv ?_)
   refine zbc ?_;go_wp2_with fail;go_roundw
   case rel=>
    exact⟨u-1,xs++[ys++[y]],_,by go_num,by omega,Aq (by have:=hxl.out;simp;omega),Aq (fun s hs=>by
     rcases Gx.1 hs with hs|hs
     ·exact hxs.out s hs
     rw[List.mem_singleton.1 hs];refine⟨by simp;omega,fun z hz=>?_⟩;rcases Gx.1 hz with hz|hz
     ·exact hys.out z hz
     rw[List.mem_singleton.1 hz];exact zsf HY.out.1 HY.out.2),D9.out.more (by omega)⟩
   case measure=>simp[intOf];omega
  obtain rfl:u=0:=by omega
  have hxn:xs.length=N:=by have:=hxl.out;omega
  have HXN:=Aq hxn;clear hxn;have HD:=Aq D;have bsw:=D.src.lt;have szD:=D.sz;have SM:=Aq (zp9 b lo A n c code _ wr D.src (by omega));obtain⟨Y,rfl⟩:∃Y:Yw,Y=wr:=⟨_,rfl⟩;clear D;go_wp2_with fail;refine SM.out.mono ?_;rintro e Y1 ⟨Am,cm,ms,rfl,om,hm6,hm1,hmt,hmx,sm,mm⟩;have DM:=HD.out.step hbw sm mm;have Qm:=DM.q 5 (by omega);have Pm:=DM.p5;obtain⟨F5,r5,hF5,K5⟩:=DM.open5 hbw;have D5:=K5 Y1 _ (.slice Am ms.length cm) ms (Chg.refl _ _) om (fun z h=>.inr h.1);obtain⟨Y2,hY2⟩:∃u,u=Y1.setCell ⟨g,5,none⟩ (.slice Am ms.length cm):=⟨_,rfl⟩;rw[<-hY2]at D5;have HY2:=Aq hY2;have HD5:=Aq D5.up;clear hY2 D5 K5 r5 hF5 DM;go_wp2_with fail;rw[<-HY2.out];refine(zbg b lo A n c code _ 4 Y2 HD5.out.src (by omega) (by omega)).mono ?_;rintro e Y3 ⟨T',rfl,hT',s8,m8⟩;obtain⟨T,rfl⟩:∃q:Nat,T'=q:=⟨T'.toNat,by omega⟩;have hT3:T<=3:=by omega
  have D8:=(HD5.out.step hbw s8 m8).up;clear hT' s8 m8;go_wp2_with fail
  go_loopw [8] (fun i wr=>∃(u:Nat) (tr:List (List zap)) (fs:List Int) (v2 v3:Value),i=.int .i64 u/\u<=T/\Hid (tr.length+u=T/\fs.length=tr.length)/\Hid (∀t∈tr,t.length<=3/\zf4 xs.length t)/\Hid (∀f∈fs,0<=f/\f<(ms.length:Int))/\DS w b lo A n c code g (K+1000+100*(T-u)) wr.heap.size L (.slice A1 xs.length c1) v2 v3 (.slice none 0 0) (.slice Am ms.length cm) xs tr fs [] ms wr) (fun i _=>(intOf i).toNat)
  case atStart=>exact⟨T,[],[],_,_,rfl,by omega,Aq (by simp),Aq (fun t ht=>by simp at ht),Aq (fun t ht=>by simp at ht),D8.more (by omega)⟩
  case round=>
   clear D8;obtain⟨u,tr,fs,v2,v3,rfl,huT,hul,htr,hfs,D⟩:=hrel;obtain⟨A2,c2,hv2⟩:=D.shape2;subst hv2;obtain⟨A3,c3,hv3⟩:=D.shape3;subst hv3
   by_cases hlu:0<u
   ·have hlui:(0:Int)<(u:Int):=(by omega);have htl:tr.length<=2:=(by have:=hul.out;omega);have hfl:fs.length<=2:=(by have:=hul.out;omega);obtain⟨U,hU⟩:∃U,U=wr:=⟨_,rfl⟩;rw[<-hU]at D ⊢;have HD:=Aq D;have UP1:=D.p1;have UP2:=D.p2;have UX:=D.sz;obtain⟨G,hG⟩:∃G:Nat->Prop,G=fun z=>z=b\/(w.heap.size<z/\z≠g):=⟨_,rfl⟩
    have HG2:=Aq hG
    have GX:=Aq (show ¬G g from fun h=>by
     rw[hG]at h;rcases h with h|h
     ·omega
     exact h.2 rfl)
    have g1:=ChgTo.cell (F:=G) UP1 (fun h=>GX.out h);have g2:=ChgTo.cell (F:=G) UP2 (fun h=>GX.out h);have bsU:=D.src.lt;clear hU hG
    have hRS:∀w',Mid b (b+1) U.drew w'->RS tS w' U.drew.heap.size (.slice A1 xs.length c1) xs:=fun w' hm=>by
     obtain⟨F1,r1,hF1,-⟩:=D.open1 hbw;have hm2:Mid b (b+1) U w':=(Mid.of_below (zad (Aw U.heap.size _) 1) b (b+1)).trans hm;have r2:=r1.chg (Chg.of_mid hm2) (fun z h1 h2=>by have:=(hF1 z h1).1;omega);exact r2.readB hm2.size (fun z hz=>(hF1 z hz).2.2)
    have TD:=Aq (zzh b lo A n c code _ A1 xs.length c1 xs U.drew (D.src.below (zad (Aw U.heap.size _) 1) bsU) (by omega) (hRS U.drew (Mid.refl _ _ _)) (by have:=HXN.out;omega) (Aq (fun s hs=>(hxs.out s hs).1)) (Aq hRS));clear D hRS;go_wp2_with fail
    (refine zc4 G [0,2,3] [1,4] 4 (.one 5 (.one 6 (.one 7 (.first 8 .rest)))) [9] [9] (by kernel_rfl) (by kernel_rfl) ?_;simp only[zak];simp only[List.filterMap,By,Bg];(repeat (go_big_quiet_step (fail)));refine Cv ?_;(repeat (go_big_quiet_step (fail)));refine Cv ?_)
    refine zai rfl ?_;go_wp2_with fail;refine TD.out.mono ?_;rintro e x5 ⟨A5,c5,t,rfl,ot,ht3,htd,s5,m5⟩;have m5':Mid b (b+1) U x5:=(Mid.of_below (zad (Aw U.heap.size _) 1) b (b+1)).trans m5;have C5:Chg G U x5:=Mid.toG HG2.out m5';have l5:U.heap.size<=x5.heap.size:=m5'.size;have ot':OA cl 165 5 U.heap.size x5.heap.size x5 (.slice A5 t.length c5) t:=ot;have o5:OS tCl 165 x5 (Iv U.heap.size x5.heap.size) (.slice A5 t.length c5) t:=OA.toOS ot';have tO:tT.O x5 (fun z=>U.heap.size<=z) [.slice A5 t.length c5] t:=sl_O.2 (o5.wide (fun z h=>h.1));obtain⟨F2,r2,hF2,K2⟩:=(HD.out.step hbw s5 m5').open2 hbw;have K2':=Aq K2;clear K2 o5 ot ot';go_wp2_with fail;refine⟨⟨⟨x5,C5⟩,rfl⟩,zai rfl ?_⟩;go_wp2_with fail;refine⟨⟨⟨_,C5.trans (Chg.of_below ((Aw _ _).alloc (Aj _) _) _)⟩,rfl⟩,zai rfl ?_⟩;have P7:x5.cell? ⟨g,2,none⟩=some (.slice A2 tr.length c2):=(HD.out.step hbw s5 m5').p2;have Q7:x5.frozen? ⟨g,2,none⟩=false:=(HD.out.step hbw s5 m5').q 2 (by omega);go_wp2_with (at_builtin;refine za8 (t:=tT) zmd #[.slice A5 t.length c5] rfl _ _ rfl r2 (Fe:=fun z=>U.heap.size<=z) (y:=t) tO (fun z h1 h2=>by have a1:=(hF2 z h1).2.2;have a2:U.heap.size<=z:=h2;omega) rfl rfl (by unfold maxLen;omega) (by omega) ?_;intro v8 w8 own8 ch8;obtain⟨A8,c8,e8⟩:=own8.shape;rw[Cw,Dw]at e8;subst e8;have P8:w8.cell? ⟨g,2,none⟩=some (.slice A2 tr.length c2):=(by rw[ch8.cell1 (show g<x5.heap.size by omega) (fun h=>(hF2 g h).2.1 rfl)];exact P7);have Q8:w8.frozen? ⟨g,2,none⟩=false:=(by rw[ch8.frozen1 (show g<x5.heap.size by omega) (fun h=>(hF2 g h).2.1 rfl)];exact Q7));have C8:Chg G U w8:=C5.trans (ch8.wide (fun z h=>by rw[HG2.out];exact .inr ⟨(hF2 z h).1,(hF2 z h).2.1⟩))
    have D9:=(K2'.out w8 _ (.slice A8 (tr.length+1) c8) (tr++[t]) ch8 own8 (fun z h=>by
     rcases h with h|h|h
     ·exact .inl h
     ·exact .inr h
     have h3:=h.1;exact .inr (by omega))).up
    obtain⟨w9,hw9⟩:∃u,u=w8.setCell ⟨g,2,none⟩ (.slice A8 (tr.length+1) c8):=⟨_,rfl⟩;rw[<-hw9]at D9;have HW9:=Aq hw9;clear hw9;refine⟨⟨⟨w8,C8⟩,rfl⟩,?_⟩
    (refine za6 rfl ?_;(repeat (go_big_quiet_step (fail)));refine Cv ?_)
    refine zbc ?_;clear g1 g2 GX;have HD9:=Aq D9;have V3:=D9.p3;have VX:=D9.sz;have bs9:=D9.src.lt;obtain⟨G9,hG9⟩:∃G:Nat->Prop,G=fun z=>z=b\/(w.heap.size<z/\z≠g):=⟨_,rfl⟩
    have HG9:=Aq hG9
    have GX9:=Aq (show ¬G9 g from fun h=>by
     rw[hG9]at h;rcases h with h|h
     ·omega
     exact h.2 rfl)
    have g3:=ChgTo.cell (F:=G9) V3 (fun h=>GX9.out h);have SP:=Aq (zbg b lo A n c code _ (ms.length:Int) w9.drew (D9.src.below (zad (Aw w9.heap.size _) 1) bs9) (by omega) (by omega));clear D9 hG9;go_wp2_with fail;rw[<-HW9.out]
    (refine zc4 G9 [0,2,3] [1] 4 (.one 4 (.one 5 (.one 6 (.first 7 .rest)))) [8] [8] (by kernel_rfl) (by kernel_rfl) ?_;simp only[zak];simp only[List.filterMap,By,Bg];(repeat (go_big_quiet_step (fail)));refine Cv ?_;(repeat (go_big_quiet_step (fail)));refine Cv ?_)
    refine zai rfl ?_;go_wp2_with fail;refine SP.out.mono ?_;rintro e y5 ⟨f,rfl,hf,s9,m9⟩;have hf2:0<=f/\f<(ms.length:Int):=(by omega);have m9':Mid b (b+1) w9 y5:=(Mid.of_below (zad (Aw w9.heap.size _) 1) b (b+1)).trans m9;have E5:Chg G9 w9 y5:=Mid.toG HG9.out m9';have n5:w9.heap.size<=y5.heap.size:=m9'.size;obtain⟨F3,r3,hF3,K3⟩:=(HD9.out.step hbw s9 m9').open3 hbw;have K3':=Aq K3;have R7:y5.cell? ⟨g,3,none⟩=some (.slice A3 fs.length c3):=(HD9.out.step hbw s9 m9').p3;have S7:y5.frozen? ⟨g,3,none⟩=false:=(HD9.out.step hbw s9 m9').q 3 (by omega);clear K3 hf;go_wp2_with fail;refine⟨⟨⟨y5,E5⟩,rfl⟩,zai rfl ?_⟩;go_wp2_with fail;refine⟨⟨⟨_,E5.trans (Chg.of_below ((Aw _ _).alloc (Aj _) _) _)⟩,rfl⟩,zai rfl ?_⟩;go_wp2_with (at_builtin;refine za8 zbu #[.int .i64 f] rfl _ _ rfl r3 (Fe:=fun _=>False) (y:=f) rfl (fun _ _ h=>h) rfl rfl (by unfold maxLen;omega) (by omega) ?_;intro v10 w10 own10 ch10;obtain⟨A10,c10,e10⟩:=own10.shape;rw[Cw,Dw]at e10;subst e10;have P10:w10.cell? ⟨g,3,none⟩=some (.slice A3 fs.length c3):=(by rw[ch10.cell1 (show g<y5.heap.size by omega) (fun h=>(hF3 g h).2.1 rfl)];exact R7);have Q10:w10.frozen? ⟨g,3,none⟩=false:=(by rw[ch10.frozen1 (show g<y5.heap.size by omega) (fun h=>(hF3 g h).2.1 rfl)];exact S7));have C10:Chg G9 w9 w10:=E5.trans (ch10.wide (fun z h=>by rw[HG9.out];exact .inr ⟨(hF3 z h).1,(hF3 z h).2.1⟩))
    have D11:=Aq (K3'.out w10 _ (.slice A10 (fs.length+1) c10) (fs++[f]) ch10 own10 (fun z h=>by
     rcases h with h|h|h
     ·exact .inl h
     ·exact h.elim
     have h3:=h.1;exact .inr (by omega))).up
    refine⟨⟨⟨w10,C10⟩,rfl⟩,?_⟩
    (refine za6 rfl ?_;(repeat (go_big_quiet_step (fail)));refine Cv ?_)
    refine zbc ?_;go_wp2_with fail;go_roundw
    case rel=>
     exact⟨u-1,tr++[t],fs++[f],_,_,by go_num,by omega,Aq (by have:=hul.out;simp;omega),Aq (fun z hz=>by
      rcases Gx.1 hz with hz|hz
      ·exact htr.out z hz
      ·rw[List.mem_singleton.1 hz];exact⟨ht3,htd.out⟩),Aq (fun z hz=>by
      rcases Gx.1 hz with hz|hz
      ·exact hfs.out z hz
      rw[List.mem_singleton.1 hz];exact hf2),D11.out.more (by omega)⟩
    case measure=>simp[intOf];omega
   obtain rfl:u=0:=by omega
   have HD:=Aq D;have UP5:=D.p5;have szD:=D.sz;obtain⟨Y,rfl⟩:∃Y:Yw,Y=wr:=⟨_,rfl⟩;clear D;go_wp2_with fail
   go_loopw [9] (fun i wr=>∃(u:Nat) (ps:List zae) (v4:Value),i=.int .i64 u/\u<=ms.length/\Hid (ps.length=u)/\Hid (∀p∈ps,p=(0,[],[],[])\/M.pD 1 1 lin p)/\DS w b lo A n c code g (K+1400+1504*u) wr.heap.size L (.slice A1 xs.length c1) (.slice A2 tr.length c2) (.slice A3 fs.length c3) v4 (.slice Am ms.length cm) xs tr fs ps ms wr) (fun i _=>ms.length-(intOf i).toNat)
   case atStart=>exact⟨0,[],_,rfl,by omega,Aq rfl,Aq (fun p hp=>by simp at hp),HD.out.more (by omega)⟩
   case round=>
    clear HD;obtain⟨u,ps,v4,rfl,hum,hpl,hps,D⟩:=hrel;obtain⟨A4,c4,hv4⟩:=D.shape4;subst hv4
    by_cases hlu:u<ms.length
    ·have hlui:(u:Int)<(ms.length:Int):=(by omega);have hpb:ps.length<=5:=(by have:=hpl.out;omega);obtain⟨U,hU⟩:∃U,U=wr:=⟨_,rfl⟩;rw[<-hU]at D ⊢;clear hU;have szU:=D.sz;have bsU:=D.src.lt;obtain⟨U1,hU1⟩:∃u1,u1=U.alloc (.cells #[.int .i64 0,.slice none 0 0,.slice none 0 0,.slice none 0 0] 67):=⟨_,rfl⟩;have BU:Below U.heap.size U U1:=(by rw[hU1];exact(Aw _ _).alloc (Aj _) _);have zU:U.heap.size<U1.heap.size:=(by rw[hU1];simp)
     have eU:∀j u,(#[Value.int .i64 0,.slice none 0 0,.slice none 0 0,.slice none 0 0]:Array Value)[j]?=some u->U1.cell? ⟨U.heap.size,j,none⟩=some u/\U1.frozen? ⟨U.heap.size,j,none⟩=false:=fun j u hj=>by
      rw[hU1];refine⟨?_,by simp[go_sem]⟩;rw[cell_of_row _ U.heap.size j _ 67 (0,0) (Df U _)];exact hj
     have D1:=D.step hbw (D.src.below BU bsU) (Mid.of_below BU b (b+1));have HD1:=Aq D1;have s1:=D1.src;have HU1:=Aq hU1;have HEU:=Aq eU;clear hU1 BU eU D D1;go_wp2_with fail;rw[<-HU1.out];refine(zfg b lo A n c code _ 2 U1 s1 (by omega) (by omega)).mono ?_;rintro e X2 ⟨r,rfl,s2,m2⟩;have D2:=HD1.out.step hbw s2 m2;have z2:=m2.size;have y0:=m2.cellK zU (.inr (by omega)) (HEU.out 0 _ rfl).1;have y1:=m2.cellK zU (.inr (by omega)) (HEU.out 1 _ rfl).1;have y2:=m2.cellK zU (.inr (by omega)) (HEU.out 2 _ rfl).1;have y3:=m2.cellK zU (.inr (by omega)) (HEU.out 3 _ rfl).1;have f0:=m2.frozK zU (.inr (by omega)) (HEU.out 0 _ rfl).2;have f1:=m2.frozK zU (.inr (by omega)) (HEU.out 1 _ rfl).2;have f2:=m2.frozK zU (.inr (by omega)) (HEU.out 2 _ rfl).2;have f3:=m2.frozK zU (.inr (by omega)) (HEU.out 3 _ rfl).2;have zX:U.heap.size<X2.heap.size:=(by omega);clear m2 s1 HD1;cases r
     ·have pO:tP.O X2 (fun z=>U.heap.size<=z) [.int .i64 0,.slice none 0 0,.slice none 0 0,.slice none 0 0] ((0,[],[],[]):zae):=tP_O.2 ⟨none,0,0,none,0,0,none,0,0,fun _=>False,fun _=>False,fun _=>False,rfl,sl_O.2 (OS.nil _ _ _ _),sl_O.2 (OS.nil _ _ _ _),sl_O.2 (OS.nil _ _ _ _),fun _ h=>h.elim,fun _ h=>h.elim,fun _ h=>h.elim,fun _ h=>h.elim,fun _ h=>h.elim,fun _ h=>h.elim⟩;obtain⟨F4,r4,hF4,K4⟩:=D2.open4 hbw;have P7:X2.cell? ⟨g,4,none⟩=some (.slice A4 ps.length c4):=D2.p4;have Q7:X2.frozen? ⟨g,4,none⟩=false:=D2.q 4 (by omega);have G7:=D2.sz;have K4':=Aq K4;clear K4 D2;go_wp2_with (at_builtin;refine za8 (t:=tP) zkf #[.int .i64 0,.slice none 0 0,.slice none 0 0,.slice none 0 0] rfl _ _ rfl r4 (Fe:=fun z=>U.heap.size<=z) (y:=((0,[],[],[]):zae)) pO (fun z h1 h2=>by have a1:=(hF4 z h1).2.2;have a2:U.heap.size<=z:=h2;omega) rfl rfl (by unfold maxLen;omega) (by omega) ?_;intro v8 w8 own8 ch8;obtain⟨A8,c8,e8⟩:=own8.shape;rw[Cw,Dw]at e8;subst e8;have P8:w8.cell? ⟨g,4,none⟩=some (.slice A4 ps.length c4):=(by rw[ch8.cell1 (show g<X2.heap.size by omega) (fun h=>(hF4 g h).2.1 rfl)];exact P7);have Q8:w8.frozen? ⟨g,4,none⟩=false:=(by rw[ch8.frozen1 (show g<X2.heap.size by omega) (fun h=>(hF4 g h).2.1 rfl)];exact Q7))
      have D9:=Aq (K4'.out w8 _ (.slice A8 (ps.length+1) c8) (ps++[((0,[],[],[]):zae)]) ch8 own8 (fun z h=>by
       rcases h with h|h|h
       ·exact .inl h
       ·exact .inr h
       have h3:=h.1;exact .inr (by omega))).up
      go_roundw
      case rel=>
       (repeat apply Exists.intro)
       exact⟨⟨u+1,ps++[((0,[],[],[]):zae)],_,by go_num,by omega,Aq (by have:=hpl.out;simp;omega),Aq (fun z hz=>by
        rcases Gx.1 hz with hz|hz
        ·exact hps.out z hz
        rw[List.mem_singleton.1 hz];exact .inl rfl),D9.out.more (by omega)⟩,rfl⟩
      case measure=>simp[intOf];omega
     have HD2:=Aq D2;clear D2;go_wp2_with fail;refine(zjy b lo A n c code _ 1 1 5 lin X2 s2 (by omega) (by omega) (by omega) (by omega) (fun _=>by decide)).mono ?_;rintro e X3 ⟨i3,B1,m1,d1,B2,m2,d2,B3,m3,d3,px,rfl,po,pd,s3,mm3⟩;have D3:=HD2.out.step hbw s3 mm3;have z3:=mm3.size;have bsX:=s2.lt;replace y0:=mm3.cellK zX (.inr (by omega)) y0;replace y1:=mm3.cellK zX (.inr (by omega)) y1;replace y2:=mm3.cellK zX (.inr (by omega)) y2;replace y3:=mm3.cellK zX (.inr (by omega)) y3;replace f0:=mm3.frozK zX (.inr (by omega)) f0;replace f1:=mm3.frozK zX (.inr (by omega)) f1;replace f2:=mm3.frozK zX (.inr (by omega)) f2;replace f3:=mm3.frozK zX (.inr (by omega)) f3;obtain⟨X4,hX4⟩:∃u,u=(((X3.setCell ⟨U.heap.size,0,none⟩ (.int .i64 i3)).setCell ⟨U.heap.size,1,none⟩ (.slice B1 m1 d1)).setCell ⟨U.heap.size,2,none⟩ (.slice B2 m2 d2)).setCell ⟨U.heap.size,3,none⟩ (.slice B3 m3 d3):=⟨_,rfl⟩;have st:∀(u:Yw) (o:Nat) (x:Value),Chg (fun z=>z=U.heap.size) u (u.setCell ⟨U.heap.size,o,none⟩ x):=fun u o x=>Chg.set u U.heap.size o _ rfl
     have C4:Chg (fun z=>z=U.heap.size) X3 X4:=(by rw[hX4];exact(((st _ _ _).trans (st _ _ _)).trans (st _ _ _)).trans (st _ _ _));have B4:Below U.heap.size X3 X4:=C4.toBelow (fun z h=>by omega) (by omega);have z4:=C4.size
     have k0:X4.cell? ⟨U.heap.size,0,none⟩=some (.int .i64 i3):=by
      rw[hX4,zaf _ _ _ (by decide),zaf _ _ _ (by decide),zaf _ _ _ (by decide)];exact Dj _ _ _ y0
     have k1:X4.cell? ⟨U.heap.size,1,none⟩=some (.slice B1 m1 d1):=by
      rw[hX4,zaf _ _ _ (by decide),zaf _ _ _ (by decide)];exact Dj _ _ _ (by rw[zaf _ _ _ (by decide)];exact y1)
     have k2:X4.cell? ⟨U.heap.size,2,none⟩=some (.slice B2 m2 d2):=by
      rw[hX4,zaf _ _ _ (by decide)];exact Dj _ _ _ (by rw[zaf _ _ _ (by decide),zaf _ _ _ (by decide)];exact y2)
     have k3:X4.cell? ⟨U.heap.size,3,none⟩=some (.slice B3 m3 d3):=by
      rw[hX4];exact Dj _ _ _ (by rw[zaf _ _ _ (by decide),zaf _ _ _ (by decide),zaf _ _ _ (by decide)];exact y3)
     have D4:=D3.off hbw (C4.wide (fun z h=>by show U.heap.size<=z;have h2:z=U.heap.size:=h;omega));have pO:tP.O X4 (fun z=>U.heap.size<=z) [.int .i64 i3,.slice B1 m1 d1,.slice B2 m2 d2,.slice B3 m3 d3] px:=tP.owide (fun z hz=>by have h1:X2.heap.size<=z:=hz.1;show U.heap.size<=z;omega) (tP.okeep (fun z hz=>C4.block z hz.2 (fun e=>by have h1:X2.heap.size<=z:=hz.1;omega)) po);have HX4:=Aq hX4;have zX4:U.heap.size<X4.heap.size:=(by omega);clear hX4 st C4 B4 D3 po;go_upto_region 19 with fail
     rw[<-HX4.out];obtain⟨F4,r4,hF4,K4⟩:=D4.open4 hbw;have P7:X4.cell? ⟨g,4,none⟩=some (.slice A4 ps.length c4):=D4.p4;have Q7:X4.frozen? ⟨g,4,none⟩=false:=D4.q 4 (by omega);have G7:=D4.sz;have K4':=Aq K4;clear K4 D4;go_wp2_with (at_builtin;refine za8 (t:=tP) zkf #[.int .i64 i3,.slice B1 m1 d1,.slice B2 m2 d2,.slice B3 m3 d3] rfl _ _ rfl r4 (Fe:=fun z=>U.heap.size<=z) (y:=px) pO (fun z h1 h2=>by have a1:=(hF4 z h1).2.2;have a2:U.heap.size<=z:=h2;omega) rfl rfl (by unfold maxLen;omega) (by omega) ?_;intro v8 w8 own8 ch8;obtain⟨A8,c8,e8⟩:=own8.shape;rw[Cw,Dw]at e8;subst e8;have P8:w8.cell? ⟨g,4,none⟩=some (.slice A4 ps.length c4):=(by rw[ch8.cell1 (show g<X4.heap.size by omega) (fun h=>(hF4 g h).2.1 rfl)];exact P7);have Q8:w8.frozen? ⟨g,4,none⟩=false:=(by rw[ch8.frozen1 (show g<X4.heap.size by omega) (fun h=>(hF4 g h).2.1 rfl)];exact Q7))
     have D9:=Aq (K4'.out w8 _ (.slice A8 (ps.length+1) c8) (ps++[px]) ch8 own8 (fun z h=>by
      rcases h with h|h|h
      ·exact .inl h
      ·exact .inr h
      have h3:=h.1;exact .inr (by omega))).up
     go_roundw
     case rel=>
      (repeat apply Exists.intro)
      exact⟨⟨u+1,ps++[px],_,by go_num,by omega,Aq (by have:=hpl.out;simp;omega),Aq (fun z hz=>by
       rcases Gx.1 hz with hz|hz
       ·exact hps.out z hz
       rw[List.mem_singleton.1 hz];exact .inr pd.out),D9.out.more (by omega)⟩,rfl⟩
     case measure=>simp[intOf];omega
    obtain rfl:u=ms.length:=by omega
    have lgL:=D.sz;have hne:g≠w.heap.size:=(by omega);have hne':w.heap.size≠g:=(by omega);have ZD:=Aq (show M.zD lin (L,xs,tr,fs,ps,ms)from⟨HL.out,by have:=HXN.out;show 1<=xs.length/\xs.length<=3;omega,hxs.out,by have:=hul.out;show tr.length<=3;omega,htr.out,hul.out.2,hfs.out,hpl.out,hps.out,⟨hm1,hm6⟩,hmt.out,hmx.out⟩);have z0:=D.p0;have z1:=D.p1;have z2:=D.p2;have z3:=D.p3;have z4:=D.p4;have z5:=D.p5;have r0:=(D.e 0 (by omega)).1;have r1:=(D.e 1 (by omega)).1;have r2:=(D.e 2 (by omega)).1;have r3:=(D.e 3 (by omega)).1;have r4:=(D.e 4 (by omega)).1;have r5:=(D.e 5 (by omega)).1;have v0:=(D.e 0 (by omega)).2;have v1:=(D.e 1 (by omega)).2;have v2:=(D.e 2 (by omega)).2;have v3:=(D.e 3 (by omega)).2;have v4:=(D.e 4 (by omega)).2;have v5:=(D.e 5 (by omega)).2;rw[if_pos rfl]at r0;rw[if_neg (by decide)]at r1 r2 r3 r4 r5;have FIN:=Aq ((D.more (K':=K+20000) (by omega)).fin hbw ZD.out);clear D hxs htr hfs hps;go_wp2;refine Cy (v:=.agg #[.int .i64 L,.slice A1 xs.length c1,.slice A2 tr.length c2,.slice A3 fs.length c3,.slice A4 ps.length c4,.slice Am ms.length cm]) (by simp[results,Tryz.results105,go_sem,r0,r1,r2,r3,r4,r5,v0,v1,v2,v3,v4,v5,hne,hne']) rfl ?_;exact FIN.out
theorem zlk(A A':Yo)(n c n' c':Nat)(xs ys:List Int)(w:Yw)(hx:RI w w.heap.size A n xs)(hy:RI w w.heap.size A' n' ys)(hn:n<=1000000000):
 Calls Tryz.prog 19 #[.slice A n c,.slice A' n' c'] w fun e w'=>e=.returned (.bool (decide (xs=ys)))/\Below w.heap.size w w':=by
 have hl:=Aq hx.len;have hl':=Aq hy.len
 by_cases hnn:n=n'
 ·subst hnn
  go_enter Tryz.func19,Tryz.ntmps19
  go_wp2
  go_loopw [5] (fun i wr=>∃k:Nat,i=.int .i64 k/\k<=n/\Hid (xs.take k=ys.take k)/\Below w.heap.size w wr) (fun i _=>n-(intOf i).toNat)
  case atStart=>exact⟨0,rfl,by omega,Aq (by simp),Aw _ _⟩
  case round=>
   obtain⟨k,rfl,hk,H,hb⟩:=hrel
   by_cases hlt:k<n
   ·obtain⟨ad,x,rfl,hab,X,hc⟩:=(hx.below hb).at hlt;obtain⟨ad',y,rfl,hab',Y,hc'⟩:=(hy.below hb).at hlt
    by_cases hxy:x=y
    ·subst hxy;go_wp2
     go_quiet (fail)
     go_wp2;go_roundw
     case rel=>exact⟨k+1,by go_num,by omega,Aq (by rw[M.take_at X.out,M.take_at Y.out,H.out]),hb.trans (zad (Aw _ _) _)⟩
     case measure=>simp[intOf];omega
    have hne:=Aq (show ¬xs=ys from fun e=>hxy (by have h1:=X.out;have h2:=Y.out;rw[e,h2]at h1;injection h1 with h1;exact h1.symm));have hxy':(x == y)=false:=(by simpa using hxy);clear hxy;go_wp2
    go_quiet (fail)
    go_wp2;go_ret;exact⟨zac (by simp[hne.out]),hb.trans (zad (Aw _ _) _)⟩
   go_wp2;go_ret;have h1:xs=ys:=(by have:=H.out;rwa [Cg (by rw[hl.out];omega),Cg (by rw[hl'.out];omega)]at this);exact⟨zac (by simp[h1]),hb⟩
 have hne:=Aq (show ¬xs=ys from fun e=>hnn (by rw[<-hl.out,<-hl'.out,e]))
 go_enter Tryz.func19,Tryz.ntmps19
 go_wp2;go_ret;exact⟨zac (by simp[hne.out]),Aw _ _⟩
theorem Hs.szL_le{α:Type}(h:Hs α){xs:List α}{B:Nat}(hB:∀x∈xs,h.sz x<=B):h.szL xs<=xs.length*B:=by
 induction xs with
 | nil=>simp[Hs.szL]
 | cons x xs ih=>
  have h1:=hB x (by simp);have h2:=ih (fun y hy=>hB y (by simp[hy]));rw[Hs.szL,Dk,Nat.add_mul];omega
theorem Hs.slsz_le{α:Type}(h:Hs α){xs:List α}{B C:Nat}(hB:∀x∈xs,h.sz x<=B)(hl:xs.length<=C):h.sl.sz xs<=C+C*B:=by
 have h1:=Hs.szL_le h hB;have h2:xs.length*B<=C*B:=Nat.mul_le_mul_right B hl;show xs.length+h.szL xs<=_
 omega
structure M.fewZ (x:Sess):Prop where
 sn:x.2.1.length<=30/\∀s∈x.2.1,s.length<=30
 tn:x.2.2.1.length<=30/\∀t∈x.2.2.1,t.length<=30
 fn:x.2.2.2.1.length<=30
 en:x.2.2.2.2.1.length<=30
 e1:∀p∈x.2.2.2.2.1,p.2.1.length<=30/\∀t∈p.2.1,t.length<=30
 e2:∀p∈x.2.2.2.2.1,p.2.2.1.length<=30/\∀y∈p.2.2.1,y.2.2.2.length<=30
 e3:∀p∈x.2.2.2.2.1,p.2.2.2.length<=30
 mn:x.2.2.2.2.2.length<=8
 mt:M.tiny 10 x.2.2.2.2.2
theorem M.fewZ.sz{x:Sess}(h:M.fewZ x):hZ.sz x<=100000000:=by
 obtain⟨a0,x1,x2,x3,x4,x5⟩:=x;rw[zeb]
 have iS:∀xs:List Int,xs.length<=30->hS.sz xs<=30:=fun xs hl=>by
  have:=Hs.slsz_le hI (xs:=xs) (B:=0) (fun _ _=>Aj _) hl;simpa using this
 have i1:hSS.sz x1<=930:=Hs.slsz_le hS (B:=30) (fun s hs=>iS s (h.sn.2 s hs)) h.sn.1
 have i2:hTS.sz x2<=930:=Hs.slsz_le hT (B:=30) (fun t ht=>by
  have:=Hs.slsz_le hCl (xs:=t) (B:=0) (fun _ _=>Aj _) (h.tn.2 t ht);simpa using this) h.tn.1
 have i3:hS.sz x3<=30:=iS x3 h.fn
 have i4:hPS.sz x4<=30+30*1890:=Hs.slsz_le hP (B:=1890) (fun p hp=>by
  have q1:hSS.sz p.2.1<=930:=Hs.slsz_le hS (B:=30) (fun s hs=>iS s ((h.e1 p hp).2 s hs)) (h.e1 p hp).1
  have q2:hNS.sz p.2.2.1<=930:=Hs.slsz_le hN (B:=30) (fun y hy=>by
   have:=iS y.2.2.2 ((h.e2 p hp).2 y hy);show 0+(0+(0+hS.sz y.2.2.2))<=30
   omega) (h.e2 p hp).1
  have q3:hS.sz p.2.2.2<=30:=iS _ (h.e3 p hp);show 0+(hSS.sz p.2.1+(hNS.sz p.2.2.1+hS.sz p.2.2.2))<=1890
  omega) h.en
 have i5:hM.sz x5<=100000:=by
  have hf:zlh (List.replicate x5.length (List.replicate 10 0)) x5:=⟨by simp,fun i x L hx hL=>by
   have h1:=h.mt x (Eg hx)
   have h2:L=List.replicate 10 0:=by
    have:=Eg hL;exact(List.mem_replicate.1 this).2
   rw[h2,Fz];omega⟩
  have:=zyk hf;have e:((List.replicate x5.length (List.replicate 10 (0:UInt8))).map List.length).sum=x5.length*10:=by simp
  rw[e,Fz]at this;have h8:x5.length<=8:=h.mn;omega
 omega
theorem M.tiny.up{m k:Nat}{xs:List zag}(h:M.tiny m xs)(hk:m<=k):M.tiny k xs:=fun x hx=>⟨(h x hx).1,Nat.le_trans (h x hx).2 hk⟩
theorem M.zD.few{lin:Bool}{x:Sess}(h:M.zD lin x):M.fewZ x:=by
 have key:∀p∈x.2.2.2.2.1,(p.2.1.length<=2/\∀t∈p.2.1,t.length<=8)/\(p.2.2.1.length<=10/\∀y∈p.2.2.1,y.2.2.2.length<=3)/\p.2.2.2.length<=1:=fun p hp=>by
  rcases h.ef p hp with rfl|q
  ·exact⟨⟨by simp,by simp⟩,⟨by simp,by simp⟩,by simp⟩
  exact⟨q.t,⟨q.n.2,q.f⟩,by rw[q.o];exact Aj _⟩
 have h1:=h.sn;have h2:=h.tn;have h3:=h.fn;have h4:=h.en;have h5:=h.mn;refine⟨⟨by omega,fun s hs=>by have:=(h.sl s hs).1;omega⟩,⟨by omega,fun t ht=>by have:=(h.tk t ht).1;omega⟩,by omega,by omega,fun p hp=>⟨by have:=(key p hp).1.1;omega,fun t ht=>by have:=(key p hp).1.2 t ht;omega⟩,fun p hp=>⟨by have:=(key p hp).2.1.1;omega,fun y hy=>by have:=(key p hp).2.1.2 y hy;omega⟩,fun p hp=>by have:=(key p hp).2.2;omega,by omega,h.mt.up (by omega)⟩
theorem M.zD.ok{lin:Bool}{x:Sess}(h:M.zD lin x){ps:List zae}(hl:ps.length=x.2.2.2.2.2.length)(hp:∀p∈ps,zas p=true):zbd (x.1,x.2.1,x.2.2.1,x.2.2.2.1,ps,x.2.2.2.2.2)=true:=by
 have h1:=h.sn;have h2:=h.tn;have h0:=h.len;rw[zbd];simp only[Cx,Dg,Ef];refine⟨⟨⟨⟨⟨⟨⟨⟨za3.2 (by omega),?_⟩,by omega⟩,h.mx⟩,h.fn⟩,fun f hf=>za3.2 (by have:=h.fd f hf;omega)⟩,hl⟩,fun t ht=>?_⟩,hp⟩
 ·rw[zdz,Cx,Dg,Ef];refine⟨by omega,fun s hs=>?_⟩;have:=h.sl s hs;rw[M.sig,Cx,Dg,Ef];exact⟨by omega,this.2⟩
 have:=h.tk t ht;exact⟨zp7 this.2 (by omega),zze this.2⟩
section
set_option synthInstance.maxSize 2000
set_option synthInstance.maxHeartbeats 400000
def zgj (x:Sess):List (List Int)×Int:=if zbd x then(zdo x.1.toNat x.2.1 x.2.2.1 x.2.2.2.1 x.2.2.2.2.1 x.2.2.2.2.2,0)else([],1)
theorem zzm{L:Nat}{src:List (List Int)}{ts:List (List zap)}{fs:List Int}{ps:List zae}{ms:List zag}(h:zbd ((L:Int),src,ts,fs,ps,ms)=true):zgj ((L:Int),src,ts,fs,ps,ms)=(zdo L src ts fs ps ms,0):=by
 rw[zgj,h]
 rfl
theorem zzn{x:Sess}(h:zbd x=false):zgj x=([],1):=by
 rw[zgj,h]
 rfl
section
variable {L:Nat} {src:List (List Int)} {ts:List (List zap)} {fs:List Int} {ps:List zae} {ms:List zag}
theorem zqa:(zdo L src ts fs ps ms).length=ms.length:=by rw[zdo,Ff,List.length_range]
theorem zzo{k:Nat}(hk:k<ms.length):(zdo L src ts fs ps ms)[k]?=some (M.sl (zal (zc3 L src ts fs ps ms) k) (zbt ms k+(zbn ms k).2.1) L):=by
 rw[zdo,Fv,List.getElem?_range hk]
 rfl
end
theorem zzp{α:Type}{A B:List α}{k:Nat}{y:α}(hA:A[k]?=some y)(hl:A.length=B.length):(A.take k++B.drop k).set k y=A.take (k+1)++B.drop (k+1):=by
 have hk:k<A.length:=(Bk.1 hA).1;rw[List.set_append_right _ _ (by rw[Ey];omega),Ey,Nat.min_eq_left (by omega),Nat.sub_self];rw[M.take_at hA,List.append_assoc];congr 1;rw[List.drop_eq_getElem_cons (by omega),List.set_cons_zero]
 rfl
theorem zzq(a0:Int)(A1:Yo)(n1 c1:Nat)(A2:Yo)(n2 c2:Nat)(A3:Yo)(n3 c3:Nat)(A4:Yo)(n4 c4:Nat)(A5:Yo)(n5 c5:Nat)(src:List (List Int))(ts:List (List zap))(fs:List Int)(ps:List zae)(ms:List zag)(w:Yw)
 (h1:tSS.R w w.heap.size [.slice A1 n1 c1] src) (h2:tTS.R w w.heap.size [.slice A2 n2 c2] ts) (h3:tS.R w w.heap.size [.slice A3 n3 c3] fs) (h4:tPS.R w w.heap.size [.slice A4 n4 c4] ps) (h5:tM.R w w.heap.size [.slice A5 n5 c5] ms) (hn:hZ.sz ((a0,src,ts,fs,ps,ms):Sess)<=100000000) :
 Calls Tryz.prog 17 #[.agg #[.int .i64 a0,.slice A1 n1 c1,.slice A2 n2 c2,.slice A3 n3 c3,.slice A4 n4 c4,.slice A5 n5 c5]] w (zm0 w (zgj (a0,src,ts,fs,ps,ms))):=by
 obtain⟨W,hW,B0,sW,p0,p1,p2,p3,p4,p5,pf⟩:=zcs w (.int .i64 a0) (.slice A1 n1 c1) (.slice A2 n2 c2) (.slice A3 n3 c3) (.slice A4 n4 c4) (.slice A5 n5 c5) 38;have HW:=Aq hW;have lW:w.heap.size<W.heap.size:=by omega
 have k1:=tSS.later h1 B0;have k2:=tTS.later h2 B0;have k3:=tS.later h3 B0;have k4:=tPS.later h4 B0;have k5:=tM.later h5 B0;clear hW;cases hok:zbd ((a0,src,ts,fs,ps,ms):Sess)
 ·have R:=Aq (zzn hok);have OK:=Aq hok;clear hok
  go_enter Tryz.func17,Tryz.ntmps17
  go_wp2_with fail;rw[<-HW.out];refine(zgg a0 _ _ c1 _ _ c2 _ _ c3 _ _ c4 _ _ c5 src ts fs ps ms W k1 k2 k3 k4 k5 hn).mono ?_;rw[OK.out];rintro e w1 ⟨rfl,bel1⟩;go_wp2_with fail;go_ret2;rw[R.out];exact⟨_,rfl,OS.nil _ _ _ _,zaa B0 bel1⟩
 obtain⟨L,rfl,hO⟩:=zjs hok;have R:=Aq (zzm hok);have OK:=Aq hok;clear hok
 go_enter Tryz.func17,Tryz.ntmps17
 go_wp2_with fail;rw[<-HW.out];refine(zgg (L:Int) _ _ c1 _ _ c2 _ _ c3 _ _ c4 _ _ c5 src ts fs ps ms W k1 k2 k3 k4 k5 hn).mono ?_;rw[OK.out];rintro e w1 ⟨rfl,bel1⟩;have s1:=bel1.size;have P0:=(bel1.cell (p:=⟨w.heap.size,0,none⟩) (by show w.heap.size<_;omega)).trans p0;have P1:=(bel1.cell (p:=⟨w.heap.size,1,none⟩) (by show w.heap.size<_;omega)).trans p1;have P2:=(bel1.cell (p:=⟨w.heap.size,2,none⟩) (by show w.heap.size<_;omega)).trans p2;have P3:=(bel1.cell (p:=⟨w.heap.size,3,none⟩) (by show w.heap.size<_;omega)).trans p3;have P4:=(bel1.cell (p:=⟨w.heap.size,4,none⟩) (by show w.heap.size<_;omega)).trans p4;have P5:=(bel1.cell (p:=⟨w.heap.size,5,none⟩) (by show w.heap.size<_;omega)).trans p5;have Q5:=Aq (sl_R.1 h5).cap.1;have hmn:=zfa hO.mix;rw[Q5.out]at hmn;have hnT:=zld hO;have hL:=hO.l;obtain⟨n,hnn⟩:∃n,n=M.nT L ms:=⟨_,rfl⟩;have HN:=Aq hnn;rw[<-hnn]at hnT;clear hnn;go_wp2_with fail;refine(zps L _ _ c1 _ _ c2 _ _ c3 _ _ c4 _ _ c5 src ts fs ps ms w1 (tSS.later k1 bel1) (tTS.later k2 bel1) (tS.later k3 bel1) (tPS.later k4 bel1) (tM.later k5 bel1) hn hO).mono ?_;rintro e K ⟨vO,vR,G,rfl,oO,oR,hG,bel⟩;have sK:=bel.size;obtain⟨AO,cO,eO⟩:=oO.shape;rw[zfz hO,Q5.out]at eO;subst eO;obtain⟨AR,cR,eR,rR⟩:=oR.shape;rw[zpv,Q5.out]at eR rR;subst eR;obtain⟨gR,rfl,hgR1,hgR2⟩:=oR.form' (by omega);obtain⟨css0,Fs0,hO0,-⟩:=oO.open (k:=0) (by rw[zfz hO,Q5.out];omega);obtain⟨g,rfl,hGg,-,hgK,-⟩:=hO0.form (by rw[zfz hO,Q5.out];omega);have hgg:=hG g hGg;have hgne:g≠gR:=fun e=>hgg.2.2 (by rw[e];rfl)
 have hll:(zdo L src ts fs ps ms).length=(zc3 L src ts fs ps ms).length:=by rw[zqa,zfz hO]
 have HLL:=Aq hll;have P0K:K.cell? ⟨w.heap.size,0,none⟩=some (.int .i64 L):=by rw[bel.cell (by show w.heap.size<_;omega)];exact P0
 have BK:=zaa B0 (zaa bel1 bel);clear hO0 hll css0 Fs0;go_wp2_with fail
 go_loopw [18] (fun i wr=>∃k:Nat,i=.int .i64 k/\k<=n5/\∃G':Nat->Prop,OS tS 24 wr G' (.slice (some ⟨g,0,none⟩) n5 cO) ((zdo L src ts fs ps ms).take k++(zc3 L src ts fs ps ms).drop k)/\(∀x,G' x->w1.heap.size<=x/\x<wr.heap.size)/\Chg (fun x=>x=g) K wr) (fun i _=>n5-(intOf i).toNat)
 case atStart=>exact⟨0,rfl,by omega,G,by simpa using oO,fun x hx=>⟨(hG x hx).1,(hG x hx).2.1⟩,Chg.refl _ _⟩
 case round=>
  obtain⟨k,rfl,hk,G',os,hG',ch⟩:=hrel;have sch:=ch.size
  by_cases hlt:k<n5
  ·have hlc:((zdo L src ts fs ps ms).take k++(zc3 L src ts fs ps ms).drop k).length=n5:=by
    rw[Cw,Ey,List.length_drop,HLL.out,zfz hO,Q5.out];omega
   have hcur:((zdo L src ts fs ps ms).take k++(zc3 L src ts fs ps ms).drop k)[k]?=some (zal (zc3 L src ts fs ps ms) k):=by
    have hk2:k<(zc3 L src ts fs ps ms).length:=(by rw[zfz hO,Q5.out];exact hlt);rw[Gz (by rw[Ey];omega),Ey,HLL.out,Nat.min_eq_left (by omega),Nat.sub_self,List.getElem?_drop,Nat.add_zero,zal,Ak hk2]
    rfl
   have HCUR:=Aq hcur;have RN_:=RSN.of_os (F:=fun _=>False) os (fun _ h=>h.elim);obtain⟨bO,oO_,cO',AX,cX,x,eO',hbO,-,hx1,hx2,hx3,hx4⟩:=RN_.at (k:=k) (by rw[hlc];exact hlt);simp only[Cz,Dq,Addr.mk.injEq]at eO';obtain⟨⟨rfl,rfl,-⟩,-,-⟩:=eO';have hxc:zal (zc3 L src ts fs ps ms) k=x:=Option.some.inj (hcur.symm.trans hx1);have hxl:x.length=n:=(by rw[<-hxc,HN.out];exact zpt hO (by rw[Q5.out];exact hlt));rw[hxl]at hx2 hx3 hx4;rw[Nat.zero_add]at hx4;have HXC:=Aq hxc
   obtain⟨fr,hfr⟩:∃fr:Nat,zbt ms k+(zbn ms k).2.1=(fr:Int):=⟨(zbt ms k+(zbn ms k).2.1).toNat,by
    have:=zgx hO.mix k;have:=(zhj hO.mix (i:=k) (by rw[Q5.out];exact hlt)).1;omega⟩
   have hfrb:fr<=100000:=(by have:=zgx hO.mix k;have:=(zhj hO.mix (i:=k) (by rw[Q5.out];exact hlt)).1;omega);have hry:=zpu (ms:=ms) (k:=k) (by rw[Q5.out];exact hlt);rw[hfr]at hry;have oRr:=oR.chg ch (fun x hx (e:x=_)=>by simp only[Value.ownBlock,Dq]at hx;omega);obtain⟨y,hy1,hy2,-,-,-⟩:=oRr.at' (k:=k) hlt;obtain rfl:y=(fr:Int):=Option.some.inj (hy1.symm.trans hry);have HFR:=Aq hfr;have q0:wr.cell? ⟨w.heap.size,0,none⟩=some (.int .i64 L):=(by rw[ch.cell (by show w.heap.size<_;omega) (fun e=>by have e':w.heap.size=g:=e;omega)];exact P0K);have y0:=Ag q0;have yR:=Ag hy2;have D1:Below wr.heap.size wr wr.drew:=zad (Aw _ _) 1;have hd1:wr.drew.heap.size=wr.heap.size:=rfl;have lg:g<wr.heap.size:=(by omega);have lgR:gR<wr.heap.size:=(by omega);have kk0:(0:Int)<=(k:Int):=(by omega);have kk1:(k:Int)<(n5:Int):=(by omega);have hx3':=hx3.below D1;have HLC:=Aq hlc;clear hxc hcur hx1 hy1 hry hfr hlc RN_ hxl;go_wp2_with fail
   (refine zct [0,1,2,3,4,5,7] [6,8] 2 (.one 9 (.first 10 .rest)) [11] [11] (by kernel_rfl) (by kernel_rfl) ?_;simp only[zak];simp only[List.filterMap,By,Bg];(repeat (go_big_quiet_step (fail)));refine Cv ?_;(repeat (go_big_quiet_step (fail)));refine Cv ?_)
   refine zai rfl ?_;go_wp2_with fail;refine(zpf AX n cX x fr L _ hx3'.1 (by omega) (by omega) (by omega)).mono ?_;rintro e w2 ⟨v2,rfl,own2,bel2⟩;obtain⟨A6,c6,e6,-⟩:=zb0 own2;rw[zif]at e6;subst e6;have B2:=zaa D1 bel2;have s2:=bel2.size;go_wp2_with fail;refine⟨Bz B2,?_⟩
   (refine za6 rfl ?_;(repeat (go_big_quiet_step (fail)));refine Cv ?_)
   refine zbc ?_;have os2:=os.keep (w':=w2) (fun b hb=>B2.block b (hG' b hb).2);obtain⟨css,Fs,oh,cs,hcs,ho⟩:=os2.open (k:=k) (by rw[HLC.out];exact hlt);obtain⟨u0_,rfl⟩:∃u,cs=[u]:=List.length_eq_one_iff.1 (tS.rlen (tS.read ho));have hcell:=oh.cell hcs (j:=0) (u:=u0_) rfl;have hs1:tS.s=1:=rfl;rw[hs1,Nat.mul_one,Nat.add_zero]at hcell;obtain⟨hcell1,hcell2⟩:=hcell;have oset:=oh.set hcs 0 (by decide) (.slice A6 L c6);rw[hs1,Nat.mul_one,Nat.add_zero]at oset
   have own3:tS.O (w2.setCell ⟨g,k,none⟩ (.slice A6 L c6)) (Iv wr.heap.size w2.heap.size) [.slice A6 L c6] (M.sl x fr L):=by
    refine tS.okeep (fun b hb=>?_) (tS_O.2 (OI.os own2));exact(Chg.set (F:=fun x=>x=g) w2 g k _ rfl).block b hb.2 (fun e=>by have:=hb.1;omega)
   rw[show [u0_].set 0 (.slice A6 L c6)=[.slice A6 L c6]from rfl]at oset;have O3:=oset.1.fill' oset.2 own3 (fun b hb hg=>by have:=hb.1;have:=(hG' b hg).2;omega);have HY:=Aq (zzo (L:=L) (src:=src) (ts:=ts) (fs:=fs) (ps:=ps) (ms:=ms) (k:=k) (by rw[Q5.out];exact hlt));have hse:=HY.out;rw[HXC.out,HFR.out]at hse;rw[zzp hse HLL.out]at O3;have HO3:=Aq O3;clear O3 oset hse own3;go_wp2_with fail;go_roundw
   case rel=>
    refine⟨k+1,by go_num,by omega,_,HO3.out,fun x hx=>?_,(ch.trans (zee B2)).trans (Chg.set w2 _ k _ rfl)⟩;rcases hx with h|h
    ·have:=hG' x h;simp;omega
    have h1:=h.1;have h2:=h.2;simp;omega
   case measure=>simp[intOf];omega
  obtain rfl:n5=k:=by omega
  rw[Cg (by rw[zqa,Q5.out];exact Aj _),Ej (by rw[zfz hO,Q5.out];exact Aj _),List.append_nil]at os;go_wp2_with fail;go_ret2;rw[R.out];refine⟨_,rfl,os.wide (fun x hx=>⟨by have:=(hG' x hx).1;omega,(hG' x hx).2⟩),BK.trans (ch.toBelow (fun x hx=>by omega) (by omega))⟩
end
end Go.Proofs.YtifeldeikhmckaaGreat
