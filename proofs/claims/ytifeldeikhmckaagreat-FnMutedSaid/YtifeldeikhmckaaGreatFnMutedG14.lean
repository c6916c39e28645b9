import Derived.Test.YtifeldeikhmckaaGreatFnMutedG12
import Derived.Test.YtifeldeikhmckaaGreatFnMutedG8
import Derived.Deep.DeepCutAuto
import Derived.Deep.CutRange
import Derived.Test.YtifeldeikhmckaaGreatFnMutedG13
import Derived.Test.YtifeldeikhmckaaGreatFnMutedG9
import Derived.Test.YtifeldeikhmckaaGreatFnMutedG2
import Derived.Test.YtifeldeikhmckaaGreatFnMutedG4
import Derived.Test.YtifeldeikhmckaaGreatFnMutedG1
import Derived.Test.YtifeldeikhmckaaGreatFnMutedG3
set_option linter.unusedVariables false
set_option linter.unusedSimpArgs false
set_option maxRecDepth 100000
set_option maxHeartbeats 4000000
namespace Go.Proofs.YtifeldeikhmckaaGreat
open Go.RowKit Go.Sort
abbrev Bf := @World.frozen?_setCell
section
theorem zx3(k:Nat)(l:Int)(acc:List Int)(p:Int×Int)(q:Nat):M.i_ acc q<=M.i_ (zci k l acc p) q:=by
 rw[zci]
 by_cases h:p.1.toNat=q
 ·subst h
  by_cases hl:p.1.toNat<acc.length
  ·rw[zhv hl];exact Int.le_max_left _ _
  rw[M.i_,M.i_,List.getElem?_eq_none (by omega),List.getElem?_eq_none (by rw[Fx];omega)];exact Int.le_refl _
 rw[zg3 h];exact Int.le_refl _
theorem zpr(k:Nat)(l:Int)(q:Nat):∀(us:List (Int×Int)) (acc:List Int),M.i_ acc q<=M.i_ (us.foldl (zci k l) acc) q:=by
 intro us
 induction us with
 | nil=>intro acc;exact Int.le_refl _
 | cons u us ih=>intro acc;exact Int.le_trans (zx3 k l acc u q) (ih _)
theorem zx4(k:Nat)(l:Int)(q:Nat):∀(us:List (Int×Int)) (acc:List Int),(∀u∈us,u.1.toNat≠q)->M.i_ (us.foldl (zci k l) acc) q=M.i_ acc q:=by
 intro us
 induction us with
 | nil=>intro acc _;rfl
 | cons u us ih=>
  intro acc h;rw[List.foldl_cons,ih _ (fun v hv=>h v (by simp[hv])),zci,zg3 (h u (by simp))]
theorem zx5(k:Nat)(l:Int):∀(us:List (Int×Int)) (acc:List Int) (u:Int×Int),u∈us->u.1.toNat<acc.length->(∀v∈us,v.1.toNat≠k)->M.i_ acc k+l<=M.i_ (us.foldl (zci k l) acc) u.1.toNat:=by
 intro us
 induction us with
 | nil=>intro acc u h;cases h
 | cons v us ih=>
  intro acc u hu hlt hne;rw[List.foldl_cons];have hk:M.i_ (zci k l acc v) k=M.i_ acc k:=by rw[zci,zg3 (hne v (by simp))]
  rcases List.mem_cons.1 hu with rfl|hu
  ·refine Int.le_trans ?_ (zpr k l _ us _);rw[zci,zhv hlt];exact Int.le_max_right _ _
  have:=ih (zci k l acc v) u hu (by rw[zo8];exact hlt) (fun x hx=>hne x (by simp[hx]));rw[hk]at this;exact this
section
variable {ms:List zag}
theorem zlg(h:zay ms=true){k:Nat}(hk:k<ms.length):∀u∈(zbn ms k).2.2,k<u.1.toNat/\u.1.toNat<ms.length:=by
 intro u hu;obtain⟨j,hj⟩:=Fk hu;obtain⟨p0,p1⟩:=u;have:=(zhj h hk).2.2 j p0 p1 hj;show k<p0.toNat/\p0.toNat<_
 omega
theorem zx6(q:Nat){k k':Nat}(h:k<=k'):M.i_ (zco ms k) q<=M.i_ (zco ms k') q:=by
 induction k' with
 | zero=>
  obtain rfl:k=0:=by omega
  exact Int.le_refl _
 | succ k' ih=>
  rcases Fj k' k with h1|h1
  ·obtain rfl:k=k'+1:=by omega
   exact Int.le_refl _
  exact Int.le_trans (ih h1) (zpr _ _ _ _ _)
theorem zx7(h:zay ms=true){i k:Nat}(hi:i<=k)(hk:k<=ms.length):M.i_ (zco ms k) i=M.i_ (zco ms i) i:=by
 induction k with
 | zero=>
  obtain rfl:i=0:=by omega
  rfl
 | succ k ih=>
  rcases Fj k i with h1|h1
  ·obtain rfl:i=k+1:=by omega
   rfl
  rw[<-ih h1 (by omega),zco];refine zx4 _ _ _ _ _ fun u hu=>?_
  have:=zlg h (k:=k) (by omega) u hu;omega
theorem zx8(h:zay ms=true){i j:Nat}(hi:i<ms.length){p0 p1:Int}(hj:(zbn ms i).2.2[j]?=some (p0,p1)):zbt ms i+(zbn ms i).2.1<=zbt ms p0.toNat:=by
 have h1:M.i_ (zco ms i) i+(zbn ms i).2.1<=M.i_ (zco ms (i+1)) p0.toNat:=by
  refine zx5 i _ _ _ (p0,p1) (Eg hj) ?_ (fun v hv=>?_)
  ·rw[zk9];exact(zlg h hi _ (Eg hj)).2
  have:=zlg h hi v hv;omega
 have h2:=zx6 (ms:=ms) p0.toNat (show i+1<=ms.length by omega);have h3:=zx7 h (show i<=ms.length by omega) (Aj _);rw[zbt,zbt,zcj,h3];omega
theorem zx9(h:zay ms=true){i j:Nat}(hi:i<ms.length){p0 p1:Int}(hj:(zbn ms i).2.2[j]?=some (p0,p1)):
 (zal (zdn ms) i)[j]?=some (zbt ms p0.toNat-zbt ms i-(zbn ms i).2.1)/\0<=zbt ms p0.toNat-zbt ms i-(zbn ms i).2.1/\zbt ms p0.toNat-zbt ms i-(zbn ms i).2.1<=1024:=by
 have h1:=zx8 h hi hj;have h2:=zgx h p0.toNat;have h3:=zgx h i;have h4:=(zhj h hi).1;refine⟨?_,by omega,by omega⟩;have e:zal (zdn ms) i=zc2 ms i:=by rw[zal,zpd hi];rfl
 have e2:((ms[i]?).getD M.sz)=zbn ms i:=rfl;rw[e,zc2,e2,Fv,hj]
 rfl
theorem zya:zd6 ms=zbt ms (ms.length-1)+(zbn ms (ms.length-1)).2.1:=rfl
end
end
set_option synthInstance.maxSize 2000
set_option synthInstance.maxHeartbeats 400000
theorem CR.made{F:Nat->Prop}{w w1:Yw}{n:Nat}(own1:w1.ownsRow w.heap.size 24 1 (.slice (some ⟨w.heap.size,0,none⟩) n n) n (madeCells (Value.slice none 0 0).cells (n*1)).toList):CR F 24 w.heap.size w1 (.slice (some ⟨w.heap.size,0,none⟩) n n) (List.replicate n []):=by
 have e:=toList_madeCells_one (.slice none 0 0) n;simp only[Nat.mul_one,Value.cells]at own1;rw[e]at own1;refine⟨List.replicate n (.slice none 0 0),by rw[Fz];exact own1,fun k x hx=>?_⟩;have hk:k<n:=by have:=(Bk.1 hx).1;simpa using this
 obtain rfl:x=[]:=by rw[List.getElem?_replicate,if_pos hk]at hx;exact(Option.some.inj hx).symm
 exact⟨none,0,by simp[hk],Aj _,RI.nil _ _ _,fun ad hn=>absurd hn (by simp)⟩
theorem zyb{α:Type}(z y:α)(k n:Nat)(h:k<n):(List.replicate k z++List.replicate (n-k) y).set k z=List.replicate (k+1) z++List.replicate (n-(k+1)) y:=by
 rw[List.set_append_right _ _ (by simp),Fz,Nat.sub_self,show n-k=(n-(k+1))+1 by omega,List.replicate_succ,List.set_cons_zero,List.replicate_succ'];simp
theorem zih{cs:List (List Int)}{i:Nat}{s:List Int}(h:cs[i]?=some s):zal cs i=s:=zk8 h
theorem zyc(w:Yw)(z0 z1:Value)(t:TypeId):∃U,U=w.alloc (.cells #[z0,z1] t)/\Below w.heap.size w U/\U.heap.size=w.heap.size+1/\U.cell? ⟨w.heap.size,0,none⟩=some z0/\U.cell? ⟨w.heap.size,1,none⟩=some z1/\(∀j,U.frozen? ⟨w.heap.size,j,none⟩=false):=
 ⟨_,rfl,(Aw _ _).alloc (Aj _) _,by simp,by simp[go_sem],by simp[go_sem],fun j=>by simp[go_sem]⟩
theorem zps(L:Nat)(A1:Yo)(n1 c1:Nat)(A2:Yo)(n2 c2:Nat)(A3:Yo)(n3 c3:Nat)(A4:Yo)(n4 c4:Nat)(A5:Yo)(n5 c5:Nat)(src:List (List Int))(ts:List (List zap))(fs:List Int)(ps:List zae)(ms:List zag)(w:Yw)
 (h1:tSS.R w w.heap.size [.slice A1 n1 c1] src) (h2:tTS.R w w.heap.size [.slice A2 n2 c2] ts) (h3:tS.R w w.heap.size [.slice A3 n3 c3] fs) (h4:tPS.R w w.heap.size [.slice A4 n4 c4] ps) (h5:tM.R w w.heap.size [.slice A5 n5 c5] ms) (hn:hZ.sz (((L:Int),src,ts,fs,ps,ms):Sess)<=100000000) (hO:M.SO L src ts fs ps ms) :
 Calls Tryz.prog 58 #[.agg #[.int .i64 L,.slice A1 n1 c1,.slice A2 n2 c2,.slice A3 n3 c3,.slice A4 n4 c4,.slice A5 n5 c5]] w fun e w'=>∃(vO vR:Value) (G:Nat->Prop),e=.returned (.tuple #[vO,vR])/\OS tS 24 w' G vO (zc3 L src ts fs ps ms)/\OI 2 w.heap.size w' vR (zef ms)/\(∀k,G k->w.heap.size<=k/\k<w'.heap.size/\vR.ownBlock≠some k)/\Below w.heap.size w w':=by
 obtain⟨W,hW,B0,sW,p0,p1,p2,p3,p4,p5,pf⟩:=zcs w (.int .i64 L) (.slice A1 n1 c1) (.slice A2 n2 c2) (.slice A3 n3 c3) (.slice A4 n4 c4) (.slice A5 n5 c5) 38;have HW:=Aq hW;have lW:w.heap.size<W.heap.size:=by omega
 have k1:=sl_R.1 h1;have k2:=sl_R.1 h2;have k3:=(tS_R.1 h3).ri;have k4:=sl_R.1 h4;have k5:=sl_R.1 h5;have Q1:=Aq k1.cap.1;have Q2:=Aq k2.cap.1;have Q3:=Aq k3.len;have Q4:=Aq k4.cap.1;have Q5:=Aq k5.cap.1;rw[zeb]at hn;have z1:hSS.sz src<=100000000:=by omega
 have z2:hTS.sz ts<=100000000:=by omega
 have z4:hPS.sz ps<=100000000:=by omega
 have z5:hM.sz ms<=100000000:=by omega
 have hmn:=zfa hO.mix;have hm5:1<=n5/\n5<=8:=by rw[<-Q5.out];exact hmn
 have ht2:n2<=6:=by rw[<-Q2.out];exact hO.tl
 have ht3:n3=n2:=by rw[<-Q3.out,<-Q2.out];exact hO.fl
 have ht4:n4=n5:=by rw[<-Q4.out,<-Q5.out];exact hO.pl
 subst ht3 ht4;have hL:=hO.l;have hT:=zjt hO.mix;have hnT:=zld hO;have HNI:=Aq (zxl hO);obtain⟨n,hnn⟩:∃n,n=M.nT L ms:=⟨_,rfl⟩;have HN:=Aq hnn;rw[<-hnn]at hnT;obtain⟨T,hTT⟩:∃T,T=zd6 ms:=⟨_,rfl⟩;rw[<-hTT]at hT;have HT:=Aq hTT;have hLn:((L:Int)+T)=(n:Int):=by rw[hTT,<-HNI.out,hnn]
 have HLN:=Aq hLn;have hLn':L<=n:=by omega
 have HWR:=Aq (IntWalk.i64_in ((L:Int)+T) (by omega));have m0:=Ag p0;have m5:=Ag p5;have D1:Below W.heap.size W W.drew:=zad (Aw _ _) 1;have BD:Below w.heap.size w W.drew:=zad B0 1;clear hn hW sW hnn hTT hLn hmn
 go_enter Tryz.func58,Tryz.ntmps58
 go_wp2_with fail;rw[<-HW.out]
 (refine zct [0,2] [1,3] 1 (.one 4 .rest) [5] [5,6] (by kernel_rfl) (by kernel_rfl) ?_;simp only[zak];simp only[List.filterMap,By,Bg];(repeat (go_big_quiet_step (fail)));refine Cv ?_;(repeat (go_big_quiet_step (fail)));refine Cv ?_)
 refine zai rfl ?_;go_wp2_with fail;refine(zw9 _ _ _ ms _ (tM.later h5 BD) hO.mix).mono ?_;rw[<-HT.out];rintro e w1 ⟨rfl,bel1⟩;have B1:=zaa D1 bel1;have s1:=bel1.size;go_wp2_with fail;refine⟨Bz B1,?_⟩;refine zbc ?_;have q5:w1.cell? ⟨w.heap.size,5,none⟩=some (.slice A5 n4 c5):=by rw[B1.cell (by show w.heap.size<_;omega)];exact p5
 have m5:=Ag q5;have D2:Below w1.heap.size w1 w1.drew:=zad (Aw _ _) 1;have hd1:w1.drew.heap.size=w1.heap.size:=rfl;have BB1:=zaa B0 B1;have BD2:Below w.heap.size w w1.drew:=zad BB1 1;go_wp2_with fail;rw[HLN.out]
 (refine zct [0,3] [1,4] 2 (.one 2 (.one 5 .rest)) [6] [6,7] (by kernel_rfl) (by kernel_rfl) ?_;simp only[zak];simp only[List.filterMap,By,Bg];(repeat (go_big_quiet_step (fail)));refine Cv ?_;(repeat (go_big_quiet_step (fail)));refine Cv ?_)
 refine zai rfl ?_;go_wp2_with fail;refine(zlb _ _ _ ms _ (tM.later h5 BD2) hO.mix).mono ?_;rintro e w2 ⟨vE,rfl,ownE,bel2⟩;have B2:=zaa D2 bel2;have s2:=bel2.size;go_wp2_with fail;refine⟨Bz B2,?_⟩;refine zai rfl ?_;go_wp2_with fail;refine(zxc _ _ _ ms _ (tM.later h5 (zaa BB1 B2)) hO.mix).mono ?_;rintro e K ⟨vD,rfl,ownD,bel3⟩;have B3:=zaa B2 bel3;have s3:=bel3.size;go_wp2_with fail;refine⟨Bz B3,?_⟩;refine zbc ?_;have hle:(zcj ms).length=n4:=by rw[zcj,zk9];exact Q5.out
 have hld:(zdn ms).length=n4:=by rw[zpc];exact Q5.out
 obtain⟨AE,cE,eE,-⟩:=ownE.shape;rw[hle]at eE;subst eE;have HLE:=Aq hle;have RE:RI K K.heap.size AE n4 (zcj ms):=ownE.ri'.later bel3;have RD:RSN (fun _=>False) K vD (zdn ms):=RSN.of_os ownD (fun _ h=>h.elim);obtain⟨AD,cD,eD⟩:=RD.shape;rw[hld]at eD;subst eD;have HLD:=Aq hld;have BK:=zaa BB1 B3;have sK:=BK.size;have BWK:Below W.heap.size W K:=zaa B1 B3;have lK:w.heap.size<K.heap.size:=by have:=BWK.size;omega
 have q0:K.cell? ⟨w.heap.size,0,none⟩=some (.int .i64 L):=by rw[BWK.cell (by show w.heap.size<_;omega)];exact p0
 have q1:K.cell? ⟨w.heap.size,1,none⟩=some (.slice A1 n1 c1):=by rw[BWK.cell (by show w.heap.size<_;omega)];exact p1
 have q2:K.cell? ⟨w.heap.size,2,none⟩=some (.slice A2 n3 c2):=by rw[BWK.cell (by show w.heap.size<_;omega)];exact p2
 have q3:K.cell? ⟨w.heap.size,3,none⟩=some (.slice A3 n3 c3):=by rw[BWK.cell (by show w.heap.size<_;omega)];exact p3
 have q4:K.cell? ⟨w.heap.size,4,none⟩=some (.slice A4 n4 c4):=by rw[BWK.cell (by show w.heap.size<_;omega)];exact p4
 have q5:K.cell? ⟨w.heap.size,5,none⟩=some (.slice A5 n4 c5):=by rw[BWK.cell (by show w.heap.size<_;omega)];exact p5
 replace k1:=k1.later BK;replace k2:=k2.later BK;replace k3:=k3.later BK;replace k4:=k4.later BK;replace k5:=k5.later BK;obtain⟨bE,oE,rfl,hbE,hcE⟩:=zau RE (by omega);have HCE:=Aq hcE;clear p0 p1 p2 p3 p4 p5 pf m0 m5 D1 BD hcE B1 s1 B2 s2 bel2 bel3 B3 s3 hle hld ownE ownD BB1 BD2 BWK hd1 D2 h1 h2 h3 h4 h5 HWR bel1 B0 lW;go_wp2_with (at_make;refine zhm ei_S rfl _ _ rfl n4 _ _ rfl rfl rfl rfl (by omega) (by unfold maxLen;omega) ?_;intro w1 own1 bel1);have C1:=CR.made (F:=fun x=>x=K.heap.size) own1;have s1:=bel1.size;have s1':=(Gq own1 _ rfl).2;clear own1;go_wp2_with fail
 go_loopw [39] (fun i wr=>∃k:Nat,i=.int .i64 k/\k<=n4/\CR (fun x=>x=K.heap.size) 24 K.heap.size wr (.slice (some ⟨K.heap.size,0,none⟩) n4 n4) (List.replicate k (List.replicate n 0)++List.replicate (n4-k) [])/\Below K.heap.size K wr/\w1.heap.size<=wr.heap.size) (fun i _=>n4-(intOf i).toNat)
 case atStart=>exact⟨0,rfl,by omega,by simpa using C1,bel1,Aj _⟩
 case round=>
  obtain⟨k,rfl,hk,oc,B,sz⟩:=hrel
  by_cases hlt:k<n4
  ·have hk0:(0:Int)<=(k:Int):=(by omega);have hk1:(k:Int)<(n4:Int):=(by omega);go_wp2_with fail;refine(zc5 n _ (by omega) (by omega)).mono ?_;rintro e w2 ⟨v2,rfl,own2,bel2⟩;rw[Fq]at own2;obtain⟨A6,c6,e6,h6,-⟩:=zb0 own2;rw[Fz]at e6 h6;subst e6;have s2:=bel2.size;obtain⟨A',c',x,hx1,hx2,hx3,hx4,hx5⟩:=(oc.below bel2).at hlt
   have C2:=(oc.below bel2).set rfl k (A':=A6) (c':=c6) (y:=List.replicate n 0) (by rw[Fz];exact h6) (by
    rw[Fz];exact RN.of_oi own2 (fun j hj=>by omega))
   rw[Fz,zyb _ _ _ _ hlt]at C2;have HC2:=Aq C2;clear C2 hx1;go_wp2_with fail;go_roundw
   case rel=>exact⟨k+1,by go_num,by omega,HC2.out,(B.trans (bel2.mono (by omega))).setCell (Aj _) _,by simp;omega⟩
   case measure=>simp[intOf];omega
  obtain rfl:n4=k:=by omega
  rw[Nat.sub_self,List.replicate_zero,List.append_nil]at oc;obtain⟨wp,rfl⟩:∃wp:Yw,wp=wr:=⟨_,rfl⟩;clear C1
  replace oc:CR (fun x=>x=K.heap.size) 24 K.heap.size wp (.slice (some ⟨K.heap.size,0,none⟩) n4 n4) (zge L src ts fs ms 0):=by
   rw[zge,<-HN.out,Q5.out];exact oc
  have q2p:wp.cell? ⟨w.heap.size,2,none⟩=some (.slice A2 n3 c2):=by rw[B.cell (by show w.heap.size<_;omega)];exact q2
  have sp:=B.size;go_wp2_with fail
  go_loopw [51] (fun i wr=>∃t:Nat,i=.int .i64 t/\t<=n3/\CR (fun x=>x=K.heap.size) 24 K.heap.size wr (.slice (some ⟨K.heap.size,0,none⟩) n4 n4) (zge L src ts fs ms t)/\Below K.heap.size K wr/\wp.heap.size<=wr.heap.size) (fun i _=>n3-(intOf i).toNat)
  case atStart=>exact⟨0,rfl,by omega,oc,B,Aj _⟩
  case round=>
   clear oc B q2p;obtain⟨t,rfl,ht,oc,B,sz2⟩:=hrel;have sB:=B.size
   by_cases hlt:t<n3
   ·obtain⟨b3,o3,rfl,hb3,hc3⟩:=zau k3 (by omega)
    have hft:fs[t]?=some (M.i_ fs t):=by
     have:t<fs.length:=(by rw[Q3.out];exact hlt);rw[M.i_,Ak this];rfl
    have hfr:=hO.fr _ (Eg hft);rw[Q5.out]at hfr;obtain⟨q,hq⟩:∃q:Nat,M.i_ fs t=(q:Int):=⟨(M.i_ fs t).toNat,by omega⟩;have hqn:q<n4:=(by omega);rw[hq]at hft;have cf3:wr.cell? ⟨b3,o3+t,none⟩=some (.int .i64 (q:Int)):=(by rw[B.cell (by show b3<_;omega)];exact hc3 t _ hft);obtain⟨ee,hee⟩:∃ee:Nat,zbt ms q=(ee:Int):=⟨(zbt ms q).toNat,by have:=(zgx hO.mix q).1;omega⟩;have hee2:ee<=1024:=(by have:=(zgx hO.mix q).2;omega)
    have hqe:(zcj ms)[q]?=some (ee:Int):=by
     have:q<(zcj ms).length:=(by rw[HLE.out];exact hqn);rw[<-hee,zbt,M.i_,Ak this];rfl
    have HCQ:=HCE.out q _ hqe;obtain⟨bb,o,A7,n7,c7,x,rfl,hbb,X,ct,-,hra,hn7⟩:=zi4 (k2.below B) z2 hlt;have htr:=hO.tr x (Eg X.out);have hxl:n7<=100000000:=hn7;obtain⟨U,hU,GU,sU,u0,uf⟩:=zfv wr (.slice A7 n7 c7) 98;have HU:=Aq hU;have BU:=B.trans (GU.mono sB);have g0:U.cell? ⟨w.heap.size,0,none⟩=some (.int .i64 L):=(by rw[BU.cell (by show w.heap.size<_;omega)];exact q0);have g1:U.cell? ⟨w.heap.size,1,none⟩=some (.slice A1 n1 c1):=(by rw[BU.cell (by show w.heap.size<_;omega)];exact q1);have g3:U.cell? ⟨w.heap.size,3,none⟩=some (.slice (some ⟨b3,o3,none⟩) n3 c3):=(by rw[BU.cell (by show w.heap.size<_;omega)];exact q3);have cf3U:U.cell? ⟨b3,o3+t,none⟩=some (.int .i64 (q:Int)):=(by rw[GU.cell (by show b3<_;omega)];exact cf3);have lU:wr.heap.size<U.heap.size:=(by omega);have y0:=Ag g0;have y1:=Ag g1;have yu:=Ag u0;have D1:Below U.heap.size U U.drew:=zad (Aw _ _) 1;have BUD:Below K.heap.size K U.drew:=zad BU 1;have hdU:U.drew.heap.size=U.heap.size:=rfl;have t0:(0:Int)<=(t:Int):=(by omega);have t1:(t:Int)<(n3:Int):=(by omega);have hq0:(0:Int)<=(q:Int):=(by omega);have hq1:(q:Int)<(n4:Int):=(by omega);have HX:=X;have HTRA:=Aq (zxm X.out);have HQ:=Aq hq;have HEE:=Aq hee;have HTR:=Aq htr;have q3r:wr.cell? ⟨w.heap.size,3,none⟩=some (.slice (some ⟨b3,o3,none⟩) n3 c3):=(by rw[B.cell (by show w.heap.size<_;omega)];exact q3);have lw1:w.heap.size<wr.heap.size:=(by omega);have lw2:b3<wr.heap.size:=(by omega);have lw3:bb<wr.heap.size:=(by omega);clear hU hft hq hqe hee htr sU uf hc3;go_wp2_with fail;rw[<-HU.out]
    (refine zct [0,3,6,7] [1,2,4,8,9] 2 (.one 5 (.one 10 .rest)) [11] [11,12] (by kernel_rfl) (by kernel_rfl) ?_;simp only[zak];simp only[List.filterMap,By,Bg];(repeat (go_big_quiet_step (fail)));refine Cv ?_;(repeat (go_big_quiet_step (fail)));refine Cv ?_)
    refine zai rfl ?_;go_wp2_with fail;refine(zsy _ _ _ c1 _ c7 L src x _ ((k1.below BUD).more (by omega)) ((hra.below (zad (GU.mono sB) 1)).more (by omega)) hO.so HTR.out.1 HTR.out.2 (by omega)).mono ?_;rintro e w2 ⟨v2,rfl,own2,bel2⟩;rw[<-HTRA.out]at own2;generalize hR:zek src (zjr ts t) L=ren at *;have B2:=zaa D1 bel2;have s2:=bel2.size;have hrl:ren.length=L:=(by rw[<-hR];exact zj9 _ _ _);have HRL:=Aq hrl;have HRR:=Aq hR;have nl:(0:Int)<=(n:Int)-(L:Int):=(by omega);have nl2:(n:Int)-(L:Int)<=1000000000:=(by omega);clear hrl hR;go_wp2_with fail;refine⟨Bz B2,?_⟩;refine zai rfl ?_;go_wp2_with fail;refine(zc5 ((n:Int)-(L:Int)) _ nl nl2).mono ?_;rintro e w3 ⟨v3,rfl,own3,bel3⟩;rw[show ((n:Int)-(L:Int)).toNat=n-L by omega]at own3;obtain⟨A3',c3',e3,r3⟩:=own3.shape;rw[Fz]at e3 r3;subst e3;have B3:=zaa B2 bel3;have s3:=bel3.size;have own2':=own2.below bel3;have HL8:=Aq (show (ren++List.replicate (n-L) (0:Int)).length=n by rw[Cw,Fz,HRL.out];omega);have hrl2:ren.length+(n-L)<=1000000:=(by rw[HRL.out];omega);go_wp2_with fail;refine⟨Bz B3,?_⟩;refine zbc ?_;go_wp2_with (at_builtin;refine zcz zbu rfl _ _ rfl own2' rfl r3 rfl (ints_oneCell _ _) (by unfold maxLen;omega) (by omega) (by omega) ?_;intro v4 w4 own4 gr4 bel4;have op4:OI 2 U.drew.heap.size w4 v4 (ren++List.replicate (n-L) 0):=(by unfold OI;rw[List.map_append,Cw,Fz];exact own4);obtain⟨A8,c8,e8,r8⟩:=op4.shape;rw[HL8.out]at e8 r8;subst e8);have s4:=bel4.size;have BW4:Below wr.heap.size wr w4:=GU.trans ((B3.trans bel4).mono (by omega));have BK4:Below K.heap.size K w4:=B.trans (BW4.mono sB);have sW4:=BW4.size;have hio:=zpj hO t (by rw[Q2.out];omega);have oc4:=oc.below BW4;obtain⟨A',c',xq,hx1,hx2,hx3,hx4,hx5⟩:=oc4.at (k:=q) hqn;have hxq:zal (zge L src ts fs ms t) q=xq:=zih hx1;have hxl2:xq.length=n:=(by rw[<-hxq,(hio.cel (by rw[Q5.out];exact hqn)).1,HN.out]);rw[hxl2]at hx2 hx3 hx4;have HXQ:=Aq hxq;have cE4:w4.cell? ⟨bE,oE+q,none⟩=some (.int .i64 (ee:Int)):=(by rw[BK4.cell (by show bE<_;omega)];exact HCQ);have yI:=Ag hx4;have yE:=Ag cE4;have D4:Below w4.heap.size w4 w4.drew:=zad (Aw _ _) 1;have hd4:w4.drew.heap.size=w4.heap.size:=rfl;have r8':=r8.later D4;clear hx1 hxq hxl2 HCQ r8 y0 y1 yu D1 BUD hdU
    (refine zct [0,1,2,3,4,6,7,8,9] [5,10] 3 (.one 11 (.one 12 (.first 13 .rest))) [14] [14] (by kernel_rfl) (by kernel_rfl) ?_;simp only[zak];simp only[List.filterMap,By,Bg];(repeat (go_big_quiet_step (fail)));refine Cv ?_;(repeat (go_big_quiet_step (fail)));refine Cv ?_)
    refine zai rfl ?_;go_wp2_with fail;refine(zlc A8 n c8 _ ee _ r8' (by omega) (by omega)).mono ?_;rintro e w5 ⟨v5,rfl,own5,bel5⟩;rw[zxj]at own5;obtain⟨A9,c9,e9,r9⟩:=own5.shape;rw[zgd]at e9 r9;subst e9;have B5:=zaa D4 bel5;have s5:=bel5.size;go_wp2_with fail;refine⟨Bz B5,?_⟩;refine zai rfl ?_;go_wp2_with fail;refine(zpg A' A9 n c' n c9 xq _ 1 _ (hx3.below B5).1 r9 (by omega) (by omega)).mono ?_;rintro e w6 ⟨v6,rfl,own6,bel6⟩;have hal:(zc9 xq (zcp ren (ee:Int) n) 1).length=n:=(by rw[zh1,hx3.1.len,zgd,Nat.max_self]);obtain⟨A6,c6,e6,h6,-⟩:=zb0 own6;rw[hal]at e6 h6;subst e6;have HAL:=Aq hal;have B6:=zaa B5 bel6;have s6:=bel6.size;clear hal;go_wp2_with fail;refine⟨Bz B6,?_⟩
    (refine za6 rfl ?_;(repeat (go_big_quiet_step (fail)));refine Cv ?_)
    refine zbc ?_;obtain⟨A'',c'',xq2,hv1,hv2,hv3,hv4,hv5⟩:=(oc4.below B6).at (k:=q) hqn
    have C6:=(oc4.below B6).set rfl q (A':=A6) (c':=c6) (y:=zc9 xq (zcp ren (ee:Int) n) 1) (by rw[HAL.out];exact h6) (by
     rw[HAL.out];exact RN.of_oi own6 (fun j hj=>by omega))
    rw[HAL.out]at C6;have HC6:=Aq C6;clear C6 hv1;go_wp2_with fail;refine⟨⟨t+1,by go_num,by omega,?_,(BK4.trans (B6.mono (by omega))).setCell (Aj _) _,by simp;omega⟩,by simp[intOf];omega⟩;rw[zge,zhi,HQ.out,Fq,HXQ.out,HEE.out,HRR.out,<-HN.out];exact HC6.out
   obtain rfl:n3=t:=by omega
   have oc0:CR (fun x=>x=K.heap.size) 24 K.heap.size wr (.slice (some ⟨K.heap.size,0,none⟩) n4 n4) (zbx L src ts fs ps ms 0).1:=by
    rw[zbx,Q2.out];exact oc
   obtain⟨V,rfl⟩:∃V:Yw,V=wr:=⟨_,rfl⟩;have q5V:V.cell? ⟨w.heap.size,5,none⟩=some (.slice A5 n4 c5):=(by rw[B.cell (by show w.heap.size<_;omega)];exact q5);obtain⟨X,hX⟩:∃X,X=V.alloc (.cells #[] 24):=⟨_,rfl⟩;have BX:Below V.heap.size V X:=(by rw[hX];exact(Aw _ _).alloc (Aj _) _);have sX:X.heap.size=V.heap.size+1:=(by rw[hX];simp)
   have O0:OS tS 24 X (fun b=>b=V.heap.size) (.slice (some ⟨V.heap.size,0,none⟩) 0 0) []:=by
    rw[hX];exact⟨[],fun _ _=>False,zhl (World.ownsRow_made _ _ _ (Aj _) (by simp[maxLen]) rfl) (Nat.zero_le _),rfl,fun g hg=>by simp only[Value.ownBlock,Dq]at hg;exact hg.symm,fun _ _ h=>h.elim,fun _ _ _ _ h=>h.elim,fun k h=>by simp at h⟩
   obtain⟨Y,hY⟩:∃Y,Y=X.alloc (.cells #[] 2):=⟨_,rfl⟩;have BY:Below X.heap.size X Y:=(by rw[hY];exact(Aw _ _).alloc (Aj _) _);have sY:Y.heap.size=V.heap.size+2:=(by rw[hY];simp;omega);have R0:OI 2 X.heap.size Y (.slice (some ⟨X.heap.size,0,none⟩) 0 0) []:=(by rw[hY];exact OI.made _ _);rw[sX]at R0;have O1:=O0.keep (w':=Y) (fun b hb=>BY.block b (by omega));have oc1:=(oc0.more (F':=fun k=>k=K.heap.size\/V.heap.size<=k) (fun k hk=>hk)).below (BX.trans (BY.mono (by omega)));have BYK:Below K.heap.size K Y:=(B.trans (BX.mono sB)).trans (BY.mono (by omega));have q5Y:Y.cell? ⟨w.heap.size,5,none⟩=some (.slice A5 n4 c5):=(by rw[BYK.cell (by show w.heap.size<_;omega)];exact q5);rw[hX]at hY;have HY:=Aq hY;have lwV:w.heap.size<V.heap.size:=(by omega);clear hY hX oc oc0 O0 BX BY;go_wp2_with fail;rw[<-HY.out]
   go_loopw [13,14,94] (fun vO vR i wr=>∃k:Nat,i=.int .i64 k/\k<=n4/\∃G:Nat->Prop,OS tS 24 wr G vO (zbx L src ts fs ps ms k).2/\OI 2 V.heap.size wr vR ((zef ms).take k)/\(∀x,G x->V.heap.size<=x/\x<wr.heap.size/\vR.ownBlock≠some x)/\
    CR (fun x=>x=K.heap.size\/G x\/vR.ownBlock=some x) 24 K.heap.size wr (.slice (some ⟨K.heap.size,0,none⟩) n4 n4) (zbx L src ts fs ps ms k).1/\Below K.heap.size K wr/\V.heap.size+2<=wr.heap.size) (fun _ _ i _=>n4-(intOf i).toNat)
   case atStart=>
    refine⟨0,rfl,by omega,fun b=>b=V.heap.size,O1,R0.base (by omega),fun x hx=>⟨by omega,by omega,by simp only[Value.ownBlock,ne_eq,Dq];omega⟩,?_,BYK,by omega⟩;refine oc1.sub (fun x hx=>?_);rcases hx with h|h|h
    ·exact .inl h
    ·exact .inr (by omega)
    simp only[Value.ownBlock,Dq]at h;exact .inr (by omega)
   case round=>
    clear O1 R0 oc1 BYK q5Y;obtain⟨k,rfl,hk,G,oO,oR,hG,oc,B3K,sz3⟩:=hrel;obtain⟨vR,rfl⟩:∃v_:Value,v_=u14:=⟨_,rfl⟩;obtain⟨vO,rfl⟩:∃v_:Value,v_=u13:=⟨_,rfl⟩
    by_cases hlt:k<n4
    ·obtain⟨b5,o5,s_,l,A9,n9,c9,us,rfl,hb5,XS,e0,e1,e2,hsz_,hra,hn9⟩:=zoi (k5.below B3K) z5 hlt;obtain⟨b4,o4,a0,Ap1,np1,cp1,Ap2,np2,cp2,Ap3,np3,cp3,x1,x2,x3,rfl,hb4,XP,f0,f1,f2,f3,hp1,hp2,hp3,hpz⟩:=zi5 (k4.below B3K) z4 hlt;have hst:=Aq (zph XS.out);have hpa:=Aq (zpi XP.out);obtain⟨io1,io2⟩:=zju hO k (by rw[Q5.out];omega);obtain⟨ic1,ic2⟩:=io1.cel (k:=k) (by rw[Q5.out];exact hlt);rw[<-HN.out]at ic1;obtain⟨Ai,ci,xi,hx1,hx2,hx3,hx4,hx5⟩:=oc.at hlt;have hxi:zal (zbx L src ts fs ps ms k).1 k=xi:=zih hx1;rw[hxi]at ic1 ic2;rw[ic1]at hx2 hx3 hx4;have HXI:=Aq hxi;have HI2:=Aq ic2;have heff:zas (a0,x1,x2,x3)=true:=hO.ef _ (Eg XP.out);have HEF:=Aq heff;have sB3:=B3K.size;obtain⟨U,hU,GU,sU,u0,u1,u2,uf⟩:=zoh wr (.string s_) (.int .i64 l) (.slice A9 n9 c9) 117;have HU:=Aq hU;have q4r:wr.cell? ⟨w.heap.size,4,none⟩=some (.slice (some ⟨b4,o4,none⟩) n4 c4):=(by rw[B3K.cell (by show w.heap.size<_;omega)];exact q4);have lw1:w.heap.size<wr.heap.size:=(by omega);have lw2:b5<wr.heap.size:=(by omega);have lw3:b4<wr.heap.size:=(by omega);have lw4:K.heap.size<wr.heap.size:=(by omega);have kk0:(0:Int)<=(k:Int):=(by omega);have kk1:(k:Int)<(n4:Int):=(by omega);have GUK:Below K.heap.size wr U:=GU.mono sB3;have hp1U:=tSS.more (show K.heap.size<=U.heap.size by omega) (tSS.below hp1 GUK);have hp2U:=tNS.more (show K.heap.size<=U.heap.size by omega) (tNS.below hp2 GUK);have hp3U:=tS.more (show K.heap.size<=U.heap.size by omega) (tS.below hp3 GUK);clear hU hxi hx1 ic1 ic2 heff;go_wp2_with fail;rw[<-HU.out];obtain⟨bz,hbz⟩:∃bz:Bool,bz=decide (((a0,x1,x2,x3):zae)=M.p0):=⟨_,rfl⟩;refine(zga a0 _ _ cp1 _ _ cp2 _ _ cp3 x1 x2 x3 _ hp1U hp2U hp3U hpz).mono ?_;rw[<-hbz];rintro e w1' ⟨rfl,bel1⟩;have HBZ:=Aq hbz;clear hbz;have BUw:=GU.trans (bel1.mono (by omega));have s1':=bel1.size
     go_upto_if 109 with fail
     go_cut [17]from 110 to 122 (fun q17 wx=>∃(A10:Yo) (c10:Nat),q17=.slice A10 n c10/\RI wx wx.heap.size A10 n (M.fx (a0,x1,x2,x3) xi n)/\Below w1'.heap.size w1' wx)
     case first=>
      cases bz
      case true=>
       have E:=Aq (show M.fx (a0,x1,x2,x3) xi n=xi by rw[M.fx,if_pos (of_decide_eq_true HBZ.out.symm)]);go_wp2_with fail
       go_meet
       rw[E.out];exact⟨Ai,ci,rfl,(hx3.below BUw).1,Aw _ _⟩
      case false=>
       have hp:((a0,x1,x2,x3):zae)≠M.p0:=of_decide_eq_false HBZ.out.symm;obtain⟨h1,h2,h3⟩:=zgy HEF.out hp;simp only at h2;subst h2;obtain⟨o_,rfl⟩:=len1 (show x3.length=1 from h3);have hPF:=zgu h1 rfl;have ho:=zh6 h1 o_ (by simp);have E:=Aq (show M.fx (1,x1,x2,[o_]) xi n=zcl x2 x1 (zbj x2) xi o_ n by rw[M.fx,if_neg hp];rfl);have hnp2:=(sl_R.1 hp2U).cap.1;have hnp3:=zcu hp3U;simp only[Dw]at hnp3;subst hnp3;simp only at ho;rw[hnp2]at ho;have hnz2:hNS.sz x2<=100000000:=(by rw[zea]at hpz;omega);clear hp h1 h3 hnp2;have q4w:w1'.cell? ⟨w.heap.size,4,none⟩=some (.slice (some ⟨b4,o4,none⟩) n4 c4):=(by rw[BUw.cell (by show w.heap.size<_;omega)];exact q4r);have f0w:w1'.cell? ⟨b4,o4+k*4,none⟩=some (.int .i64 1):=(by rw[BUw.cell (by show b4<_;omega)];exact f0);have f1w:w1'.cell? ⟨b4,o4+k*4+1,none⟩=some (.slice Ap1 np1 cp1):=(by rw[BUw.cell (by show b4<_;omega)];exact f1);have f2w:w1'.cell? ⟨b4,o4+k*4+2,none⟩=some (.slice Ap2 np2 cp2):=(by rw[BUw.cell (by show b4<_;omega)];exact f2);have f3w:w1'.cell? ⟨b4,o4+k*4+3,none⟩=some (.slice Ap3 1 cp3):=(by rw[BUw.cell (by show b4<_;omega)];exact f3);have y4:=Ag q4w;have yf0:=Ag f0w;have yf1:=Ag f1w;have yf2:=Ag f2w;have yf3:=Ag f3w;have D1:Below w1'.heap.size w1' w1'.drew:=zad (Aw _ _) 1;have hd1:w1'.drew.heap.size=w1'.heap.size:=rfl;have hxw:=hx3.below BUw;go_wp2_with fail
       (refine zct [1,3,6,8] [2,4,5] 3 (.two 0 (.one 7 (.one 9 .rest)) 7 (.one 0 (.one 9 .rest))) [10] [10,11,12,13] (by kernel_rfl) (by kernel_rfl) ?_;simp only[zak];simp only[List.filterMap,By,Bg];(repeat (go_big_quiet_step (fail)));refine Cv ?_;(repeat (go_big_quiet_step (fail)));refine Cv ?_)
       refine zjk rfl rfl ?_ ?_
       ·go_wp2_with fail;refine(zc5 0 _ (by omega) (by omega)).mono ?_;rintro e w2 ⟨v2,rfl,own2,bel2⟩;replace own2:OI 2 w1'.drew.heap.size w2 v2 []:=own2;have B2:=zaa D1 bel2;have s2:=bel2.size;go_wp2_with fail;refine⟨Bz B2,?_⟩;refine zai rfl ?_;obtain⟨X,hX,BX,sX,x0,xf⟩:=zfv w2 (.slice Ai n ci) 24;have HX:=Aq hX;have B3:=zaa B2 BX;have BUX:=BUw.trans (B3.mono (by omega));clear hX;go_wp2_with fail;rw[<-HX.out];refine⟨Bz B3,?_⟩;refine zai rfl ?_;go_wp2_with fail;refine(zo7 _ _ cp1 _ _ cp2 _ cp3 x2 x1 o_ w2.heap.size 0 1 Ai n ci xi n X ((sl_R.1 (tSS.later hp1U (zaa bel1 B3)))) ((sl_R.1 (tNS.later hp2U (zaa bel1 B3)))) ((tS_R.1 (tS.later hp3U (zaa bel1 B3))).ri) hPF ho hnz2 x0 (hxw.below B3).1 HI2.out (by omega) (by omega)).mono ?_;rintro e w4 ⟨g4,c4',A4',c4'',rfl,cg4,rg4,bel4⟩;have B4:=zaa B3 bel4;have s4:=bel4.size;have own4:=own2.below (zaa BX bel4);go_wp2_with fail;refine⟨Bz B4,?_⟩;refine zbc ?_;go_wp2_with (at_builtin;refine zcz zbu rfl _ _ rfl own4 rfl rg4 rfl (ints_oneCell _ _) (by unfold maxLen;simp;omega) (by simp;omega) (by omega) ?_;intro v5 w5 own5 gr5 bel5)
        go_meet
        have op5:OI 2 w1'.drew.heap.size w5 v5 (zcl x2 x1 (zbj x2) xi o_ n):=by
         unfold OI;rw[zgb];simpa using own5
        obtain⟨A10,c10,e10,r10⟩:=op5.shape;rw[zgb]at e10 r10;exact⟨A10,c10,e10,by rw[E.out];exact r10,B4.trans bel5⟩
       obtain⟨X,hX,BX,sX,x0,xf⟩:=zfv w1' (.slice Ai n ci) 24;have BXd:Below w1'.heap.size w1' X.drew:=zad BX 1;replace x0:X.drew.cell? ⟨w1'.heap.size,0,none⟩=some (.slice Ai n ci):=x0;have sXd:X.drew.heap.size=w1'.heap.size+1:=sX;obtain⟨X2,hX2⟩:∃X2,X2=X.drew:=⟨_,rfl⟩;rw[<-hX2]at x0 BXd sXd;rw[hX]at hX2;have HX:=Aq hX2;clear hX2 hX BX sX xf;go_wp2_with fail;rw[<-HX.out];refine⟨Bz BXd,?_⟩;refine zai rfl ?_;go_wp2_with fail;refine(zc5 0 _ (by omega) (by omega)).mono ?_;rintro e w2 ⟨v2,rfl,own2,bel2⟩;replace own2:OI 2 X2.heap.size w2 v2 []:=own2;have B3:=zaa BXd bel2;have s2:=bel2.size;have x02:w2.cell? ⟨w1'.heap.size,0,none⟩=some (.slice Ai n ci):=(by rw[bel2.cell (by show w1'.heap.size<_;omega)];exact x0);go_wp2_with fail;refine⟨Bz B3,?_⟩;refine zai rfl ?_;go_wp2_with fail;refine(zo7 _ _ cp1 _ _ cp2 _ cp3 x2 x1 o_ w1'.heap.size 0 1 Ai n ci xi n w2 ((sl_R.1 (tSS.later hp1U (zaa bel1 B3)))) ((sl_R.1 (tNS.later hp2U (zaa bel1 B3)))) ((tS_R.1 (tS.later hp3U (zaa bel1 B3))).ri) hPF ho hnz2 x02 (hxw.below B3).1 HI2.out (by omega) (by omega)).mono ?_;rintro e w4 ⟨g4,c4',A4',c4'',rfl,cg4,rg4,bel4⟩;have B4:=zaa B3 bel4;have s4:=bel4.size;have own4:=own2.below bel4;go_wp2_with fail;refine⟨Bz B4,?_⟩;refine zbc ?_;go_wp2_with (at_builtin;refine zcz zbu rfl _ _ rfl own4 rfl rg4 rfl (ints_oneCell _ _) (by unfold maxLen;simp;omega) (by simp;omega) (by omega) ?_;intro v5 w5 own5 gr5 bel5)
       go_meet
       have op5:OI 2 X2.heap.size w5 v5 (zcl x2 x1 (zbj x2) xi o_ n):=by
        unfold OI;rw[zgb];simpa using own5
       obtain⟨A10,c10,e10,r10⟩:=op5.shape;rw[zgb]at e10 r10;exact⟨A10,c10,e10,by rw[E.out];exact r10,B4.trans (bel5.mono (by omega))⟩
     case rest=>
      obtain⟨wx,rfl⟩:∃u_:Yw,u_=wc:=⟨_,rfl⟩;obtain⟨A10,c10,rfl,r10,Bx⟩:=hcut;obtain⟨Wq,rfl⟩:∃Wq:Yw,Wq=wr:=⟨_,rfl⟩;have sBx:=Bx.size;have BUx:Below Wq.heap.size Wq wx:=BUw.trans (Bx.mono (by omega));have u1x:wx.cell? ⟨Wq.heap.size,1,none⟩=some (.int .i64 l):=(by rw[Bx.cell (by show Wq.heap.size<_;omega),bel1.cell (by show Wq.heap.size<_;omega)];exact u1);have u2x:wx.cell? ⟨Wq.heap.size,2,none⟩=some (.slice A9 n9 c9):=(by rw[Bx.cell (by show Wq.heap.size<_;omega),bel1.cell (by show Wq.heap.size<_;omega)];exact u2);obtain⟨so1,so2,so3⟩:=zhj hO.mix (i:=k) (by rw[Q5.out];exact hlt);rw[hst.out]at so1 so2 so3;simp only at so1 so2 so3;obtain⟨ln,rfl⟩:∃ln:Nat,l=(ln:Int):=⟨l.toNat,by omega⟩;have husl:us.length=n9:=hra.len;have HUSL:=Aq husl;have HSO:=Aq so3;have hn9b:n9<=4:=(by omega);have HOUT:=Aq (show zfx L ps ms k (zbx L src ts fs ps ms k).1=zcp (M.fx (a0,x1,x2,x3) xi n) (ln:Int) n by rw[zfx,hpa.out,hst.out,HXI.out,<-HN.out]);clear so3 husl u0 u1 u2 uf hp1U hp2U hp3U hp1 hp2 hp3 f0 f1 f2 f3 e0 e1 e2;go_wp2_with fail;refine(zlc A10 n c10 _ ln wx r10 (by omega) (by omega)).mono ?_;rintro e Z ⟨v2,rfl,own2,bel2⟩;rw[<-HOUT.out]at own2;generalize hOU:zfx L ps ms k (zbx L src ts fs ps ms k).1=OUT at *;have hol:OUT.length=n:=(by rw[HOUT.out,zgd]);have HOL:=Aq hol;have HOU:=Aq hOU;obtain⟨A11,c11,e11,hle11,-⟩:=zb0 own2;rw[hol]at e11 hle11;subst e11;have os2:=tS_O.2 (OI.os own2);have sZ:=bel2.size;have BZq:Below Wq.heap.size Wq Z:=BUx.trans (bel2.mono BUx.size);have BZK:Below K.heap.size K Z:=B3K.trans (BZq.mono sB3);have sqx:=BUx.size
      have ocZ:CR (fun x=>x=K.heap.size\/G x\/vR.ownBlock=some x\/Iv wx.heap.size Z.heap.size x) 24 K.heap.size Z (.slice (some ⟨K.heap.size,0,none⟩) n4 n4) (zfc L ms k OUT (zbx L src ts fs ps ms k).1 0):=((oc.below BUx).more (F':=fun x=>x=K.heap.size\/G x\/vR.ownBlock=some x\/Iv wx.heap.size Z.heap.size x) (fun x hx=>by
       rcases hx with h|h|h|h
       ·exact .inl (.inl h)
       ·exact .inl (.inr (.inl h))
       ·exact .inl (.inr (.inr h))
       exact .inr h.1)).below bel2
      have u2Z:Z.cell? ⟨Wq.heap.size,2,none⟩=some (.slice A9 n9 c9):=(by rw[bel2.cell (by show Wq.heap.size<_;omega)];exact u2x);have u1Z:Z.cell? ⟨Wq.heap.size,1,none⟩=some (.int .i64 (ln:Int)):=(by rw[bel2.cell (by show Wq.heap.size<_;omega)];exact u1x);have hvR:∀x,vR.ownBlock=some x->V.heap.size<=x/\x<Wq.heap.size:=fun x hx=>Gq oR x hx
      clear hol hOU oc;go_wp2_with fail
      go_loopw [130] (fun i wr=>∃j:Nat,i=.int .i64 j/\j<=n9/\CR (fun x=>x=K.heap.size\/G x\/vR.ownBlock=some x\/Iv wx.heap.size Z.heap.size x) 24 K.heap.size wr (.slice (some ⟨K.heap.size,0,none⟩) n4 n4) (zfc L ms k OUT (zbx L src ts fs ps ms k).1 j)/\Chg (fun x=>x=K.heap.size) Z wr) (fun i _=>n9-(intOf i).toNat)
      case atStart=>exact⟨0,rfl,by omega,ocZ,Chg.refl _ _⟩
      case round=>
       clear ocZ;obtain⟨j,rfl,hj,oc,ch⟩:=hrel;have sch:=ch.size;have BKr:Below K.heap.size K wr:=BZK.trans (ch.toBelow (fun x hx=>by omega) (by omega))
       by_cases hlt2:j<n9
       ·obtain⟨b2,o2,⟨p0_,p1_⟩,rfl,hab2,X2,hdd⟩:=(hra.below ((BZq.mono sB3).trans (ch.toBelow (fun x hx=>by omega) (by omega)))).at zf6 (by decide) hlt2;have d0:wr.cell? ⟨b2,o2+j*2,none⟩=some (.int .i64 p0_):=hdd 0 _ rfl;have d1:wr.cell? ⟨b2,o2+j*2+1,none⟩=some (.int .i64 p1_):=hdd 1 _ rfl;have hso:=HSO.out j p0_ p1_ X2.out;rw[Q5.out]at hso;have hdl:=zx9 hO.mix (i:=k) (j:=j) (by rw[Q5.out];exact hlt) (p0:=p0_) (p1:=p1_) (by rw[hst.out];exact X2.out);have HSD:=Aq (show ((zbn ms k).2.2[j]?).getD (0,0)=(p0_,p1_)by rw[hst.out,X2.out];rfl);obtain⟨q,rfl⟩:∃q:Nat,p0_=(q:Int):=⟨p0_.toNat,by omega⟩;have hqn:q<n4:=(by omega);obtain⟨dd,hdd2⟩:∃dd:Nat,zbt ms (q:Int).toNat-zbt ms k-(zbn ms k).2.1=(dd:Int):=⟨(zbt ms (q:Int).toNat-zbt ms k-(zbn ms k).2.1).toNat,by omega⟩;rw[hdd2]at hdl;have hddb:dd<=1024:=(by omega);obtain⟨bD,oD,cD',AD',cDD,xD,eD',hbD,-,hD1,hD2,hD3,hD4⟩:=RD.at (k:=k) (by rw[HLD.out];exact hlt);simp only[Cz]at eD';obtain⟨rfl,-,-⟩:=eD';have hxD:zal (zdn ms) k=xD:=zih hD1;rw[hxD]at hdl;have hjD:j<xD.length:=(Bk.1 hdl.1).1;obtain⟨bd,od,yD,rfl,hbd,-,hyD,hcD⟩:=hD3.at hjD;obtain rfl:yD=(dd:Int):=Option.some.inj (hyD.symm.trans hdl.1);obtain⟨lD,hlD⟩:∃lD,lD=xD.length:=⟨_,rfl⟩;rw[<-hlD]at hD4 hjD;have HDL:=Aq (show M.i_ (zal (zdn ms) k) j=(dd:Int)by rw[hxD,M.i_,hdl.1];rfl);obtain⟨U2,hU2,GU2,sU2,t0,t1,tf⟩:=zyc wr (.int .i64 (q:Int)) (.int .i64 p1_) 160;have HU2:=Aq hU2;have BKU:Below K.heap.size K U2:=BKr.trans (GU2.mono BKr.size);have hio:=zpk hO.mix (i:=k) (by rw[Q5.out];exact hlt) (out:=OUT) io1 j (by rw[hst.out];show j<=us.length;rw[HUSL.out];omega);have ocU:=oc.below GU2;obtain⟨A',c',xq,hx1,hx2,hx3,hx4,hx5⟩:=ocU.at (k:=q) hqn;have hxq:zal (zfc L ms k OUT (zbx L src ts fs ps ms k).1 j) q=xq:=zih hx1;have hxl2:xq.length=n:=(by rw[<-hxq,(hio.cel (by rw[Q5.out];exact hqn)).1,HN.out]);rw[hxl2]at hx2 hx3 hx4;have HXQ:=Aq hxq;have cD1:U2.cell? ⟨bD,oD+k,none⟩=some (.slice (some ⟨bd,od,none⟩) lD cDD):=(by rw[BKU.cell (by show bD<_;omega)];exact hD4);have cD2:U2.cell? ⟨bd,od+j,none⟩=some (.int .i64 (dd:Int)):=(by rw[BKU.cell (by show bd<_;omega)];exact hcD);have y1:=Ag t0;have y2:=Ag t1;have yI:=Ag hx4;have yD1:=Ag cD1;have yD2:=Ag cD2;have D4:Below U2.heap.size U2 U2.drew:=zad (Aw _ _) 1;have hd4:U2.drew.heap.size=U2.heap.size:=rfl;have ownd:OI 2 wx.heap.size U2 (.slice A11 n c11) OUT:=(own2.chg ch (fun x hx=>by have:=(Gq own2 x hx).1;omega)).below GU2;have r11:=(ownd.below D4).ri';have k0:(0:Int)<=(j:Int):=(by omega);have k1_:(j:Int)<(n9:Int):=(by omega);have k2_:(j:Int)<(lD:Int):=(by omega);have k3_:(0:Int)<=(q:Int):=(by omega);have k4_:(q:Int)<(n4:Int):=(by omega);have lwb:b2<wr.heap.size:=(by have:=BKr.size;omega);have lwu:wr.heap.size<U2.heap.size:=(by omega);clear hU2 hx1 hxq hxl2 hD1 hxD hyD hdl hdd2 hlD sU2 tf hdd ownd;go_wp2_with fail;rw[<-HU2.out]
        (refine zct [0,1,3,4,8,10,11,12,13,15] [2,5,6,7,9,14,16,17] 3 (.one 18 (.one 19 (.first 20 .rest))) [21] [21] (by kernel_rfl) (by kernel_rfl) ?_;simp only[zak];simp only[List.filterMap,By,Bg];(repeat (go_big_quiet_step (fail)));refine Cv ?_;(repeat (go_big_quiet_step (fail)));refine Cv ?_)
        refine zai rfl ?_;go_wp2_with fail;refine(zlc A11 n c11 OUT dd _ r11 (by omega) (by omega)).mono ?_;rintro e w5 ⟨v5,rfl,own5,bel5⟩;obtain⟨A12,c12,e12,r12⟩:=own5.shape;rw[zgd]at e12 r12;subst e12;have B5:=zaa D4 bel5;have s5:=bel5.size;go_wp2_with fail;refine⟨Bz B5,?_⟩;refine zai rfl ?_;go_wp2_with fail;refine(zpg A' A12 n c' n c12 xq _ p1_ _ (hx3.below B5).1 r12 (by omega) (by omega)).mono ?_;rintro e w6 ⟨v6,rfl,own6,bel6⟩;have hal:(zc9 xq (zcp OUT (dd:Int) n) p1_).length=n:=(by rw[zh1,hx3.1.len,zgd,Nat.max_self]);obtain⟨A6,c6,e6,h6,-⟩:=zb0 own6;rw[hal]at e6 h6;subst e6;have HAL:=Aq hal;have B6:=zaa B5 bel6;have s6:=bel6.size;clear hal;go_wp2_with fail;refine⟨Bz B6,?_⟩
        (refine za6 rfl ?_;(repeat (go_big_quiet_step (fail)));refine Cv ?_)
        refine zbc ?_;obtain⟨A'',c'',xq2,hv1,hv2,hv3,hv4,hv5⟩:=(ocU.below B6).at (k:=q) hqn
        have C6:=(ocU.below B6).set (.inl rfl) q (A':=A6) (c':=c6) (y:=zc9 xq (zcp OUT (dd:Int) n) p1_) (by rw[HAL.out];exact h6) (by
         rw[HAL.out];refine RN.of_oi own6 (fun x hx=>?_);rcases hx with h|h|h|h
         ·omega
         ·have:=(hG x h).2.1;omega
         ·have:=(hvR x h).2;omega
         have:=h.2;omega)
        rw[HAL.out]at C6;have HC6:=Aq C6;clear C6 hv1;go_wp2_with fail;refine⟨⟨j+1,by go_num,by omega,?_,((ch.trans (zee GU2)).trans (zee B6)).trans (Chg.set w6 _ q _ rfl)⟩,by simp[intOf];omega⟩;rw[zfc,zhi,HSD.out,HDL.out];simp only[Fq];rw[HXQ.out,<-HN.out];exact HC6.out
       obtain rfl:n9=j:=by omega
       have hstp:zbx L src ts fs ps ms (k+1)=(zfc L ms k OUT (zbx L src ts fs ps ms k).1 n9,(zbx L src ts fs ps ms k).2++[OUT]):=by
        rw[zbx,HOU.out,hst.out];show (zfc L ms k OUT _ us.length,_)=_
        rw[HUSL.out]
       have HSTP:=Aq hstp;have chq:Chg (fun x=>x=K.heap.size) Wq wr:=(zee BZq).trans ch;have swr:=chq.size;have oO':=oO.chg chq (fun b hb (e:b=_)=>by have:=(hG b hb).1;omega);have os2':=Ty.ochg tS os2 ch (fun b hb (e:b=_)=>by have:=hb.1;omega);have oR':=oR.chg chq (fun x hx (e:x=_)=>by have:=(hvR x hx).1;omega);have hll:((zbx L src ts fs ps ms k).2).length=k:=io2.len;have hll':((zbx L src ts fs ps ms k).2).length<=1000000:=(by omega);have hee0:=zgx hO.mix k;obtain⟨ee,hee⟩:∃ee:Nat,zbt ms k=(ee:Int):=⟨(zbt ms k).toNat,by omega⟩;have hee2:ee<=1024:=(by omega)
       have hqe:(zcj ms)[k]?=some (ee:Int):=by
        have:k<(zcj ms).length:=(by rw[HLE.out];exact hlt);rw[<-hee,zbt,M.i_,Ak this];rfl
       have HCQ:=HCE.out k _ hqe;have u1r:wr.cell? ⟨Wq.heap.size,1,none⟩=some (.int .i64 (ln:Int)):=(by rw[ch.cell (by omega) (by omega)];exact u1Z)
       have hrk:(zef ms)[k]?=some ((ee:Int)+(ln:Int)):=by
        have:k<ms.length:=(by rw[Q5.out];exact hlt);rw[zef,Fv,List.getElem?_range this];simp only[Option.map_some];rw[hee,hst.out]
       have HRK:=Aq (M.take_at hrk);have hrl:((zef ms).take k).length<=1000000:=(by rw[Ey];omega);clear hstp hll hee0 hee hqe hrk;go_wp2_with (at_builtin;refine za8 ei_S #[.slice A11 n c11] rfl _ _ rfl oO' os2' (fun b hb hb2=>by have:=(hG b hb).2.1;have:=hb2.1;omega) rfl rfl (by unfold maxLen;omega) (by omega) ?_;intro v3 w4 own4 ch4);have s4:=ch4.size;have BK4:Below K.heap.size K w4:=BKr.trans (ch4.toBelow (fun b hb=>by have:=(hG b hb).1;omega) (by omega));have cE4:w4.cell? ⟨bE,oE+k,none⟩=some (.int .i64 (ee:Int)):=(by rw[BK4.cell (by show bE<_;omega)];exact HCQ);have u14:w4.cell? ⟨Wq.heap.size,1,none⟩=some (.int .i64 (ln:Int)):=(by rw[ch4.cell (by omega) (fun h=>by have:=(hG _ h).2.1;omega)];exact u1r);have oR4:=oR'.chg ch4 (fun x hx h=>(hG x h).2.2 hx);have yE:=Ag cE4;have yl:=Ag u14;have D4:Below w4.heap.size w4 w4.drew:=zad (Aw _ _) 1;have hd4:w4.drew.heap.size=w4.heap.size:=rfl;have oRd:=oR4.below D4;have hwr_:=IntWalk.i64_in ((ee:Int)+(ln:Int)) (by omega)
       (refine zct [0,1,2,3,5] [4,6,7] 1 (.one 8 .rest) [9] [9,10] (by kernel_rfl) (by kernel_rfl) ?_;simp only[zak];simp only[List.filterMap,By,Bg];(repeat (go_big_quiet_step (fail)));refine Cv ?_;(repeat (go_big_quiet_step (fail)));refine Cv ?_)
       refine zai rfl ?_;go_wp2_with fail;refine⟨Bz (zaa D4 ((Aw _ _).alloc (Aj _) _)),?_⟩;refine zbc ?_;go_wp2_with (at_builtin;refine zo6 zbu rfl _ _ rfl oRd rfl rfl rfl (by unfold maxLen;omega) (by omega) (by omega) ?_;intro v5 w5 own5 gr5 bel5 hb5);have op5:=OI.push own5;have s5:=gr5.size;have ch5:Chg (fun x=>vR.ownBlock=some x) w4 w5:=(zee D4).trans (Chg.of_grown gr5 (fun x hx=>hx))
       have own5':=own4.chg ch5 (fun b hb e=>by
        rcases hb with h|h|h
        ·exact(hG b h).2.2 e
        ·have:=(hvR b e).2;have:=h.1;omega
        have:=(hvR b e).2;omega)
       have nG:∀x,(G x\/Iv wx.heap.size Z.heap.size x\/wr.heap.size<x/\x<w4.heap.size)->V.heap.size<=x/\x<w4.heap.size:=fun x hx=>by
        rcases hx with h|h|h
        ·have:=hG x h;omega
        ·have:=h.1;have:=h.2;omega
        omega
       have oc5:=(((oc.more (F':=fun x=>x=K.heap.size\/(G x\/Iv wx.heap.size Z.heap.size x\/wr.heap.size<x/\x<w4.heap.size)\/v5.ownBlock=some x\/vR.ownBlock=some x) (fun x hx=>by
        rcases hx with h|(h|h|h)|h|h
        ·exact .inl (.inl h)
        ·exact .inl (.inr (.inl h))
        ·exact .inl (.inr (.inr (.inr h)))
        ·exact .inr (by omega)
        ·rcases hb5 with h5|h5
         ·exact .inl (.inr (.inr (.inl (h5▸h))))
         have:=h5 x h;exact .inr (by omega)
        ·exact .inl (.inr (.inr (.inl h))))).chg ch4 (fun x hx=>.inr (.inl (.inl hx))) (fun x hx h=>by simp only[Value.ownBlock,Dq]at hx;have:=(hG x h).1;omega)).chg ch5 (fun x hx=>.inr (.inr (.inr hx))) (fun x hx h=>by simp only[Value.ownBlock,Dq]at hx;have:=(hvR x h).1;omega)).sub (F':=fun x=>x=K.heap.size\/(G x\/Iv wx.heap.size Z.heap.size x\/wr.heap.size<x/\x<w4.heap.size)\/v5.ownBlock=some x) (fun x hx=>by
        rcases hx with h|h|h
        ·exact .inl h
        ·exact .inr (.inl h)
        exact .inr (.inr (.inl h)))
       refine⟨⟨k+1,by go_num,by omega,_,?_,?_,fun x hx=>⟨(nG x hx).1,by have:=(nG x hx).2;omega,fun e=>?_⟩,?_,BK4.trans (ch5.toBelow (fun b hb=>by have:=(hvR b hb).1;omega) (by omega)),by omega⟩,by simp[intOf];omega⟩
       ·rw[HSTP.out];exact own5'
       ·rw[HRK.out];exact op5
       ·rcases hb5 with h5|h5
        ·rw[h5]at e;rcases hx with h|h|h
         ·exact(hG x h).2.2 e
         ·have:=(hvR x e).2;have:=h.1;omega
         have:=(hvR x e).2;omega
        have:=h5 x e;have:=(nG x hx).2;omega
       rw[HSTP.out];exact oc5
    obtain rfl:n4=k:=by omega
    have hlen:(zef ms).length=n4:=(by rw[zef,Ff,List.length_range];exact Q5.out);rw[Cg (by rw[hlen];exact Aj _)]at oR;clear hlen;go_wp2_with fail;go_ret2;refine⟨_,_,G,rfl,?_,oR.base (by omega),fun x hx=>⟨by have:=(hG x hx).1;omega,(hG x hx).2.1,(hG x hx).2.2⟩,BK.trans (B3K.mono sK)⟩;rw[zc3,Q5.out];exact oO
set_option synthInstance.maxSize 2000
set_option synthInstance.maxHeartbeats 400000
section
set_option synthInstance.maxSize 2000
set_option synthInstance.maxHeartbeats 400000
section
variable {L:Nat} {src:List (List Int)} {ts:List (List zap)} {fs:List Int} {ps:List zae} {ms:List zag}
theorem zfz(h:M.SO L src ts fs ps ms):(zc3 L src ts fs ps ms).length=ms.length:=(zju h _ (Aj _)).2.len
theorem zpt(h:M.SO L src ts fs ps ms){k:Nat}(hk:k<ms.length):(zal (zc3 L src ts fs ps ms) k).length=M.nT L ms:=((zju h _ (Aj _)).2.cel hk).1
theorem zpu{k:Nat}(hk:k<ms.length):(zef ms)[k]?=some (zbt ms k+(zbn ms k).2.1):=by
 rw[zef,Fv,List.getElem?_range hk]
 rfl
theorem zpv:(zef ms).length=ms.length:=by rw[zef,Ff,List.length_range]
end
theorem zyd(L:Nat)(A1:Yo)(n1 c1:Nat)(A2:Yo)(n2 c2:Nat)(A3:Yo)(n3 c3:Nat)(A4:Yo)(n4 c4:Nat)(A5:Yo)(n5 c5:Nat)(src:List (List Int))(ts:List (List zap))(fs:List Int)(ps:List zae)(ms:List zag)(w:Yw)
 (h1:tSS.R w w.heap.size [.slice A1 n1 c1] src) (h2:tTS.R w w.heap.size [.slice A2 n2 c2] ts) (h3:tS.R w w.heap.size [.slice A3 n3 c3] fs) (h4:tPS.R w w.heap.size [.slice A4 n4 c4] ps) (h5:tM.R w w.heap.size [.slice A5 n5 c5] ms) (hn:hZ.sz (((L:Int),src,ts,fs,ps,ms):Sess)<=100000000) (hO:M.SO L src ts fs ps ms) :
 Calls Tryz.prog 55 #[.agg #[.int .i64 L,.slice A1 n1 c1,.slice A2 n2 c2,.slice A3 n3 c3,.slice A4 n4 c4,.slice A5 n5 c5]] w (Ret1 2 w (zeg L src ts fs ps ms)):=by
 obtain⟨W,hW,B0,sW,p0,p1,p2,p3,p4,p5,pf⟩:=zcs w (.int .i64 L) (.slice A1 n1 c1) (.slice A2 n2 c2) (.slice A3 n3 c3) (.slice A4 n4 c4) (.slice A5 n5 c5) 38;have HW:=Aq hW;have lW:w.heap.size<W.heap.size:=by omega
 have Q5:=Aq (sl_R.1 h5).cap.1;have hmn:=zfa hO.mix;rw[Q5.out]at hmn;obtain⟨m,hm⟩:∃m:Nat,m=n5-1:=⟨_,rfl⟩;have HM:=Aq (show ((n5:Int)-1)=(m:Int)by omega);have hmw:IntKind.i64.wrap ((n5:Int)-1)=(n5:Int)-1:=IntWalk.i64_in _ (by omega);have hm':m<n5:=by omega
 have hMM:=Aq (show ms.length-1=m by rw[Q5.out];omega);have hT:=zjt hO.mix;obtain⟨T,hTT⟩:∃T:Nat,zd6 ms=(T:Int):=⟨(zd6 ms).toNat,by omega⟩;have hTb:T<=1100:=by omega
 have hL:=hO.l;have HT:=Aq hTT
 have hrl:(zef ms)[m]?=some (T:Int):=by
  rw[zpu (by rw[Q5.out];exact hm'),<-hTT,zya,hMM.out]
 have HRL:=Aq hrl;have hnT:=zld hO;clear hW sW hTT hm hrl hT
 go_enter Tryz.func55,Tryz.ntmps55
 go_wp2_with fail;rw[<-HW.out];refine(zps L _ _ c1 _ _ c2 _ _ c3 _ _ c4 _ _ c5 src ts fs ps ms W (tSS.later h1 B0) (tTS.later h2 B0) (tS.later h3 B0) (tPS.later h4 B0) (tM.later h5 B0) hn hO).mono ?_;rintro e K ⟨vO,vR,G,rfl,oO,oR,hG,bel⟩;have R:=RSN.of_os (F:=fun _=>False) oO (fun _ h=>h.elim);obtain⟨AO,cO,eO⟩:=R.shape;rw[zfz hO,Q5.out]at eO;subst eO;obtain⟨AR,cR,eR,rR⟩:=oR.shape;rw[zpv,Q5.out]at eR rR;subst eR;obtain⟨bR,oR_,rfl,hbR,hcR⟩:=zau rR (by omega);have cR_:=hcR m _ HRL.out;obtain⟨bO,oO_,cO',AX,cX,x,eO',hbO,-,hx1,hx2,hx3,hx4⟩:=R.at (k:=m) (by rw[zfz hO,Q5.out];exact hm');simp only[Cz]at eO';obtain⟨rfl,-,-⟩:=eO';have hxc:zal (zc3 L src ts fs ps ms) m=x:=zih hx1;have hxl:x.length=M.nT L ms:=by rw[<-hxc];exact zpt hO (by rw[Q5.out];exact hm')
 obtain⟨n,hnn⟩:∃n,n=M.nT L ms:=⟨_,rfl⟩;rw[<-hnn]at hxl hnT;rw[hxl]at hx2 hx3 hx4;have HXC:=Aq hxc;have sK:=bel.size;have lK:w.heap.size<K.heap.size:=by omega
 have q0:K.cell? ⟨w.heap.size,0,none⟩=some (.int .i64 L):=by rw[bel.cell (by show w.heap.size<_;omega)];exact p0
 have y0:=Ag q0;have yR:=Ag cR_;have yO:=Ag hx4;have D1:Below K.heap.size K K.drew:=zad (Aw _ _) 1;have hd1:K.drew.heap.size=K.heap.size:=rfl;have k0:(0:Int)<=(m:Int):=by omega
 have k1:(m:Int)<(n5:Int):=by omega
 have hx3':=hx3.below D1;clear hxc hnn hx1 hcR hxl;go_wp2_with fail;rw[HM.out]
 (refine zct [0,1,2,4,5,6,8] [3,7,9] 1 (.one 10 .rest) [11] [11] (by kernel_rfl) (by kernel_rfl) ?_;simp only[zak];simp only[List.filterMap,By,Bg];(repeat (go_big_quiet_step (fail)));refine Cv ?_;(repeat (go_big_quiet_step (fail)));refine Cv ?_)
 refine zai rfl ?_;go_wp2_with fail;refine(zpf AX n cX x T L _ hx3'.1 (by omega) (by omega) (by omega)).mono ?_;rintro e w2 ⟨v2,rfl,own2,bel2⟩;have B2:=zaa D1 bel2;go_wp2_with fail;refine⟨Bz B2,?_⟩;refine zbc ?_;go_wp2_with fail;go_ret;refine⟨_,rfl,?_,zaa B0 (zaa bel B2)⟩;rw[zeg,hMM.out,HXC.out,HT.out];exact own2.base (by omega)
def zff (x:Sess):List Int×Int:=if zbd x then(zeg x.1.toNat x.2.1 x.2.2.1 x.2.2.2.1 x.2.2.2.2.1 x.2.2.2.2.2,0)else([],1)
theorem zjv{L:Nat}{src:List (List Int)}{ts:List (List zap)}{fs:List Int}{ps:List zae}{ms:List zag}(h:zbd ((L:Int),src,ts,fs,ps,ms)=true):zff ((L:Int),src,ts,fs,ps,ms)=(zeg L src ts fs ps ms,0):=by
 rw[zff,h]
 rfl
theorem zpw{x:Sess}(h:zbd x=false):zff x=([],1):=by
 rw[zff,h]
 rfl
theorem zye(a0:Int)(A1:Yo)(n1 c1:Nat)(A2:Yo)(n2 c2:Nat)(A3:Yo)(n3 c3:Nat)(A4:Yo)(n4 c4:Nat)(A5:Yo)(n5 c5:Nat)(src:List (List Int))(ts:List (List zap))(fs:List Int)(ps:List zae)(ms:List zag)(w:Yw)
 (h1:tSS.R w w.heap.size [.slice A1 n1 c1] src) (h2:tTS.R w w.heap.size [.slice A2 n2 c2] ts) (h3:tS.R w w.heap.size [.slice A3 n3 c3] fs) (h4:tPS.R w w.heap.size [.slice A4 n4 c4] ps) (h5:tM.R w w.heap.size [.slice A5 n5 c5] ms) (hn:hZ.sz ((a0,src,ts,fs,ps,ms):Sess)<=100000000) :
 Calls Tryz.prog 14 #[.agg #[.int .i64 a0,.slice A1 n1 c1,.slice A2 n2 c2,.slice A3 n3 c3,.slice A4 n4 c4,.slice A5 n5 c5]] w (Ret2 2 w (zff (a0,src,ts,fs,ps,ms))):=by
 obtain⟨W,hW,B0,sW,p0,p1,p2,p3,p4,p5,pf⟩:=zcs w (.int .i64 a0) (.slice A1 n1 c1) (.slice A2 n2 c2) (.slice A3 n3 c3) (.slice A4 n4 c4) (.slice A5 n5 c5) 38;have HW:=Aq hW;have lW:w.heap.size<W.heap.size:=by omega
 have k1:=tSS.later h1 B0;have k2:=tTS.later h2 B0;have k3:=tS.later h3 B0;have k4:=tPS.later h4 B0;have k5:=tM.later h5 B0;clear hW;cases hok:zbd ((a0,src,ts,fs,ps,ms):Sess)
 ·have R:=Aq (zpw hok);have OK:=Aq hok;clear hok
  go_enter Tryz.func14,Tryz.ntmps14
  go_wp2_with fail;rw[<-HW.out];refine(zgg a0 _ _ c1 _ _ c2 _ _ c3 _ _ c4 _ _ c5 src ts fs ps ms W k1 k2 k3 k4 k5 hn).mono ?_;rw[OK.out];rintro e w1 ⟨rfl,bel1⟩;go_wp2_with fail;go_ret2;rw[R.out];exact⟨_,rfl,OI.nil _ _ _,zaa B0 bel1⟩
 obtain⟨L,rfl,hO⟩:=zjs hok;have R:=Aq (zjv hok);have OK:=Aq hok;clear hok
 go_enter Tryz.func14,Tryz.ntmps14
 go_wp2_with fail;rw[<-HW.out];refine(zgg (L:Int) _ _ c1 _ _ c2 _ _ c3 _ _ c4 _ _ c5 src ts fs ps ms W k1 k2 k3 k4 k5 hn).mono ?_;rw[OK.out];rintro e w1 ⟨rfl,bel1⟩;have s1:=bel1.size;have P0:=(bel1.cell (p:=⟨w.heap.size,0,none⟩) (by show w.heap.size<_;omega)).trans p0;have P1:=(bel1.cell (p:=⟨w.heap.size,1,none⟩) (by show w.heap.size<_;omega)).trans p1;have P2:=(bel1.cell (p:=⟨w.heap.size,2,none⟩) (by show w.heap.size<_;omega)).trans p2;have P3:=(bel1.cell (p:=⟨w.heap.size,3,none⟩) (by show w.heap.size<_;omega)).trans p3;have P4:=(bel1.cell (p:=⟨w.heap.size,4,none⟩) (by show w.heap.size<_;omega)).trans p4;have P5:=(bel1.cell (p:=⟨w.heap.size,5,none⟩) (by show w.heap.size<_;omega)).trans p5;go_wp2_with fail;refine(zyd L _ _ c1 _ _ c2 _ _ c3 _ _ c4 _ _ c5 src ts fs ps ms w1 (tSS.later k1 bel1) (tTS.later k2 bel1) (tS.later k3 bel1) (tPS.later k4 bel1) (tM.later k5 bel1) hn hO).mono ?_;rintro e w2 ⟨v,rfl,own2,bel2⟩;go_wp2_with fail;go_ret2;rw[R.out];exact⟨_,rfl,own2.base (by omega),zaa B0 (zaa bel1 bel2)⟩
end
section
set_option synthInstance.maxSize 2000
set_option synthInstance.maxHeartbeats 400000
section
variable {ND:NO->Nat->Bool} {NN:zae->Nat}
theorem zyf(hND:∀p j,ND p j=true↔M.Rch p.1 p.2 j){p:zae}(hp:zas p=true){xs:List Int}(hx:xs.all M.smp=true)(n:Nat):M.fx (zbp ND NN p) xs n=M.fx p xs n:=by
 rw[zbp]
 split
 ·rename_i h;rw[h]
 rename_i h0
 obtain⟨h1,h2,h3⟩:=zgy hp h0;obtain⟨g1,g2,g3,g4,g5,g6⟩:=zle hND hp h0 (NN p);obtain⟨k1,k2,k3⟩:=zgy g1 g2;rw[M.fx,if_neg g2,M.fx,if_neg h0];exact zt9 hND (zgu h1 h2) (zh6 h1) hx (by omega) (NN p) (zgu k1 k2) n
variable {L:Nat} {src:List (List Int)} {ts:List (List zap)} {fs:List Int} {ps:List zae} {ms:List zag}
theorem zyg(i:Nat):zfb (ps.map (zbp ND NN)) i=zbp ND NN (zfb ps i):=by
 rw[zfb,zfb,Fv];cases ps[i]? with
 | none=>
  show M.p0=zbp ND NN M.p0
  rw[zbp,if_pos rfl]
 | some p=>rfl
theorem zyh(h:M.SO L src ts fs ps ms)(i:Nat):zas (zfb ps i)=true:=by
 rw[zfb];cases e:ps[i]? with
 | none=>simp[zas]
 | some p=>exact h.ef p (Eg e)
theorem zyi(hND:∀p j,ND p j=true↔M.Rch p.1 p.2 j)(h:M.SO L src ts fs ps ms):∀i,i<=ms.length->zbx L src ts fs (ps.map (zbp ND NN)) ms i=zbx L src ts fs ps ms i:=by
 intro i
 induction i with
 | zero=>intro _;rfl
 | succ i ih=>
  intro hi;have e:=ih (by omega);have hs:=((zju h i (by omega)).1.cel (k:=i) (by omega)).2
  have eO:∀ins,(zal ins i).all M.smp=true->zfx L (ps.map (zbp ND NN)) ms i ins=zfx L ps ms i ins:=fun ins hin=>by
   rw[zfx,zfx,zyg,zyf hND (zyh h i) hin]
  rw[zbx,zbx,e,eO _ hs]
theorem zyj(hND:∀p j,ND p j=true↔M.Rch p.1 p.2 j)(h:M.SO L src ts fs ps ms):zeg L src ts fs (ps.map (zbp ND NN)) ms=zeg L src ts fs ps ms:=by
 rw[zeg,zeg,zc3,zc3,zyi hND h _ (Aj _)]
end
end
theorem Chg.cell1{F:Nat->Prop}{a b:Yw}(h:Chg F a b){p:Addr}(hk:p.block<a.heap.size)(hn:¬F p.block):b.cell? p=a.cell? p:=
 Ek (h.block p.block hk hn)
theorem Chg.frozen1{F:Nat->Prop}{a b:Yw}(h:Chg F a b){p:Addr}(hk:p.block<a.heap.size)(hn:¬F p.block):b.frozen? p=a.frozen? p:=
 World.frozen?_of_block (h.block p.block hk hn)
structure ChgTo (F:Nat->Prop) (u:Yw) where
 w:Yw
 h:Chg F u w
instance (F:Nat->Prop) (u:Yw):Nonempty (ChgTo F u):=⟨⟨u,Chg.refl _ _⟩⟩
theorem ChgTo.cell{F:Nat->Prop}{u:Yw}{a:Addr}{v:Value}(h:u.cell? a=some v)(hn:¬F a.block)(p:ChgTo F u):p.w.cell? a=some v:=by
 rw[p.h.cell1 (Cj _ _ h) hn];exact h
theorem zc4{P:Program}{id:Nat}{Q:Exit->Act->Yw->Prop}{a:Act}{w:Yw}{l:List Oper}(G:Nat->Prop)(A F:List Nat)(m:Nat)(t:Tw)(T R:List Nat)(hm:P.follows .mixedOrders=true)
 (hB:(zjj .any l.toArray A F m t T R&&(A++F++R).all (fun i=>decide (i<l.length))&&(zak l A).all zcc&&(zak l F).all zcc)=true)
 (h:wpQuiet P l.toArray (fun _=>True) (fun a'=>wpQuiet P l.toArray (fun w'=>∃p:ChgTo G w,w'=p.w) (fun a'=>seqW P l (fun w'=>∃p:ChgTo G w,w'=p.w) (fun x a w=>x=.normal/\Q .normal a w) (zak l R) t a' w.drew) (zak l F) a') (zak l A) a) :
 (Code.region id l.toArray true).wp P Q a w:=
 zor (D:=fun w'=>∃p:ChgTo G w,w'=p.w) A F m t T R hm hB ⟨⟨w.drew,Chg.of_below (zad (Aw _ _) 1) _⟩,rfl⟩ h
theorem OH.fill2{α:Type}{t:Ty α}{e:TypeId}{w:Yw}{F:Nat->Prop}{v:Value}{xs:List α}{css:List (List Value)}{Fs:Nat->Nat->Prop}{k:Nat}(h:OH t e w F v xs css Fs k){cs:List Value}(hcs:css[k]?=some cs){y:α}{Fe:Nat->Prop}(hy:t.O w Fe cs y)(hd:∀b,Fe b->Fs k b\/¬F b):
 OS t e w (fun b=>F b\/Fe b) v (xs.set k y):=by
 obtain⟨h1,h2,h3,h4,h5,h6,h7⟩:=h;refine⟨css,fun i=>if i=k then Fe else Fs i,by rw[Fx];exact h1,by rw[Fx];exact h2,fun g hg=>.inl (h4 g hg),fun i b hb=>?_,fun i j b hne hi hj=>?_,fun i hi hi'=>?_⟩
 ·change (if i=k then Fe else Fs i) b at hb
  by_cases hik:i=k
  ·rw[if_pos hik]at hb;refine⟨.inr hb,fun hg=>?_⟩;rcases hd b hb with h8|h8
   ·exact(h5 k b h8).2 hg
   exact h8 (h4 b hg)
  rw[if_neg hik]at hb;exact⟨.inl (h5 i b hb).1,(h5 i b hb).2⟩
 ·change (if i=k then Fe else Fs i) b at hi;change (if j=k then Fe else Fs j) b at hj
  by_cases hik:i=k
  ·rw[if_pos hik]at hi;rw[if_neg (fun e=>hne (hik.trans e.symm))]at hj;rcases hd b hi with h8|h8
   ·exact h6 k j b (fun e=>hne (hik.trans e)) h8 hj
   exact h8 (h5 j b hj).1
  rw[if_neg hik]at hi
  by_cases hjk:j=k
  ·rw[if_pos hjk]at hj;rcases hd b hj with h8|h8
   ·exact h6 k i b (fun e=>hik e.symm) h8 hi
   exact h8 (h5 i b hi).1
  rw[if_neg hjk]at hj;exact h6 i j b hne hi hj
 by_cases hik:i=k
 ·subst hik;rw[List.getElem_set_self];rw[Ak hi',Dq]at hcs;rw[hcs];simpa using hy
 rw[List.getElem_set_ne (fun e=>hik e.symm)];simpa [hik]using h7 i (by rw[Fx]at hi;exact hi) hi' hik
def zlh (Ls:List (List UInt8)) (X:List zag):Prop:=X.length=Ls.length/\∀(i:Nat) (x:zag) (L:List UInt8),X[i]?=some x->Ls[i]?=some L->x.1.size<=L.length/\x.2.2.length<=L.length
theorem zyk:∀{Ls:List (List UInt8)} {X:List zag},zlh Ls X->hM.sz X<=Ls.length+2*(Ls.map List.length).sum:=by
 have key:∀(Ls:List (List UInt8)) (X:List zag),zlh Ls X->hSt.szL X<=2*(Ls.map List.length).sum:=by
  intro Ls
  induction Ls with
  | nil=>
   intro X h;have:X=[]:=List.eq_nil_of_length_eq_zero (by rw[h.1];rfl);rw[this];simp[Hs.szL]
  | cons L Ls ih=>
   intro X h;cases X with
   | nil=>have:=h.1;simp at this
   | cons x X=>
    have h0:=h.2 0 x L rfl rfl;have hr:=ih X ⟨by have:=h.1;simpa using this,fun i y M hy hM=>h.2 (i+1) y M (by simpa using hy) (by simpa using hM)⟩;obtain⟨s,l,us⟩:=x;rw[Hs.szL,zir];simp only[List.map_cons,List.sum_cons];simp only at h0;omega
 intro Ls X h;show X.length+hSt.szL X<=_
 have:=key Ls X h;have:=h.1;omega
theorem zfg(b lo:Nat)(A:Yo)(n c:Nat)(code:List UInt8)(K:Nat)(m:Int)(w:Yw)(h:Src w b lo A n c code K)(hK:K<=100000000000)(hm:m<=65536):
 Calls Tryz.prog 106 #[.pointer (some ⟨b,0,none⟩),.int .i64 m] w fun e w'=>∃r,e=.returned (.bool r)/\Src w' b lo A n c code (K+2)/\Mid b (b+1) w w':=by
 go_enter Tryz.func106,Tryz.ntmps106
 go_wp2_with fail;refine(zbg b lo A n c code K m w h hK hm).mono ?_;rintro e w1 ⟨v,rfl,-,s1,m1⟩;go_wp2;go_ret;exact⟨_,rfl,s1,m1⟩
theorem zyl(b lo:Nat)(A:Yo)(n c:Nat)(code:List UInt8)(K:Nat)(g m d:Nat)(w:Yw)(h:Src w b lo A n c code K)(hK:K<=100000000000)(hm:0<m/\m<=60000)(hg:g≠b)(hgw:g<w.heap.size)
 (hc:∀j,j<m->∃s:ByteArray,s.size<=6/\w.cell? ⟨g,j,none⟩=some (.string s)) :
 Calls Tryz.prog 166 #[.pointer (some ⟨b,0,none⟩),.slice (some ⟨g,0,none⟩) m d] w fun e w'=>∃s:ByteArray,e=.returned (.string s)/\s.size<=6/\Src w' b lo A n c code (K+2)/\Mid b (b+1) w w':=by
 have HC:=Aq hc;clear hc
 go_enter Tryz.func166,Tryz.ntmps166
 go_wp2_with fail;refine(zbg b lo A n c code K m w h hK (by omega)).mono ?_;rintro e w1 ⟨v,rfl,⟨v0,v1⟩,s1,m1⟩;obtain⟨k,rfl⟩:∃k:Nat,v=k:=⟨v.toNat,by omega⟩;have hk:k<m:=by omega
 have hk2:(k:Int)<(m:Int):=by omega
 obtain⟨s,hs,hx0⟩:=HC.out k hk
 have hx:w1.cell? ⟨g,k,none⟩=some (.string s):=by
  rw[Ek (m1.block g hgw (by omega))];exact hx0
 clear hx0;go_wp2;go_ret;exact⟨s,rfl,hs,s1,m1⟩
def M.tiny (m:Nat) (xs:List zag):Prop:=∀x∈xs,x.1.size<=6/\x.2.2.length<=m
theorem zym{m:Nat}{xs:List zag}{y:zag}(h:M.tiny m xs)(hy:y.1.size<=6/\y.2.2.length<=m):M.tiny m (xs++[y]):=fun x hx=>by
 rcases Gx.1 hx with hx|hx
 ·exact h x hx
 rw[List.mem_singleton.1 hx];exact hy
theorem zii{m:Nat}{xs:List zag}{k:Nat}{y:zag}(h:M.tiny m xs)(hy:y.1.size<=6/\y.2.2.length<=m):M.tiny m (xs.set k y):=fun x hx=>by
 rcases List.mem_or_eq_of_mem_set hx with hx|hx
 ·exact h x hx
 rw[hx];exact hy
def zyn:List ByteArray:=[⟨#[100,114,117,109,115]⟩,⟨#[98,97,115,115]⟩,⟨#[98,117,115]⟩,⟨#[101,99,104,111]⟩,⟨#[107,101,121,115]⟩,⟨#[99,104,111,105,114]⟩]
def zcy (j:Nat):ByteArray:=(zyn[j]?).getD ⟨#[]⟩
def zgh:ByteArray:=⟨#[109,97,115,116,101,114]⟩
theorem zhk{P:Nat->Prop}(h0:P 0)(h1:P 1)(h2:P 2)(h3:P 3)(h4:P 4)(h5:P 5):∀j,j<6->P j:=by
 intro j hj
 match j,hj with
 | 0,_=>exact h0
 | 1,_=>exact h1
 | 2,_=>exact h2
 | 3,_=>exact h3
 | 4,_=>exact h4
 | 5,_=>exact h5
 | j+6,hj=>omega
theorem zyo(j:Nat)(hj:j<6):(zcy j).size<=6:=by
 refine zhk (P:=fun j=>(zcy j).size<=6) ?_ ?_ ?_ ?_ ?_ ?_ j hj <;> decide
theorem zyp(j:Nat)(hj:j<6):zds (zcy j)=true:=by
 refine zhk (P:=fun j=>zds (zcy j)=true) ?_ ?_ ?_ ?_ ?_ ?_ j hj <;> rfl
theorem zyq(i j:Nat)(hi:i<6)(hj:j<6)(h:zcy i=zcy j):i=j:=by
 have key:∀i,i<6->∀j,j<6->(zcy i).data.toList=(zcy j).data.toList->i=j:=by
  refine zhk ?_ ?_ ?_ ?_ ?_ ?_ <;> (refine zhk ?_ ?_ ?_ ?_ ?_ ?_ <;> decide)
 exact key i hi j hj (by rw[h])
theorem zyr(i:Nat)(hi:i<6):zcy i≠zgh:=by
 have key:∀i,i<6->(zcy i).data.toList≠zgh.data.toList:=by
  refine zhk ?_ ?_ ?_ ?_ ?_ ?_ <;> decide
 exact fun e=>key i hi (by rw[e])
def M.usOk (N j t:Nat) (us:List (Int×Int)):Prop:=zb4 N j us=true/\(∀u∈us,u.1<((j+1+t:Nat):Int))/\(j+1+t=N->us.length≠0)
theorem zys{m:Int}:∀{us:List (Int×Int)} {last:Int} {p g:Int},zb4 m last us=true->(∀u∈us,u.1<p)->last<p->p<=m-1->M.smp g=true->zb4 m last (us++[(p,g)])=true:=by
 intro us
 induction us with
 | nil=>
  intro last p g _ _ h1 h2 h3;rw[List.nil_append,zb4,zb4,Bool.and_true,Cx];exact⟨zdt.2 ⟨by show last+1<=p;omega,h2⟩,h3⟩
 | cons u us ih=>
  intro last p g h0 hu h1 h2 h3;rw[zb4,Cx]at h0;rw[List.cons_append,zb4,Cx];exact⟨h0.1,ih h0.2 (fun v hv=>hu v (by simp[hv])) (hu u (by simp)) h2 h3⟩
theorem M.usOk.zero{N j:Nat}(h:j+1<N):M.usOk N j 0 []:=⟨rfl,fun u hu=>by simp at hu,fun e=>absurd e (by omega)⟩
theorem M.usOk.skip{N j t:Nat}{us:List (Int×Int)}(h:M.usOk N j t us)(h2:j+1+t+1<N\/us.length≠0):M.usOk N j (t+1) us:=
 ⟨h.1,fun u hu=>by have:=h.2.1 u hu;omega,fun e=>by omega⟩
theorem M.usOk.push{N j t:Nat}{us:List (Int×Int)}(h:M.usOk N j t us){TT:Nat}(h1:TT=j+1+t)(h2:TT<N){g:Int}(h3:-2147483648<=g/\g<=2147483647):M.usOk N j (t+1) (us++[((TT:Int),g)]):=by
 refine⟨zys h.1 (fun u hu=>by have:=h.2.1 u hu;omega) (by omega) (by omega) (zdt.2 h3),fun u hu=>?_,fun _=>by simp⟩;rcases Gx.1 hu with hu|hu
 ·have:=h.2.1 u hu;omega
 rw[List.mem_singleton.1 hu];show (TT:Int)<_;omega
def M.drawOk (N:Nat) (ms:List zag):Prop:=∀k x,ms[k]?=some x->k+1<N/\x.1=zcy k/\M.inn x.2.1 0 32=true/\zb5 x.2.2 k N=true
theorem M.drawOk.nil(N:Nat):M.drawOk N []:=fun k x hx=>by simp at hx
theorem M.drawOk.push{N j t:Nat}{ms:List zag}(h:M.drawOk N ms)(hl:ms.length=j)(hj:j+1<N){s:ByteArray}(hs:s=zcy j){l:Int}(hlt:0<=l/\l<=32){us:List (Int×Int)}(hus:M.usOk N j t us)(hu4:us.length<=4)(he:N=j+1+t\/4<=us.length):M.drawOk N (ms++[(s,l,us)]):=by
 intro k x hx;rcases Fj k ms.length with h1|h1
 ·rw[List.getElem?_append_left h1]at hx;exact h k x hx
 rw[Gz h1]at hx;have h2:=(Bk.1 hx).1;simp only[Dw]at h2;obtain rfl:k=j:=by omega
 rw[show k-ms.length=0 by omega]at hx;simp only[Bg,Dq]at hx;subst hx;refine⟨hj,hs,zdt.2 hlt,?_⟩
 have h0:1<=us.length:=by
  rcases he with he|he
  ·have:=hus.2.2 he.symm;omega
  omega
 show zb5 us k N=true
 rw[zb5,hus.1,if_neg (by omega),Ew];exact zdt.2 (by omega)
theorem M.drawOk.mix{N:Nat}{ms:List zag}(h:M.drawOk N ms)(hl:ms.length+1=N)(hN:N<=7){l:Int}(hlt:0<=l/\l<=32):zay (ms++[(zgh,l,[])])=true:=by
 have hlen:(ms++[(zgh,l,([]:List (Int×Int)))]).length=N:=by simp;omega
 rw[zay,hlen,Cx,Ef];refine⟨zdt.2 (by omega),fun k hk=>?_⟩;have hk:=Gj.1 hk;have htk:(ms++[(zgh,l,([]:List (Int×Int)))]).take k=ms.take k:=by rw[List.take_append_of_le_length (by omega)]
 have hno:∀s:ByteArray,(∀i,i<k->s≠zcy i)->zd9 s ((ms.take k).map (·.1))=false:=by
  intro s hs;rw[zd9,List.any_eq_false];intro t ht;obtain⟨y,hy,rfl⟩:=List.mem_map.1 ht;obtain⟨i,hi⟩:=Fk hy
  have hi2:i<k:=by
   have:=(Bk.1 hi).1;rw[Ey]at this;omega
  rw[List.getElem?_take,if_pos hi2]at hi;have:=(h i y hi).2.1;simp only[Dg];intro e;exact hs i hi2 (e.symm.trans this)
 rcases Fj k ms.length with h1|h1
 ·have hx:ms[k]?=some ms[k]:=Ak h1;generalize ms[k]=x at hx;obtain⟨s,l',us⟩:=x;have h2:=h k _ hx;simp only at h2;rw[zhs (x:=(s,l',us)) (by rw[List.getElem?_append_left h1];exact hx),hlen,htk,Cx,zby];simp only;rw[h2.2.1,zyp k (by omega),h2.2.2.1,h2.2.2.2,hno (zcy k) (fun i hi e=>by have:=zyq k i (by omega) (by omega) e;omega)];exact⟨rfl,rfl⟩
 have e:k=ms.length:=by omega
 rw[zhs (x:=(zgh,l,[])) (by rw[Gz h1,e,Nat.sub_self];rfl),hlen,htk,Cx,zby];simp only;rw[show zds zgh=true from rfl,zdt.2 hlt,hno zgh (fun i hi e=>zyr i (by omega) e.symm),zb5,zb4,if_pos (by omega)];exact⟨rfl,rfl⟩
theorem zyt(w:Yw)(us:Array Value)(e:TypeId)(m:Nat)(hm:∀j,j<m->∃s:ByteArray,s.size<=6/\us[j]?=some (.string s)):∀j,j<m->∃s:ByteArray,s.size<=6/\(w.alloc (.cells us e)).cell? ⟨w.heap.size,j,none⟩=some (.string s):=fun j hj=>by
 obtain⟨s,h1,h2⟩:=hm j hj;refine⟨s,h1,?_⟩;rw[cell_of_row _ w.heap.size j _ e (0,0) (Df w _)];simpa using h2
theorem zyu(w:Yw)(us:Array Value)(e:TypeId)(hm:∀j,j<6->us[j]?=some (.string (zcy j))):∀j,j<6->(w.alloc (.cells us e)).cell? ⟨w.heap.size,j,none⟩=some (.string (zcy j)):=fun j hj=>by
 rw[cell_of_row _ w.heap.size j _ e (0,0) (Df w _)];exact hm j hj
theorem zaf(w:Yw)(g:Nat)(v:Value){i j:Nat}(h:i≠j):(w.setCell ⟨g,i,none⟩ v).cell? ⟨g,j,none⟩=w.cell? ⟨g,j,none⟩:=World.cell?_setCell_other w ⟨g,i,none⟩ ⟨g,j,none⟩ v (fun e=>h (Addr.mk.inj e).2.1)
structure DM (w:Yw) (b lo:Nat) (A:Yo) (n c:Nat) (code:List UInt8) (NB K:Nat) (ms:List zag) (v:Value) (wr:Yw):Prop where
 c0:wr.cell? ⟨w.heap.size,0,none⟩=some (.slice none 0 0)
 f0:wr.frozen? ⟨w.heap.size,0,none⟩=false
 c1:wr.cell? ⟨w.heap.size+1,0,none⟩=some v
 f1:wr.frozen? ⟨w.heap.size+1,0,none⟩=false
 nm:Hid (∀j,j<6->wr.cell? ⟨NB,j,none⟩=some (.string (zcy j)))
 own:OS tSt 117 wr (Iv (NB+1) wr.heap.size) v ms
 tiny:Hid (M.tiny 4 ms)
 src:Src wr b lo A n c code K
 mid:Mid b (b+1) w wr
 sz:NB+1<=wr.heap.size
 lo:w.heap.size+2<=NB
theorem DM.step{w wr w':Yw}{b lo:Nat}{A:Yo}{n c:Nat}{code:List UInt8}{NB K K':Nat}{ms:List zag}{v:Value}(h:DM w b lo A n c code NB K ms v wr)(hb:b<w.heap.size)(hs:Src w' b lo A n c code K')(hm:Mid b (b+1) wr w'):DM w b lo A n c code NB K' ms v w':=by
 have hz:=h.sz;have hl:=h.lo
 exact⟨hm.cellK (by omega) (.inr (by omega)) h.c0,hm.frozK (by omega) (.inr (by omega)) h.f0,hm.cellK (by omega) (.inr (by omega)) h.c1,hm.frozK (by omega) (.inr (by omega)) h.f1,
  Aq (fun j hj=>hm.cellK (by omega) (.inr (by omega)) (h.nm.out j hj)),
  (h.own.mid hm (.inr (by omega)) (Aj _)).iv (Aj _) hm.size,h.tiny,hs,h.mid.trans hm,Nat.le_trans hz hm.size,hl⟩
theorem DM.more{w wr:Yw}{b lo:Nat}{A:Yo}{n c:Nat}{code:List UInt8}{NB K K':Nat}{ms:List zag}{v:Value}(h:DM w b lo A n c code NB K ms v wr)(hK:K<=K'):DM w b lo A n c code NB K' ms v wr:=
 ⟨h.c0,h.f0,h.c1,h.f1,h.nm,h.own,h.tiny,h.src.more hK,h.mid,h.sz,h.lo⟩
theorem DM.push{w wr w4:Yw}{b lo:Nat}{A:Yo}{n c:Nat}{code:List UInt8}{NB K:Nat}{ms:List zag}{v v4:Value}{y:zag}{X:Nat}(h:DM w b lo A n c code NB K ms v wr)(hb:b<w.heap.size)
 (own:OS tSt 117 w4 (fun z=>Iv (NB+1) wr.heap.size z\/Iv X wr.heap.size z\/wr.heap.size<z/\z<w4.heap.size) v4 (ms++[y])) (hX:NB+1<=X) (hc:Chg (Iv (NB+1) wr.heap.size) wr w4) (hy:y.1.size<=6/\y.2.2.length<=4) :
 DM w b lo A n c code NB K (ms++[y]) v4 (w4.setCell ⟨w.heap.size+1,0,none⟩ v4):=by
 have hz:=h.sz;have hl:=h.lo;have hbw:=h.src.lt;have hs4:wr.heap.size<=w4.heap.size:=hc.size;have hn:∀k,k<NB+1->¬Iv (NB+1) wr.heap.size k:=fun k hk hi=>by have h1:NB+1<=k:=hi.1;omega
 have C1:∀(k o:Nat) (u:Option Value),k<NB+1->k≠w.heap.size+1->wr.cell? ⟨k,o,none⟩=u->(w4.setCell ⟨w.heap.size+1,0,none⟩ v4).cell? ⟨k,o,none⟩=u:=fun k o u hk hk2 hu=>by
  rw[Ek (Fg w4 ⟨w.heap.size+1,0,none⟩ k v4 hk2),hc.cell1 (show k<_ by omega) (hn k hk)];exact hu
 have v0:w4.cell? ⟨w.heap.size+1,0,none⟩=some v:=by rw[hc.cell1 (show w.heap.size+1<_ by omega) (hn _ (by show w.heap.size+1<_;omega))];exact h.c1
 have CB:Chg (fun b=>b=w.heap.size+1) w4 (w4.setCell ⟨w.heap.size+1,0,none⟩ v4):=Chg.set w4 (w.heap.size+1) 0 _ rfl;have e95:(w4.setCell ⟨w.heap.size+1,0,none⟩ v4).heap.size=w4.heap.size:=by simp
 have CG:Chg (fun z=>Iv (NB+1) wr.heap.size z\/z=w.heap.size+1) wr (w4.setCell ⟨w.heap.size+1,0,none⟩ v4):=(hc.wide (fun _ h=>.inl h)).trans (CB.wide (fun _ h=>.inr h))
 have MB:Below w.heap.size wr (w4.setCell ⟨w.heap.size+1,0,none⟩ v4):=CG.toBelow (fun z h=>by
  rcases h with h|h
  ·have h1:NB+1<=z:=h.1;omega
  omega) (by omega)
 refine⟨C1 _ _ _ (by omega) (by omega) h.c0,?_,Dj _ _ _ v0,?_,Aq (fun j hj=>?_),?_,Aq (zym h.tiny.out hy),h.src.below MB hb,?_,by rw[e95];omega,hl⟩
 ·rw[Bf,hc.frozen1 (by show w.heap.size<_;omega) (hn _ (by show w.heap.size<_;omega))];exact h.f0
 ·rw[Bf,hc.frozen1 (by show w.heap.size+1<_;omega) (hn _ (by show w.heap.size+1<_;omega))];exact h.f1
 ·exact C1 _ _ _ (by omega) (by omega) (h.nm.out j hj)
 ·rw[e95];refine(own.chg CB (fun z hz' (h':z=w.heap.size+1)=>?_)).wide (fun z hz'=>?_)
  ·rcases hz' with h1|h1|h1
   ·have h2:NB+1<=z:=h1.1;omega
   ·have h2:X<=z:=h1.1;omega
   omega
  rcases hz' with h1|h1|h1
  ·exact⟨h1.1,by have h2:z<wr.heap.size:=h1.2;omega⟩
  ·exact⟨by have h2:X<=z:=h1.1;omega,by have h2:z<wr.heap.size:=h1.2;omega⟩
  exact⟨by omega,by omega⟩
 exact⟨MB.os.trans h.mid.os,MB.tape.trans h.mid.tape,MB.output.trans h.mid.output,Nat.le_trans h.mid.size MB.size,fun i hi' hm=>(MB.block i (by omega)).trans (h.mid.block i hi' hm)⟩
structure DX (w1:Yw) (b lo:Nat) (A:Yo) (n c:Nat) (code:List UInt8) (K:Nat) (s:ByteArray) (l:Int) (us:List (Int×Int)) (v:Value) (wr:Yw):Prop where
 p0:wr.cell? ⟨w1.heap.size,0,none⟩=some (.string s)
 p1:wr.cell? ⟨w1.heap.size,1,none⟩=some (.int .i64 l)
 p2:wr.cell? ⟨w1.heap.size,2,none⟩=some v
 f1:wr.frozen? ⟨w1.heap.size,1,none⟩=false
 f2:wr.frozen? ⟨w1.heap.size,2,none⟩=false
 own:OS tSd 160 wr (Iv (w1.heap.size+1) wr.heap.size) v us
 src:Src wr b lo A n c code K
 mid:Mid b (b+1) w1 wr
 sz:w1.heap.size+1<=wr.heap.size
theorem DX.step{w1 wr w':Yw}{b lo:Nat}{A:Yo}{n c:Nat}{code:List UInt8}{K K':Nat}{s:ByteArray}{l:Int}{us:List (Int×Int)}{v:Value}(h:DX w1 b lo A n c code K s l us v wr)(hb:b<w1.heap.size)(hs:Src w' b lo A n c code K')(hm:Mid b (b+1) wr w'):DX w1 b lo A n c code K' s l us v w':=by
 have hz:=h.sz
 exact⟨hm.cellK (by omega) (.inr (by omega)) h.p0,hm.cellK (by omega) (.inr (by omega)) h.p1,hm.cellK (by omega) (.inr (by omega)) h.p2,hm.frozK (by omega) (.inr (by omega)) h.f1,hm.frozK (by omega) (.inr (by omega)) h.f2,
  (h.own.mid hm (.inr (by omega)) (Aj _)).iv (Aj _) hm.size,hs,h.mid.trans hm,Nat.le_trans hz hm.size⟩
theorem DX.more{w1 wr:Yw}{b lo:Nat}{A:Yo}{n c:Nat}{code:List UInt8}{K K':Nat}{s:ByteArray}{l:Int}{us:List (Int×Int)}{v:Value}(h:DX w1 b lo A n c code K s l us v wr)(hK:K<=K'):DX w1 b lo A n c code K' s l us v wr:=
 ⟨h.p0,h.p1,h.p2,h.f1,h.f2,h.own,h.src.more hK,h.mid,h.sz⟩
theorem DX.start{w1:Yw}{b lo:Nat}{A:Yo}{n c:Nat}{code:List UInt8}{K:Nat}(s:ByteArray)(h:Src w1 b lo A n c code K):
 DX w1 b lo A n c code K s 0 [] (.slice none 0 0) (w1.alloc (.cells #[.string s,.int .i64 0,.slice none 0 0] 117)):=by
 have hB:Below w1.heap.size w1 (w1.alloc (.cells #[.string s,.int .i64 0,.slice none 0 0] 117)):=(Aw _ _).alloc (Aj _) _;exact⟨by simp[go_sem],by simp[go_sem],by simp[go_sem],by simp[go_sem],by simp[go_sem],OS.nil _ _ _ _,h.below hB h.lt,Mid.of_below hB _ _,by simp⟩
theorem DX.lat{w1 wr:Yw}{b lo:Nat}{A:Yo}{n c:Nat}{code:List UInt8}{K:Nat}{s:ByteArray}{l:Int}{us:List (Int×Int)}{v:Value}(h:DX w1 b lo A n c code K s l us v wr)(hb:b<w1.heap.size)(l':Int):DX w1 b lo A n c code K s l' us v (wr.setCell ⟨w1.heap.size,1,none⟩ (.int .i64 l')):=by
 have hz:=h.sz;have MB:Below w1.heap.size wr (wr.setCell ⟨w1.heap.size,1,none⟩ (.int .i64 l')):=(Aw w1.heap.size wr).setCell (p:=⟨w1.heap.size,1,none⟩) (Aj _) _;refine⟨?_,Dj _ _ _ h.p1,?_,(Bf _ _ _ _).trans h.f1,?_,?_,h.src.below MB hb,h.mid.thenB' MB (Aj _),by simpa using hz⟩
 ·exact(zaf wr _ _ (by decide)).trans h.p0
 ·exact(zaf wr _ _ (by decide)).trans h.p2
 ·rw[Bf];exact h.f2
 have hm:Mid w1.heap.size (w1.heap.size+1) wr (wr.setCell ⟨w1.heap.size,1,none⟩ (.int .i64 l')):=Mid.cell wr w1.heap.size 1 _;exact(h.own.mid hm (.inr (Aj _)) (Aj _)).iv (Aj _) hm.size
theorem DX.push{w1 wr w4:Yw}{b lo:Nat}{A:Yo}{n c:Nat}{code:List UInt8}{K:Nat}{s:ByteArray}{l:Int}{us:List (Int×Int)}{v v4:Value}{y:Int×Int}(h:DX w1 b lo A n c code K s l us v wr)(hb:b<w1.heap.size)
 (own:OS tSd 160 w4 (fun z=>Iv (w1.heap.size+1) wr.heap.size z\/False\/wr.heap.size<z/\z<w4.heap.size) v4 (us++[y])) (hc:Chg (Iv (w1.heap.size+1) wr.heap.size) wr w4) :
 DX w1 b lo A n c code K s l (us++[y]) v4 (w4.setCell ⟨w1.heap.size,2,none⟩ v4):=by
 have hz:=h.sz;have hs4:wr.heap.size<=w4.heap.size:=hc.size;have hn:¬Iv (w1.heap.size+1) wr.heap.size w1.heap.size:=fun hi=>by have h1:w1.heap.size+1<=w1.heap.size:=hi.1;omega
 have q0:∀o u,wr.cell? ⟨w1.heap.size,o,none⟩=u->w4.cell? ⟨w1.heap.size,o,none⟩=u:=fun o u hu=>by rw[hc.cell1 (show w1.heap.size<_ by omega) hn];exact hu
 have CB:Chg (fun b=>b=w1.heap.size) w4 (w4.setCell ⟨w1.heap.size,2,none⟩ v4):=Chg.set w4 w1.heap.size 2 _ rfl;have e95:(w4.setCell ⟨w1.heap.size,2,none⟩ v4).heap.size=w4.heap.size:=by simp
 have CG:Chg (fun z=>Iv (w1.heap.size+1) wr.heap.size z\/z=w1.heap.size) wr (w4.setCell ⟨w1.heap.size,2,none⟩ v4):=(hc.wide (fun _ h=>.inl h)).trans (CB.wide (fun _ h=>.inr h))
 have MB:Below w1.heap.size wr (w4.setCell ⟨w1.heap.size,2,none⟩ v4):=CG.toBelow (fun z h=>by
  rcases h with h|h
  ·have h1:w1.heap.size+1<=z:=h.1;omega
  omega) (by omega)
 refine⟨?_,?_,Dj _ _ _ (q0 _ _ h.p2),(Bf _ _ _ _).trans ((hc.frozen1 (by show w1.heap.size<_;omega) hn).trans h.f1),?_,?_,h.src.below MB hb,h.mid.thenB' MB (Aj _),by rw[e95];omega⟩
 ·exact(zaf w4 _ _ (by decide)).trans (q0 _ _ h.p0)
 ·exact(zaf w4 _ _ (by decide)).trans (q0 _ _ h.p1)
 ·rw[Bf,hc.frozen1 (by show w1.heap.size<_;omega) hn];exact h.f2
 rw[e95];refine(own.chg CB (fun z hz' (h':z=w1.heap.size)=>?_)).wide (fun z hz'=>?_)
 ·rcases hz' with h1|h1|h1
  ·have h2:w1.heap.size+1<=z:=h1.1;omega
  ·exact h1
  omega
 rcases hz' with h1|h1|h1
 ·exact⟨h1.1,by have h2:z<wr.heap.size:=h1.2;omega⟩
 ·exact h1.elim
 exact⟨by omega,by omega⟩
def zyv (b lo:Nat) (A:Yo) (n c:Nat) (code:List UInt8) (K:Nat) (w:Yw) (e:Ending) (w':Yw):Prop:=
 ∃A1 c1 ms,e=.returned (.agg #[.slice A1 (List.length ms) c1])/\OS tSt 117 w' (Iv w.heap.size w'.heap.size) (.slice A1 ms.length c1) ms/\ms.length<=6/\1<=ms.length/\Hid (M.tiny 4 ms)/\Hid (zay ms=true)/\Src w' b lo A n c code K/\Mid b (b+1) w w'
theorem ze0(xs:List Int)(us:Array Value)(m:Nat)(hus:us.toList=xs.map (.int .i64))(hm:xs.length=m)(h0:0<m/\m<=60000)(b lo:Nat)(A:Yo)(n c:Nat)(code:List UInt8)(K:Nat)(w:Yw)(h:Src w b lo A n c code K)(hK:K<=1000000000):
 Calls Tryz.prog 108 #[.pointer (some ⟨b,0,none⟩),.slice (some ⟨w.heap.size,0,none⟩) m m] (w.alloc (.cells us 2)) (Drew b lo A n c code (K+2) (fun v=>v∈xs) w):=by
 have hB:Below w.heap.size w (w.alloc (.cells us 2)):=(Aw _ _).alloc (Aj _) _;have hb:=h.lt;refine(zgs b lo A n c code K w.heap.size m m xs _ (h.below hB hb) (by omega) hm h0 (by omega) (by simp) ?_).mono ?_
 ·intro j x hx;rw[cell_of_row _ w.heap.size j _ 2 (0,0) (Df w _)];have:us.toList[j]?=some (.int .i64 x):=by rw[hus,Fv,hx];rfl
  simpa using this
 rintro e w2 ⟨x,rfl,hx,s3,m3⟩;exact⟨x,rfl,hx,s3,(Mid.of_below hB _ _).trans m3⟩
structure M.aD (k t a:Int):Prop where
 c1:k=1->0<=a/\a<=1
 c6:k=6->1<=a/\a<=4
 c10:k=10->0<=a/\a<=31
 c11:k=11->0<=a/\a<=2147483647
 c13:k=13->0<=a/\(a<t\/a=0)
 cs:-2147483648<=a/\a<=2147483647
 c0:zd1 k=false->a=0
theorem zyw(b lo:Nat)(A:Yo)(n c:Nat)(code:List UInt8)(K:Nat)(k t:Int)(w:Yw)(h:Src w b lo A n c code K)(hK:K<=1000000)(hk:1<=k/\k<=17)(ht:0<=t/\t<=100):
 Calls Tryz.prog 244 #[.pointer (some ⟨b,0,none⟩),.int .i64 k,.int .i64 t] w (Drew b lo A n c code (K+6) (M.aD k t) w):=by
 have hbw:=h.lt;have fin:∀a,(k=1->0<=a/\a<=1)->(k=6->1<=a/\a<=4)->(k=10->0<=a/\a<=31)->(k=11->0<=a/\a<=2147483647)->(k=13->0<=a/\(a<t\/a=0))->(-2147483648<=a/\a<=2147483647)->(zd1 k=false->a=0)->M.aD k t a:=fun a h1 h2 h3 h4 h5 h6 h7=>⟨h1,h2,h3,h4,h5,h6,h7⟩
 have FIN:=Aq fin;clear fin
 by_cases k1:k=1
 ·subst k1
  go_enter Tryz.func244,Tryz.ntmps244
  go_wp2_with fail;refine(zbg b lo A n c code K 2 w h (by omega) (by omega)).mono ?_;rintro e w1 ⟨v,rfl,hv,s1,m1⟩;go_wp2;go_ret;exact⟨v,rfl,FIN.out v (by omega) (by omega) (by omega) (by omega) (by omega) (by omega) (fun e=>by cases e),s1.more (by omega),m1⟩
 by_cases k6:k=6
 ·subst k6
  go_enter Tryz.func244,Tryz.ntmps244
  go_wp2_with fail;refine(zbg b lo A n c code K 4 w h (by omega) (by omega)).mono ?_;rintro e w1 ⟨v,rfl,hv,s1,m1⟩;have hv2:0<=v/\v<=3:=by omega
  clear hv;go_wp2;go_ret;exact⟨1+v,rfl,FIN.out (1+v) (by omega) (by omega) (by omega) (by omega) (by omega) (by omega) (fun e=>by cases e),s1.more (by omega),m1⟩
 by_cases k10:k=10
 ·subst k10;have SA:=Aq (ze0 [1,2,0,16,31] #[.int .i64 1,.int .i64 2,.int .i64 0,.int .i64 16,.int .i64 31] 5 rfl rfl (by omega) b lo A n c code K w h (by omega))
  go_enter Tryz.func244,Tryz.ntmps244
  go_wp2_with fail;refine SA.out.mono ?_;rintro e w1 ⟨v,rfl,hv,s1,m1⟩;have hv2:0<=v/\v<=31:=by simp only[List.mem_cons,List.not_mem_nil,or_false]at hv;omega
  clear hv;go_wp2;go_ret;exact⟨v,rfl,FIN.out v (by omega) (by omega) (by omega) (by omega) (by omega) (by omega) (fun e=>by cases e),s1.more (by omega),m1⟩
 by_cases k11:k=11
 ·subst k11;have SA:=Aq (ze0 [10,0,100,2147483647] #[.int .i64 10,.int .i64 0,.int .i64 100,.int .i64 2147483647] 4 rfl rfl (by omega) b lo A n c code K w h (by omega))
  go_enter Tryz.func244,Tryz.ntmps244
  go_wp2_with fail;refine SA.out.mono ?_;rintro e w1 ⟨v,rfl,hv,s1,m1⟩;have hv2:0<=v/\v<=2147483647:=by simp only[List.mem_cons,List.not_mem_nil,or_false]at hv;omega
  clear hv;go_wp2;go_ret;exact⟨v,rfl,FIN.out v (by omega) (by omega) (by omega) (by omega) (by omega) (by omega) (fun e=>by cases e),s1.more (by omega),m1⟩
 by_cases k13:k=13
 ·subst k13
  go_enter Tryz.func244,Tryz.ntmps244
  go_wp2_with fail;refine(zbg b lo A n c code K t w h (by omega) (by omega)).mono ?_;rintro e w1 ⟨v,rfl,hv,s1,m1⟩;go_wp2;go_ret;exact⟨v,rfl,FIN.out v (by omega) (by omega) (by omega) (by omega) (fun _=>hv) (by omega) (fun e=>by cases e),s1.more (by omega),m1⟩
 cases hA:zd1 k
 ·have HA:=Aq hA
  go_enter Tryz.func244,Tryz.ntmps244
  go_wp2_with fail;refine(zi1 k w).mono ?_;rw[HA.out];rintro e w1 ⟨rfl,b1⟩;go_wp2;go_ret;exact⟨0,rfl,FIN.out 0 (by omega) (by omega) (by omega) (by omega) (by omega) (by omega) (fun _=>rfl),(h.below b1 hbw).more (by omega),Mid.of_below b1 _ _⟩
 have HA:=Aq hA
 go_enter Tryz.func244,Tryz.ntmps244
 go_wp2_with fail;refine(zi1 k w).mono ?_;rw[HA.out];rintro e w1 ⟨rfl,b1⟩;go_wp2_with fail;refine(zf8 b lo A n c code K w1 (h.below b1 hbw) (by omega)).mono ?_;rintro e w2 ⟨v,rfl,hv,s1,m1⟩;go_wp2;go_ret;exact⟨v,rfl,FIN.out v (by omega) (by omega) (by omega) (by omega) (by omega) hv (fun e=>by rw[HA.out]at e;cases e),s1,(Mid.of_below b1 _ _).trans m1⟩
end Go.Proofs.YtifeldeikhmckaaGreat
