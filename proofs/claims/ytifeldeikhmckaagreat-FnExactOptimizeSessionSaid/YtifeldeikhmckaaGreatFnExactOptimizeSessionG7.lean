import Derived.Test.YtifeldeikhmckaaGreatFnExactOptimizeSessionG6
import Derived.Lib.Strings
set_option linter.unusedVariables false
set_option linter.unusedSimpArgs false
set_option maxRecDepth 100000
set_option maxHeartbeats 4000000
namespace Go.Proofs.YtifeldeikhmckaaGreat
open Go.RowKit
theorem zkn(A:Yo)(n c:Nat)(xs:List zag)(l:Int)(w:Yw)(hx:tM.R w w.heap.size [.slice A n c] xs)(hl:0<=l/\l<=1000000000):
 Calls Tryz.prog 24 #[.agg #[.slice A n c],.int .i64 l] w fun e w'=>e=.returned (.int .i64 (if (hM.sz xs:Int)<=l then l-hM.sz xs else -1))/\Below w.heap.size w w':=by
 have hb:Below w.heap.size w (w.alloc (.cells #[.slice A n c] 28)):=(Below.refl _ _).alloc (Nat.le_refl _) _;have hx2:=tM.later hx hb
 by_cases h:(hM.sz xs:Int)<=l
 ·have hi:=Lib.hid (show (if (hM.sz xs:Int)<=l then l-hM.sz xs else -1)=l-hM.sz xs by rw[if_pos h])
  go_enter Tryz.func24,Tryz.ntmps24
  go_wp2_with (go_at_call 66;refine(zkm _ _ _ _ _ _ hx2 hl).mono ?_;rw[hi.out];rintro e w2 ⟨rfl,bel2⟩);go_ret;exact⟨hi.out▸rfl,hb.trans (bel2.mono hb.size)⟩
 have hi:=Lib.hid (show (if (hM.sz xs:Int)<=l then l-hM.sz xs else -1) = -1 by rw[if_neg h])
 go_enter Tryz.func24,Tryz.ntmps24
 go_wp2_with (go_at_call 66;refine(zkm _ _ _ _ _ _ hx2 hl).mono ?_;rw[hi.out];rintro e w2 ⟨rfl,bel2⟩);go_ret;exact⟨hi.out▸rfl,hb.trans (bel2.mono hb.size)⟩
theorem zpy(A:Yo)(n c:Nat)(xs:List zag)(w:Yw)(hx:tM.R w w.heap.size [.slice A n c] xs)(hn:hM.sz xs<=100000000):
 Calls Tryz.prog 33 #[.agg #[.slice A n c]] w fun e w'=>∃A' n' c',e=.returned (.agg #[.slice A' n' c'])/\tM.O w' (Iv w.heap.size w'.heap.size) [.slice A' n' c'] xs/\Below w.heap.size w w':=by
 have hb:Below w.heap.size w (((w.alloc (.cells #[.slice A n c] 28)).alloc (.cells #[.slice none 0 0] 36)).alloc (.cells #[.slice none 0 0] 36)):=(((Below.refl _ _).alloc (Nat.le_refl _) _).alloc (by simp) _).alloc (by simp;omega) _;have hx2:=tM.later hx hb
 go_enter Tryz.func33,Tryz.ntmps33
 go_wp2_with (go_at_call 79;refine(zpv _ _ _ _ _ hx2 hn).mono ?_;rintro e w2 ⟨A2,n2,c2,rfl,own2,bel2⟩;have q1:w2.cell? ⟨w.heap.size+1,0,none⟩=some (.slice none 0 0):=(by rw[bel2.cell (by first|omega|(simp;done)|(simp;omega))];simp[go_sem]);have r1:w2.frozen? ⟨w.heap.size+1,0,none⟩=false:=(by rw[bel2.frozen (by first|omega|(simp;done)|(simp;omega))];simp[go_sem]);have q2:w2.cell? ⟨w.heap.size+1+1,0,none⟩=some (.slice none 0 0):=(by rw[bel2.cell (by simp)];simp[go_sem]);have r2:w2.frozen? ⟨w.heap.size+1+1,0,none⟩=false:=(by rw[bel2.frozen (by simp)];simp[go_sem]);have hs:w.heap.size+1+1+1<=w2.heap.size:=(by have:=bel2.size;simpa using this))
 have m1:Mid (w.heap.size+1) (w.heap.size+1+1+1) w2 ((w2.setCell ⟨w.heap.size+1+1,0,none⟩ (Value.slice A2 n2 c2)).setCell ⟨w.heap.size+1,0,none⟩ (Value.slice A2 n2 c2)):=
  (Mid.of_grown (zaz w2 (w.heap.size+1+1) 0 _) fun k hk=>by injection hk with hk;omega).trans (Mid.of_grown (zaz _ (w.heap.size+1) 0 _) fun k hk=>by injection hk with hk;omega)
 refine bodyPost_ret (v:=.agg #[.slice A2 n2 c2]) (by simp[results,Tryz.results33,go_sem,q1,r1,q2,r2]) rfl ?_;refine⟨_,_,_,rfl,?_,?_⟩
 ·exact tM.oiv (tM.omid own2 m1 (.inr (by simp)) (Nat.le_refl _)) (by simp;omega) m1.size
 exact(hb.trans (bel2.mono hb.size)).trans ((m1.toBelow (by omega)).mono (by omega))
theorem zpz(A A':Yo)(n c n' c':Nat)(xs:List zag)(w:Yw)(hx:tM.R w w.heap.size [.slice A n c] xs)(hy:tM.R w w.heap.size [.slice A' n' c'] xs)(hn:hM.sz xs<=100000000):
 Calls Tryz.prog 42 #[.agg #[.slice A n c],.agg #[.slice A' n' c']] w fun e w'=>e=.returned (.bool true)/\Below w.heap.size w w':=by
 have hb:Below w.heap.size w ((w.alloc (.cells #[.slice A n c] 36)).alloc (.cells #[.slice A' n' c'] 36)):=((Below.refl _ _).alloc (Nat.le_refl _) _).alloc (by simp) _;have hx2:=tM.later hx hb;have hy2:=tM.later hy hb
 go_enter Tryz.func42,Tryz.ntmps42
 go_wp2_with (go_at_call 98;refine(zpx _ _ _ _ _ _ _ _ hx2 hy2 hn).mono ?_;rintro e w2 ⟨rfl,bel2⟩);go_ret;exact⟨rfl,hb.trans (bel2.mono hb.size)⟩
theorem cl_M(x:List zag):hM.cnt x<=10*hM.sz x+10:=by
 have key:hSt.cntL x<=2*(x.length+hSt.szL x):=by
  induction x with
  | nil=>simp[Hs.cntL]
  | cons y ys ih=>
   obtain⟨s,l,zs⟩:=y;rw[Hs.cntL,Hs.szL,zgc,ze7,List.length_cons];omega
 show hSt.cntL x<=10*(x.length+hSt.szL x)+10
 omega
theorem zp0{j:Nat}(h:0<j):zcj j=zcj (j / 10)++[UInt8.ofNat (48+j % 10)]:=by rw[zcj,if_neg (by omega)]
theorem zp1(j:Nat)(wr:Yw):(convert 45 9 (.slice (some ⟨wr.heap.size,0,none⟩) 1 1)).run Tryz.prog (wr.alloc (.cells #[.int .u8 (48+(j:Int) % 10)] 5))=.ok (.string ⟨[UInt8.ofNat (48+j % 10)].toArray⟩) (wr.alloc (.cells #[.int .u8 (48+(j:Int) % 10)] 5)):=by
 refine run_convert_bytes_back _ _ _ 5 ⟨wr.heap.size,0,none⟩ 1 [UInt8.ofNat (48+j % 10)] Tryz.underlying45 Tryz.underlying5 Tryz.underlying9 ?_;intro i hi;obtain rfl:i=0:=by simpa using hi
 have e0:(⟨wr.heap.size,0,none⟩:Addr).add 0=⟨wr.heap.size,0,none⟩:=rfl;rw[e0,cell_of_row _ wr.heap.size 0 _ 5 (0,0) (heap_alloc_new wr _)];simp;omega
theorem zko(a b:ByteArray):(a++b).data.toList=a.data.toList++b.data.toList:=by simp
theorem zp2{j:Nat}{s:ByteArray}{D:List UInt8}(h:0<j)(H:zcj j++s.data.toList=D):zcj (j / 10)++((⟨#[48+UInt8.ofNat (j % 10)]⟩:ByteArray)++s).data.toList=D:=by
 rw[zp0 h,List.append_assoc]at H;rw[zko,<-H,UInt8.ofNat_add]
 rfl
theorem zp3{k:Nat}{s:ByteArray}(H:zcj 0++s.data.toList=zcj k):(⟨#[109]⟩++s:ByteArray)=⟨(109::zcj k).toArray⟩:=by
 rw[<-H];apply ByteArray.ext;apply Array.toList_inj.1;rw[zko,show zcj 0=[]by rw[zcj];rfl]
 rfl
theorem zkp(k:Nat)(w:Yw)(hk:k<=1000000000):
 Calls Tryz.prog 157 #[.int .i64 k] w fun e w'=>e=.returned (.string (zdg k))/\Below w.heap.size w w':=by
 by_cases h0:k=0
 ·subst h0
  go_enter Tryz.func157,Tryz.ntmps157
  go_wp2;go_ret;exact⟨rfl,Below.refl _ _⟩
 have hR:=Lib.hid (show zdg (k:Int)=⟨(109::zcj k).toArray⟩by rw[zdg,if_neg (by omega),Int.toNat_natCast]);have hL:=zkk k;have HL:=Lib.hid (show (zcj k).length<=1000000000 by omega);clear hL
 go_enter Tryz.func157,Tryz.ntmps157
 go_wp2
 go_loopw [0,3] (fun i v wr=>∃(j:Nat) (s:ByteArray),i=.int .i64 j/\j<=k/\v=.string s/\Hid (zcj j++s.data.toList=zcj k)/\s.size<=1000000000/\Below w.heap.size w wr) (fun i _ _=>(intOf i).toNat)
 case atStart=>exact⟨k,⟨#[]⟩,rfl,by omega,rfl,Lib.hid (by simp),Nat.zero_le _,Below.refl _ _⟩
 case round=>
  obtain⟨j,s,rfl,hj,rfl,H,hs,hb⟩:=hrel
  by_cases hlt:0<j
  ·have hconv:=zp1 j wr;go_wp2;go_roundw
   case rel=>
    have h2:=zp2 hlt H.out;have h3:=congrArg List.length h2;have h4:=HL.out;rw[List.length_append]at h3;exact⟨j / 10,_,by go_num,by omega,rfl,Lib.hid h2,by show ((⟨#[48+UInt8.ofNat (j % 10)]⟩:ByteArray)++s).data.size<=_;rw[<-Array.length_toList];omega,hb.alloc hb.size _⟩
   case measure=>simp[intOf];omega
  obtain rfl:j=0:=by omega
  go_wp2;go_ret;exact⟨by rw[hR.out,<-zp3 H.out];rfl,hb⟩
theorem zp4(A:Yo)(n c:Nat)(k:Int)(xs:List zag)(w:Yw)(F:Nat->Prop)(hx:tM.O w F [.slice A n c] xs)(hk:0<=k/\k+(hM.cnt xs:Int)<=1000000000):
 Calls Tryz.prog 101 #[.slice A n c,.int .i64 k] w fun e w'=>e=.returned (.int .i64 (k+hM.cnt xs))/\tM.O w' F [.slice A n c] (hM.mark k xs)/\Chg F w w':=by
 have ow:=sl_O.1 hx;have hcap:=ow.read.cap;obtain rfl:xs.length=n:=hcap.1;have hl:xs.length<=9223372036854775807:=by have h1:=hcap.2;unfold maxLen at h1;omega
 clear hcap;have hcn:k+(hSt.cntL xs:Int)<=1000000000:=hk.2;obtain⟨k,rfl⟩:∃q:Nat,k=q:=⟨k.toNat,by omega⟩;clear hx
 go_enter Tryz.func101,Tryz.ntmps101
 go_wp2
 go_loopw [1,5] (fun q i wr=>∃j:Nat,i=.int .i64 j/\j<=xs.length/\q=.int .i64 ((k:Int)+(hSt.cntL (xs.take j):Int))/\OS tSt 117 wr F (.slice A xs.length c) ((hSt.mkL k xs).take j++xs.drop j)/\Chg F w wr)
  (fun _ i _=>xs.length-(intOf i).toNat)
 case atStart=>exact⟨0,rfl,by omega,by simp[Hs.cntL],by simpa using ow,Chg.refl _ _⟩
 case round=>
  obtain⟨j,rfl,hj,rfl,own,hg⟩:=hrel
  by_cases hlt:j<xs.length
  ·have hml:=Lib.hid (hSt.mkL_len k xs);have hX:=Lib.hid (List.getElem?_eq_getElem hlt);have hc1:=hSt.cntL_at hX.out;have hct2:=Lib.hid (hSt.cntL_take hX.out);have hmk:=Lib.hid (hSt.mkL_at k hX.out);generalize xs[j]=x at hX hc1 hct2 hmk;obtain⟨s,l0,ys⟩:=x;rw[zgc]at hc1;have hyj:=Lib.hid (show ((hSt.mkL k xs).take j++xs.drop j)[j]?=some (s,l0,ys)by rw[M.mid_at hml.out];exact hX.out);have hz:=zgb ys;have hmt:=zkp (k+hSt.cntL (xs.take j)) wr (by omega);rw[Int.natCast_add]at hmt;have hms:=Lib.hid (zps ((k:Int)+(hSt.cntL (xs.take j):Int)));go_wp2_with (first|(go_at_call 157;refine hmt.mono ?_;clear hmt;rintro e w2 ⟨rfl,bel2⟩;have own2:=(own.real.keep (fun b hb=>bel2.block b hb.2)).wide (F':=F) (fun b hb=>hb.1);obtain⟨css,Fs,hole,cs,hcs,hE⟩:=own2.openAt hyj.out;obtain⟨A0,n0,c0,rfl,-,hE⟩:=st_O.1 hE;obtain⟨g,rfl,hFg,hFn,hgl,-⟩:=hole.form (List.getElem?_eq_some_iff.1 hyj.out).1;have q0:=(hole.cell hcs (j:=0) rfl).1;have r0:=(hole.cell hcs (j:=0) rfl).2;have q1:=(hole.cell hcs (j:=1) rfl).1;have r1:=(hole.cell hcs (j:=1) rfl).2;have q2:=(hole.cell hcs (j:=2) rfl).1;change w2.cell? ⟨g,j*3+0,none⟩=_ at q0;change w2.frozen? ⟨g,j*3+0,none⟩=_ at r0;change w2.cell? ⟨g,j*3+1,none⟩=_ at q1;change w2.frozen? ⟨g,j*3+1,none⟩=_ at r1;change w2.cell? ⟨g,j*3+2,none⟩=_ at q2;rw[Nat.add_zero]at q0 r0)|(go_at_call 158;refine(zpq _ _ _ _ _ _ (Fs j) (tSdS.okeep (fun b hb=>(heap_setCell_other _ ⟨g,j*3+1,none⟩ b _ (fun e=>hFn (by simp only at e;rw[<-e];exact hb))).trans (heap_setCell_other w2 ⟨g,j*3,none⟩ b _ (fun e=>hFn (by simp only at e;rw[<-e];exact hb)))) hE) (by omega)).mono ?_;rintro e w3 ⟨rfl,o3,ch3⟩));go_roundw
   case rel=>
    have s0:=hole.set hcs 0 (by decide) (.string (zdg ((k:Int)+(hSt.cntL (xs.take j):Int))));have s1:=s0.1.set s0.2 1 (by decide) (.int .i64 ((k:Int)+(hSt.cntL (xs.take j):Int)+1));have h3:=(s1.1.chg ch3).fill s1.2 (y:=(zdg ((k:Int)+(hSt.cntL (xs.take j):Int)),(k:Int)+(hSt.cntL (xs.take j):Int)+1,hSdS.mark ((k:Int)+(hSt.cntL (xs.take j):Int)+1+1) ys)) (st_O.2 ⟨A0,n0,c0,rfl,by have:=hms.out;unfold maxLen;omega,o3⟩);have hmk2:(hSt.mkL k xs)[j]?=some (zdg ((k:Int)+(hSt.cntL (xs.take j):Int)),(k:Int)+(hSt.cntL (xs.take j):Int)+1,hSdS.mark ((k:Int)+(hSt.cntL (xs.take j):Int)+1+1) ys):=hmk.out;rw[M.set_mid hml.out hmk2]at h3;exact⟨j+1,by go_num,by omega,by rw[hct2.out,zgc];go_num,h3,((hg.trans (Chg.of_below bel2 F)).trans ((Chg.set w2 g (j*3) _ hFg).trans (Chg.set _ g (j*3+1) _ hFg))).trans (ch3.wide hole.fits)⟩
   case measure=>simp[intOf];omega
  obtain rfl:xs.length=j:=by omega
  go_wp2;go_ret;rw[List.take_of_length_le (by rw[Hs.mkL_len];omega),List.drop_eq_nil_of_le (by omega),List.append_nil]at own;exact⟨by rw[List.take_of_length_le (Nat.le_refl _)];rfl,sl_O.2 own,hg⟩
theorem zp5(A:Yo)(n c:Nat)(k:Int)(xs:List zag)(w:Yw)(F:Nat->Prop)(hx:tM.O w F [.slice A n c] xs)(hF:∀b,F b->b<w.heap.size)(hk:0<=k/\k+(hM.cnt xs:Int)<=1000000000):
 Calls Tryz.prog 47 #[.agg #[.slice A n c],.int .i64 k] w fun e w'=>e=.returned (.int .i64 (k+hM.cnt xs))/\tM.O w' F [.slice A n c] (hM.mark k xs)/\Chg F w w':=by
 have hb:Below w.heap.size w (w.alloc (.cells #[.slice A n c] 36)):=(Below.refl _ _).alloc (Nat.le_refl _) _;have hx2:tM.O (w.alloc (.cells #[.slice A n c] 36)) F [.slice A n c] xs:=tM.okeep (fun b h=>hb.block b (hF b h)) hx
 go_enter Tryz.func47,Tryz.ntmps47
 go_wp2_with (go_at_call 101;refine(zp4 _ _ _ _ _ _ _ hx2 hk).mono ?_;rintro e w2 ⟨rfl,own2,m2⟩);go_ret;exact⟨rfl,own2,(Chg.of_below hb _).trans m2⟩
theorem zhc{w:Yw}{B:Nat}{A:Yo}{n c:Nat}{xs:List (Int×Int)}(h:tSdS.R w B [.slice A n c] xs):RA sd 2 w B A n xs/\n<=c/\c<=maxLen:=(sl_R.1 h).flat
theorem zp6{s t:ByteArray}(h:¬s=t):¬s.toList=t.toList:=fun e=>h (by
 rw[Lib.toList_data,Lib.toList_data]at e;exact ByteArray.ext (Array.toList_inj.1 e))
def zdh (c:UInt8):Bool:=decide (97<=c.toNat)&&decide (c.toNat<=122)
def zdv (c:UInt8):Bool:=decide (48<=c.toNat)&&decide (c.toNat<=57)
def zck (s:ByteArray) (i:Nat):Bool:=match s.data.toList[i]? with
 | some c=>zdh c||(zdv c&&decide (i≠0))
 | none=>true
def zdw (s:ByteArray):Bool:=decide (1<=s.size)&&decide (s.size<=10)&&(List.range s.size).all (zck s)
theorem zij{s:ByteArray}{k:Nat}(hk:k<s.size):zck s k=(zdh s[k]||(zdv s[k]&&decide (k≠0))):=by
 have h1:s.data.toList[k]?=some s[k]:=by
  rw[List.getElem?_eq_getElem (by simpa using hk)]
  rfl
 rw[zck,h1]
theorem zik{s:ByteArray}{k:Nat}(hk:k<s.size)(h:zck s k=false):zdw s=false:=by
 rw[zdw];cases hall:(List.range s.size).all (zck s)
 ·simp
 rw[List.all_eq_true]at hall;have:=hall k (List.mem_range.2 hk);rw[h]at this;cases this
theorem zkq{s:ByteArray}(h1:1<=s.size)(h2:s.size<=10)(h:∀j,j<s.size->zck s j=true):zdw s=true:=by
 rw[zdw,decide_eq_true h1,decide_eq_true h2,Bool.true_and,Bool.true_and,List.all_eq_true];exact fun j hj=>h j (List.mem_range.1 hj)
theorem zil{s:ByteArray}(h:¬(1<=s.size/\s.size<=10)):zdw s=false:=by
 rw[zdw]
 by_cases h1:1<=s.size
 ·have h2:¬s.size<=10:=fun e=>h ⟨h1,e⟩
  simp[h2]
 simp[h1]
theorem zgd(s:ByteArray)(w:Yw)(hs:s.size<=maxLen):
 Calls Tryz.prog 140 #[.string s] w fun e w'=>e=.returned (.bool (zdw s))/\w=w':=by
 unfold maxLen at hs
 by_cases hlen:1<=s.size/\s.size<=10
 ·obtain⟨hl1,hl2⟩:=hlen
  go_enter Tryz.func140,Tryz.ntmps140
  go_wp2
  go_loop [3,4,5] (fun i _ _=>∃k:Nat,i=.int .i64 k/\k<=s.size/\Hid (∀j,j<k->zck s j=true)) (fun i _ _=>s.size-(intOf i).toNat)
  case atStart=>exact⟨0,rfl,by omega,Lib.hid (by omega)⟩
  case round=>
   obtain⟨k,rfl,hk,H⟩:=hrel
   by_cases hlt:k<s.size
   ·have hA:=Lib.hid (zij hlt)
    have hgo:zck s k=true->∀j,j<k+1->zck s j=true:=fun h j hj=>by
     rcases Nat.lt_or_ge j k with h1|h1
     ·exact H.out j h1
     obtain rfl:j=k:=by omega
     exact h
    have HG:=Lib.hid hgo;have HN:=Lib.hid (fun h=>zik (s:=s) (k:=k) hlt h);clear hgo
    by_cases h97:97<=s[k].toNat
    ·by_cases h122:s[k].toNat<=122
     ·have h2:=Lib.hid (show zck s k=true by rw[hA.out];simp[zdh,zdv];omega);have g1:(97:Int)<=(s[k].toNat:Int):=(by omega);have g2:(s[k].toNat:Int)<=122:=(by omega);clear h97 h122;go_wp2;go_round
      case rel=>exact⟨k+1,by go_num,by omega,Lib.hid (HG.out h2.out)⟩
      case measure=>simp[intOf];omega
     have h2:=Lib.hid (HN.out (show zck s k=false by rw[hA.out];simp[zdh,zdv];omega));have g1:(97:Int)<=(s[k].toNat:Int):=(by omega);have g2:¬(s[k].toNat:Int)<=122:=(by omega);have g3:(48:Int)<=(s[k].toNat:Int):=(by omega);have g4:¬(s[k].toNat:Int)<=57:=(by omega);clear h97 h122;go_wp2;go_ret;exact⟨zac (by rw[h2.out]),rfl⟩
    by_cases h48:48<=s[k].toNat
    ·by_cases h57:s[k].toNat<=57
     ·by_cases hk0:k=0
      ·have h2:=Lib.hid (HN.out (show zck s k=false by rw[hA.out];simp[zdh,zdv];omega));have g1:¬(97:Int)<=(s[k].toNat:Int):=(by omega);have g3:(48:Int)<=(s[k].toNat:Int):=(by omega);have g4:(s[k].toNat:Int)<=57:=(by omega);clear h97 h48 h57;subst hk0;go_wp2;go_ret;exact⟨zac (by rw[h2.out]),rfl⟩
      have h2:=Lib.hid (show zck s k=true by rw[hA.out];simp[zdh,zdv];omega);have g1:¬(97:Int)<=(s[k].toNat:Int):=(by omega);have g3:(48:Int)<=(s[k].toNat:Int):=(by omega);have g4:(s[k].toNat:Int)<=57:=(by omega);clear h97 h48 h57;go_wp2;go_round
      case rel=>exact⟨k+1,by go_num,by omega,Lib.hid (HG.out h2.out)⟩
      case measure=>simp[intOf];omega
     have h2:=Lib.hid (HN.out (show zck s k=false by rw[hA.out];simp[zdh,zdv];omega));have g1:¬(97:Int)<=(s[k].toNat:Int):=(by omega);have g3:(48:Int)<=(s[k].toNat:Int):=(by omega);have g4:¬(s[k].toNat:Int)<=57:=(by omega);clear h97 h48 h57;go_wp2;go_ret;exact⟨zac (by rw[h2.out]),rfl⟩
    have h2:=Lib.hid (HN.out (show zck s k=false by rw[hA.out];simp[zdh,zdv];omega));have g1:¬(97:Int)<=(s[k].toNat:Int):=(by omega);have g3:¬(48:Int)<=(s[k].toNat:Int):=(by omega);clear h97 h48;go_wp2;go_ret;exact⟨zac (by rw[h2.out]),rfl⟩
   have hY:=Lib.hid (zkq hl1 hl2 (fun j hj=>H.out j (by omega)));go_wp2;go_ret;exact⟨zac (by rw[hY.out]),rfl⟩
 have hN:=Lib.hid (zil hlen)
 by_cases h1:s.size<1
 ·go_enter Tryz.func140,Tryz.ntmps140
  go_wp2;go_ret;exact⟨zac (by rw[hN.out]),rfl⟩
 have h2:10<s.size:=by omega
 go_enter Tryz.func140,Tryz.ntmps140
 go_wp2;go_ret;exact⟨zac (by rw[hN.out]),rfl⟩
theorem zge(c:UInt8)(w:Yw):Calls Tryz.prog 221 #[.int .u8 (c.toNat:Int)] w fun e w'=>e=.returned (.bool (zdh c))/\w=w':=by
 go_enter Tryz.func221,Tryz.ntmps221
 go_wp2
 all_goals
  go_ret;exact⟨zac (by rw[zdh,Bool.eq_iff_iff];simp;omega),rfl⟩
theorem zkr(c:UInt8)(w:Yw):Calls Tryz.prog 222 #[.int .u8 (c.toNat:Int)] w fun e w'=>e=.returned (.bool (zdv c))/\w=w':=by
 go_enter Tryz.func222,Tryz.ntmps222
 go_wp2
 all_goals
  go_ret;exact⟨zac (by rw[zdv,Bool.eq_iff_iff];simp;omega),rfl⟩
theorem ze8(s:ByteArray)(w:Yw)(hs:s.size<=maxLen):
 Calls Tryz.prog 175 #[.string s] w fun e w'=>e=.returned (.bool (zdw s))/\w=w':=by
 unfold maxLen at hs
 by_cases h0:s.size=0
 ·have hN:=Lib.hid (zil (s:=s) (by omega));have he:s.toList=[]:=by rw[Lib.toList_data];exact List.eq_nil_of_length_eq_zero (by simpa using h0)
  have he2:s.toList.isEmpty=true:=by rw[he];rfl
  clear h0
  go_enter Tryz.func175,Tryz.ntmps175
  go_wp2;go_ret;exact⟨zac (by rw[hN.out]),rfl⟩
 have he:¬s.toList=[]:=by
  rw[Lib.toList_data];intro e;exact h0 (by have:=congrArg List.length e;simpa using this)
 have he2:s.toList.isEmpty=false:=by simpa using he
 have hp:0<s.size:=by omega
 by_cases h10:10<s.size
 ·have hN:=Lib.hid (zil (s:=s) (by omega))
  go_enter Tryz.func175,Tryz.ntmps175
  go_wp2;go_ret;exact⟨zac (by rw[hN.out]),rfl⟩
 cases hsm:zdh s[0]
 ·have hN:=Lib.hid (zik (s:=s) (k:=0) hp (by rw[zij hp,hsm];simp))
  go_enter Tryz.func175,Tryz.ntmps175
  go_wp2_with (go_at_call 221;refine(zge _ _).mono ?_;rw[hsm];rintro e w' ⟨rfl,rfl⟩);go_ret;exact⟨zac (by rw[hN.out]),rfl⟩
 have hl2:s.size<=10:=by omega
 have HSM:=Lib.hid hsm;clear hsm
 go_enter Tryz.func175,Tryz.ntmps175
 go_wp2_with (go_at_call 221;refine(zge _ _).mono ?_;rw[HSM.out];rintro e w' ⟨rfl,rfl⟩)
 go_loop [3] (fun i=>∃k:Nat,i=.int .i64 k/\k<=s.size/\Hid (∀j,j<k->zck s j=true)) (fun i=>s.size-(intOf i).toNat)
 case atStart=>exact⟨0,rfl,by omega,Lib.hid (by omega)⟩
 case round=>
  obtain⟨k,rfl,hk,H⟩:=hrel
  by_cases hlt:k<s.size
  ·have hA:=Lib.hid (zij hlt)
   have HG:=Lib.hid (show zck s k=true->∀j,j<k+1->zck s j=true from fun h j hj=>by
    rcases Nat.lt_or_ge j k with h1|h1
    ·exact H.out j h1
    obtain rfl:j=k:=by omega
    exact h)
   have HN:=Lib.hid (fun h=>zik (s:=s) (k:=k) hlt h);have HK:=Lib.hid (show k=0->zdh s[k]=true from fun e=>by subst e;exact HSM.out);cases h1:zdh s[k]
   ·cases h2:zdv s[k]
    ·have h3:=Lib.hid (HN.out (by rw[hA.out,h1,h2];rfl));go_wp2_with (first|(go_at_call 221;refine(zge _ _).mono ?_;rw[h1];rintro e w' ⟨rfl,rfl⟩)|(go_at_call 222;refine(zkr _ _).mono ?_;rw[h2];rintro e w' ⟨rfl,rfl⟩));go_ret;exact⟨zac (by rw[h3.out]),rfl⟩
    have hk0:¬k=0:=fun e=>by have:=HK.out e;rw[h1]at this;cases this
    have h3:=Lib.hid (HG.out (by rw[hA.out,h1,h2];simpa using hk0));clear hk0;go_wp2_with (first|(go_at_call 221;refine(zge _ _).mono ?_;rw[h1];rintro e w' ⟨rfl,rfl⟩)|(go_at_call 222;refine(zkr _ _).mono ?_;rw[h2];rintro e w' ⟨rfl,rfl⟩));go_round
    case rel=>exact⟨k+1,by go_num,by omega,h3⟩
    case measure=>simp[intOf];omega
   have h3:=Lib.hid (HG.out (by rw[hA.out,h1];rfl));go_wp2_with (go_at_call 221;refine(zge _ _).mono ?_;rw[h1];rintro e w' ⟨rfl,rfl⟩);go_round
   case rel=>exact⟨k+1,by go_num,by omega,h3⟩
   case measure=>simp[intOf];omega
  have hY:=Lib.hid (zkq (s:=s) hp hl2 (fun j hj=>H.out j (by omega)));go_wp2;go_ret;exact⟨zac (by rw[hY.out]),rfl⟩
theorem zex{n lo hi:Int}:M.inn n lo hi=true↔lo<=n/\n<=hi:=by simp[M.inn]
def zb9 (m:Int):Int->List (Int×Int)->Bool
 | _,[]=>true
 | last,x::xs=>M.inn x.1 (last+1) (m-1)&&M.smp x.2&&zb9 m x.1 xs
def zb6 (xs:List (Int×Int)) (k m:Int):Bool:=zb9 m k xs&&(if k=m-1 then decide (xs.length=0)else M.inn xs.length 1 4)
def zbx (x:zag) (k m:Int):Bool:=zdw x.1&&M.inn x.2.1 0 32&&zb6 x.2.2 k m
theorem zks{m last:Int}{xs:List (Int×Int)}{j:Nat}{p0 p1:Int}(h:xs[j]?=some (p0,p1)):zb9 m last (xs.drop j)=(M.inn p0 (last+1) (m-1)&&M.smp p1&&zb9 m p0 (xs.drop (j+1))):=by
 rw[M.drop_at h,zb9]
theorem zp7(A:Yo)(n c:Nat)(w:Yw):Calls Tryz.prog 194 #[.slice A n c] w fun e w'=>e=.returned (.int .i64 n)/\w=w':=by
 go_enter Tryz.func194,Tryz.ntmps194
 go_wp2;go_ret;exact⟨rfl,rfl⟩
theorem zeo(A:Yo)(n c:Nat)(w:Yw):Calls Tryz.prog 80 #[.slice A n c] w fun e w'=>e=.returned (.int .i64 n)/\w=w':=by
 go_enter Tryz.func80,Tryz.ntmps80
 go_wp2;go_ret;exact⟨rfl,rfl⟩
theorem zp8(A:Yo)(n c:Nat)(xs:List (Int×Int))(k m:Int)(w:Yw)(hx:RA sd 2 w w.heap.size A n xs)(hn:n<=1000000000)(hk:0<=k/\k<=1000000000)(hm:0<=m/\m<=1000000000):
 Calls Tryz.prog 141 #[.slice A n c,.int .i64 k,.int .i64 m] w fun e w'=>e=.returned (.bool (zb6 xs k m))/\Below w.heap.size w w':=by
 have hl:=Lib.hid hx.1
 go_enter Tryz.func141,Tryz.ntmps141
 go_wp2
 go_loopw [7,9,13] (fun v _ i wr=>∃(j:Nat) (last:Int),i=.int .i64 j/\j<=n/\v=.int .i64 last/\0<=last/\last<=1000000000/\Hid (zb9 m k xs=zb9 m last (xs.drop j))/\Below w.heap.size w wr) (fun _ _ i _=>n-(intOf i).toNat)
 case atStart=>exact⟨0,k,rfl,by omega,rfl,by omega,by omega,Lib.hid rfl,Below.refl _ _⟩
 case round=>
  obtain⟨j,last,rfl,hj,rfl,hl0,hl1,H,hb⟩:=hrel
  by_cases hlt:j<n
  ·obtain⟨b,o,⟨p0,p1⟩,rfl,hab,X,hcc⟩:=(hx.below hb).at zif (by decide) hlt;have e0:wr.cell? ⟨b,o+j*2,none⟩=some (.int .i64 p0):=hcc 0 _ rfl;have e1:wr.cell? ⟨b,o+j*2+1,none⟩=some (.int .i64 p1):=hcc 1 _ rfl;have hS:=Lib.hid (zks (m:=m) (last:=last) X.out);clear hcc;cases h1:M.inn p0 (last+1) (m-1)
   ·have R:=Lib.hid (show zb6 xs k m=false by rw[zb6,H.out,hS.out,h1];rfl);go_wp2_with (go_at_call 81;refine(zap _ _ _ _).mono ?_;rintro e w' ⟨rfl,rfl⟩);go_ret;exact⟨zac (by rw[R.out]),hb.alloc hb.size _⟩
   cases h2:M.smp p1
   ·have R:=Lib.hid (show zb6 xs k m=false by rw[zb6,H.out,hS.out,h1,h2];rfl);go_wp2_with (first|(go_at_call 81;refine(zap _ _ _ _).mono ?_;rintro e w' ⟨rfl,rfl⟩)|(go_at_call 193;refine(zel _ _).mono ?_;rintro e w' ⟨rfl,rfl⟩));go_ret;exact⟨zac (by rw[R.out]),hb.alloc hb.size _⟩
   have hp:=zex.1 h1;have H2:=Lib.hid (show zb9 m k xs=zb9 m p0 (xs.drop (j+1))by rw[H.out,hS.out,h1,h2];rfl);go_wp2_with (first|(go_at_call 81;refine(zap _ _ _ _).mono ?_;rintro e w' ⟨rfl,rfl⟩)|(go_at_call 193;refine(zel _ _).mono ?_;rintro e w' ⟨rfl,rfl⟩));go_roundw
   case rel=>exact⟨j+1,p0,by go_num,by omega,rfl,by omega,by omega,H2,hb.alloc hb.size _⟩
   case measure=>simp[intOf];omega
  have H2:=Lib.hid (show zb9 m k xs=true by rw[H.out,List.drop_eq_nil_of_le (by rw[hl.out];omega)];rfl)
  by_cases hkm:k=m-1
  ·have R:=Lib.hid (show zb6 xs k m=decide (n=0)by rw[zb6,H2.out,if_pos hkm,hl.out];rfl);have hkm2:(k == m-1)=true:=(by simpa using hkm);clear hkm
   by_cases hz:n=0
   ·subst hz;go_wp2;go_ret;exact⟨zac (by rw[R.out];rfl),hb⟩
   have hz2:((n:Int) == 0)=false:=(by simpa using hz);have R2:=Lib.hid (show zb6 xs k m=false by rw[R.out];simpa using hz);clear hz;go_wp2;go_ret;exact⟨zac (by first|(rw[R2.out];done)|(rw[R2.out];exact hz2)),hb⟩
  have hkm2:(k == m-1)=false:=by simpa using hkm
  have R:=Lib.hid (show zb6 xs k m=M.inn n 1 4 by rw[zb6,H2.out,if_neg hkm,hl.out];rfl);go_wp2_with (first|(go_at_call 81;refine(zap _ _ _ _).mono ?_;rintro e w' ⟨rfl,rfl⟩)|(go_at_call 194;refine(zp7 _ _ _ _).mono ?_;rintro e w' ⟨rfl,rfl⟩));go_ret;exact⟨zac (by rw[R.out]),hb⟩
theorem zp9(g o:Nat)(s:ByteArray)(l:Int)(A:Yo)(n c:Nat)(xs:List (Int×Int))(k m:Int)(w:Yw)(a0:w.cell? ⟨g,o,none⟩=some (.string s))(a1:w.cell? ⟨g,o+1,none⟩=some (.int .i64 l))(a2:w.cell? ⟨g,o+2,none⟩=some (.slice A n c))
 (hs:s.size<=maxLen) (hx:RA sd 2 w w.heap.size A n xs) (hn:n<=1000000000) (hk:0<=k/\k<=1000000000) (hm:0<=m/\m<=1000000000) :
 Calls Tryz.prog 127 #[.pointer (some ⟨g,o,none⟩),.int .i64 k,.int .i64 m] w fun e w'=>e=.returned (.bool (zbx (s,l,xs) k m))/\w=w':=by
 have hl:=Lib.hid hx.1;cases hN:zdw s
 ·have R:=Lib.hid (show zbx (s,l,xs) k m=false by rw[zbx,hN];rfl)
  go_enter Tryz.func127,Tryz.ntmps127
  go_wp2_with (first|(go_at_call 175;refine(ze8 _ _ hs).mono ?_;rw[hN];rintro e w' ⟨rfl,rfl⟩)|(go_at_call 67;refine(zaw _ _ _ _).mono ?_;rintro e w' ⟨rfl,rfl⟩));go_ret;exact⟨zac (by rw[R.out]),rfl⟩
 cases hL:M.inn l 0 32
 ·have R:=Lib.hid (show zbx (s,l,xs) k m=false by rw[zbx,hN,hL];rfl)
  go_enter Tryz.func127,Tryz.ntmps127
  go_wp2_with (first|(go_at_call 175;refine(ze8 _ _ hs).mono ?_;rw[hN];rintro e w' ⟨rfl,rfl⟩)|(go_at_call 67;refine(zaw _ _ _ _).mono ?_;rintro e w' ⟨rfl,rfl⟩));go_ret;exact⟨zac (by rw[R.out]),rfl⟩
 by_cases h4:4<n
 ·have h4':(4:Int)<(n:Int):=by omega
  have R:=Lib.hid (show zbx (s,l,xs) k m=false by
   rw[zbx,hN,hL];show zb6 xs k m=false
   rw[zb6,hl.out]
   split
   ·rw[decide_eq_false (by omega),Bool.and_false]
   rw[show M.inn (n:Int) 1 4=false by simp[M.inn];omega,Bool.and_false])
  go_enter Tryz.func127,Tryz.ntmps127
  go_wp2_with (first|(go_at_call 175;refine(ze8 _ _ hs).mono ?_;rw[hN];rintro e w' ⟨rfl,rfl⟩)|(go_at_call 67;refine(zaw _ _ _ _).mono ?_;rintro e w' ⟨rfl,rfl⟩));go_ret;exact⟨zac (by rw[R.out]),rfl⟩
 by_cases hz:n=0
 ·by_cases hkm:k=m-1
  ·have R:=Lib.hid (show zbx (s,l,xs) k m=true by
    have hnil:xs=[]:=List.eq_nil_of_length_eq_zero (by rw[hl.out,hz]);rw[zbx,hN,hL,zb6,if_pos hkm,hnil];rfl)
   have hkm2:(k == m-1)=true:=(by simpa using hkm);subst hz;clear hkm
   go_enter Tryz.func127,Tryz.ntmps127
   go_wp2_with (first|(go_at_call 175;refine(ze8 _ _ hs).mono ?_;rw[hN];rintro e w' ⟨rfl,rfl⟩)|(go_at_call 67;refine(zaw _ _ _ _).mono ?_;rintro e w' ⟨rfl,rfl⟩))
   go_loop [7,8] (fun _ i=>i=.int .i64 0) (fun _ _=>0)
   case atStart=>exact rfl
   case round=>
    obtain rfl:=hrel;go_wp2;go_ret;exact⟨zac (by rw[R.out]),rfl⟩
  have R:=Lib.hid (show zbx (s,l,xs) k m=false by
   rw[zbx,hN,hL];show zb6 xs k m=false
   rw[zb6,hl.out,if_neg hkm,hz,show M.inn ((0:Nat):Int) 1 4=false by decide,Bool.and_false])
  have hkm2:(k == m-1)=false:=by simpa using hkm
  subst hz
  go_enter Tryz.func127,Tryz.ntmps127
  go_wp2_with (first|(go_at_call 175;refine(ze8 _ _ hs).mono ?_;rw[hN];rintro e w' ⟨rfl,rfl⟩)|(go_at_call 67;refine(zaw _ _ _ _).mono ?_;rintro e w' ⟨rfl,rfl⟩));go_ret;exact⟨zac (by rw[R.out]),rfl⟩
 have hz2:((n:Int) == 0)=false:=by simpa using hz
 by_cases hkm:k=m-1
 ·have R:=Lib.hid (show zbx (s,l,xs) k m=false by
   rw[zbx,hN,hL];show zb6 xs k m=false
   rw[zb6,hl.out,if_pos hkm,decide_eq_false hz,Bool.and_false])
  have hkm2:(k == m-1)=true:=by simpa using hkm
  clear hkm hz
  go_enter Tryz.func127,Tryz.ntmps127
  go_wp2_with (first|(go_at_call 175;refine(ze8 _ _ hs).mono ?_;rw[hN];rintro e w' ⟨rfl,rfl⟩)|(go_at_call 67;refine(zaw _ _ _ _).mono ?_;rintro e w' ⟨rfl,rfl⟩));go_ret;exact⟨zac (by rw[R.out]),rfl⟩
 have R:=Lib.hid (show zbx (s,l,xs) k m=zb9 m k xs by
  rw[zbx,hN,hL];show zb6 xs k m=_
  rw[zb6,hl.out,if_neg hkm,show M.inn (n:Int) 1 4=true from zex.2 ⟨by omega,by omega⟩,Bool.and_true])
 have hkm2:(k == m-1)=false:=by simpa using hkm
 have hN':=Lib.hid hN;have hL':=Lib.hid hL;clear hkm hz hN hL
 go_enter Tryz.func127,Tryz.ntmps127
 go_wp2_with (first|(go_at_call 175;refine(ze8 _ _ hs).mono ?_;rw[hN'.out];rintro e w' ⟨rfl,rfl⟩)|(go_at_call 67;refine(zaw _ _ _ _).mono ?_;rw[hL'.out];rintro e w' ⟨rfl,rfl⟩))
 go_loop [7,8] (fun v i=>∃(j:Nat) (last:Int),i=.int .i64 j/\j<=n/\v=.int .i64 last/\0<=last/\last<=1000000000/\Hid (zb9 m k xs=zb9 m last (xs.drop j))) (fun _ i=>n-(intOf i).toNat)
 case atStart=>exact⟨0,k,rfl,by omega,rfl,by omega,by omega,Lib.hid rfl⟩
 case round=>
  obtain⟨j,last,rfl,hj,rfl,hl0,hl1,H⟩:=hrel
  by_cases hlt:j<n
  ·obtain⟨b,o1,⟨p0,p1⟩,rfl,hab,X,hcc⟩:=hx.at zif (by decide) hlt;have e0:w.cell? ⟨b,o1+j*2,none⟩=some (.int .i64 p0):=hcc 0 _ rfl;have e1:w.cell? ⟨b,o1+j*2+1,none⟩=some (.int .i64 p1):=hcc 1 _ rfl;have hS:=Lib.hid (zks (m:=m) (last:=last) X.out);clear hcc;cases h1:M.inn p0 (last+1) (m-1)
   ·have R2:=Lib.hid (show zbx (s,l,xs) k m=false by rw[R.out,H.out,hS.out,h1];rfl);go_wp2_with (go_at_call 67;refine(zaw _ _ _ _).mono ?_;rintro e w' ⟨rfl,rfl⟩);go_ret;exact⟨zac (by rw[R2.out]),rfl⟩
   cases h2:M.smp p1
   ·have R2:=Lib.hid (show zbx (s,l,xs) k m=false by rw[R.out,H.out,hS.out,h1,h2];rfl);go_wp2_with (first|(go_at_call 67;refine(zaw _ _ _ _).mono ?_;rintro e w' ⟨rfl,rfl⟩)|(go_at_call 128;refine(zdt _ _).mono ?_;rintro e w' ⟨rfl,rfl⟩));go_ret;exact⟨zac (by rw[R2.out]),rfl⟩
   have hp:=zex.1 h1;have H2:=Lib.hid (show zb9 m k xs=zb9 m p0 (xs.drop (j+1))by rw[H.out,hS.out,h1,h2];rfl);go_wp2_with (first|(go_at_call 67;refine(zaw _ _ _ _).mono ?_;rintro e w' ⟨rfl,rfl⟩)|(go_at_call 128;refine(zdt _ _).mono ?_;rintro e w' ⟨rfl,rfl⟩));go_round
   case rel=>exact⟨j+1,p0,by go_num,by omega,rfl,by omega,by omega,H2⟩
   case measure=>simp[intOf];omega
  have R2:=Lib.hid (show zbx (s,l,xs) k m=true by rw[R.out,H.out,List.drop_eq_nil_of_le (by rw[hl.out];omega)];rfl);go_wp2;go_ret;exact⟨zac (by rw[R2.out]),rfl⟩
end Go.Proofs.YtifeldeikhmckaaGreat
