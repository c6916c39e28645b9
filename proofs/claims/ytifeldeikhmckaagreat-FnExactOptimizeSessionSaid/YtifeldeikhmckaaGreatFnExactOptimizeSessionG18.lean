import Derived.Test.YtifeldeikhmckaaGreatFnExactOptimizeSessionG16
import Derived.Test.YtifeldeikhmckaaGreatFnExactOptimizeSessionG17
import Derived.Test.YtifeldeikhmckaaGreatFnExactOptimizeSessionG12
import Derived.Lib.QuietBelow
set_option linter.unusedVariables false
set_option linter.unusedSimpArgs false
set_option maxRecDepth 100000
set_option maxHeartbeats 4000000
namespace Go.Proofs.YtifeldeikhmckaaGreat
open Go.RowKit Go.Sort
set_option synthInstance.maxSize 2000
set_option synthInstance.maxHeartbeats 400000
theorem zey(A:Yo)(n c:Nat)(w:Yw):Calls Tryz.prog 150 #[.slice A n c] w fun e w'=>e=.returned (.int .i64 n)/\w=w':=by
 go_enter Tryz.func150,Tryz.ntmps150
 go_wp2;go_ret;exact⟨rfl,rfl⟩
theorem zr5(a0 a1 a2:Int)(A:Yo)(c:Nat)(xs:List Int)(w:Yw)(hx:RI w w.heap.size A xs.length xs):
 Calls Tryz.prog 236 #[.agg #[.int .i64 a0,.int .i64 a1,.int .i64 a2,.slice A xs.length c]] w fun e w'=>∃A' c',e=.returned (.slice A' (zau (a0,a1,a2,xs)).length c')/\RI w' w'.heap.size A' (zau (a0,a1,a2,xs)).length (zau (a0,a1,a2,xs))/\Below w.heap.size w w':=by
 obtain⟨W,hW⟩:∃W,W=w.alloc (.cells #[.int .i64 a0,.int .i64 a1,.int .i64 a2,.slice A xs.length c] 169):=⟨_,rfl⟩;have B0:Below w.heap.size w W:=by rw[hW];exact(Below.refl _ _).alloc (Nat.le_refl _) _
 have p0:W.cell? ⟨w.heap.size,0,none⟩=some (.int .i64 a0):=by rw[hW];simp[go_sem]
 have p3:W.cell? ⟨w.heap.size,3,none⟩=some (.slice A xs.length c):=by rw[hW];simp[go_sem]
 have hx1:=hx.later B0;have HU:=Lib.hid hW;clear hW
 by_cases h:a0=6
 ·have HW:=Lib.hid (show zau (a0,a1,a2,xs)=[]by rw[zau,if_pos h]);rw[HW.out];subst h
  go_enter Tryz.func236,Tryz.ntmps236
  go_wp2_with fail
  try rw[<-HU.out]
  go_ret;exact⟨_,_,rfl,RI.nil _ _ _,B0⟩
 have HW:=Lib.hid (show zau (a0,a1,a2,xs)=xs by rw[zau,if_neg h]);rw[HW.out];have g:(a0 == 6)=false:=by simpa using h
 go_enter Tryz.func236,Tryz.ntmps236
 go_wp2_with fail
 try rw[<-HU.out]
 go_wp2_with fail;go_ret;exact⟨_,_,rfl,hx1,B0⟩
def ebl (b:Bool):List Value:=[.bool b]
theorem zer(b:Bool):(ebl b).length=1:=rfl
theorem zls:EI Tryz.prog 233 4 (.bool false) 1 1:=⟨Tryz.underlying233,by kernel_rfl,rfl,by decide⟩
def M.tk (n:Nat) (O:List Int):List Bool:=(List.range n).map fun(i:Nat)=>zai O (i:Int)
theorem zhl{n:Nat}{O:List Int}{k:Nat}(h:k<n):(M.tk n O)[k]?=some (zai O (k:Int)):=by simp[M.tk,h]
theorem zr6{n:Nat}{O:List Int}{k:Nat}:(M.tk n O).set k true=M.tk n (O++[(k:Int)]):=by
 apply List.ext_getElem (by simp[M.tk]);intro i h1 h2;have hi:i<n:=by simpa [M.tk]using h2
 by_cases hik:k=i
 ·subst hik;simp[M.tk,zk1]
 rw[List.getElem_set_ne hik];simp only[M.tk,List.getElem_map,List.getElem_range,zk1];rw[show decide ((k:Int)=(i:Int))=false by simp;omega,Bool.or_false]
theorem zr7(n:Nat):M.tk n []=List.replicate n false:=by
 apply List.ext_getElem (by simp[M.tk]);intro i h1 h2;simp[M.tk,zqz]
def bN:Value->Nat
 | .bool true=>1
 | _=>0
theorem zr8(a0:Int)(A1:Yo)(n1 c1:Nat)(A2:Yo)(n2 c2:Nat)(A3:Yo)(n3 c3:Nat)(ns:List Node)(w:Yw)(hx:RS tN w w.heap.size (.slice A2 n2 c2) ns)(hb:hNS.sz ns<=100000000)
 (hid:Hid (∀x∈ns,∀f∈x.2.2.2,zbh n2 f=true)) :
 Calls Tryz.prog 197 #[.agg #[.int .i64 a0,.slice A1 n1 c1,.slice A2 n2 c2,.slice A3 n3 c3]] w (Ret1 2 w (zca ns)):=by
 have hl:=Lib.hid hx.cap.1;have hnb:n2<=100000000:=by have e:ns.length+hN.szL ns=hNS.sz ns:=rfl;have:=hl.out;omega
 obtain⟨W,hW⟩:∃W,W=w.alloc (.cells #[.int .i64 a0,.slice A1 n1 c1,.slice A2 n2 c2,.slice A3 n3 c3] 67):=⟨_,rfl⟩;have B0:Below w.heap.size w W:=by rw[hW];exact(Below.refl _ _).alloc (Nat.le_refl _) _
 have p2:W.cell? ⟨w.heap.size,2,none⟩=some (.slice A2 n2 c2):=by rw[hW];simp[go_sem]
 have lW:w.heap.size<W.heap.size:=by rw[hW];simp
 have HW:=Lib.hid hW;clear hW
 go_enter Tryz.func197,Tryz.ntmps197
 go_wp2_with (at_make;rw[<-HW.out];refine zdo zls rfl _ _ rfl n2 _ _ rfl rfl rfl rfl (by omega) (by unfold maxLen;omega) ?_;intro w1 own1 bel1);have hs1:W.heap.size<w1.heap.size:=(World.ownsRow.lt own1 _ rfl).2
 have owt:OA ebl 4 1 W.heap.size (W.heap.size+1) w1 (.slice (some ⟨W.heap.size,0,none⟩) n2 n2) (M.tk n2 []):=by
  rw[zr7];exact OA.made zer (by decide) rfl own1 (fun k hk=>by simp only[Value.ownBlock,Option.some.injEq]at hk;omega)
 have q2:w1.cell? ⟨w.heap.size,2,none⟩=some (.slice A2 n2 c2):=by rw[bel1.cell (by show w.heap.size<W.heap.size;omega)];exact p2
 have B1:=zaa B0 bel1;have O0:OI 2 w1.heap.size (w1.alloc (.cells #[] 2)) (.slice (some ⟨w1.heap.size,0,none⟩) 0 0) []:=OI.made _ w1;have B2:Below w.heap.size w (w1.alloc (.cells #[] 2)):=B1.alloc B1.size _;have M2:Below w1.heap.size w1 (w1.alloc (.cells #[] 2)):=(Below.refl _ _).alloc (Nat.le_refl _) _;have owt2:=owt.below M2 (by omega);have q22:(w1.alloc (.cells #[] 2)).cell? ⟨w.heap.size,2,none⟩=some (.slice A2 n2 c2):=by rw[M2.cell (by show w.heap.size<w1.heap.size;omega)];exact q2
 have hz2:w1.heap.size<=(w1.alloc (.cells #[] 2)).heap.size:=M2.size;clear own1 bel1 p2 owt q2 M2
 go_loopw [4,5] (fun v f wr=>∃(t:Nat) (O:List Int),t<=n2/\Hid (O=zaq ns t)/\Hid (O.length=t)/\OI 2 w1.heap.size wr v O/\OA ebl 4 1 W.heap.size (W.heap.size+1) wr (.slice (some ⟨W.heap.size,0,none⟩) n2 n2) (M.tk n2 O)/\Below w.heap.size w wr/\wr.cell? ⟨w.heap.size,2,none⟩=some (.slice A2 n2 c2)/\w1.heap.size<=wr.heap.size/\(f=.bool true\/(f=.bool false/\Hid (zca ns=O)))) (fun v f _=>2*(n2-zfq v)+bN f)
 case atStart=>exact⟨0,[],by omega,Lib.hid rfl,Lib.hid rfl,O0,owt2,B2,q22,hz2,.inl rfl⟩
 case round=>
  obtain⟨t,O,ht,HO,HL,own,owk,Bw,r2,hwz,hor⟩:=hrel;obtain⟨A5,c5,rfl,hri⟩:=own.shape;rw[HL.out]at own hri ⊢;rcases hor with rfl|⟨rfl,HR⟩
  ·go_wp2_with fail;obtain⟨wo,rfl⟩:∃wo:Yw,wo=wr:=⟨_,rfl⟩
   go_loopw [4,5,20] (fun v f i wr=>∃k:Nat,v=.slice A5 t c5/\f=.bool false/\i=.int .i64 k/\k<=n2/\Hid (∀j,j<k->zdc ns O j=false)/\Below wo.heap.size wo wr) (fun _ _ i _=>n2-(intOf i).toNat)
   case atStart=>exact⟨0,rfl,rfl,rfl,by omega,Lib.hid (by omega),Below.refl _ _⟩
   case round=>
    obtain⟨k,rfl,rfl,rfl,hk,H,Bo⟩:=hrel;have BB:=zaa Bw Bo;have lo0:w.heap.size<wo.heap.size:=by omega
    by_cases hlt:k<n2
    ·obtain⟨bb,o1,b0,b1,b2,A6,c6,x3,rfl,hbb,X,e0,e1,e2,e3,hr3,h3b⟩:=zfd (hx.below BB) hb hlt;have hrdy:=Lib.hid (zit (out:=O) X.out);obtain⟨U,hU⟩:∃U,U=wr.alloc (.cells #[.int .i64 b0,.int .i64 b1,.int .i64 b2,.slice A6 x3.length c6] 169):=⟨_,rfl⟩;have GU:Below wr.heap.size wr U:=(by rw[hU];exact(Below.refl _ _).alloc (Nat.le_refl _) _);have u0:U.cell? ⟨wr.heap.size,0,none⟩=some (.int .i64 b0):=(by rw[hU,cell_of_row _ wr.heap.size 0 _ 169 (0,0) (heap_alloc_new wr _)];rfl);have u1:U.cell? ⟨wr.heap.size,1,none⟩=some (.int .i64 b1):=(by rw[hU,cell_of_row _ wr.heap.size 1 _ 169 (0,0) (heap_alloc_new wr _)];rfl);have u2:U.cell? ⟨wr.heap.size,2,none⟩=some (.int .i64 b2):=(by rw[hU,cell_of_row _ wr.heap.size 2 _ 169 (0,0) (heap_alloc_new wr _)];rfl);have u3:U.cell? ⟨wr.heap.size,3,none⟩=some (.slice A6 x3.length c6):=(by rw[hU,cell_of_row _ wr.heap.size 3 _ 169 (0,0) (heap_alloc_new wr _)];rfl);have HU:=Lib.hid hU;clear hU;have BoU:=zaa Bo GU;have hrx:=(hr3.more BB.size).later GU;have owU:=(owk.below BoU (by omega));have tc:=(OA.cell zer (owk.below Bo (by omega)) (zhl (O:=O) hlt) (j:=0) rfl).1;rw[Nat.mul_one,Nat.add_zero]at tc;have lWr:W.heap.size<wr.heap.size:=(by have:=Bo.size;omega)
     have HF:=Lib.hid (fun f (hf:f∈zau (b0,b1,b2,x3))=>zbf.1 (hid.out _ (List.mem_of_getElem? X.out) f (by
      rw[zau]at hf
      split at hf
      ·cases hf
      exact hf)))
     have hwl:(zau (b0,b1,b2,x3)).length<=1000000000:=(by unfold zau;split <;> simp <;> omega);have HK:=Lib.hid (show zab ns k=(b0,b1,b2,x3)by rw[zab,X.out];rfl);generalize hws:zau (b0,b1,b2,x3)=ws at hrdy HF hwl;have HWS:=Lib.hid hws;clear hws;have hk0:(0:Int)<=(k:Int):=(by omega);have hkn:(k:Int)<(n2:Int):=(by omega);go_wp2_with fail;rw[<-HU.out];refine(zr5 _ _ _ _ _ _ U hrx).mono ?_;rw[HWS.out];rintro e w4 ⟨A7,c7,rfl,hr7,bel4⟩;have ow4:=owU.below bel4 (by have:=BoU.size;omega);go_wp2_with fail
     go_loop [8,33] (fun r i=>∃(q:Nat) (b:Bool),i=.int .i64 q/\q<=ws.length/\r=.bool b/\Hid ((!zai O k&&ws.all (zai O))=(b&&(ws.drop q).all (zai O)))) (fun _ i=>ws.length-(intOf i).toNat)
     case atStart=>exact⟨0,_,rfl,by omega,rfl,Lib.hid (by simp)⟩
     case round=>
      obtain⟨q,b,rfl,hq,rfl,HQ⟩:=hrel
      by_cases hlt2:q<ws.length
      ·obtain⟨ad,f,rfl,hab,Y,hc⟩:=hr7.at hlt2;have hd:=Lib.hid (M.drop_at Y.out);have hfb:=HF.out f (List.mem_of_getElem? Y.out);obtain⟨m,rfl⟩:∃m:Nat,f=(m:Int):=⟨f.toNat,by omega⟩;have hm:m<n2:=(by omega);have tm:=(OA.cell zer ow4 (zhl (O:=O) hm) (j:=0) rfl).1;rw[Nat.mul_one,Nat.add_zero]at tm;have hm0:(0:Int)<=(m:Int):=(by omega);have hmn:(m:Int)<(n2:Int):=(by omega);cases b
       ·have R:=Lib.hid (show (!zai O k&&ws.all (zai O))=(false&&(ws.drop (q+1)).all (zai O))by rw[HQ.out,Bool.false_and,Bool.false_and]);go_wp2;go_round
        case rel=>exact⟨q+1,false,by go_num,by omega,rfl,R⟩
        case measure=>simp[intOf];omega
       have R:=Lib.hid (show (!zai O k&&ws.all (zai O))=(zai O m&&(ws.drop (q+1)).all (zai O))by rw[HQ.out,hd.out,List.all_cons,Bool.true_and]);go_wp2;go_round
       case rel=>exact⟨q+1,_,by go_num,by omega,rfl,R⟩
       case measure=>simp[intOf];omega
      have HB:=Lib.hid (show zdc ns O k=b by rw[hrdy.out,HQ.out,List.drop_eq_nil_of_le (by omega)];simp);have B4:=zaa BoU bel4;have BW4:=zaa Bw B4;cases b
      ·go_wp2;go_roundw
       case rel=>exact⟨k+1,rfl,rfl,by go_num,by omega,Lib.hid (fun j hj=>by rcases Nat.lt_succ_iff_lt_or_eq.1 hj with h|h;exact H.out j h;rw[h];exact HB.out),B4⟩
       case measure=>simp[intOf];omega
      have HN:=Lib.hid (show O++[(k:Int)]=zaq ns (t+1)by
       have e:=zk2 (ns:=ns) (out:=O) (i:=k) (by rw[hl.out];exact hlt) HB.out H.out;rw[zis (i:=k) (by rw[<-HO.out];exact e),<-HO.out])
      have HL2:=Lib.hid (show (O++[(k:Int)]).length=t+1 by rw[List.length_append,HL.out];rfl)
      have htn:t+1<=n2:=by
       have:=zq8 ns (t+1);rw[<-HN.out,HL2.out,hl.out]at this;exact this
      have tkk:=(OA.cell zer ow4 (zhl (O:=O) hlt) (j:=0) rfl);rw[Nat.mul_one,Nat.add_zero]at tkk;have tk1:=tkk.1;have tk2:=tkk.2;obtain⟨ows,ms⟩:=OA.set zer ow4 (zhl (O:=O) hlt) (j:=0) (y:=true) (u:=.bool true) (by decide) rfl;rw[show k*1+0=k by omega,zr6]at ows;rw[show k*1+0=k by omega]at ms;have own4:=own.below B4
      have own5:OI 2 w1.heap.size (w4.setCell ⟨W.heap.size,k,none⟩ (.bool true)) (.slice A5 t c5) O:=by
       unfold OI at own4 ⊢
       exact World.ownsRow.kept own4 (zaz _ _ _ _) (by
        cases hv:(Value.slice A5 t c5).ownBlock with
        | none=>exact .inl rfl
        | some g=>
         refine .inr fun e=>?_
         injection e with e
         have:=(World.ownsRow.lt own4 g hv).1;omega)
      have BS:Below w.heap.size w4 (w4.setCell ⟨W.heap.size,k,none⟩ (.bool true)):=(ms.toBelow (by have:=B4.size;omega)).mono (by omega)
      have r5:(w4.setCell ⟨W.heap.size,k,none⟩ (.bool true)).cell? ⟨w.heap.size,2,none⟩=some (.slice (some ⟨bb,o1,none⟩) n2 c2):=by
       rw[(ms.toBelow (by have:=B4.size;omega)).cell (p:=⟨w.heap.size,2,none⟩) (by show w.heap.size<W.heap.size;omega),B4.cell (p:=⟨w.heap.size,2,none⟩) lo0];exact r2
      have hOl:O.length<=t:=(by rw[HL.out];omega);have hOl2:t<=O.length:=(by rw[HL.out];omega);have hz5:w1.heap.size<=(w4.setCell ⟨W.heap.size,k,none⟩ (.bool true)).heap.size:=(by have:=B4.size;simp;omega);obtain⟨V,hV⟩:∃V,V=w4.setCell ⟨W.heap.size,k,none⟩ (.bool true):=⟨_,rfl⟩;have HV:=Lib.hid hV;have hvz:V.heap.size=w4.heap.size:=(by rw[hV];simp);rw[<-hV]at ows own5 BS r5 hz5;clear hV ms own4;go_wp2_with (at_builtin;rw[<-HV.out];refine zdf zce rfl _ _ rfl own5 rfl (by rw[hvz];rfl) rfl (by unfold maxLen;omega) (by omega) hz5 ?_;intro v1 w6 own6 gr6 bel6);go_roundw
      case rel=>exact⟨t+1,O++[(k:Int)],htn,HN,HL2,OI.push own6,(ows.same (fun b h1 h2=>bel6.block b (by omega))),(BW4.trans BS).trans (bel6.mono (by omega)),by rw[bel6.cell (p:=⟨w.heap.size,2,none⟩) (by show w.heap.size<w1.heap.size;omega)];exact r5,by have:=bel6.size;omega,.inl rfl⟩
      case measure=>obtain⟨A9,c9,rfl,-⟩:=(OI.push own6).shape;rw[HL2.out];simp[zfq,bN];omega
    have hno:=zk3 (ns:=ns) (out:=O) (fun j hj=>H.out j (by rw[hl.out]at hj;omega));have HR:=Lib.hid (show zca ns=O by rw[HO.out];exact zk4 (by rw[hl.out];exact ht) (by rw[<-HO.out];exact hno));have r3:wr.cell? ⟨w.heap.size,2,none⟩=some (.slice A2 n2 c2):=(by rw[Bo.cell (p:=⟨w.heap.size,2,none⟩) lo0];exact r2);have own3:=own.below Bo;have owk3:=owk.below Bo (by omega);have hz3:=Bo.size;clear hno;go_wp2;go_roundw
    case rel=>exact⟨t,O,ht,HO,HL,own3,owk3,BB,r3,by omega,.inr ⟨rfl,HR⟩⟩
    case measure=>simp[zfq,bN]
  go_wp2;go_ret;rw[HR.out];rw[<-HL.out]at own ⊢;exact⟨_,rfl,own.base (by omega),Bw⟩
end Go.Proofs.YtifeldeikhmckaaGreat
