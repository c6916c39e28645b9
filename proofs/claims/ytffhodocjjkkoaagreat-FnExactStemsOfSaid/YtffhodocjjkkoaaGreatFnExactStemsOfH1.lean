import Derived.Test.YtffhodocjjkkoaaGreatFnExactStemOfG15
import Derived.Test.YtffhodocjjkkoaaGreatFnExactStemOfG7
import Derived.Test.YtffhodocjjkkoaaGreatFnExactStemOfG5
import Derived.Deep.DeepCutAuto
set_option linter.unusedVariables false
set_option linter.unusedSimpArgs false
set_option maxRecDepth 100000
set_option maxHeartbeats 4000000
namespace Go.Proofs.YtffhodocjjkkoaaGreat
section
open Go.RowKit Go.Sort
set_option synthInstance.maxSize 2000
set_option synthInstance.maxHeartbeats 400000
def zcm (L:Nat) (src:List (List Int)) (ts:List (List zag)) (fs:List Int) (ps:List zad) (ms:List zae):List (List Int):=(List.range ts.length).map fun (t:Nat) => zdx L src ts fs ps ms (t:Int)
theorem zj6 (L:Nat) (src:List (List Int)) (ts:List (List zag)) (fs:List Int) (ps:List zad) (ms:List zae):(zcm L src ts fs ps ms).length = ts.length:=by rw [zcm,List.length_map,List.length_range]
theorem zn3 {L:Nat} {src:List (List Int)} {ts:List (List zag)} {fs:List Int} {ps:List zad} {ms:List zae} {k:Nat} (hk:k < ts.length):(zcm L src ts fs ps ms)[k]? = some (zdx L src ts fs ps ms (k:Int)):=by
 rw [zcm,List.getElem?_map,List.getElem?_range hk]
 rfl
def zez (x:Sess):List (List Int) × Int:=if zbo x then (zcm x.1.toNat x.2.1 x.2.2.1 x.2.2.2.1 x.2.2.2.2.1 x.2.2.2.2.2,0) else ([],1)
theorem zj7 {L:Nat} {src:List (List Int)} {ts:List (List zag)} {fs:List Int} {ps:List zad} {ms:List zae} (h:zbo ((L:Int),src,ts,fs,ps,ms) = true):zez ((L:Int),src,ts,fs,ps,ms) = (zcm L src ts fs ps ms,0):=by
 rw [zez,h]
 rfl
theorem zj8 {x:Sess} (h:zbo x = false):zez x = ([],1):=by
 rw [zez,h]
 rfl
theorem zvz (a0:Int) (A1:Option Addr) (n1 c1:Nat) (A2:Option Addr) (n2 c2:Nat) (A3:Option Addr) (n3 c3:Nat) (A4:Option Addr) (n4 c4:Nat) (A5:Option Addr) (n5 c5:Nat) (src:List (List Int)) (ts:List (List zag)) (fs:List Int) (ps:List zad) (ms:List zae) (w:World)
 (h1:tSS.R w w.heap.size [.slice A1 n1 c1] src) (h2:tTS.R w w.heap.size [.slice A2 n2 c2] ts) (h3:tS.R w w.heap.size [.slice A3 n3 c3] fs) (h4:tPS.R w w.heap.size [.slice A4 n4 c4] ps) (h5:tM.R w w.heap.size [.slice A5 n5 c5] ms) (hn:hZ.sz ((a0,src,ts,fs,ps,ms):Sess) ≤ 100000000) :
 Calls Tryz.prog 27 #[.agg #[.int .i64 a0,.slice A1 n1 c1,.slice A2 n2 c2,.slice A3 n3 c3,.slice A4 n4 c4,.slice A5 n5 c5]] w (zgn w (zez (a0,src,ts,fs,ps,ms))):=by
 obtain ⟨W,hW,B0,sW,p0,p1,p2,p3,p4,p5,pf⟩:=zbw w (.int .i64 a0) (.slice A1 n1 c1) (.slice A2 n2 c2) (.slice A3 n3 c3) (.slice A4 n4 c4) (.slice A5 n5 c5) 40
 have HW:=Lib.hid hW
 have lW:w.heap.size < W.heap.size:=by omega
 have k1:=tSS.later h1 B0
 have k2:=tTS.later h2 B0
 have k3:=tS.later h3 B0
 have k4:=tPS.later h4 B0
 have k5:=tM.later h5 B0
 clear hW
 have Q2:=Lib.hid (sl_R.1 h2).cap.1
 cases hok:zbo ((a0,src,ts,fs,ps,ms):Sess)
 · have R:=Lib.hid (zj8 hok)
   have OK:=Lib.hid hok
   have TC:=Lib.hid (zh6 hok)
   clear hok
   go_enter Tryz.func27,Tryz.ntmps27
   go_wp2_with fail
   rw [← HW.out]
   refine (zf7 a0 _ _ c1 _ _ c2 _ _ c3 _ _ c4 _ _ c5 src ts fs ps ms none 0 0 [] W k1 k2 k3 k4 k5 (RI.nil _ _ _) (by omega) hn).mono ?_
   rw [TC.out]
   rintro e w1 ⟨rfl,bel1⟩
   go_wp2_with fail
   go_ret2
   rw [R.out]
   exact ⟨_,rfl,OS.nil _ _ _ _,zaa B0 bel1⟩
 · obtain ⟨L,rfl,hO⟩:=zey hok
   have htl:n2 ≤ 6:=by rw [← Q2.out];exact hO.tl
   have hL:=hO.l
   have R:=Lib.hid (zj7 hok)
   have OK:=Lib.hid hok
   have TC:=Lib.hid (zh5 hok)
   clear hok
   go_enter Tryz.func27,Tryz.ntmps27
   go_wp2_with fail
   rw [← HW.out]
   refine (zf7 (L:Int) _ _ c1 _ _ c2 _ _ c3 _ _ c4 _ _ c5 src ts fs ps ms none 0 0 [] W k1 k2 k3 k4 k5 (RI.nil _ _ _) (by omega) hn).mono ?_
   rw [TC.out]
   rintro e w1 ⟨rfl,bel1⟩
   have s1:=bel1.size
   have P0:=(bel1.cell (p:=⟨w.heap.size,0,none⟩) (by show w.heap.size < _;omega)).trans p0
   have P1:=(bel1.cell (p:=⟨w.heap.size,1,none⟩) (by show w.heap.size < _;omega)).trans p1
   have P2:=(bel1.cell (p:=⟨w.heap.size,2,none⟩) (by show w.heap.size < _;omega)).trans p2
   have P3:=(bel1.cell (p:=⟨w.heap.size,3,none⟩) (by show w.heap.size < _;omega)).trans p3
   have P4:=(bel1.cell (p:=⟨w.heap.size,4,none⟩) (by show w.heap.size < _;omega)).trans p4
   have P5:=(bel1.cell (p:=⟨w.heap.size,5,none⟩) (by show w.heap.size < _;omega)).trans p5
   have q1:=tSS.later k1 bel1
   have q2:=tTS.later k2 bel1
   have q3:=tS.later k3 bel1
   have q4:=tPS.later k4 bel1
   have q5:=tM.later k5 bel1
   have B01:=zaa B0 bel1
   have lw1:w.heap.size < w1.heap.size:=by omega
   clear p0 p1 p2 p3 p4 p5 k1 k2 k3 k4 k5 h1 h2 h3 h4 h5
   have HSL:=Lib.hid (show (zcm L src ts fs ps ms).length = n2 by rw [zj6];exact Q2.out)
   go_wp2_with fail
   refine (znw _ _ c2 _).mono ?_
   rintro e w' ⟨rfl,rfl⟩
   go_wp2_with fail
   go_loopw [5,16] (fun v i wr => ∃ k:Nat,i = .int .i64 k ∧ k ≤ n2 ∧ OS tS 24 wr (Iv w1.heap.size wr.heap.size) v ((zcm L src ts fs ps ms).take k) ∧ Below w1.heap.size w1 wr) (fun _ i _ => n2 - (intOf i).toNat)
   case atStart => exact ⟨0,rfl,by omega,OS.made0 _ _ _,(Below.refl _ _).alloc (Nat.le_refl _) _⟩
   case round =>
    obtain ⟨k,rfl,hk,own,B⟩:=hrel
    have sB:=B.size
    have r2:=(B.cell (p:=⟨w.heap.size,2,none⟩) (by show w.heap.size < _;omega)).trans P2
    by_cases hlt:k < n2
    · have hk1:(k:Int) < (n2:Int):=by omega
      have r0:=(B.cell (p:=⟨w.heap.size,0,none⟩) (by show w.heap.size < _;omega)).trans P0
      have r1:=(B.cell (p:=⟨w.heap.size,1,none⟩) (by show w.heap.size < _;omega)).trans P1
      have r2:=(B.cell (p:=⟨w.heap.size,2,none⟩) (by show w.heap.size < _;omega)).trans P2
      have r3:=(B.cell (p:=⟨w.heap.size,3,none⟩) (by show w.heap.size < _;omega)).trans P3
      have r4:=(B.cell (p:=⟨w.heap.size,4,none⟩) (by show w.heap.size < _;omega)).trans P4
      have r5:=(B.cell (p:=⟨w.heap.size,5,none⟩) (by show w.heap.size < _;omega)).trans P5
      have HTK:=Lib.hid (M.take_at (zn3 (L:=L) (src:=src) (ts:=ts) (fs:=fs) (ps:=ps) (ms:=ms) (k:=k) (by rw [Q2.out];exact hlt)))
      have hpl:((zcm L src ts fs ps ms).take k).length ≤ 1000000:=by rw [List.length_take];omega
      go_wp2_with fail
      refine (zj3 L _ _ c1 _ _ c2 _ _ c3 _ _ c4 _ _ c5 src ts fs ps ms (k:Int) wr (tSS.later q1 B) (tTS.later q2 B) (tS.later q3 B) (tPS.later q4 B) (tM.later q5 B) hn hO).mono ?_
      rintro e w2 ⟨v2,rfl,own2,bel2⟩
      obtain ⟨A6,c6,e6,-⟩:=zb9 own2
      rw [zfm] at e6
      subst e6
      have s2:=bel2.size
      have ow:=own.below bel2 (Nat.le_refl _)
      have os2:=tS_O.2 (OI.os own2)
      go_wp2_with (at_builtin;refine zca ei_S #[.slice A6 L c6] rfl _ _ rfl ow os2 (Iv.apart (Nat.le_refl _)) rfl rfl (by unfold maxLen;omega) (by omega) ?_;intro v5 w5 own5 ch5)
      go_roundw
      case rel =>
       refine ⟨k + 1,by go_num,by omega,?_,(B.trans (bel2.mono sB)).trans (ch5.toBelow (fun b hb => hb.1) (by omega))⟩
       rw [HTK.out]
       exact own5.wide (Iv.grow sB s2 ch5.size)
      case measure => simp [intOf];omega
    · obtain rfl:n2 = k:=by omega
      rw [List.take_of_length_le (by rw [HSL.out];exact Nat.le_refl _)] at own
      go_wp2_with fail
      go_ret2
      rw [R.out]
      exact ⟨_,rfl,own.wide (fun x hx => ⟨by have:=hx.1;omega,hx.2⟩),zaa B01 B⟩
theorem zv0 (a0:Int) (A1:Option Addr) (n1 c1:Nat) (A2:Option Addr) (n2 c2:Nat) (A3:Option Addr) (n3 c3:Nat) (A4:Option Addr) (n4 c4:Nat) (A5:Option Addr) (n5 c5:Nat) (src:List (List Int)) (ts:List (List zag)) (fs:List Int) (ps:List zad) (ms:List zae) (w:World)
 (h1:tSS.R w w.heap.size [.slice A1 n1 c1] src) (h2:tTS.R w w.heap.size [.slice A2 n2 c2] ts) (h3:tS.R w w.heap.size [.slice A3 n3 c3] fs) (h4:tPS.R w w.heap.size [.slice A4 n4 c4] ps) (h5:tM.R w w.heap.size [.slice A5 n5 c5] ms) (hn:hZ.sz ((a0,src,ts,fs,ps,ms):Sess) ≤ 100000000) :
 Calls Tryz.prog 26 #[.agg #[.int .i64 a0,.slice A1 n1 c1,.slice A2 n2 c2,.slice A3 n3 c3,.slice A4 n4 c4,.slice A5 n5 c5]] w (zgn w (zez (a0,src,ts,fs,ps,ms))):=by
 obtain ⟨W,hW,B0,sW,p0,p1,p2,p3,p4,p5,pf⟩:=zbw w (.int .i64 a0) (.slice A1 n1 c1) (.slice A2 n2 c2) (.slice A3 n3 c3) (.slice A4 n4 c4) (.slice A5 n5 c5) 40
 have HW:=Lib.hid hW
 have lW:w.heap.size < W.heap.size:=by omega
 have k1:=tSS.later h1 B0
 have k2:=tTS.later h2 B0
 have k3:=tS.later h3 B0
 have k4:=tPS.later h4 B0
 have k5:=tM.later h5 B0
 clear hW
 have Q2:=Lib.hid (sl_R.1 h2).cap.1
 cases hok:zbo ((a0,src,ts,fs,ps,ms):Sess)
 · have R:=Lib.hid (zj8 hok)
   have OK:=Lib.hid hok
   have TC:=Lib.hid (zh6 hok)
   clear hok
   go_enter Tryz.func26,Tryz.ntmps26
   go_wp2_with fail
   rw [← HW.out]
   refine (zfk w.heap.size a0 _ _ c1 _ _ c2 _ _ c3 _ _ c4 _ _ c5 src ts fs ps ms W p0 p1 p2 p3 p4 p5 k1 k2 k3 k4 k5 hn).mono ?_
   rw [OK.out]
   rintro e w1 ⟨rfl,bel1⟩
   go_wp2_with fail
   go_ret2
   rw [R.out]
   exact ⟨_,rfl,OS.nil _ _ _ _,zaa B0 bel1⟩
 · obtain ⟨L,rfl,hO⟩:=zey hok
   have htl:n2 ≤ 6:=by rw [← Q2.out];exact hO.tl
   have hL:=hO.l
   have R:=Lib.hid (zj7 hok)
   have OK:=Lib.hid hok
   have TC:=Lib.hid (zh5 hok)
   clear hok
   go_enter Tryz.func26,Tryz.ntmps26
   go_wp2_with fail
   rw [← HW.out]
   refine (zfk w.heap.size (L:Int) _ _ c1 _ _ c2 _ _ c3 _ _ c4 _ _ c5 src ts fs ps ms W p0 p1 p2 p3 p4 p5 k1 k2 k3 k4 k5 hn).mono ?_
   rw [OK.out]
   rintro e w1 ⟨rfl,bel1⟩
   have s1:=bel1.size
   have P0:=(bel1.cell (p:=⟨w.heap.size,0,none⟩) (by show w.heap.size < _;omega)).trans p0
   have P1:=(bel1.cell (p:=⟨w.heap.size,1,none⟩) (by show w.heap.size < _;omega)).trans p1
   have P2:=(bel1.cell (p:=⟨w.heap.size,2,none⟩) (by show w.heap.size < _;omega)).trans p2
   have P3:=(bel1.cell (p:=⟨w.heap.size,3,none⟩) (by show w.heap.size < _;omega)).trans p3
   have P4:=(bel1.cell (p:=⟨w.heap.size,4,none⟩) (by show w.heap.size < _;omega)).trans p4
   have P5:=(bel1.cell (p:=⟨w.heap.size,5,none⟩) (by show w.heap.size < _;omega)).trans p5
   have q1:=tSS.later k1 bel1
   have q2:=tTS.later k2 bel1
   have q3:=tS.later k3 bel1
   have q4:=tPS.later k4 bel1
   have q5:=tM.later k5 bel1
   have B01:=zaa B0 bel1
   have lw1:w.heap.size < w1.heap.size:=by omega
   clear p0 p1 p2 p3 p4 p5 k1 k2 k3 k4 k5 h1 h2 h3 h4 h5
   have HSL:=Lib.hid (show (zcm L src ts fs ps ms).length = n2 by rw [zj6];exact Q2.out)
   go_wp2_with fail
   go_loopw [4,5] (fun v i wr => ∃ k:Nat,i = .int .i64 k ∧ k ≤ n2 ∧ OS tS 24 wr (Iv w1.heap.size wr.heap.size) v ((zcm L src ts fs ps ms).take k) ∧ Below w1.heap.size w1 wr) (fun _ i _ => n2 - (intOf i).toNat)
   case atStart => exact ⟨0,rfl,by omega,OS.made0 _ _ _,(Below.refl _ _).alloc (Nat.le_refl _) _⟩
   case round =>
    obtain ⟨k,rfl,hk,own,B⟩:=hrel
    have sB:=B.size
    have r2:=(B.cell (p:=⟨w.heap.size,2,none⟩) (by show w.heap.size < _;omega)).trans P2
    by_cases hlt:k < n2
    · have hk1:(k:Int) < (n2:Int):=by omega
      have r0:=(B.cell (p:=⟨w.heap.size,0,none⟩) (by show w.heap.size < _;omega)).trans P0
      have r1:=(B.cell (p:=⟨w.heap.size,1,none⟩) (by show w.heap.size < _;omega)).trans P1
      have r2:=(B.cell (p:=⟨w.heap.size,2,none⟩) (by show w.heap.size < _;omega)).trans P2
      have r3:=(B.cell (p:=⟨w.heap.size,3,none⟩) (by show w.heap.size < _;omega)).trans P3
      have r4:=(B.cell (p:=⟨w.heap.size,4,none⟩) (by show w.heap.size < _;omega)).trans P4
      have r5:=(B.cell (p:=⟨w.heap.size,5,none⟩) (by show w.heap.size < _;omega)).trans P5
      have HTK:=Lib.hid (M.take_at (zn3 (L:=L) (src:=src) (ts:=ts) (fs:=fs) (ps:=ps) (ms:=ms) (k:=k) (by rw [Q2.out];exact hlt)))
      have hpl:((zcm L src ts fs ps ms).take k).length ≤ 1000000:=by rw [List.length_take];omega
      go_wp2_with fail
      refine (zj4 w.heap.size L _ _ c1 _ _ c2 _ _ c3 _ _ c4 _ _ c5 src ts fs ps ms (k:Int) wr r0 r1 r2 r3 r4 r5 (tSS.later q1 B) (tTS.later q2 B) (tS.later q3 B) (tPS.later q4 B) (tM.later q5 B) hn hO).mono ?_
      rintro e w2 ⟨v2,rfl,own2,bel2⟩
      obtain ⟨A6,c6,e6,-⟩:=zb9 own2
      rw [zfm] at e6
      subst e6
      have s2:=bel2.size
      have ow:=own.below bel2 (Nat.le_refl _)
      have os2:=tS_O.2 (OI.os own2)
      go_wp2_with (at_builtin;refine zca ei_S #[.slice A6 L c6] rfl _ _ rfl ow os2 (Iv.apart (Nat.le_refl _)) rfl rfl (by unfold maxLen;omega) (by omega) ?_;intro v5 w5 own5 ch5)
      go_roundw
      case rel =>
       refine ⟨k + 1,by go_num,by omega,?_,(B.trans (bel2.mono sB)).trans (ch5.toBelow (fun b hb => hb.1) (by omega))⟩
       rw [HTK.out]
       exact own5.wide (Iv.grow sB s2 ch5.size)
      case measure => simp [intOf];omega
    · obtain rfl:n2 = k:=by omega
      rw [List.take_of_length_le (by rw [HSL.out];exact Nat.le_refl _)] at own
      go_wp2_with fail
      go_ret2
      rw [R.out]
      exact ⟨_,rfl,own.wide (fun x hx => ⟨by have:=hx.1;omega,hx.2⟩),zaa B01 B⟩
end
section
open Go.RowKit
theorem zv1 {α:Type} {h:Hs α} {m:Nat}:∀ (xs:List α),(∀ x ∈ xs,h.sz x ≤ m) → h.szL xs ≤ m * xs.length:=by
 intro xs
 induction xs with
 | nil => intro _;exact Nat.zero_le _
 | cons y ys ih =>
  intro hx
  have h1:=hx y (by simp)
  have h2:=ih (fun x hx' => hx x (by simp [hx']))
  rw [Hs.szL,List.length_cons,Nat.mul_add]
  omega
theorem zwg (x:Sess):hSS.sz (zez x).1 ≤ 100000:=by
 cases h:zbo x
 · rw [zj8 h]
   exact Nat.zero_le _
 · obtain ⟨a0,x1,x2,x3,x4,x5⟩:=x
   obtain ⟨L,rfl,hO⟩:=zey h
   rw [zj7 h]
   show hSS.sz (zcm L x1 x2 x3 x4 x5) ≤ 100000
   have h2:(zcm L x1 x2 x3 x4 x5).length ≤ 6:=by rw [zj6];exact hO.tl
   have h3:hS.szL (zcm L x1 x2 x3 x4 x5) ≤ 1000 * (zcm L x1 x2 x3 x4 x5).length:=zv1 _ (fun y hy => by
    rw [zcm,List.mem_map] at hy
    obtain ⟨i,_,rfl⟩:=hy
    rw [zbl,zfm]
    exact hO.l)
   have e:hSS.sz (zcm L x1 x2 x3 x4 x5) = (zcm L x1 x2 x3 x4 x5).length + hS.szL (zcm L x1 x2 x3 x4 x5):=rfl
   omega
theorem zwh (p:Int) (A:Option Addr) (n c:Nat) (Ab:Option Addr) (nb cb:Nat) (Ac:Option Addr) (nc cc:Nat) (Ad:Option Addr) (nd cd:Nat) (Ae:Option Addr) (ne ce:Nat) (x:Sess) (w:World) (hx:tZ.R w w.heap.size [.int .i64 p,.slice A n c,.slice Ab nb cb,.slice Ac nc cc,.slice Ad nd cd,.slice Ae ne ce] x) (hn:hZ.sz x ≤ 100000000) :
 Calls Tryz.prog 27 #[.agg #[.int .i64 p,.slice A n c,.slice Ab nb cb,.slice Ac nc cc,.slice Ad nd cd,.slice Ae ne ce]] w (zgn w (zez x)):=by
 obtain ⟨a0,x1,x2,x3,x4,x5⟩:=x
 obtain ⟨A1,n1,c1,A2,n2,c2,A3,n3,c3,A4,n4,c4,A5,n5,c5,hcs,h1,h2,h3,h4,h5⟩:=tZ_R.1 hx
 simp only [List.cons.injEq,Value.int.injEq,Value.slice.injEq,true_and,and_true] at hcs
 obtain ⟨rfl,⟨rfl,rfl,rfl⟩,⟨rfl,rfl,rfl⟩,⟨rfl,rfl,rfl⟩,⟨rfl,rfl,rfl⟩,⟨rfl,rfl,rfl⟩⟩:=hcs
 exact zvz _ _ _ c _ _ cb _ _ cc _ _ cd _ _ ce _ _ _ _ _ _ h1 h2 h3 h4 h5 hn
theorem zwi (p:Int) (A:Option Addr) (n c:Nat) (Ab:Option Addr) (nb cb:Nat) (Ac:Option Addr) (nc cc:Nat) (Ad:Option Addr) (nd cd:Nat) (Ae:Option Addr) (ne ce:Nat) (x:Sess) (w:World) (hx:tZ.R w w.heap.size [.int .i64 p,.slice A n c,.slice Ab nb cb,.slice Ac nc cc,.slice Ad nd cd,.slice Ae ne ce] x) (hn:hZ.sz x ≤ 100000000) :
 Calls Tryz.prog 26 #[.agg #[.int .i64 p,.slice A n c,.slice Ab nb cb,.slice Ac nc cc,.slice Ad nd cd,.slice Ae ne ce]] w (zgn w (zez x)):=by
 obtain ⟨a0,x1,x2,x3,x4,x5⟩:=x
 obtain ⟨A1,n1,c1,A2,n2,c2,A3,n3,c3,A4,n4,c4,A5,n5,c5,hcs,h1,h2,h3,h4,h5⟩:=tZ_R.1 hx
 simp only [List.cons.injEq,Value.int.injEq,Value.slice.injEq,true_and,and_true] at hcs
 obtain ⟨rfl,⟨rfl,rfl,rfl⟩,⟨rfl,rfl,rfl⟩,⟨rfl,rfl,rfl⟩,⟨rfl,rfl,rfl⟩,⟨rfl,rfl,rfl⟩⟩:=hcs
 exact zv0 _ _ _ c _ _ cb _ _ cc _ _ cd _ _ ce _ _ _ _ _ _ h1 h2 h3 h4 h5 hn
end
section
open Go.RowKit
theorem zwj (p0:Int) (A0:Option Addr) (n0:Nat) (c0:Nat) (Ab0:Option Addr) (nb0:Nat) (cb0:Nat) (Ac0:Option Addr) (nc0:Nat) (cc0:Nat) (Ad0:Option Addr) (nd0:Nat) (cd0:Nat) (Ae0:Option Addr) (ne0:Nat) (ce0:Nat) (x0:Sess) (z0:List (List Int)) (z1:Int) (w:World)
 (hx0:tZ.R w w.heap.size [.int .i64 p0,.slice A0 n0 c0,.slice Ab0 nb0 cb0,.slice Ac0 nc0 cc0,.slice Ad0 nd0 cd0,.slice Ae0 ne0 ce0] x0)
 (hz0:hSS.sz z0 ≤ 100000000) (hc0:hSS.cnt z0 ≤ 100000000)
 (hSpec:∀ (p0:Int) (A0:Option Addr) (n0:Nat) (c0:Nat) (Ab0:Option Addr) (nb0:Nat) (cb0:Nat) (Ac0:Option Addr) (nc0:Nat) (cc0:Nat) (Ad0:Option Addr) (nd0:Nat) (cd0:Nat) (Ae0:Option Addr) (ne0:Nat) (ce0:Nat) (w:World),tZ.R w w.heap.size [.int .i64 p0,.slice A0 n0 c0,.slice Ab0 nb0 cb0,.slice Ac0 nc0 cc0,.slice Ad0 nd0 cd0,.slice Ae0 ne0 ce0] x0 → hZ.sz x0 ≤ 1048576 → Calls Tryz.prog 26 #[.agg #[.int .i64 p0,.slice A0 n0 c0,.slice Ab0 nb0 cb0,.slice Ac0 nc0 cc0,.slice Ad0 nd0 cd0,.slice Ae0 ne0 ce0]] w fun e w' => ∃ Ar0 nr0 cr0,e = .returned (.tuple #[.slice Ar0 nr0 cr0,.int .i64 z1]) ∧ tSS.O w' (Iv w.heap.size w'.heap.size) [.slice Ar0 nr0 cr0] z0 ∧ Below w.heap.size w w')
 (hImp:∀ (p0:Int) (A0:Option Addr) (n0:Nat) (c0:Nat) (Ab0:Option Addr) (nb0:Nat) (cb0:Nat) (Ac0:Option Addr) (nc0:Nat) (cc0:Nat) (Ad0:Option Addr) (nd0:Nat) (cd0:Nat) (Ae0:Option Addr) (ne0:Nat) (ce0:Nat) (w:World),tZ.R w w.heap.size [.int .i64 p0,.slice A0 n0 c0,.slice Ab0 nb0 cb0,.slice Ac0 nc0 cc0,.slice Ad0 nd0 cd0,.slice Ae0 ne0 ce0] x0 → hZ.sz x0 ≤ 1048576 → Calls Tryz.prog 27 #[.agg #[.int .i64 p0,.slice A0 n0 c0,.slice Ab0 nb0 cb0,.slice Ac0 nc0 cc0,.slice Ad0 nd0 cd0,.slice Ae0 ne0 ce0]] w fun e w' => ∃ Ar0 nr0 cr0,e = .returned (.tuple #[.slice Ar0 nr0 cr0,.int .i64 z1]) ∧ tSS.O w' (Iv w.heap.size w'.heap.size) [.slice Ar0 nr0 cr0] z0 ∧ Below w.heap.size w w') :
 Calls Tryz.prog 7 #[.agg #[.int .i64 p0,.slice A0 n0 c0,.slice Ab0 nb0 cb0,.slice Ac0 nc0 cc0,.slice Ad0 nd0 cd0,.slice Ae0 ne0 ce0]] w fun e w' => e = .returned (.bool true) ∧ Below w.heap.size w w':=by
 have HS:=Lib.hid hSpec
 have HI:=Lib.hid hImp
 clear hSpec hImp
 have B:Below w.heap.size w (w.alloc (.cells #[.int .i64 p0,.slice A0 n0 c0,.slice Ab0 nb0 cb0,.slice Ac0 nc0 cc0,.slice Ad0 nd0 cd0,.slice Ae0 ne0 ce0] 30)):=((Below.refl _ _).alloc (by exact Nat.le_refl _) _)
 have hsize:(w.alloc (.cells #[.int .i64 p0,.slice A0 n0 c0,.slice Ab0 nb0 cb0,.slice Ac0 nc0 cc0,.slice Ad0 nd0 cd0,.slice Ae0 ne0 ce0] 30)).heap.size = w.heap.size + 1:=by simp
 have pb0_0:(w.alloc (.cells #[.int .i64 p0,.slice A0 n0 c0,.slice Ab0 nb0 cb0,.slice Ac0 nc0 cc0,.slice Ad0 nd0 cd0,.slice Ae0 ne0 ce0] 30)).cell? ⟨w.heap.size,0,none⟩ = some (.int .i64 p0):=by simp [go_sem]
 have pb0_1:(w.alloc (.cells #[.int .i64 p0,.slice A0 n0 c0,.slice Ab0 nb0 cb0,.slice Ac0 nc0 cc0,.slice Ad0 nd0 cd0,.slice Ae0 ne0 ce0] 30)).cell? ⟨w.heap.size,1,none⟩ = some (.slice A0 n0 c0):=by simp [go_sem]
 have pb0_2:(w.alloc (.cells #[.int .i64 p0,.slice A0 n0 c0,.slice Ab0 nb0 cb0,.slice Ac0 nc0 cc0,.slice Ad0 nd0 cd0,.slice Ae0 ne0 ce0] 30)).cell? ⟨w.heap.size,2,none⟩ = some (.slice Ab0 nb0 cb0):=by simp [go_sem]
 have pb0_3:(w.alloc (.cells #[.int .i64 p0,.slice A0 n0 c0,.slice Ab0 nb0 cb0,.slice Ac0 nc0 cc0,.slice Ad0 nd0 cd0,.slice Ae0 ne0 ce0] 30)).cell? ⟨w.heap.size,3,none⟩ = some (.slice Ac0 nc0 cc0):=by simp [go_sem]
 have pb0_4:(w.alloc (.cells #[.int .i64 p0,.slice A0 n0 c0,.slice Ab0 nb0 cb0,.slice Ac0 nc0 cc0,.slice Ad0 nd0 cd0,.slice Ae0 ne0 ce0] 30)).cell? ⟨w.heap.size,4,none⟩ = some (.slice Ad0 nd0 cd0):=by simp [go_sem]
 have pb0_5:(w.alloc (.cells #[.int .i64 p0,.slice A0 n0 c0,.slice Ab0 nb0 cb0,.slice Ac0 nc0 cc0,.slice Ad0 nd0 cd0,.slice Ae0 ne0 ce0] 30)).cell? ⟨w.heap.size,5,none⟩ = some (.slice Ae0 ne0 ce0):=by simp [go_sem]
 have left:∀ (s:Nat) (l:Int),(s:Int) ≤ l → (if (s:Int) ≤ l then l - (s:Int) else -1) = l - (s:Int):=fun s l h => if_pos h
 have less:∀ (s:Nat) (l:Int),¬ (s:Int) ≤ l → (if (s:Int) ≤ l then l - (s:Int) else -1) = -1:=fun s l h => if_neg h
 have LEFT:=Lib.hid left
 have LESS:=Lib.hid less
 clear left less
 by_cases hb0:(1048576:Int) < (hZ.sz x0:Int)
 · go_enter Tryz.func7,Tryz.ntmps7
   go_wp2_with fail
   refine (zf6 _ _ _ _ _ _ _ _ _ _ _ _ _ _ _ _ _ ((1048576:Int)) _ (tZ.later hx0 B) (by omega)).mono ?_
   rw [LESS.out _ _ (by omega)]
   rintro e y0 ⟨rfl,b0⟩
   replace B:=zaa B b0
   go_wp2_with fail
   go_ret
   exact ⟨rfl,B⟩
 have hw0:hZ.sz x0 ≤ 1048576:=by omega
 have hd0:decide ((1048576:Int) - (hZ.sz x0:Int) < 0) = false:=by simp only [decide_eq_false_iff_not];omega
 clear hsize
 go_enter Tryz.func7,Tryz.ntmps7
 go_wp2_with fail
 refine (zf6 _ _ _ _ _ _ _ _ _ _ _ _ _ _ _ _ _ ((1048576:Int)) _ (tZ.later hx0 B) (by omega)).mono ?_
 rw [LEFT.out _ _ (by omega)]
 rintro e y0 ⟨rfl,b0⟩
 have zy0:w.heap.size + 1 ≤ y0.heap.size:=by have:=b0.size;simpa using this
 replace pb0_0:y0.cell? ⟨w.heap.size,0,none⟩ = some (.int .i64 p0):=by rw [b0.cell (by first | omega | (simp;done) | (simp;omega))];exact pb0_0
 replace pb0_1:y0.cell? ⟨w.heap.size,1,none⟩ = some (.slice A0 n0 c0):=by rw [b0.cell (by first | omega | (simp;done) | (simp;omega))];exact pb0_1
 replace pb0_2:y0.cell? ⟨w.heap.size,2,none⟩ = some (.slice Ab0 nb0 cb0):=by rw [b0.cell (by first | omega | (simp;done) | (simp;omega))];exact pb0_2
 replace pb0_3:y0.cell? ⟨w.heap.size,3,none⟩ = some (.slice Ac0 nc0 cc0):=by rw [b0.cell (by first | omega | (simp;done) | (simp;omega))];exact pb0_3
 replace pb0_4:y0.cell? ⟨w.heap.size,4,none⟩ = some (.slice Ad0 nd0 cd0):=by rw [b0.cell (by first | omega | (simp;done) | (simp;omega))];exact pb0_4
 replace pb0_5:y0.cell? ⟨w.heap.size,5,none⟩ = some (.slice Ae0 ne0 ce0):=by rw [b0.cell (by first | omega | (simp;done) | (simp;omega))];exact pb0_5
 replace B:=zaa B b0
 clear b0
 have lt0:w.heap.size < y0.heap.size:=by omega
 clear LEFT LESS
 go_wp2_with fail
 refine (zdw _ _ _ _ _ _ _ _ _ _ _ _ _ _ _ _ _ _ (tZ.later hx0 B) (by omega)).mono ?_
 rintro e u1 ⟨ps0,As0,ns0,cs0,Abs0,nbs0,cbs0,Acs0,ncs0,ccs0,Ads0,nds0,cds0,Aes0,nes0,ces0,rfl,s0,bb⟩
 have G:=bb
 have zu1:y0.heap.size ≤ u1.heap.size:=by have:=bb.size;simpa using this
 replace pb0_0:u1.cell? ⟨w.heap.size,0,none⟩ = some (.int .i64 p0):=by rw [G.cell (by first | omega | (simp;done) | (simp;omega))];exact pb0_0
 replace pb0_1:u1.cell? ⟨w.heap.size,1,none⟩ = some (.slice A0 n0 c0):=by rw [G.cell (by first | omega | (simp;done) | (simp;omega))];exact pb0_1
 replace pb0_2:u1.cell? ⟨w.heap.size,2,none⟩ = some (.slice Ab0 nb0 cb0):=by rw [G.cell (by first | omega | (simp;done) | (simp;omega))];exact pb0_2
 replace pb0_3:u1.cell? ⟨w.heap.size,3,none⟩ = some (.slice Ac0 nc0 cc0):=by rw [G.cell (by first | omega | (simp;done) | (simp;omega))];exact pb0_3
 replace pb0_4:u1.cell? ⟨w.heap.size,4,none⟩ = some (.slice Ad0 nd0 cd0):=by rw [G.cell (by first | omega | (simp;done) | (simp;omega))];exact pb0_4
 replace pb0_5:u1.cell? ⟨w.heap.size,5,none⟩ = some (.slice Ae0 ne0 ce0):=by rw [G.cell (by first | omega | (simp;done) | (simp;omega))];exact pb0_5
 replace s0:tZ.O u1 (Iv (y0.heap.size) u1.heap.size) [.int .i64 ps0,.slice As0 ns0 cs0,.slice Abs0 nbs0 cbs0,.slice Acs0 ncs0 ccs0,.slice Ads0 nds0 cds0,.slice Aes0 nes0 ces0] x0:=tZ.oiv s0 (by simp) (Nat.le_refl _)
 replace B:=zaa B G
 clear G bb
 replace lt0:w.heap.size < u1.heap.size:=by omega
 go_wp2_with fail
 refine (HS.out _ _ _ _ _ _ _ _ _ _ _ _ _ _ _ _ _ (tZ.read s0) hw0).mono ?_
 rintro e u2 ⟨Aw0,nw0,cw0,rfl,w0,bb⟩
 have G:=bb
 have zu2:u1.heap.size ≤ u2.heap.size:=by have:=bb.size;simpa using this
 replace pb0_0:u2.cell? ⟨w.heap.size,0,none⟩ = some (.int .i64 p0):=by rw [G.cell (by first | omega | (simp;done) | (simp;omega))];exact pb0_0
 replace pb0_1:u2.cell? ⟨w.heap.size,1,none⟩ = some (.slice A0 n0 c0):=by rw [G.cell (by first | omega | (simp;done) | (simp;omega))];exact pb0_1
 replace pb0_2:u2.cell? ⟨w.heap.size,2,none⟩ = some (.slice Ab0 nb0 cb0):=by rw [G.cell (by first | omega | (simp;done) | (simp;omega))];exact pb0_2
 replace pb0_3:u2.cell? ⟨w.heap.size,3,none⟩ = some (.slice Ac0 nc0 cc0):=by rw [G.cell (by first | omega | (simp;done) | (simp;omega))];exact pb0_3
 replace pb0_4:u2.cell? ⟨w.heap.size,4,none⟩ = some (.slice Ad0 nd0 cd0):=by rw [G.cell (by first | omega | (simp;done) | (simp;omega))];exact pb0_4
 replace pb0_5:u2.cell? ⟨w.heap.size,5,none⟩ = some (.slice Ae0 ne0 ce0):=by rw [G.cell (by first | omega | (simp;done) | (simp;omega))];exact pb0_5
 replace s0:=tZ.obelow s0 G (by omega)
 replace w0:tSS.O u2 (Iv (u1.heap.size) u2.heap.size) [.slice Aw0 nw0 cw0] z0:=tSS.oiv w0 (by simp) (Nat.le_refl _)
 replace B:=zaa B G
 clear G bb
 replace lt0:w.heap.size < u2.heap.size:=by omega
 clear s0
 go_wp2_with fail
 refine (zdw _ _ _ _ _ _ _ _ _ _ _ _ _ _ _ _ _ _ (tZ.later hx0 B) (by omega)).mono ?_
 rintro e u3 ⟨px0o,Ax0o,nx0o,cx0o,Abx0o,nbx0o,cbx0o,Acx0o,ncx0o,ccx0o,Adx0o,ndx0o,cdx0o,Aex0o,nex0o,cex0o,rfl,x0o,bb⟩
 have G:=bb
 have zu3:u2.heap.size ≤ u3.heap.size:=by have:=bb.size;simpa using this
 replace pb0_0:u3.cell? ⟨w.heap.size,0,none⟩ = some (.int .i64 p0):=by rw [G.cell (by first | omega | (simp;done) | (simp;omega))];exact pb0_0
 replace pb0_1:u3.cell? ⟨w.heap.size,1,none⟩ = some (.slice A0 n0 c0):=by rw [G.cell (by first | omega | (simp;done) | (simp;omega))];exact pb0_1
 replace pb0_2:u3.cell? ⟨w.heap.size,2,none⟩ = some (.slice Ab0 nb0 cb0):=by rw [G.cell (by first | omega | (simp;done) | (simp;omega))];exact pb0_2
 replace pb0_3:u3.cell? ⟨w.heap.size,3,none⟩ = some (.slice Ac0 nc0 cc0):=by rw [G.cell (by first | omega | (simp;done) | (simp;omega))];exact pb0_3
 replace pb0_4:u3.cell? ⟨w.heap.size,4,none⟩ = some (.slice Ad0 nd0 cd0):=by rw [G.cell (by first | omega | (simp;done) | (simp;omega))];exact pb0_4
 replace pb0_5:u3.cell? ⟨w.heap.size,5,none⟩ = some (.slice Ae0 ne0 ce0):=by rw [G.cell (by first | omega | (simp;done) | (simp;omega))];exact pb0_5
 replace w0:=tSS.obelow w0 G (by omega)
 replace x0o:tZ.O u3 (Iv (u2.heap.size) u3.heap.size) [.int .i64 px0o,.slice Ax0o nx0o cx0o,.slice Abx0o nbx0o cbx0o,.slice Acx0o ncx0o ccx0o,.slice Adx0o ndx0o cdx0o,.slice Aex0o nex0o cex0o] x0:=tZ.oiv x0o (by simp) (Nat.le_refl _)
 replace B:=zaa B G
 clear G bb
 replace lt0:w.heap.size < u3.heap.size:=by omega
 have G0:Below u3.heap.size u3 (u3.alloc (.cells #[.int .i64 px0o,.slice Ax0o nx0o cx0o,.slice Abx0o nbx0o cbx0o,.slice Acx0o ncx0o ccx0o,.slice Adx0o ndx0o cdx0o,.slice Aex0o nex0o cex0o] 40)):=(Below.refl _ _).alloc (Nat.le_refl _) _
 go_wp2_with fail
 refine (HI.out _ _ _ _ _ _ _ _ _ _ _ _ _ _ _ _ _ (tZ.later (tZ.read x0o) G0) hw0).mono ?_
 rintro e u4 ⟨Ag0,ng0,cg0,rfl,g0,bb⟩
 have G:=zaa G0 bb
 have zu4:u3.heap.size + 1 ≤ u4.heap.size:=by have:=bb.size;simp at this;omega
 replace pb0_0:u4.cell? ⟨w.heap.size,0,none⟩ = some (.int .i64 p0):=by rw [G.cell (by first | omega | (simp;done) | (simp;omega))];exact pb0_0
 replace pb0_1:u4.cell? ⟨w.heap.size,1,none⟩ = some (.slice A0 n0 c0):=by rw [G.cell (by first | omega | (simp;done) | (simp;omega))];exact pb0_1
 replace pb0_2:u4.cell? ⟨w.heap.size,2,none⟩ = some (.slice Ab0 nb0 cb0):=by rw [G.cell (by first | omega | (simp;done) | (simp;omega))];exact pb0_2
 replace pb0_3:u4.cell? ⟨w.heap.size,3,none⟩ = some (.slice Ac0 nc0 cc0):=by rw [G.cell (by first | omega | (simp;done) | (simp;omega))];exact pb0_3
 replace pb0_4:u4.cell? ⟨w.heap.size,4,none⟩ = some (.slice Ad0 nd0 cd0):=by rw [G.cell (by first | omega | (simp;done) | (simp;omega))];exact pb0_4
 replace pb0_5:u4.cell? ⟨w.heap.size,5,none⟩ = some (.slice Ae0 ne0 ce0):=by rw [G.cell (by first | omega | (simp;done) | (simp;omega))];exact pb0_5
 replace w0:=tSS.obelow w0 G (by omega)
 replace x0o:=tZ.obelow x0o G (by omega)
 have xb0_0:u4.cell? ⟨u3.heap.size,0,none⟩ = some (.int .i64 px0o):=by rw [bb.cell (by simp)];simp [go_sem]
 have xb0_1:u4.cell? ⟨u3.heap.size,1,none⟩ = some (.slice Ax0o nx0o cx0o):=by rw [bb.cell (by simp)];simp [go_sem]
 have xb0_2:u4.cell? ⟨u3.heap.size,2,none⟩ = some (.slice Abx0o nbx0o cbx0o):=by rw [bb.cell (by simp)];simp [go_sem]
 have xb0_3:u4.cell? ⟨u3.heap.size,3,none⟩ = some (.slice Acx0o ncx0o ccx0o):=by rw [bb.cell (by simp)];simp [go_sem]
 have xb0_4:u4.cell? ⟨u3.heap.size,4,none⟩ = some (.slice Adx0o ndx0o cdx0o):=by rw [bb.cell (by simp)];simp [go_sem]
 have xb0_5:u4.cell? ⟨u3.heap.size,5,none⟩ = some (.slice Aex0o nex0o cex0o):=by rw [bb.cell (by simp)];simp [go_sem]
 replace g0:tSS.O u4 (Iv (u3.heap.size + 1) u4.heap.size) [.slice Ag0 ng0 cg0] z0:=tSS.oiv g0 (by simp) (Nat.le_refl _)
 replace B:=zaa B G
 clear G bb G0
 replace lt0:w.heap.size < u4.heap.size:=by omega
 have lt1:u3.heap.size < u4.heap.size:=by omega
 go_wp2_with fail
 refine (zgd _ _ _ _ _ _ _ _ (tSS.read g0) (tSS.read w0) (by omega)).mono ?_
 rintro e u5 ⟨rfl,bb⟩
 have G:=bb
 have zu5:u4.heap.size ≤ u5.heap.size:=by have:=bb.size;simpa using this
 replace pb0_0:u5.cell? ⟨w.heap.size,0,none⟩ = some (.int .i64 p0):=by rw [G.cell (by first | omega | (simp;done) | (simp;omega))];exact pb0_0
 replace pb0_1:u5.cell? ⟨w.heap.size,1,none⟩ = some (.slice A0 n0 c0):=by rw [G.cell (by first | omega | (simp;done) | (simp;omega))];exact pb0_1
 replace pb0_2:u5.cell? ⟨w.heap.size,2,none⟩ = some (.slice Ab0 nb0 cb0):=by rw [G.cell (by first | omega | (simp;done) | (simp;omega))];exact pb0_2
 replace pb0_3:u5.cell? ⟨w.heap.size,3,none⟩ = some (.slice Ac0 nc0 cc0):=by rw [G.cell (by first | omega | (simp;done) | (simp;omega))];exact pb0_3
 replace pb0_4:u5.cell? ⟨w.heap.size,4,none⟩ = some (.slice Ad0 nd0 cd0):=by rw [G.cell (by first | omega | (simp;done) | (simp;omega))];exact pb0_4
 replace pb0_5:u5.cell? ⟨w.heap.size,5,none⟩ = some (.slice Ae0 ne0 ce0):=by rw [G.cell (by first | omega | (simp;done) | (simp;omega))];exact pb0_5
 replace xb0_0:u5.cell? ⟨u3.heap.size,0,none⟩ = some (.int .i64 px0o):=by rw [G.cell (by first | omega | (simp;done) | (simp;omega))];exact xb0_0
 replace xb0_1:u5.cell? ⟨u3.heap.size,1,none⟩ = some (.slice Ax0o nx0o cx0o):=by rw [G.cell (by first | omega | (simp;done) | (simp;omega))];exact xb0_1
 replace xb0_2:u5.cell? ⟨u3.heap.size,2,none⟩ = some (.slice Abx0o nbx0o cbx0o):=by rw [G.cell (by first | omega | (simp;done) | (simp;omega))];exact xb0_2
 replace xb0_3:u5.cell? ⟨u3.heap.size,3,none⟩ = some (.slice Acx0o ncx0o ccx0o):=by rw [G.cell (by first | omega | (simp;done) | (simp;omega))];exact xb0_3
 replace xb0_4:u5.cell? ⟨u3.heap.size,4,none⟩ = some (.slice Adx0o ndx0o cdx0o):=by rw [G.cell (by first | omega | (simp;done) | (simp;omega))];exact xb0_4
 replace xb0_5:u5.cell? ⟨u3.heap.size,5,none⟩ = some (.slice Aex0o nex0o cex0o):=by rw [G.cell (by first | omega | (simp;done) | (simp;omega))];exact xb0_5
 replace w0:=tSS.obelow w0 G (by omega)
 replace x0o:=tZ.obelow x0o G (by omega)
 replace g0:=tSS.obelow g0 G (by omega)
 replace B:=zaa B G
 clear G bb
 replace lt0:w.heap.size < u5.heap.size:=by omega
 replace lt1:u3.heap.size < u5.heap.size:=by omega
 go_wp2_with fail
 go_region_held3 (fun w' => Below u5.heap.size u5 w' ∧ w'.cell? ⟨w.heap.size,0,none⟩ = some (.int .i64 p0) ∧ w'.cell? ⟨w.heap.size,1,none⟩ = some (.slice A0 n0 c0) ∧ w'.cell? ⟨w.heap.size,2,none⟩ = some (.slice Ab0 nb0 cb0) ∧ w'.cell? ⟨w.heap.size,3,none⟩ = some (.slice Ac0 nc0 cc0) ∧ w'.cell? ⟨w.heap.size,4,none⟩ = some (.slice Ad0 nd0 cd0) ∧ w'.cell? ⟨w.heap.size,5,none⟩ = some (.slice Ae0 ne0 ce0) ∧ w'.cell? ⟨u3.heap.size,0,none⟩ = some (.int .i64 px0o) ∧ w'.cell? ⟨u3.heap.size,1,none⟩ = some (.slice Ax0o nx0o cx0o) ∧ w'.cell? ⟨u3.heap.size,2,none⟩ = some (.slice Abx0o nbx0o cbx0o) ∧ w'.cell? ⟨u3.heap.size,3,none⟩ = some (.slice Acx0o ncx0o ccx0o) ∧ w'.cell? ⟨u3.heap.size,4,none⟩ = some (.slice Adx0o ndx0o cdx0o) ∧ w'.cell? ⟨u3.heap.size,5,none⟩ = some (.slice Aex0o nex0o cex0o))
  (first | exact ⟨zac (Below.refl _ _) _,pb0_0,pb0_1,pb0_2,pb0_3,pb0_4,pb0_5,xb0_0,xb0_1,xb0_2,xb0_3,xb0_4,xb0_5⟩ | exact ⟨gq,(by rw [gq.cell (by first | omega | (simp;done) | (simp;omega))];exact pb0_0),(by rw [gq.cell (by first | omega | (simp;done) | (simp;omega))];exact pb0_1),(by rw [gq.cell (by first | omega | (simp;done) | (simp;omega))];exact pb0_2),(by rw [gq.cell (by first | omega | (simp;done) | (simp;omega))];exact pb0_3),(by rw [gq.cell (by first | omega | (simp;done) | (simp;omega))];exact pb0_4),(by rw [gq.cell (by first | omega | (simp;done) | (simp;omega))];exact pb0_5),(by rw [gq.cell (by first | omega | (simp;done) | (simp;omega))];exact xb0_0),(by rw [gq.cell (by first | omega | (simp;done) | (simp;omega))];exact xb0_1),(by rw [gq.cell (by first | omega | (simp;done) | (simp;omega))];exact xb0_2),(by rw [gq.cell (by first | omega | (simp;done) | (simp;omega))];exact xb0_3),(by rw [gq.cell (by first | omega | (simp;done) | (simp;omega))];exact xb0_4),(by rw [gq.cell (by first | omega | (simp;done) | (simp;omega))];exact xb0_5)⟩ | exact ⟨gt,(by rw [gt.cell (by first | omega | (simp;done) | (simp;omega))];exact pb0_0),(by rw [gt.cell (by first | omega | (simp;done) | (simp;omega))];exact pb0_1),(by rw [gt.cell (by first | omega | (simp;done) | (simp;omega))];exact pb0_2),(by rw [gt.cell (by first | omega | (simp;done) | (simp;omega))];exact pb0_3),(by rw [gt.cell (by first | omega | (simp;done) | (simp;omega))];exact pb0_4),(by rw [gt.cell (by first | omega | (simp;done) | (simp;omega))];exact pb0_5),(by rw [gt.cell (by first | omega | (simp;done) | (simp;omega))];exact xb0_0),(by rw [gt.cell (by first | omega | (simp;done) | (simp;omega))];exact xb0_1),(by rw [gt.cell (by first | omega | (simp;done) | (simp;omega))];exact xb0_2),(by rw [gt.cell (by first | omega | (simp;done) | (simp;omega))];exact xb0_3),(by rw [gt.cell (by first | omega | (simp;done) | (simp;omega))];exact xb0_4),(by rw [gt.cell (by first | omega | (simp;done) | (simp;omega))];exact xb0_5)⟩)
  (first | (go_at_call 10;refine (zdw _ _ _ _ _ _ _ _ _ _ _ _ _ _ _ _ _ _ (tZ.later (tZ.later hx0 B) (zac (Below.refl _ _) 1)) (by omega)).mono ?_;rintro e vt ⟨pq,Aq,nq,cq,Abq,nbq,cbq,Acq,ncq,ccq,Adq,ndq,cdq,Aeq,neq,ceq,rfl,ot,bt⟩;have gt:Below u5.heap.size u5 vt:=zaa (zac (Below.refl _ _) 1) bt) | (go_at_call 13;refine (zj0 _ _ _ _ _ _ _ _ _ _ _ _ _ _ _ _ _ _ _ _ _ _ _ _ _ _ _ _ _ _ _ _ _ _ (tZ.later (tZ.read x0o) gt) (tZ.read ot) (by omega)).mono ?_;rintro e u6 ⟨rfl,bq⟩;have gq:Below u5.heap.size u5 u6:=zaa gt bq))
 have zu6:u5.heap.size ≤ u6.heap.size:=gq.size
 replace pb0_0:u6.cell? ⟨w.heap.size,0,none⟩ = some (.int .i64 p0):=by rw [gq.cell (by first | omega | (simp;done) | (simp;omega))];exact pb0_0
 replace pb0_1:u6.cell? ⟨w.heap.size,1,none⟩ = some (.slice A0 n0 c0):=by rw [gq.cell (by first | omega | (simp;done) | (simp;omega))];exact pb0_1
 replace pb0_2:u6.cell? ⟨w.heap.size,2,none⟩ = some (.slice Ab0 nb0 cb0):=by rw [gq.cell (by first | omega | (simp;done) | (simp;omega))];exact pb0_2
 replace pb0_3:u6.cell? ⟨w.heap.size,3,none⟩ = some (.slice Ac0 nc0 cc0):=by rw [gq.cell (by first | omega | (simp;done) | (simp;omega))];exact pb0_3
 replace pb0_4:u6.cell? ⟨w.heap.size,4,none⟩ = some (.slice Ad0 nd0 cd0):=by rw [gq.cell (by first | omega | (simp;done) | (simp;omega))];exact pb0_4
 replace pb0_5:u6.cell? ⟨w.heap.size,5,none⟩ = some (.slice Ae0 ne0 ce0):=by rw [gq.cell (by first | omega | (simp;done) | (simp;omega))];exact pb0_5
 replace xb0_0:u6.cell? ⟨u3.heap.size,0,none⟩ = some (.int .i64 px0o):=by rw [gq.cell (by first | omega | (simp;done) | (simp;omega))];exact xb0_0
 replace xb0_1:u6.cell? ⟨u3.heap.size,1,none⟩ = some (.slice Ax0o nx0o cx0o):=by rw [gq.cell (by first | omega | (simp;done) | (simp;omega))];exact xb0_1
 replace xb0_2:u6.cell? ⟨u3.heap.size,2,none⟩ = some (.slice Abx0o nbx0o cbx0o):=by rw [gq.cell (by first | omega | (simp;done) | (simp;omega))];exact xb0_2
 replace xb0_3:u6.cell? ⟨u3.heap.size,3,none⟩ = some (.slice Acx0o ncx0o ccx0o):=by rw [gq.cell (by first | omega | (simp;done) | (simp;omega))];exact xb0_3
 replace xb0_4:u6.cell? ⟨u3.heap.size,4,none⟩ = some (.slice Adx0o ndx0o cdx0o):=by rw [gq.cell (by first | omega | (simp;done) | (simp;omega))];exact xb0_4
 replace xb0_5:u6.cell? ⟨u3.heap.size,5,none⟩ = some (.slice Aex0o nex0o cex0o):=by rw [gq.cell (by first | omega | (simp;done) | (simp;omega))];exact xb0_5
 replace w0:=tSS.obelow w0 gq (by omega)
 replace x0o:=tZ.obelow x0o gq (by omega)
 replace g0:=tSS.obelow g0 gq (by omega)
 replace B:=zaa B gq
 clear gq gt bq bt ot
 replace lt0:w.heap.size < u6.heap.size:=by omega
 replace lt1:u3.heap.size < u6.heap.size:=by omega
 have hk0:hZ.cnt x0 ≤ 20000000:=by have:=cl_Y x0;omega
 go_wp2_with fail
 refine (zj1 _ _ _ _ _ _ _ _ _ _ _ _ _ _ _ _ _ _ _ _ x0o (fun b hb => Nat.lt_of_lt_of_le hb.2 (by omega)) (by omega)).mono ?_
 rintro e u7 ⟨rfl,x0o,mm⟩
 have zu7:u6.heap.size ≤ u7.heap.size:=mm.size
 replace pb0_0:u7.cell? ⟨w.heap.size,0,none⟩ = some (.int .i64 p0):=by rw [World.cell?_of_block (mm.block _ (by first | omega | (simp;done) | (simp;omega)) (by first | (simp [Iv];done) | (simp [Iv];omega)))];exact pb0_0
 replace pb0_1:u7.cell? ⟨w.heap.size,1,none⟩ = some (.slice A0 n0 c0):=by rw [World.cell?_of_block (mm.block _ (by first | omega | (simp;done) | (simp;omega)) (by first | (simp [Iv];done) | (simp [Iv];omega)))];exact pb0_1
 replace pb0_2:u7.cell? ⟨w.heap.size,2,none⟩ = some (.slice Ab0 nb0 cb0):=by rw [World.cell?_of_block (mm.block _ (by first | omega | (simp;done) | (simp;omega)) (by first | (simp [Iv];done) | (simp [Iv];omega)))];exact pb0_2
 replace pb0_3:u7.cell? ⟨w.heap.size,3,none⟩ = some (.slice Ac0 nc0 cc0):=by rw [World.cell?_of_block (mm.block _ (by first | omega | (simp;done) | (simp;omega)) (by first | (simp [Iv];done) | (simp [Iv];omega)))];exact pb0_3
 replace pb0_4:u7.cell? ⟨w.heap.size,4,none⟩ = some (.slice Ad0 nd0 cd0):=by rw [World.cell?_of_block (mm.block _ (by first | omega | (simp;done) | (simp;omega)) (by first | (simp [Iv];done) | (simp [Iv];omega)))];exact pb0_4
 replace pb0_5:u7.cell? ⟨w.heap.size,5,none⟩ = some (.slice Ae0 ne0 ce0):=by rw [World.cell?_of_block (mm.block _ (by first | omega | (simp;done) | (simp;omega)) (by first | (simp [Iv];done) | (simp [Iv];omega)))];exact pb0_5
 replace xb0_0:u7.cell? ⟨u3.heap.size,0,none⟩ = some (.int .i64 px0o):=by rw [World.cell?_of_block (mm.block _ (by first | omega | (simp;done) | (simp;omega)) (by first | (simp [Iv];done) | (simp [Iv];omega)))];exact xb0_0
 replace xb0_1:u7.cell? ⟨u3.heap.size,1,none⟩ = some (.slice Ax0o nx0o cx0o):=by rw [World.cell?_of_block (mm.block _ (by first | omega | (simp;done) | (simp;omega)) (by first | (simp [Iv];done) | (simp [Iv];omega)))];exact xb0_1
 replace xb0_2:u7.cell? ⟨u3.heap.size,2,none⟩ = some (.slice Abx0o nbx0o cbx0o):=by rw [World.cell?_of_block (mm.block _ (by first | omega | (simp;done) | (simp;omega)) (by first | (simp [Iv];done) | (simp [Iv];omega)))];exact xb0_2
 replace xb0_3:u7.cell? ⟨u3.heap.size,3,none⟩ = some (.slice Acx0o ncx0o ccx0o):=by rw [World.cell?_of_block (mm.block _ (by first | omega | (simp;done) | (simp;omega)) (by first | (simp [Iv];done) | (simp [Iv];omega)))];exact xb0_3
 replace xb0_4:u7.cell? ⟨u3.heap.size,4,none⟩ = some (.slice Adx0o ndx0o cdx0o):=by rw [World.cell?_of_block (mm.block _ (by first | omega | (simp;done) | (simp;omega)) (by first | (simp [Iv];done) | (simp [Iv];omega)))];exact xb0_4
 replace xb0_5:u7.cell? ⟨u3.heap.size,5,none⟩ = some (.slice Aex0o nex0o cex0o):=by rw [World.cell?_of_block (mm.block _ (by first | omega | (simp;done) | (simp;omega)) (by first | (simp [Iv];done) | (simp [Iv];omega)))];exact xb0_5
 replace w0:=tSS.ochg w0 mm (by simp only [Iv];omega)
 replace g0:=tSS.ochg g0 mm (by simp only [Iv];omega)
 replace B:Below w.heap.size w u7:=B.trans (mm.toBelow (by simp only [Iv];omega) (by omega))
 clear mm
 replace lt0:w.heap.size < u7.heap.size:=by omega
 replace lt1:u3.heap.size < u7.heap.size:=by omega
 clear x0o
 go_wp2_with fail
 refine (zgd _ _ _ _ _ _ _ _ (tSS.read g0) (tSS.read w0) (by omega)).mono ?_
 rintro e u8 ⟨rfl,bb⟩
 have G:=bb
 have zu8:u7.heap.size ≤ u8.heap.size:=by have:=bb.size;simpa using this
 replace pb0_0:u8.cell? ⟨w.heap.size,0,none⟩ = some (.int .i64 p0):=by rw [G.cell (by first | omega | (simp;done) | (simp;omega))];exact pb0_0
 replace pb0_1:u8.cell? ⟨w.heap.size,1,none⟩ = some (.slice A0 n0 c0):=by rw [G.cell (by first | omega | (simp;done) | (simp;omega))];exact pb0_1
 replace pb0_2:u8.cell? ⟨w.heap.size,2,none⟩ = some (.slice Ab0 nb0 cb0):=by rw [G.cell (by first | omega | (simp;done) | (simp;omega))];exact pb0_2
 replace pb0_3:u8.cell? ⟨w.heap.size,3,none⟩ = some (.slice Ac0 nc0 cc0):=by rw [G.cell (by first | omega | (simp;done) | (simp;omega))];exact pb0_3
 replace pb0_4:u8.cell? ⟨w.heap.size,4,none⟩ = some (.slice Ad0 nd0 cd0):=by rw [G.cell (by first | omega | (simp;done) | (simp;omega))];exact pb0_4
 replace pb0_5:u8.cell? ⟨w.heap.size,5,none⟩ = some (.slice Ae0 ne0 ce0):=by rw [G.cell (by first | omega | (simp;done) | (simp;omega))];exact pb0_5
 replace xb0_0:u8.cell? ⟨u3.heap.size,0,none⟩ = some (.int .i64 px0o):=by rw [G.cell (by first | omega | (simp;done) | (simp;omega))];exact xb0_0
 replace xb0_1:u8.cell? ⟨u3.heap.size,1,none⟩ = some (.slice Ax0o nx0o cx0o):=by rw [G.cell (by first | omega | (simp;done) | (simp;omega))];exact xb0_1
 replace xb0_2:u8.cell? ⟨u3.heap.size,2,none⟩ = some (.slice Abx0o nbx0o cbx0o):=by rw [G.cell (by first | omega | (simp;done) | (simp;omega))];exact xb0_2
 replace xb0_3:u8.cell? ⟨u3.heap.size,3,none⟩ = some (.slice Acx0o ncx0o ccx0o):=by rw [G.cell (by first | omega | (simp;done) | (simp;omega))];exact xb0_3
 replace xb0_4:u8.cell? ⟨u3.heap.size,4,none⟩ = some (.slice Adx0o ndx0o cdx0o):=by rw [G.cell (by first | omega | (simp;done) | (simp;omega))];exact xb0_4
 replace xb0_5:u8.cell? ⟨u3.heap.size,5,none⟩ = some (.slice Aex0o nex0o cex0o):=by rw [G.cell (by first | omega | (simp;done) | (simp;omega))];exact xb0_5
 replace w0:=tSS.obelow w0 G (by omega)
 replace g0:=tSS.obelow g0 G (by omega)
 replace B:=zaa B G
 clear G bb
 replace lt0:w.heap.size < u8.heap.size:=by omega
 replace lt1:u3.heap.size < u8.heap.size:=by omega
 go_wp2_with fail
 refine (zif _ _ _ _ _ _ _ g0 (by omega)).mono ?_
 rintro e u9 ⟨rfl,g0,mm⟩
 have zu9:u8.heap.size ≤ u9.heap.size:=mm.size
 replace pb0_0:u9.cell? ⟨w.heap.size,0,none⟩ = some (.int .i64 p0):=by rw [World.cell?_of_block (mm.block _ (by first | omega | (simp;done) | (simp;omega)) (by first | (simp [Iv];done) | (simp [Iv];omega)))];exact pb0_0
 replace pb0_1:u9.cell? ⟨w.heap.size,1,none⟩ = some (.slice A0 n0 c0):=by rw [World.cell?_of_block (mm.block _ (by first | omega | (simp;done) | (simp;omega)) (by first | (simp [Iv];done) | (simp [Iv];omega)))];exact pb0_1
 replace pb0_2:u9.cell? ⟨w.heap.size,2,none⟩ = some (.slice Ab0 nb0 cb0):=by rw [World.cell?_of_block (mm.block _ (by first | omega | (simp;done) | (simp;omega)) (by first | (simp [Iv];done) | (simp [Iv];omega)))];exact pb0_2
 replace pb0_3:u9.cell? ⟨w.heap.size,3,none⟩ = some (.slice Ac0 nc0 cc0):=by rw [World.cell?_of_block (mm.block _ (by first | omega | (simp;done) | (simp;omega)) (by first | (simp [Iv];done) | (simp [Iv];omega)))];exact pb0_3
 replace pb0_4:u9.cell? ⟨w.heap.size,4,none⟩ = some (.slice Ad0 nd0 cd0):=by rw [World.cell?_of_block (mm.block _ (by first | omega | (simp;done) | (simp;omega)) (by first | (simp [Iv];done) | (simp [Iv];omega)))];exact pb0_4
 replace pb0_5:u9.cell? ⟨w.heap.size,5,none⟩ = some (.slice Ae0 ne0 ce0):=by rw [World.cell?_of_block (mm.block _ (by first | omega | (simp;done) | (simp;omega)) (by first | (simp [Iv];done) | (simp [Iv];omega)))];exact pb0_5
 replace xb0_0:u9.cell? ⟨u3.heap.size,0,none⟩ = some (.int .i64 px0o):=by rw [World.cell?_of_block (mm.block _ (by first | omega | (simp;done) | (simp;omega)) (by first | (simp [Iv];done) | (simp [Iv];omega)))];exact xb0_0
 replace xb0_1:u9.cell? ⟨u3.heap.size,1,none⟩ = some (.slice Ax0o nx0o cx0o):=by rw [World.cell?_of_block (mm.block _ (by first | omega | (simp;done) | (simp;omega)) (by first | (simp [Iv];done) | (simp [Iv];omega)))];exact xb0_1
 replace xb0_2:u9.cell? ⟨u3.heap.size,2,none⟩ = some (.slice Abx0o nbx0o cbx0o):=by rw [World.cell?_of_block (mm.block _ (by first | omega | (simp;done) | (simp;omega)) (by first | (simp [Iv];done) | (simp [Iv];omega)))];exact xb0_2
 replace xb0_3:u9.cell? ⟨u3.heap.size,3,none⟩ = some (.slice Acx0o ncx0o ccx0o):=by rw [World.cell?_of_block (mm.block _ (by first | omega | (simp;done) | (simp;omega)) (by first | (simp [Iv];done) | (simp [Iv];omega)))];exact xb0_3
 replace xb0_4:u9.cell? ⟨u3.heap.size,4,none⟩ = some (.slice Adx0o ndx0o cdx0o):=by rw [World.cell?_of_block (mm.block _ (by first | omega | (simp;done) | (simp;omega)) (by first | (simp [Iv];done) | (simp [Iv];omega)))];exact xb0_4
 replace xb0_5:u9.cell? ⟨u3.heap.size,5,none⟩ = some (.slice Aex0o nex0o cex0o):=by rw [World.cell?_of_block (mm.block _ (by first | omega | (simp;done) | (simp;omega)) (by first | (simp [Iv];done) | (simp [Iv];omega)))];exact xb0_5
 replace w0:=tSS.ochg w0 mm (by simp only [Iv];omega)
 replace B:Below w.heap.size w u9:=B.trans (mm.toBelow (by simp only [Iv];omega) (by omega))
 clear mm
 replace lt0:w.heap.size < u9.heap.size:=by omega
 replace lt1:u3.heap.size < u9.heap.size:=by omega
 go_wp2_with fail
 refine (zki _ _ _ _ _ _ (tSS.read g0) (by omega)).mono ?_
 rintro e u10 ⟨rfl,bb⟩
 have G:=bb
 have zu10:u9.heap.size ≤ u10.heap.size:=by have:=bb.size;simpa using this
 replace pb0_0:u10.cell? ⟨w.heap.size,0,none⟩ = some (.int .i64 p0):=by rw [G.cell (by first | omega | (simp;done) | (simp;omega))];exact pb0_0
 replace pb0_1:u10.cell? ⟨w.heap.size,1,none⟩ = some (.slice A0 n0 c0):=by rw [G.cell (by first | omega | (simp;done) | (simp;omega))];exact pb0_1
 replace pb0_2:u10.cell? ⟨w.heap.size,2,none⟩ = some (.slice Ab0 nb0 cb0):=by rw [G.cell (by first | omega | (simp;done) | (simp;omega))];exact pb0_2
 replace pb0_3:u10.cell? ⟨w.heap.size,3,none⟩ = some (.slice Ac0 nc0 cc0):=by rw [G.cell (by first | omega | (simp;done) | (simp;omega))];exact pb0_3
 replace pb0_4:u10.cell? ⟨w.heap.size,4,none⟩ = some (.slice Ad0 nd0 cd0):=by rw [G.cell (by first | omega | (simp;done) | (simp;omega))];exact pb0_4
 replace pb0_5:u10.cell? ⟨w.heap.size,5,none⟩ = some (.slice Ae0 ne0 ce0):=by rw [G.cell (by first | omega | (simp;done) | (simp;omega))];exact pb0_5
 replace xb0_0:u10.cell? ⟨u3.heap.size,0,none⟩ = some (.int .i64 px0o):=by rw [G.cell (by first | omega | (simp;done) | (simp;omega))];exact xb0_0
 replace xb0_1:u10.cell? ⟨u3.heap.size,1,none⟩ = some (.slice Ax0o nx0o cx0o):=by rw [G.cell (by first | omega | (simp;done) | (simp;omega))];exact xb0_1
 replace xb0_2:u10.cell? ⟨u3.heap.size,2,none⟩ = some (.slice Abx0o nbx0o cbx0o):=by rw [G.cell (by first | omega | (simp;done) | (simp;omega))];exact xb0_2
 replace xb0_3:u10.cell? ⟨u3.heap.size,3,none⟩ = some (.slice Acx0o ncx0o ccx0o):=by rw [G.cell (by first | omega | (simp;done) | (simp;omega))];exact xb0_3
 replace xb0_4:u10.cell? ⟨u3.heap.size,4,none⟩ = some (.slice Adx0o ndx0o cdx0o):=by rw [G.cell (by first | omega | (simp;done) | (simp;omega))];exact xb0_4
 replace xb0_5:u10.cell? ⟨u3.heap.size,5,none⟩ = some (.slice Aex0o nex0o cex0o):=by rw [G.cell (by first | omega | (simp;done) | (simp;omega))];exact xb0_5
 replace w0:=tSS.obelow w0 G (by omega)
 replace g0:=tSS.obelow g0 G (by omega)
 replace B:=zaa B G
 clear G bb
 replace lt0:w.heap.size < u10.heap.size:=by omega
 replace lt1:u3.heap.size < u10.heap.size:=by omega
 go_wp2_with fail
 refine (zdw _ _ _ _ _ _ _ _ _ _ _ _ _ _ _ _ _ _ (tZ.later hx0 B) (by omega)).mono ?_
 rintro e u11 ⟨ph0o,Ah0o,nh0o,ch0o,Abh0o,nbh0o,cbh0o,Ach0o,nch0o,cch0o,Adh0o,ndh0o,cdh0o,Aeh0o,neh0o,ceh0o,rfl,h0o,bb⟩
 have G:=bb
 have zu11:u10.heap.size ≤ u11.heap.size:=by have:=bb.size;simpa using this
 replace pb0_0:u11.cell? ⟨w.heap.size,0,none⟩ = some (.int .i64 p0):=by rw [G.cell (by first | omega | (simp;done) | (simp;omega))];exact pb0_0
 replace pb0_1:u11.cell? ⟨w.heap.size,1,none⟩ = some (.slice A0 n0 c0):=by rw [G.cell (by first | omega | (simp;done) | (simp;omega))];exact pb0_1
 replace pb0_2:u11.cell? ⟨w.heap.size,2,none⟩ = some (.slice Ab0 nb0 cb0):=by rw [G.cell (by first | omega | (simp;done) | (simp;omega))];exact pb0_2
 replace pb0_3:u11.cell? ⟨w.heap.size,3,none⟩ = some (.slice Ac0 nc0 cc0):=by rw [G.cell (by first | omega | (simp;done) | (simp;omega))];exact pb0_3
 replace pb0_4:u11.cell? ⟨w.heap.size,4,none⟩ = some (.slice Ad0 nd0 cd0):=by rw [G.cell (by first | omega | (simp;done) | (simp;omega))];exact pb0_4
 replace pb0_5:u11.cell? ⟨w.heap.size,5,none⟩ = some (.slice Ae0 ne0 ce0):=by rw [G.cell (by first | omega | (simp;done) | (simp;omega))];exact pb0_5
 replace xb0_0:u11.cell? ⟨u3.heap.size,0,none⟩ = some (.int .i64 px0o):=by rw [G.cell (by first | omega | (simp;done) | (simp;omega))];exact xb0_0
 replace xb0_1:u11.cell? ⟨u3.heap.size,1,none⟩ = some (.slice Ax0o nx0o cx0o):=by rw [G.cell (by first | omega | (simp;done) | (simp;omega))];exact xb0_1
 replace xb0_2:u11.cell? ⟨u3.heap.size,2,none⟩ = some (.slice Abx0o nbx0o cbx0o):=by rw [G.cell (by first | omega | (simp;done) | (simp;omega))];exact xb0_2
 replace xb0_3:u11.cell? ⟨u3.heap.size,3,none⟩ = some (.slice Acx0o ncx0o ccx0o):=by rw [G.cell (by first | omega | (simp;done) | (simp;omega))];exact xb0_3
 replace xb0_4:u11.cell? ⟨u3.heap.size,4,none⟩ = some (.slice Adx0o ndx0o cdx0o):=by rw [G.cell (by first | omega | (simp;done) | (simp;omega))];exact xb0_4
 replace xb0_5:u11.cell? ⟨u3.heap.size,5,none⟩ = some (.slice Aex0o nex0o cex0o):=by rw [G.cell (by first | omega | (simp;done) | (simp;omega))];exact xb0_5
 replace w0:=tSS.obelow w0 G (by omega)
 replace g0:=tSS.obelow g0 G (by omega)
 replace h0o:tZ.O u11 (Iv (u10.heap.size) u11.heap.size) [.int .i64 ph0o,.slice Ah0o nh0o ch0o,.slice Abh0o nbh0o cbh0o,.slice Ach0o nch0o cch0o,.slice Adh0o ndh0o cdh0o,.slice Aeh0o neh0o ceh0o] x0:=tZ.oiv h0o (by simp) (Nat.le_refl _)
 replace B:=zaa B G
 clear G bb
 replace lt0:w.heap.size < u11.heap.size:=by omega
 replace lt1:u3.heap.size < u11.heap.size:=by omega
 go_wp2_with fail
 refine (HI.out _ _ _ _ _ _ _ _ _ _ _ _ _ _ _ _ _ (tZ.read h0o) hw0).mono ?_
 rintro e u12 ⟨Ah0,nh0,ch0,rfl,h0,bb⟩
 have G:=bb
 have zu12:u11.heap.size ≤ u12.heap.size:=by have:=bb.size;simpa using this
 replace pb0_0:u12.cell? ⟨w.heap.size,0,none⟩ = some (.int .i64 p0):=by rw [G.cell (by first | omega | (simp;done) | (simp;omega))];exact pb0_0
 replace pb0_1:u12.cell? ⟨w.heap.size,1,none⟩ = some (.slice A0 n0 c0):=by rw [G.cell (by first | omega | (simp;done) | (simp;omega))];exact pb0_1
 replace pb0_2:u12.cell? ⟨w.heap.size,2,none⟩ = some (.slice Ab0 nb0 cb0):=by rw [G.cell (by first | omega | (simp;done) | (simp;omega))];exact pb0_2
 replace pb0_3:u12.cell? ⟨w.heap.size,3,none⟩ = some (.slice Ac0 nc0 cc0):=by rw [G.cell (by first | omega | (simp;done) | (simp;omega))];exact pb0_3
 replace pb0_4:u12.cell? ⟨w.heap.size,4,none⟩ = some (.slice Ad0 nd0 cd0):=by rw [G.cell (by first | omega | (simp;done) | (simp;omega))];exact pb0_4
 replace pb0_5:u12.cell? ⟨w.heap.size,5,none⟩ = some (.slice Ae0 ne0 ce0):=by rw [G.cell (by first | omega | (simp;done) | (simp;omega))];exact pb0_5
 replace xb0_0:u12.cell? ⟨u3.heap.size,0,none⟩ = some (.int .i64 px0o):=by rw [G.cell (by first | omega | (simp;done) | (simp;omega))];exact xb0_0
 replace xb0_1:u12.cell? ⟨u3.heap.size,1,none⟩ = some (.slice Ax0o nx0o cx0o):=by rw [G.cell (by first | omega | (simp;done) | (simp;omega))];exact xb0_1
 replace xb0_2:u12.cell? ⟨u3.heap.size,2,none⟩ = some (.slice Abx0o nbx0o cbx0o):=by rw [G.cell (by first | omega | (simp;done) | (simp;omega))];exact xb0_2
 replace xb0_3:u12.cell? ⟨u3.heap.size,3,none⟩ = some (.slice Acx0o ncx0o ccx0o):=by rw [G.cell (by first | omega | (simp;done) | (simp;omega))];exact xb0_3
 replace xb0_4:u12.cell? ⟨u3.heap.size,4,none⟩ = some (.slice Adx0o ndx0o cdx0o):=by rw [G.cell (by first | omega | (simp;done) | (simp;omega))];exact xb0_4
 replace xb0_5:u12.cell? ⟨u3.heap.size,5,none⟩ = some (.slice Aex0o nex0o cex0o):=by rw [G.cell (by first | omega | (simp;done) | (simp;omega))];exact xb0_5
 replace w0:=tSS.obelow w0 G (by omega)
 replace g0:=tSS.obelow g0 G (by omega)
 replace h0o:=tZ.obelow h0o G (by omega)
 replace h0:tSS.O u12 (Iv (u11.heap.size) u12.heap.size) [.slice Ah0 nh0 ch0] z0:=tSS.oiv h0 (by simp) (Nat.le_refl _)
 replace B:=zaa B G
 clear G bb
 replace lt0:w.heap.size < u12.heap.size:=by omega
 replace lt1:u3.heap.size < u12.heap.size:=by omega
 clear h0o
 go_wp2_with fail
 refine (zgd _ _ _ _ _ _ _ _ (tSS.read h0) (tSS.read w0) (by omega)).mono ?_
 rintro e u13 ⟨rfl,bb⟩
 have G:=bb
 have zu13:u12.heap.size ≤ u13.heap.size:=by have:=bb.size;simpa using this
 replace pb0_0:u13.cell? ⟨w.heap.size,0,none⟩ = some (.int .i64 p0):=by rw [G.cell (by first | omega | (simp;done) | (simp;omega))];exact pb0_0
 replace pb0_1:u13.cell? ⟨w.heap.size,1,none⟩ = some (.slice A0 n0 c0):=by rw [G.cell (by first | omega | (simp;done) | (simp;omega))];exact pb0_1
 replace pb0_2:u13.cell? ⟨w.heap.size,2,none⟩ = some (.slice Ab0 nb0 cb0):=by rw [G.cell (by first | omega | (simp;done) | (simp;omega))];exact pb0_2
 replace pb0_3:u13.cell? ⟨w.heap.size,3,none⟩ = some (.slice Ac0 nc0 cc0):=by rw [G.cell (by first | omega | (simp;done) | (simp;omega))];exact pb0_3
 replace pb0_4:u13.cell? ⟨w.heap.size,4,none⟩ = some (.slice Ad0 nd0 cd0):=by rw [G.cell (by first | omega | (simp;done) | (simp;omega))];exact pb0_4
 replace pb0_5:u13.cell? ⟨w.heap.size,5,none⟩ = some (.slice Ae0 ne0 ce0):=by rw [G.cell (by first | omega | (simp;done) | (simp;omega))];exact pb0_5
 replace xb0_0:u13.cell? ⟨u3.heap.size,0,none⟩ = some (.int .i64 px0o):=by rw [G.cell (by first | omega | (simp;done) | (simp;omega))];exact xb0_0
 replace xb0_1:u13.cell? ⟨u3.heap.size,1,none⟩ = some (.slice Ax0o nx0o cx0o):=by rw [G.cell (by first | omega | (simp;done) | (simp;omega))];exact xb0_1
 replace xb0_2:u13.cell? ⟨u3.heap.size,2,none⟩ = some (.slice Abx0o nbx0o cbx0o):=by rw [G.cell (by first | omega | (simp;done) | (simp;omega))];exact xb0_2
 replace xb0_3:u13.cell? ⟨u3.heap.size,3,none⟩ = some (.slice Acx0o ncx0o ccx0o):=by rw [G.cell (by first | omega | (simp;done) | (simp;omega))];exact xb0_3
 replace xb0_4:u13.cell? ⟨u3.heap.size,4,none⟩ = some (.slice Adx0o ndx0o cdx0o):=by rw [G.cell (by first | omega | (simp;done) | (simp;omega))];exact xb0_4
 replace xb0_5:u13.cell? ⟨u3.heap.size,5,none⟩ = some (.slice Aex0o nex0o cex0o):=by rw [G.cell (by first | omega | (simp;done) | (simp;omega))];exact xb0_5
 replace w0:=tSS.obelow w0 G (by omega)
 replace g0:=tSS.obelow g0 G (by omega)
 replace h0:=tSS.obelow h0 G (by omega)
 replace B:=zaa B G
 clear G bb
 replace lt0:w.heap.size < u13.heap.size:=by omega
 replace lt1:u3.heap.size < u13.heap.size:=by omega
 go_wp2_with fail
 refine (zki _ _ _ _ _ _ (tSS.read g0) (by omega)).mono ?_
 rintro e u14 ⟨rfl,bb⟩
 have G:=bb
 have zu14:u13.heap.size ≤ u14.heap.size:=by have:=bb.size;simpa using this
 replace pb0_0:u14.cell? ⟨w.heap.size,0,none⟩ = some (.int .i64 p0):=by rw [G.cell (by first | omega | (simp;done) | (simp;omega))];exact pb0_0
 replace pb0_1:u14.cell? ⟨w.heap.size,1,none⟩ = some (.slice A0 n0 c0):=by rw [G.cell (by first | omega | (simp;done) | (simp;omega))];exact pb0_1
 replace pb0_2:u14.cell? ⟨w.heap.size,2,none⟩ = some (.slice Ab0 nb0 cb0):=by rw [G.cell (by first | omega | (simp;done) | (simp;omega))];exact pb0_2
 replace pb0_3:u14.cell? ⟨w.heap.size,3,none⟩ = some (.slice Ac0 nc0 cc0):=by rw [G.cell (by first | omega | (simp;done) | (simp;omega))];exact pb0_3
 replace pb0_4:u14.cell? ⟨w.heap.size,4,none⟩ = some (.slice Ad0 nd0 cd0):=by rw [G.cell (by first | omega | (simp;done) | (simp;omega))];exact pb0_4
 replace pb0_5:u14.cell? ⟨w.heap.size,5,none⟩ = some (.slice Ae0 ne0 ce0):=by rw [G.cell (by first | omega | (simp;done) | (simp;omega))];exact pb0_5
 replace xb0_0:u14.cell? ⟨u3.heap.size,0,none⟩ = some (.int .i64 px0o):=by rw [G.cell (by first | omega | (simp;done) | (simp;omega))];exact xb0_0
 replace xb0_1:u14.cell? ⟨u3.heap.size,1,none⟩ = some (.slice Ax0o nx0o cx0o):=by rw [G.cell (by first | omega | (simp;done) | (simp;omega))];exact xb0_1
 replace xb0_2:u14.cell? ⟨u3.heap.size,2,none⟩ = some (.slice Abx0o nbx0o cbx0o):=by rw [G.cell (by first | omega | (simp;done) | (simp;omega))];exact xb0_2
 replace xb0_3:u14.cell? ⟨u3.heap.size,3,none⟩ = some (.slice Acx0o ncx0o ccx0o):=by rw [G.cell (by first | omega | (simp;done) | (simp;omega))];exact xb0_3
 replace xb0_4:u14.cell? ⟨u3.heap.size,4,none⟩ = some (.slice Adx0o ndx0o cdx0o):=by rw [G.cell (by first | omega | (simp;done) | (simp;omega))];exact xb0_4
 replace xb0_5:u14.cell? ⟨u3.heap.size,5,none⟩ = some (.slice Aex0o nex0o cex0o):=by rw [G.cell (by first | omega | (simp;done) | (simp;omega))];exact xb0_5
 replace w0:=tSS.obelow w0 G (by omega)
 replace g0:=tSS.obelow g0 G (by omega)
 replace h0:=tSS.obelow h0 G (by omega)
 replace B:=zaa B G
 clear G bb
 replace lt0:w.heap.size < u14.heap.size:=by omega
 replace lt1:u3.heap.size < u14.heap.size:=by omega
 go_wp2_with fail
 go_ret
 exact ⟨rfl,B⟩
end
end Go.Proofs.YtffhodocjjkkoaaGreat
