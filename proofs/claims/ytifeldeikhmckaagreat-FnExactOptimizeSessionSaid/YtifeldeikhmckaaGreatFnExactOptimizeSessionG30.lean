import Derived.Test.YtifeldeikhmckaaGreatFnExactOptimizeSessionG29
set_option linter.unusedVariables false
set_option linter.unusedSimpArgs false
set_option maxRecDepth 100000
set_option maxHeartbeats 4000000
namespace Go.Proofs.YtifeldeikhmckaaGreat
open Go.RowKit Go.Sort
section
section
variable {tb:List (List Int)} {p:NO} {R:Nat->Nat} {w:Yw}
theorem zua(h:M.WP tb p R)(a0:Int)(A1:Yo)(n1 c1:Nat)(A2:Yo)(n2 c2:Nat)(A3:Yo)(n3 c3:Nat)(i:Nat)(hr:RS tN w w.heap.size (.slice A2 n2 c2) p.1)(hi:i<n2):
 Calls Tryz.prog 203 #[.agg #[.int .i64 a0,.slice A1 n1 c1,.slice A2 n2 c2,.slice A3 n3 c3],.int .i64 i] w fun e w'=>e=.returned (.int .i64 (zbb p.1 (zab p.1 i)))/\Below w.heap.size w w':=by
 have hl:=hr.cap.1;have hlen:=h.len;obtain⟨bb,o,k,a,b,A4,c4,fs,hA,hb,X,e0,e1,e2,e3,hr3,hl3⟩:=zbg h hr hi;obtain⟨W,hW,B0,sW,PX,NX⟩:=zfz w (.int .i64 a0) (.slice A1 n1 c1) (.slice A2 n2 c2) (.slice A3 n3 c3) (.int .i64 k) (.int .i64 a) (.int .i64 b) (.slice A4 fs.length c4) 67 169;have HW:=Lib.hid hW;have hok:=(h.node (i:=i) (by omega)).2;rw[X.out]at hok ⊢;have hfl:=zc6 hok;have hi2:(i:Int)<(n2:Int):=by omega
 have hn2:n2<=24:=by omega
 have hrW:=hr.later B0;have lW:w.heap.size+1<W.heap.size:=by omega
 clear hW sW;rcases(show (k=5\/k=10)\/k=3\/k=4\/k=16\/k=15\/(k≠5/\k≠10/\k≠3/\k≠4/\k≠16/\k≠15)by omega)with hk|rfl|rfl|rfl|rfl|hk
 ·have hl2:fs.length=1:=by rcases hk with rfl|rfl <;> exact hfl (by decide)
  obtain⟨bf,of_,rfl,hbf,hcf⟩:=zak hr3 (by omega);have m0:fs[0]?=some fs[0]:=List.getElem?_eq_getElem (by omega);have v0:=hcf 0 _ m0;have x0:M.i_ fs 0=fs[0]:=by rw[M.i_,m0];rfl
  rw[Nat.add_zero]at v0;rw[hl2]at e3;subst hA;clear hfl hok hl hlen m0 hcf hr3 X HW PX NX hrW lW B0;rcases hk with rfl|rfl
  ·rw[zmw,x0];generalize fs[0]=x at *;clear x0 hl2 hl3
   by_cases ha:a=1
   ·rw[if_pos ha];subst ha
    go_enter Tryz.func203,Tryz.ntmps203
    go_wp2;go_ret;exact⟨rfl,zaa (zaf _ _) (zaf _ _)⟩
   rw[if_neg ha];have g:(a == 1)=false:=(by simpa using ha);clear ha
   go_enter Tryz.func203,Tryz.ntmps203
   go_wp2;go_ret;exact⟨rfl,zaa (zaf _ _) (zaf _ _)⟩
  rw[zmx,x0];generalize fs[0]=x at *;clear x0 hl2 hl3
  by_cases ha:a=0
  ·rw[if_pos ha];subst ha
   go_enter Tryz.func203,Tryz.ntmps203
   go_wp2;go_ret;exact⟨rfl,zaa (zaf _ _) (zaf _ _)⟩
  rw[if_neg ha];have g:(a == 0)=false:=by simpa using ha
  clear ha
  go_enter Tryz.func203,Tryz.ntmps203
  go_wp2;go_ret;exact⟨rfl,zaa (zaf _ _) (zaf _ _)⟩
 ·have hl2:fs.length=2:=hfl (by decide);obtain⟨bf,of_,rfl,hbf,hcf⟩:=zak hr3 (by omega);have m0:fs[0]?=some fs[0]:=List.getElem?_eq_getElem (by omega);have m1:fs[1]?=some fs[1]:=List.getElem?_eq_getElem (by omega);have v0:=(B0.cell (by exact hbf)).trans (hcf 0 _ m0);have v1:=(B0.cell (by exact hbf)).trans (hcf 1 _ m1);have i0:M.i_ fs 0=fs[0]:=by rw[M.i_,m0];rfl
  have i1:M.i_ fs 1=fs[1]:=by rw[M.i_,m1];rfl
  rw[Nat.add_zero]at v0;rw[zmy];generalize hx:zab p.1 (M.fk (3,a,b,fs) 0)=x at *;obtain⟨x0,x1,x2,x3⟩:=x;generalize hy:zab p.1 (M.fk (3,a,b,fs) 1)=y at *;obtain⟨y0,y1,y2,y3⟩:=y;have ez:=zgv hx;have ey:=zgv hy;obtain⟨A5,c5,ri5,-,CX⟩:=zef h hrW hi X (j:=0) (by omega) (Lib.hid rfl) (Lib.hid hx) a0 A1 n1 c1 A3 n3 c3;obtain⟨A6,c6,ri6,-,CY⟩:=zef h hrW hi X (j:=1) (by omega) (Lib.hid rfl) (Lib.hid hy) a0 A1 n1 c1 A3 n3 c3;rw[ez,ey,i0,i1];rw[hl2]at NX HW e3;generalize fs[0]=q0 at *;generalize fs[1]=q1 at *;have lbf:bf<W.heap.size:=by omega
  subst hA;clear hfl hok hl hlen ez ey hx hy i0 i1 m0 m1 hcf X hr3 hl2 hl3;cases hz:(decide (x0=2)&&decide (x1=0))
  ·cases hz2:(decide (y0=2)&&decide (y1=0))
   ·have IZ:=Lib.hid (zf4 (b:=x2) (A:=A5) (n:=x3.length) (c:=c5) hz);have IY:=Lib.hid (zf4 (b:=y2) (A:=A6) (n:=y3.length) (c:=c6) hz2);have CX:=Lib.hid CX;have CY:=Lib.hid CY;clear hz hz2
    go_enter Tryz.func203,Tryz.ntmps203
    go_wp2_with fail;rw[<-HW.out];refine(CX.out W (Below.refl _ _)).mono ?_;rintro e w1 ⟨rfl,bel⟩;go_wp2_with fail;refine(IZ.out _).mono ?_;rintro e w2 ⟨rfl,bel2⟩;have B2:=zaa bel bel2;obtain⟨z0,z1,z2,z3,zf,zl⟩:=PX.later B2;go_wp2_with fail;refine(CY.out w2 B2).mono ?_;rintro e w3 ⟨rfl,bel3⟩;go_wp2_with fail;refine(IY.out _).mono ?_;rintro e w4 ⟨rfl,bel4⟩;go_wp2;go_ret;exact⟨rfl,zaa B0 (zaa B2 (zaa bel3 bel4))⟩
   have IZ:=Lib.hid (zf4 (b:=x2) (A:=A5) (n:=x3.length) (c:=c5) hz);have IY:=Lib.hid (zf4 (b:=y2) (A:=A6) (n:=y3.length) (c:=c6) hz2);have CX:=Lib.hid CX;have CY:=Lib.hid CY;clear hz hz2
   go_enter Tryz.func203,Tryz.ntmps203
   go_wp2_with fail;rw[<-HW.out];refine(CX.out W (Below.refl _ _)).mono ?_;rintro e w1 ⟨rfl,bel⟩;go_wp2_with fail;refine(IZ.out _).mono ?_;rintro e w2 ⟨rfl,bel2⟩;have B2:=zaa bel bel2;obtain⟨z0,z1,z2,z3,zf,zl⟩:=PX.later B2;go_wp2_with fail;refine(CY.out w2 B2).mono ?_;rintro e w3 ⟨rfl,bel3⟩;go_wp2_with fail;refine(IY.out _).mono ?_;rintro e w4 ⟨rfl,bel4⟩;have B4:=zaa B2 (zaa bel3 bel4);obtain⟨k0,k1,k2,k3,kf,kl⟩:=NX.later B4;replace v0:=(B4.cell (by exact lbf)).trans v0;clear z0 z1 z2 z3 zf v1;go_wp2;go_ret;exact⟨rfl,zaa B0 B4⟩
  have IZ:=Lib.hid (zf4 (b:=x2) (A:=A5) (n:=x3.length) (c:=c5) hz);have CX:=Lib.hid CX;clear hz CY
  go_enter Tryz.func203,Tryz.ntmps203
  go_wp2_with fail;rw[<-HW.out];refine(CX.out W (Below.refl _ _)).mono ?_;rintro e w1 ⟨rfl,bel⟩;go_wp2_with fail;refine(IZ.out _).mono ?_;rintro e w2 ⟨rfl,bel2⟩;have B2:=zaa bel bel2;obtain⟨k0,k1,k2,k3,kf,kl⟩:=NX.later B2;replace v1:=(B2.cell (by exact lbf)).trans v1;clear v0;go_wp2;go_ret;exact⟨rfl,zaa B0 B2⟩
 ·have hl2:fs.length=2:=hfl (by decide);obtain⟨bf,of_,rfl,hbf,hcf⟩:=zak hr3 (by omega);have m0:fs[0]?=some fs[0]:=List.getElem?_eq_getElem (by omega);have v0:=(B0.cell (by exact hbf)).trans (hcf 0 _ m0);have i0:M.i_ fs 0=fs[0]:=by rw[M.i_,m0];rfl
  rw[Nat.add_zero]at v0;rw[zmz];generalize hy:zab p.1 (M.fk (4,a,b,fs) 1)=y at *;obtain⟨y0,y1,y2,y3⟩:=y;have ey:=zgv hy;obtain⟨A6,c6,ri6,-,CY⟩:=zef h hrW hi X (j:=1) (by omega) (Lib.hid rfl) (Lib.hid hy) a0 A1 n1 c1 A3 n3 c3;rw[ey,i0];rw[hl2]at NX HW e3;generalize fs[0]=q0 at *;have lbf:bf<W.heap.size:=by omega
  subst hA;clear hfl hok hl hlen ey hy i0 m0 hcf X hr3 hl2 hl3;cases hz2:(decide (y0=2)&&decide (y1=0))
  all_goals
   have IY:=Lib.hid (zf4 (b:=y2) (A:=A6) (n:=y3.length) (c:=c6) hz2);have CY:=Lib.hid CY;clear hz2
   go_enter Tryz.func203,Tryz.ntmps203
   go_wp2_with fail;rw[<-HW.out];refine(CY.out W (Below.refl _ _)).mono ?_;rintro e w1 ⟨rfl,bel⟩;go_wp2_with fail;refine(IY.out _).mono ?_;rintro e w2 ⟨rfl,bel2⟩;have B2:=zaa bel bel2;obtain⟨k0,k1,k2,k3,kf,kl⟩:=NX.later B2;replace v0:=(B2.cell (by exact lbf)).trans v0;go_wp2;go_ret;exact⟨rfl,zaa B0 B2⟩
 ·have hl2:fs.length=2:=hfl (by decide);obtain⟨bf,of_,rfl,hbf,hcf⟩:=zak hr3 (by omega);have m0:fs[0]?=some fs[0]:=List.getElem?_eq_getElem (by omega);have v0:=(B0.cell (by exact hbf)).trans (hcf 0 _ m0);have i0:M.i_ fs 0=fs[0]:=by rw[M.i_,m0];rfl
  rw[Nat.add_zero]at v0;rw[zm0];generalize hy:zab p.1 (M.fk (16,a,b,fs) 1)=y at *;obtain⟨y0,y1,y2,y3⟩:=y;have ey:=zeg hy;obtain⟨A6,c6,ri6,-,CY⟩:=zef h hrW hi X (j:=1) (by omega) (Lib.hid rfl) (Lib.hid hy) a0 A1 n1 c1 A3 n3 c3;rw[ey,i0];rw[hl2]at NX HW e3;generalize fs[0]=q0 at *;have lbf:bf<W.heap.size:=by omega
  subst hA;clear hfl hok hl hlen ey hy i0 m0 hcf X hr3 hl2 hl3;have CY:=Lib.hid CY;cases hz2:decide (y0=2)
  ·have IY:=Lib.hid (zeh (a:=y1) (b:=y2) (A:=A6) (n:=y3.length) (c:=c6) hz2);clear hz2
   go_enter Tryz.func203,Tryz.ntmps203
   go_wp2_with fail;rw[<-HW.out];refine(CY.out W (Below.refl _ _)).mono ?_;rintro e w1 ⟨rfl,bel⟩;go_wp2_with fail;refine(IY.out _).mono ?_;rintro e w2 ⟨rfl,bel2⟩;go_wp2;go_ret;exact⟨rfl,zaa B0 (zaa bel bel2)⟩
  have IY:=Lib.hid (zeh (a:=y1) (b:=y2) (A:=A6) (n:=y3.length) (c:=c6) hz2);clear hz2
  by_cases hp:0<y1
  ·rw[show (true&&decide (0<y1))=true by simpa using hp,if_pos rfl]
   go_enter Tryz.func203,Tryz.ntmps203
   go_wp2_with fail;rw[<-HW.out];refine(CY.out W (Below.refl _ _)).mono ?_;rintro e w1 ⟨rfl,bel⟩;go_wp2_with fail;refine(IY.out _).mono ?_;rintro e w2 ⟨rfl,bel2⟩;have B2:=zaa bel bel2;obtain⟨z0,z1,z2,z3,zf,zl⟩:=PX.later B2;go_wp2_with fail;refine(CY.out _ B2).mono ?_;rintro e w3 ⟨rfl,bel3⟩;have B3:=zaa B2 bel3;obtain⟨k0,k1,k2,k3,kf,kl⟩:=NX.later B3;replace v0:=(B3.cell (by exact lbf)).trans v0;clear z0 z1 z2 z3 zf;go_wp2_with fail;rw[zgu];go_wp2;go_ret;exact⟨rfl,zaa B0 B3⟩
  rw[show (true&&decide (0<y1))=false by simpa using hp,if_neg (by decide)]
  go_enter Tryz.func203,Tryz.ntmps203
  go_wp2_with fail;rw[<-HW.out];refine(CY.out W (Below.refl _ _)).mono ?_;rintro e w1 ⟨rfl,bel⟩;go_wp2_with fail;refine(IY.out _).mono ?_;rintro e w2 ⟨rfl,bel2⟩;have B2:=zaa bel bel2;obtain⟨z0,z1,z2,z3,zf,zl⟩:=PX.later B2;go_wp2_with fail;refine(CY.out _ B2).mono ?_;rintro e w3 ⟨rfl,bel3⟩;have B3:=zaa B2 bel3;clear z0 z1 z2 z3 zf;go_wp2_with fail;rw[zgu];go_wp2;go_ret;exact⟨rfl,zaa B0 B3⟩
 ·have q:=zt9 h a0 A1 n1 c1 A2 n2 c2 A3 n3 c3 i hr hi X.out;rw[X.out]at q;exact q
 rw[zm2 hk];obtain⟨q1,q2,q3,q4,q5,q6⟩:=hk;have g1:(k == 5)=false:=by simpa using q1
 have g2:(k == 10)=false:=by simpa using q2
 have g3:(k == 3)=false:=by simpa using q3
 have g4:(k == 4)=false:=by simpa using q4
 have g5:(k == 16)=false:=by simpa using q5
 have g6:(k == 15)=false:=by simpa using q6
 subst hA;clear hfl hok hl hlen
 go_enter Tryz.func203,Tryz.ntmps203
 go_wp2;go_ret;exact⟨rfl,zaa (zaf _ _) (zaf _ _)⟩
end
end
theorem zub(a0 a1 a2:Int)(A:Yo)(n c:Nat)(xs:List Int)(At:Yo)(nt ct:Nat)(tb:List (List Int))(Ai:Yo)(ni ci:Nat)(ins:List Int)(w:Yw)(ht:RS tS w w.heap.size (.slice At nt ct) tb)(htb:zbt tb=true)(hi:RI w w.heap.size Ai ni ins)
 (hok:zaj (a0,a1,a2,xs) nt=true) (hk8:zai M.k8 a0=true) (hil:ins.length=zc5 a0) (hia:ins.all M.smp=true) :
 Calls Tryz.prog 239 #[.agg #[.int .i64 a0,.int .i64 a1,.int .i64 a2,.slice A n c],.slice At nt ct,.slice Ai ni ci] w fun e w'=>e=.returned (.int .i64 (zam (a0,a1,a2,xs) tb ins []))/\Below w.heap.size w w':=by
 obtain⟨hb5,hb10,hb11,hb13,-⟩:=zes hok;have hnt:tb.length=nt:=ht.cap.1;have hn:=hi.len;rcases zho hk8 with rfl|rfl|rfl|rfl|rfl|rfl|rfl|rfl
 case inl=>
  obtain⟨i0,i1,rfl⟩:=len2 (show ins.length=2 from hil);simp only[List.length_cons,List.length_nil]at hn;subst hn;obtain⟨bi,oi,rfl,hbi,hci⟩:=zak hi (by omega);have c0:w.cell? ⟨bi,oi,none⟩=some (.int .i64 i0):=hci 0 _ rfl;have c1:w.cell? ⟨bi,oi+1,none⟩=some (.int .i64 i1):=hci 1 _ rfl;have e0:=zba hia (k:=0) (x:=i0) rfl;have e1:=zba hia (k:=1) (x:=i1) rfl;exact(zsg _ _ _ _ _ _ _ _ _ _ _ _ _ w c0 c1 ⟨e0.1,e0.2,e1.1,e1.2⟩).mono fun e w' h=>by simpa [zam,M.i_]using h
 case inr.inl=>
  obtain⟨i0,i1,rfl⟩:=len2 (show ins.length=2 from hil);simp only[List.length_cons,List.length_nil]at hn;subst hn;obtain⟨bi,oi,rfl,hbi,hci⟩:=zak hi (by omega);have c0:w.cell? ⟨bi,oi,none⟩=some (.int .i64 i0):=hci 0 _ rfl;have c1:w.cell? ⟨bi,oi+1,none⟩=some (.int .i64 i1):=hci 1 _ rfl;have e0:=zba hia (k:=0) (x:=i0) rfl;have e1:=zba hia (k:=1) (x:=i1) rfl;exact(zsh _ _ _ _ _ _ _ _ _ _ _ _ _ w c0 c1 ⟨e0.1,e0.2,e1.1,e1.2⟩).mono fun e w' h=>by simpa [zam,M.i_]using h
 case inr.inr.inl=>
  obtain⟨i0,rfl⟩:=len1 (show ins.length=1 from hil);simp only[List.length_cons,List.length_nil]at hn;subst hn;obtain⟨bi,oi,rfl,hbi,hci⟩:=zak hi (by omega);have c0:w.cell? ⟨bi,oi,none⟩=some (.int .i64 i0):=hci 0 _ rfl;have e0:=zba hia (k:=0) (x:=i0) rfl;exact(zsi _ _ _ _ _ _ _ _ _ _ _ _ w c0 (hb5 rfl) e0).mono fun e w' h=>by simpa [zam,M.i_]using h
 case inr.inr.inr.inl=>
  obtain⟨i0,i1,rfl⟩:=len2 (show ins.length=2 from hil);simp only[List.length_cons,List.length_nil]at hn;subst hn;obtain⟨bi,oi,rfl,hbi,hci⟩:=zak hi (by omega);have c0:w.cell? ⟨bi,oi,none⟩=some (.int .i64 i0):=hci 0 _ rfl;have c1:w.cell? ⟨bi,oi+1,none⟩=some (.int .i64 i1):=hci 1 _ rfl;have e0:=zba hia (k:=0) (x:=i0) rfl;have e1:=zba hia (k:=1) (x:=i1) rfl;exact(zsj _ _ _ _ _ _ _ _ _ _ _ _ _ w c0 c1 ⟨e0.1,e0.2,e1.1,e1.2⟩).mono fun e w' h=>by simpa [zam,M.i_]using h
 case inr.inr.inr.inr.inl=>
  obtain⟨i0,rfl⟩:=len1 (show ins.length=1 from hil);simp only[List.length_cons,List.length_nil]at hn;subst hn;obtain⟨bi,oi,rfl,hbi,hci⟩:=zak hi (by omega);have c0:w.cell? ⟨bi,oi,none⟩=some (.int .i64 i0):=hci 0 _ rfl;have e0:=zba hia (k:=0) (x:=i0) rfl;exact(zsk _ _ _ _ _ _ _ _ _ _ _ _ w c0 (hb10 rfl) e0).mono fun e w' h=>by simpa [zam,M.i_]using h
 case inr.inr.inr.inr.inr.inl=>
  obtain⟨i0,rfl⟩:=len1 (show ins.length=1 from hil);simp only[List.length_cons,List.length_nil]at hn;subst hn;obtain⟨bi,oi,rfl,hbi,hci⟩:=zak hi (by omega);have c0:w.cell? ⟨bi,oi,none⟩=some (.int .i64 i0):=hci 0 _ rfl;have e0:=zba hia (k:=0) (x:=i0) rfl;exact(zsl _ _ _ _ _ _ _ _ _ _ _ _ w c0 (hb11 rfl) e0).mono fun e w' h=>by simpa [zam,M.i_]using h
 case inr.inr.inr.inr.inr.inr.inl=>
  obtain⟨i0,rfl⟩:=len1 (show ins.length=1 from hil);simp only[List.length_cons,List.length_nil]at hn;subst hn;obtain⟨bi,oi,rfl,hbi,hci⟩:=zak hi (by omega);have c0:w.cell? ⟨bi,oi,none⟩=some (.int .i64 i0):=hci 0 _ rfl;have h13:=hb13 rfl;obtain⟨j,rfl⟩:∃j:Nat,a1=(j:Int):=⟨a1.toNat,by omega⟩;have hjn:j<nt:=by omega
  obtain⟨bt,ot,A1,c1,t,rfl,hbt,X,hct,hrt,-⟩:=zeq ht (Lib.hid (fun x hx=>by obtain⟨k,hk⟩:=List.getElem?_of_mem hx;have:=(zft htb hk).1;omega)) hjn;obtain⟨htl,-,ht4⟩:=zft htb X.out;have hcel:zbz tb j=t:=by rw[zbz,X.out];rfl
  exact(zsm _ _ _ _ _ _ _ _ _ _ _ _ _ _ _ _ _ _ w c0 ⟨rfl,by omega,by omega⟩ hct hrt htl).mono fun e w' h=>by simpa [zam,M.i_,hcel]using h
 case inr.inr.inr.inr.inr.inr.inr=>
  obtain⟨i0,i1,i2,rfl⟩:=len3 (show ins.length=3 from hil);simp only[List.length_cons,List.length_nil]at hn;subst hn;obtain⟨bi,oi,rfl,hbi,hci⟩:=zak hi (by omega);have c0:w.cell? ⟨bi,oi,none⟩=some (.int .i64 i0):=hci 0 _ rfl;have c1:w.cell? ⟨bi,oi+1,none⟩=some (.int .i64 i1):=hci 1 _ rfl;have c2:w.cell? ⟨bi,oi+2,none⟩=some (.int .i64 i2):=hci 2 _ rfl;have e0:=zba hia (k:=0) (x:=i0) rfl;have e1:=zba hia (k:=1) (x:=i1) rfl;have e2:=zba hia (k:=2) (x:=i2) rfl;exact(zsn _ _ _ _ _ _ _ _ _ _ _ _ _ _ w c0 c1 c2 ⟨e0.1,e0.2,e1.1,e1.2,e2.1,e2.2⟩).mono fun e w' h=>by simpa [zam,M.i_]using h
theorem zgw(w:Yw)(z0 z1 z2 z3 y0 y1 y2 y3 x0 x1 x2 x3:Value)(t t' t'':TypeId):∃W,W=((w.alloc (.cells #[z0,z1,z2,z3] t)).alloc (.cells #[y0,y1,y2,y3] t')).alloc (.cells #[x0,x1,x2,x3] t'')/\Below w.heap.size w W/\W.heap.size=w.heap.size+3/\BX W w.heap.size z0 z1 z2 z3/\BX W (w.heap.size+1) y0 y1 y2 y3/\BX W (w.heap.size+1+1) x0 x1 x2 x3:=by
 obtain⟨V,hV,BV,sV,P,N⟩:=zfz w z0 z1 z2 z3 y0 y1 y2 y3 t t';refine⟨_,rfl,?_,by simp,?_,?_,?_⟩ <;> rw[<-hV]
 ·exact zaa BV (zaf _ _)
 ·exact P.later (zaf _ _)
 ·exact N.later (zaf _ _)
 have:=BX.new V x0 x1 x2 x3 t'';rw[sV]at this;exact this
theorem BX.set{w:Yw}{g:Nat}{z0 z1 z2 z3:Value}(h:BX w g z0 z1 z2 z3)(v0 v1 v2 v3:Value):∃U,U=(((w.setCell ⟨g,0,none⟩ v0).setCell ⟨g,1,none⟩ v1).setCell ⟨g,2,none⟩ v2).setCell ⟨g,3,none⟩ v3/\BX U g v0 v1 v2 v3/\Chg (fun b=>b=g) w U/\U.heap.size=w.heap.size:=by
 obtain⟨U,hU,d0,d1,d2,d3,-,dch,dsz⟩:=box4 h.c0 h.c1 h.c2 h.c3 (h.fr 0) (h.fr 1) (h.fr 2) (h.fr 3) v0 v1 v2 v3;refine⟨U,hU,⟨d0,d1,d2,d3,fun j=>?_,by rw[dsz];exact h.lt⟩,dch,dsz⟩;rw[hU];simp[go_sem,h.fr]
section
theorem zm3{x:Node}{tb:Int}(h:zaj x tb=true)(h1:zai M.k8 x.1=true):x.2.2.2.length=zc5 x.1:=by
 obtain⟨a0,a1,a2,xs⟩:=x;exact zc6 h (by rcases zho h1 with e|e|e|e|e|e|e|e <;> (simp only at e;omega))
section
variable {tb:List (List Int)} {p:NO} {R:Nat->Nat} {w:Yw}
theorem zuc(h:M.WP tb p R)(a0:Int)(A1:Yo)(n1 c1:Nat)(A2:Yo)(n2 c2:Nat)(A3:Yo)(n3 c3:Nat)(i:Nat)(ht:RS tS w w.heap.size (.slice A1 n1 c1) tb)(hr:RS tN w w.heap.size (.slice A2 n2 c2) p.1)(hi:i<n2):
 Calls Tryz.prog 199 #[.agg #[.int .i64 a0,.slice A1 n1 c1,.slice A2 n2 c2,.slice A3 n3 c3],.int .i64 i] w fun e w'=>((zbj p.1 (zab p.1 i)=true/\∃(A':Yo) (c':Nat),e=.returned (.tuple #[.agg #[.int .i64 2,.int .i64 (zam (zab p.1 i) tb (zc7 p.1 (zab p.1 i)) []),.int .i64 0,.slice A' 0 c'],.bool true])/\tS.R w' w'.heap.size [.slice A' 0 c'] [])\/
  (zbj p.1 (zab p.1 i)=false/\e=.returned (.tuple #[.agg #[.int .i64 0,.int .i64 0,.int .i64 0,.slice none 0 0],.bool false])))/\Below w.heap.size w w':=by
 have hl:=hr.cap.1;have hlt:=ht.cap.1;have hlen:=h.len;have RF:=zgu;obtain⟨bb,o,k,a,b,A4,c4,fs,hA,hb,X,e0,e1,e2,e3,hr3,hl3⟩:=zbg h hr hi;obtain⟨W,hW,B0,sW,PX,ZX,NX⟩:=zgw w (.int .i64 a0) (.slice A1 n1 c1) (.slice A2 n2 c2) (.slice A3 n3 c3) (.int .i64 0) (.int .i64 0) (.int .i64 0) (.slice none 0 0) (.int .i64 k) (.int .i64 a) (.int .i64 b) (.slice A4 fs.length c4) 67 169 169;have HW:=Lib.hid hW;have hok:=(h.node (i:=i) (by omega)).2;rw[X.out]at hok ⊢;have hins:=zm3 hok;have hi2:(i:Int)<(n2:Int):=by omega
 have hn2:n2<=24:=by omega
 have hrW:=hr.later B0;have htW:=ht.later B0;have hr3W:=hr3.later B0;obtain⟨V,hV⟩:∃V,V=W.alloc (.cells #[.int .i64 3,.int .i64 4,.int .i64 5,.int .i64 9,.int .i64 10,.int .i64 11,.int .i64 13,.int .i64 15] 2):=⟨_,rfl⟩;have BV:Below W.heap.size W V:=by rw[hV];exact zaf _ _
 have rl:RI V V.heap.size (some ⟨w.heap.size+1+1+1,0,none⟩) 8 M.k8:=by rw[hV,show w.heap.size+1+1+1=W.heap.size by omega];exact(zhi W 2 M.k8 _ rfl).more (by simp)
 have HV:=Lib.hid hV;have sV:V.heap.size=W.heap.size+1:=by rw[hV];simp
 have lV:w.heap.size+1+1+1<V.heap.size:=by omega
 have HOK:=Lib.hid hok;have HINS:=Lib.hid hins;clear hW hV hok hins sW sV;have HAS:=Lib.hid (zt6 (some ⟨w.heap.size+1+1+1,0,none⟩) 8 8 M.k8 k V rl (by omega));have PV:=PX.later BV;have ZV:=ZX.later BV;have NV:=NX.later BV;have B1:=zaa B0 BV;cases hm:zai M.k8 k
 ·have RR:=Lib.hid (show zbj p.1 (k,a,b,fs)=false by rw[zbj];simp only[hm,Bool.false_and]);rw[hm]at HAS;clear hm;obtain⟨U,hU,ZU,chU,sU⟩:=ZV.set (.int .i64 0) (.int .i64 0) (.int .i64 0) (.slice none 0 0);have HU:=Lib.hid hU;clear hU;obtain⟨z0,z1,z2,z3,zf,zl⟩:=ZV;obtain⟨d0,d1,d2,d3,df,dl⟩:=ZU;have f0:=df 0;have f1:=df 1;have f2:=df 2;have f3:=df 3;have g0:=zf 0;have g1:=zf 1;have g2:=zf 2;have g3:=zf 3;subst hA
  go_enter Tryz.func199,Tryz.ntmps199
  go_wp2_with fail;rw[<-HW.out];rw[<-HV.out];refine HAS.out.mono ?_;rintro e w' ⟨rfl,rfl⟩;clear HV;go_wp2_with fail;rw[<-HU.out];refine bodyPost_ret (v:=.tuple #[.agg #[.int .i64 0,.int .i64 0,.int .i64 0,.slice none 0 0],.bool false]) (by simp[results,Tryz.results199,go_sem,d0,d1,d2,d3,f0,f1,f2,f3]) rfl ?_;exact⟨.inr ⟨RR.out,rfl⟩,B1.trans (chU.toBelow (fun b (hb:b=_)=>by omega) (by omega))⟩
 have HM:=Lib.hid hm;rw[hm]at HAS;clear hm;have hrV:=hrW.later BV;have htV:=htW.later BV;have hr3V:=hr3W.later BV;have O0:OI 2 V.heap.size (V.alloc (.cells #[] 2)) (.slice (some ⟨V.heap.size,0,none⟩) 0 0) []:=OI.made _ V;subst hA
 go_enter Tryz.func199,Tryz.ntmps199
 go_wp2_with fail;rw[<-HW.out];rw[<-HV.out];refine HAS.out.mono ?_;rintro e w' ⟨rfl,rfl⟩;clear HV;have n3_:=NV.c3;have nlt:=NV.lt;go_wp2_with fail
 go_loopw [7,24] (fun v j wr=>∃t:Nat,j=.int .i64 t/\t<=fs.length/\Hid ((fs.take t).all (fun f=>zbl p.1 f.toNat)=true)/\OI 2 V.heap.size wr v ((fs.take t).map (fun f=>(zab p.1 f.toNat).2.1))/\Below V.heap.size V wr) (fun _ j _=>fs.length-(intOf j).toNat)
 case atStart=>exact⟨0,rfl,by omega,Lib.hid rfl,O0,zaf _ _⟩
 case round=>
  obtain⟨t,rfl,htl,HT,own,Bw⟩:=hrel;have sw:=Bw.size
  by_cases hlt2:t<fs.length
  ·obtain⟨f,g1,g2,g3,g4⟩:=h.inpt (by omega) X.out hlt2;generalize hy:zab p.1 f=y at *;obtain⟨y0,y1,y2,y3⟩:=y;have hisc:=zeg hy;have G1:=Lib.hid g1;obtain⟨A5,c5,ri5,-,CX⟩:=zef h hrV hi X hlt2 (Lib.hid g3) (Lib.hid hy) a0 A1 n1 c1 A3 n3 c3;have CX:=Lib.hid CX;have HY:=Lib.hid hy;obtain⟨z0,z1,z2,z3,zf,zl⟩:=PV.later Bw;have hlt3:(t:Int)<(fs.length:Int):=(by omega);clear HW hr3 hr3W hr hrW ht htW e0 e1 e2 e3 B0 g1 g2 g3 g4;cases hz:decide (y0=2)
   ·have RR:=Lib.hid (show zbj p.1 (k,a,b,fs)=false by
     rw[zbj,Bool.and_eq_false_iff]
     right
     rw[List.all_eq_false];exact⟨(f:Int),List.mem_of_getElem? G1.out,by rw[Int.toNat_natCast,hisc,hz];decide⟩)
    have IC:=Lib.hid (zeh (a:=y1) (b:=y2) (A:=A5) (n:=y3.length) (c:=c5) hz);clear hz hisc hy;go_wp2_with fail;refine(CX.out wr Bw).mono ?_;rintro e w1 ⟨rfl,bel⟩;go_wp2_with fail;refine(IC.out _).mono ?_;rintro e w2 ⟨rfl,bel2⟩;have B2:=zaa (zaa Bw bel) bel2;have Z2:=ZV.later B2;obtain⟨U,hU,ZU,chU,sU⟩:=Z2.set (.int .i64 0) (.int .i64 0) (.int .i64 0) (.slice none 0 0);have HU:=Lib.hid hU;obtain⟨q0,q1,q2,q3,qf,ql⟩:=Z2;obtain⟨d0,d1,d2,d3,df,dl⟩:=ZU;have f0:=df 0;have f1:=df 1;have f2:=df 2;have f3:=df 3;have r0:=qf 0;have r1:=qf 1;have r2:=qf 2;have r3:=qf 3;clear hU z0 z1 z2 z3 zf sU;go_wp2_with fail;rw[<-HU.out];refine bodyPost_ret (v:=.tuple #[.agg #[.int .i64 0,.int .i64 0,.int .i64 0,.slice none 0 0],.bool false]) (by simp[results,Tryz.results199,go_sem,d0,d1,d2,d3,f0,f1,f2,f3]) rfl ?_;exact⟨.inr ⟨RR.out,rfl⟩,B1.trans ((B2.mono (by omega)).trans (chU.toBelow (fun b (hb:b=_)=>by omega) (by omega)))⟩
   have IC:=Lib.hid (zeh (a:=y1) (b:=y2) (A:=A5) (n:=y3.length) (c:=c5) hz)
   have HT2:=Lib.hid (show (fs.take (t+1)).all (fun f=>zbl p.1 f.toNat)=true by
    rw[List.take_add_one,G1.out,List.all_append,HT.out];simp[hisc,hz])
   have HE:=Lib.hid (show (fs.take (t+1)).map (fun f=>(zab p.1 f.toNat).2.1)=(fs.take t).map (fun f=>(zab p.1 f.toNat).2.1)++[y1]by
    rw[List.take_add_one,G1.out,List.map_append];simp[hy])
   have hk1:((fs.take t).map (fun f=>(zab p.1 f.toNat).2.1)).length<=1000000000:=(by rw[List.length_map,List.length_take];omega);clear hz hisc hy;go_wp2_with fail;refine(CX.out wr Bw).mono ?_;rintro e w1 ⟨rfl,bel⟩;go_wp2_with fail;refine(IC.out _).mono ?_;rintro e w2 ⟨rfl,bel2⟩;have B2:=zaa (zaa Bw bel) bel2;have own2:=own.below (zaa bel bel2);obtain⟨q0,q1,q2,q3,qf,ql⟩:=PV.later B2;clear z0 z1 z2 z3 zf;go_wp2_with fail;refine(CX.out w2 B2).mono ?_;rintro e w3 ⟨rfl,bel3⟩;have B3:=zaa B2 bel3;have own3:=own2.below bel3;have s3:=B3.size;go_wp2_with (at_builtin;refine zdf zce rfl _ _ rfl own3 rfl rfl rfl (by unfold maxLen;omega) (by omega) s3 ?_;intro v1 w4 own4 gr4 bel4);go_roundw
   case rel=>
    exact⟨t+1,by go_num,by omega,HT2,by rw[HE.out];exact OI.push own4,B3.trans bel4⟩
   case measure=>simp[intOf];omega
  obtain rfl:t=fs.length:=by omega
  have hT:=HT.out;rw[List.take_length]at hT own
  have hC:zbj p.1 (k,a,b,fs)=true:=by
   rw[zbj,Bool.and_eq_true];exact⟨HM.out,hT⟩
  have HC:=Lib.hid hC;have hcin:zc7 p.1 (k,a,b,fs)=fs.map (fun f=>(zab p.1 f.toNat).2.1):=rfl;rw[<-hcin]at own;have hia:=zi7 h hC;have hil:(zc7 p.1 (k,a,b,fs)).length=zc5 k:=by rw[hcin,List.length_map];exact HINS.out HM.out
  obtain⟨A9,c9,rfl,rv⟩:=own.shape;have CO:=Lib.hid (zub k a b A4 fs.length c4 fs A1 n1 c1 tb A9 _ c9 _ wr (htV.later Bw) h.tabs rv (by rw[<-hlt];exact HOK.out) HM.out hil hia);obtain⟨vv,hvv⟩:∃vv,zam (k,a,b,fs) tb (zc7 p.1 (k,a,b,fs)) []=vv:=⟨_,rfl⟩;rw[hvv]at CO;have HVV:=Lib.hid hvv;clear hvv;obtain⟨q0,q1,q2,q3,qf,ql⟩:=PV.later Bw;obtain⟨k0,k1,k2,k3,kf,kl⟩:=NV.later Bw;clear hT hC hcin hia hil HW hr3 hr3W hr hrW ht htW e0 e1 e2 e3 B0;go_wp2_with fail;refine CO.out.mono ?_;rintro e w1 ⟨rfl,bel⟩;go_wp2_with fail;refine(zmr _ _).mono ?_;rintro e w2 ⟨A7,c7,rfl,rz,bel2⟩;have B2:=zaa (zaa Bw bel) bel2;have Z2:=ZV.later B2;obtain⟨U,hU,ZU,chU,sU⟩:=Z2.set (.int .i64 2) (.int .i64 vv) (.int .i64 0) (.slice A7 0 c7);have HU:=Lib.hid hU;have sB2:=B2.size;have hbU:Below w.heap.size w2 U:=chU.toBelow (fun b (hb:b=_)=>by omega) (by omega);have hcap:=(tS_R.1 rz).cap;obtain⟨g0,g1,g2,g3,gf,gl⟩:=Z2;obtain⟨d0,d1,d2,d3,df,dl⟩:=ZU;have f0:=df 0;have f1:=df 1;have f2:=df 2;have f3:=df 3;have r0:=gf 0;have r1:=gf 1;have r2:=gf 2;have r3:=gf 3;clear hU q0 q1 q2 q3 qf k0 k1 k2 k3 kf sU;go_wp2_with fail;rw[<-HU.out];refine bodyPost_ret (v:=.tuple #[.agg #[.int .i64 2,.int .i64 vv,.int .i64 0,.slice A7 0 c7],.bool true]) (by simp[results,Tryz.results199,go_sem,d0,d1,d2,d3,f0,f1,f2,f3]) rfl ?_;exact⟨.inl ⟨HC.out,A7,c7,by rw[HVV.out],tS_R.2 (RS.of_ri (RI.nil _ _ _) hcap.2.1 hcap.2.2)⟩,B1.trans ((B2.mono (by omega)).trans hbU)⟩
end
end
end Go.Proofs.YtifeldeikhmckaaGreat
