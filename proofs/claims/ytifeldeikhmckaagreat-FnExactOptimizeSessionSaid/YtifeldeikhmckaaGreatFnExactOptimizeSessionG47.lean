import Derived.Test.YtifeldeikhmckaaGreatFnExactOptimizeSessionG46
import Derived.Test.YtifeldeikhmckaaGreatFnExactOptimizeSessionG38
import Derived.Deep.DeepCutAuto
set_option linter.unusedVariables false
set_option linter.unusedSimpArgs false
set_option maxRecDepth 100000
set_option maxHeartbeats 4000000
namespace Go.Proofs.YtifeldeikhmckaaGreat
open Go.RowKit
theorem zxr(p0:Int)(A0:Yo)(n0:Nat)(c0:Nat)(Ab0:Yo)(nb0:Nat)(cb0:Nat)(Ac0:Yo)(nc0:Nat)(cc0:Nat)(Ad0:Yo)(nd0:Nat)(cd0:Nat)(Ae0:Yo)(ne0:Nat)(ce0:Nat)(x0:Sess)(z0:Sess)(z1:Int)(w:Yw)
 (hx0:tZ.R w w.heap.size [.int .i64 p0,.slice A0 n0 c0,.slice Ab0 nb0 cb0,.slice Ac0 nc0 cc0,.slice Ad0 nd0 cd0,.slice Ae0 ne0 ce0] x0)
 (hz0:hZ.sz z0<=100000000) (hc0:hZ.cnt z0<=100000000)
 (hSpec:∀(p0:Int) (A0:Yo) (n0:Nat) (c0:Nat) (Ab0:Yo) (nb0:Nat) (cb0:Nat) (Ac0:Yo) (nc0:Nat) (cc0:Nat) (Ad0:Yo) (nd0:Nat) (cd0:Nat) (Ae0:Yo) (ne0:Nat) (ce0:Nat) (w:Yw),tZ.R w w.heap.size [.int .i64 p0,.slice A0 n0 c0,.slice Ab0 nb0 cb0,.slice Ac0 nc0 cc0,.slice Ad0 nd0 cd0,.slice Ae0 ne0 ce0] x0->hZ.sz x0<=1048576->Calls Tryz.prog 6 #[.agg #[.int .i64 p0,.slice A0 n0 c0,.slice Ab0 nb0 cb0,.slice Ac0 nc0 cc0,.slice Ad0 nd0 cd0,.slice Ae0 ne0 ce0]] w fun e w'=>∃pr0 Ar0 nr0 cr0 Abr0 nbr0 cbr0 Acr0 ncr0 ccr0 Adr0 ndr0 cdr0 Aer0 ner0 cer0,e=.returned (.tuple #[.agg #[.int .i64 pr0,.slice Ar0 nr0 cr0,.slice Abr0 nbr0 cbr0,.slice Acr0 ncr0 ccr0,.slice Adr0 ndr0 cdr0,.slice Aer0 ner0 cer0],.int .i64 z1])/\tZ.O w' (Iv w.heap.size w'.heap.size) [.int .i64 pr0,.slice Ar0 nr0 cr0,.slice Abr0 nbr0 cbr0,.slice Acr0 ncr0 ccr0,.slice Adr0 ndr0 cdr0,.slice Aer0 ner0 cer0] z0/\Below w.heap.size w w')
 (hImp:∀(p0:Int) (A0:Yo) (n0:Nat) (c0:Nat) (Ab0:Yo) (nb0:Nat) (cb0:Nat) (Ac0:Yo) (nc0:Nat) (cc0:Nat) (Ad0:Yo) (nd0:Nat) (cd0:Nat) (Ae0:Yo) (ne0:Nat) (ce0:Nat) (w:Yw),tZ.R w w.heap.size [.int .i64 p0,.slice A0 n0 c0,.slice Ab0 nb0 cb0,.slice Ac0 nc0 cc0,.slice Ad0 nd0 cd0,.slice Ae0 ne0 ce0] x0->hZ.sz x0<=1048576->Calls Tryz.prog 8 #[.agg #[.int .i64 p0,.slice A0 n0 c0,.slice Ab0 nb0 cb0,.slice Ac0 nc0 cc0,.slice Ad0 nd0 cd0,.slice Ae0 ne0 ce0]] w fun e w'=>∃pr0 Ar0 nr0 cr0 Abr0 nbr0 cbr0 Acr0 ncr0 ccr0 Adr0 ndr0 cdr0 Aer0 ner0 cer0,e=.returned (.tuple #[.agg #[.int .i64 pr0,.slice Ar0 nr0 cr0,.slice Abr0 nbr0 cbr0,.slice Acr0 ncr0 ccr0,.slice Adr0 ndr0 cdr0,.slice Aer0 ner0 cer0],.int .i64 z1])/\tZ.O w' (Iv w.heap.size w'.heap.size) [.int .i64 pr0,.slice Ar0 nr0 cr0,.slice Abr0 nbr0 cbr0,.slice Acr0 ncr0 ccr0,.slice Adr0 ndr0 cdr0,.slice Aer0 ner0 cer0] z0/\Below w.heap.size w w') :
 Calls Tryz.prog 3 #[.agg #[.int .i64 p0,.slice A0 n0 c0,.slice Ab0 nb0 cb0,.slice Ac0 nc0 cc0,.slice Ad0 nd0 cd0,.slice Ae0 ne0 ce0]] w fun e w'=>e=.returned (.bool true)/\Below w.heap.size w w':=by
 have HS:=Lib.hid hSpec;have HI:=Lib.hid hImp;clear hSpec hImp;have B:Below w.heap.size w (w.alloc (.cells #[.int .i64 p0,.slice A0 n0 c0,.slice Ab0 nb0 cb0,.slice Ac0 nc0 cc0,.slice Ad0 nd0 cd0,.slice Ae0 ne0 ce0] 30)):=((Below.refl _ _).alloc (by exact Nat.le_refl _) _);have hsize:(w.alloc (.cells #[.int .i64 p0,.slice A0 n0 c0,.slice Ab0 nb0 cb0,.slice Ac0 nc0 cc0,.slice Ad0 nd0 cd0,.slice Ae0 ne0 ce0] 30)).heap.size=w.heap.size+1:=by simp
 have pb0_0:(w.alloc (.cells #[.int .i64 p0,.slice A0 n0 c0,.slice Ab0 nb0 cb0,.slice Ac0 nc0 cc0,.slice Ad0 nd0 cd0,.slice Ae0 ne0 ce0] 30)).cell? ⟨w.heap.size,0,none⟩=some (.int .i64 p0):=by simp[go_sem]
 have pb0_1:(w.alloc (.cells #[.int .i64 p0,.slice A0 n0 c0,.slice Ab0 nb0 cb0,.slice Ac0 nc0 cc0,.slice Ad0 nd0 cd0,.slice Ae0 ne0 ce0] 30)).cell? ⟨w.heap.size,1,none⟩=some (.slice A0 n0 c0):=by simp[go_sem]
 have pb0_2:(w.alloc (.cells #[.int .i64 p0,.slice A0 n0 c0,.slice Ab0 nb0 cb0,.slice Ac0 nc0 cc0,.slice Ad0 nd0 cd0,.slice Ae0 ne0 ce0] 30)).cell? ⟨w.heap.size,2,none⟩=some (.slice Ab0 nb0 cb0):=by simp[go_sem]
 have pb0_3:(w.alloc (.cells #[.int .i64 p0,.slice A0 n0 c0,.slice Ab0 nb0 cb0,.slice Ac0 nc0 cc0,.slice Ad0 nd0 cd0,.slice Ae0 ne0 ce0] 30)).cell? ⟨w.heap.size,3,none⟩=some (.slice Ac0 nc0 cc0):=by simp[go_sem]
 have pb0_4:(w.alloc (.cells #[.int .i64 p0,.slice A0 n0 c0,.slice Ab0 nb0 cb0,.slice Ac0 nc0 cc0,.slice Ad0 nd0 cd0,.slice Ae0 ne0 ce0] 30)).cell? ⟨w.heap.size,4,none⟩=some (.slice Ad0 nd0 cd0):=by simp[go_sem]
 have pb0_5:(w.alloc (.cells #[.int .i64 p0,.slice A0 n0 c0,.slice Ab0 nb0 cb0,.slice Ac0 nc0 cc0,.slice Ad0 nd0 cd0,.slice Ae0 ne0 ce0] 30)).cell? ⟨w.heap.size,5,none⟩=some (.slice Ae0 ne0 ce0):=by simp[go_sem]
 have left:∀(s:Nat) (l:Int),(s:Int)<=l->(if (s:Int)<=l then l-(s:Int)else -1)=l-(s:Int):=fun s l h=>if_pos h
 have less:∀(s:Nat) (l:Int),¬(s:Int)<=l->(if (s:Int)<=l then l-(s:Int)else -1) = -1:=fun s l h=>if_neg h
 have LEFT:=Lib.hid left;have LESS:=Lib.hid less;clear left less
 by_cases hb0:(1048576:Int)<(hZ.sz x0:Int)
 ·go_enter Tryz.func3,Tryz.ntmps3
  go_wp2_with fail;refine(zn4 _ _ _ _ _ _ _ _ _ _ _ _ _ _ _ _ _ ((1048576:Int)) _ (tZ.later hx0 B) (by omega)).mono ?_;rw[LESS.out _ _ (by omega)];rintro e y0 ⟨rfl,b0⟩;replace B:=zaa B b0;go_wp2_with fail;go_ret;exact⟨rfl,B⟩
 have hw0:hZ.sz x0<=1048576:=by omega
 have hd0:decide ((1048576:Int)-(hZ.sz x0:Int)<0)=false:=by simp only[decide_eq_false_iff_not];omega
 clear hsize
 go_enter Tryz.func3,Tryz.ntmps3
 go_wp2_with fail;refine(zn4 _ _ _ _ _ _ _ _ _ _ _ _ _ _ _ _ _ ((1048576:Int)) _ (tZ.later hx0 B) (by omega)).mono ?_;rw[LEFT.out _ _ (by omega)];rintro e y0 ⟨rfl,b0⟩;have zy0:w.heap.size+1<=y0.heap.size:=by have:=b0.size;simpa using this
 replace pb0_0:y0.cell? ⟨w.heap.size,0,none⟩=some (.int .i64 p0):=by rw[b0.cell (by first|omega|(simp;done)|(simp;omega))];exact pb0_0
 replace pb0_1:y0.cell? ⟨w.heap.size,1,none⟩=some (.slice A0 n0 c0):=by rw[b0.cell (by first|omega|(simp;done)|(simp;omega))];exact pb0_1
 replace pb0_2:y0.cell? ⟨w.heap.size,2,none⟩=some (.slice Ab0 nb0 cb0):=by rw[b0.cell (by first|omega|(simp;done)|(simp;omega))];exact pb0_2
 replace pb0_3:y0.cell? ⟨w.heap.size,3,none⟩=some (.slice Ac0 nc0 cc0):=by rw[b0.cell (by first|omega|(simp;done)|(simp;omega))];exact pb0_3
 replace pb0_4:y0.cell? ⟨w.heap.size,4,none⟩=some (.slice Ad0 nd0 cd0):=by rw[b0.cell (by first|omega|(simp;done)|(simp;omega))];exact pb0_4
 replace pb0_5:y0.cell? ⟨w.heap.size,5,none⟩=some (.slice Ae0 ne0 ce0):=by rw[b0.cell (by first|omega|(simp;done)|(simp;omega))];exact pb0_5
 replace B:=zaa B b0;clear b0;have lt0:w.heap.size<y0.heap.size:=by omega
 clear LEFT LESS;go_wp2_with fail;refine(zh1 _ _ _ _ _ _ _ _ _ _ _ _ _ _ _ _ _ _ (tZ.later hx0 B) (by omega)).mono ?_;rintro e u1 ⟨ps0,As0,ns0,cs0,Abs0,nbs0,cbs0,Acs0,ncs0,ccs0,Ads0,nds0,cds0,Aes0,nes0,ces0,rfl,s0,bb⟩;have G:=bb;have zu1:y0.heap.size<=u1.heap.size:=by have:=bb.size;simpa using this
 replace pb0_0:u1.cell? ⟨w.heap.size,0,none⟩=some (.int .i64 p0):=by rw[G.cell (by first|omega|(simp;done)|(simp;omega))];exact pb0_0
 replace pb0_1:u1.cell? ⟨w.heap.size,1,none⟩=some (.slice A0 n0 c0):=by rw[G.cell (by first|omega|(simp;done)|(simp;omega))];exact pb0_1
 replace pb0_2:u1.cell? ⟨w.heap.size,2,none⟩=some (.slice Ab0 nb0 cb0):=by rw[G.cell (by first|omega|(simp;done)|(simp;omega))];exact pb0_2
 replace pb0_3:u1.cell? ⟨w.heap.size,3,none⟩=some (.slice Ac0 nc0 cc0):=by rw[G.cell (by first|omega|(simp;done)|(simp;omega))];exact pb0_3
 replace pb0_4:u1.cell? ⟨w.heap.size,4,none⟩=some (.slice Ad0 nd0 cd0):=by rw[G.cell (by first|omega|(simp;done)|(simp;omega))];exact pb0_4
 replace pb0_5:u1.cell? ⟨w.heap.size,5,none⟩=some (.slice Ae0 ne0 ce0):=by rw[G.cell (by first|omega|(simp;done)|(simp;omega))];exact pb0_5
 replace s0:tZ.O u1 (Iv (y0.heap.size) u1.heap.size) [.int .i64 ps0,.slice As0 ns0 cs0,.slice Abs0 nbs0 cbs0,.slice Acs0 ncs0 ccs0,.slice Ads0 nds0 cds0,.slice Aes0 nes0 ces0] x0:=tZ.oiv s0 (by simp) (Nat.le_refl _);replace B:=zaa B G;clear G bb;replace lt0:w.heap.size<u1.heap.size:=by omega
 go_wp2_with fail;refine(HS.out _ _ _ _ _ _ _ _ _ _ _ _ _ _ _ _ _ (tZ.read s0) hw0).mono ?_;rintro e u2 ⟨pw0,Aw0,nw0,cw0,Abw0,nbw0,cbw0,Acw0,ncw0,ccw0,Adw0,ndw0,cdw0,Aew0,new0,cew0,rfl,w0,bb⟩;have G:=bb;have zu2:u1.heap.size<=u2.heap.size:=by have:=bb.size;simpa using this
 replace pb0_0:u2.cell? ⟨w.heap.size,0,none⟩=some (.int .i64 p0):=by rw[G.cell (by first|omega|(simp;done)|(simp;omega))];exact pb0_0
 replace pb0_1:u2.cell? ⟨w.heap.size,1,none⟩=some (.slice A0 n0 c0):=by rw[G.cell (by first|omega|(simp;done)|(simp;omega))];exact pb0_1
 replace pb0_2:u2.cell? ⟨w.heap.size,2,none⟩=some (.slice Ab0 nb0 cb0):=by rw[G.cell (by first|omega|(simp;done)|(simp;omega))];exact pb0_2
 replace pb0_3:u2.cell? ⟨w.heap.size,3,none⟩=some (.slice Ac0 nc0 cc0):=by rw[G.cell (by first|omega|(simp;done)|(simp;omega))];exact pb0_3
 replace pb0_4:u2.cell? ⟨w.heap.size,4,none⟩=some (.slice Ad0 nd0 cd0):=by rw[G.cell (by first|omega|(simp;done)|(simp;omega))];exact pb0_4
 replace pb0_5:u2.cell? ⟨w.heap.size,5,none⟩=some (.slice Ae0 ne0 ce0):=by rw[G.cell (by first|omega|(simp;done)|(simp;omega))];exact pb0_5
 replace s0:=tZ.obelow s0 G (by omega);replace w0:tZ.O u2 (Iv (u1.heap.size) u2.heap.size) [.int .i64 pw0,.slice Aw0 nw0 cw0,.slice Abw0 nbw0 cbw0,.slice Acw0 ncw0 ccw0,.slice Adw0 ndw0 cdw0,.slice Aew0 new0 cew0] z0:=tZ.oiv w0 (by simp) (Nat.le_refl _);replace B:=zaa B G;clear G bb;replace lt0:w.heap.size<u2.heap.size:=by omega
 clear s0;have G0:Below u2.heap.size u2 (u2.alloc (.cells #[.int .i64 pw0,.slice Aw0 nw0 cw0,.slice Abw0 nbw0 cbw0,.slice Acw0 ncw0 ccw0,.slice Adw0 ndw0 cdw0,.slice Aew0 new0 cew0] 38)):=(Below.refl _ _).alloc (Nat.le_refl _) _;go_wp2_with fail;refine(zh1 _ _ _ _ _ _ _ _ _ _ _ _ _ _ _ _ _ _ (tZ.later hx0 (zaa B G0)) (by omega)).mono ?_;rintro e u3 ⟨px0o,Ax0o,nx0o,cx0o,Abx0o,nbx0o,cbx0o,Acx0o,ncx0o,ccx0o,Adx0o,ndx0o,cdx0o,Aex0o,nex0o,cex0o,rfl,x0o,bb⟩;have G:=zaa G0 bb;have zu3:u2.heap.size+1<=u3.heap.size:=by have:=bb.size;simp at this;omega
 replace pb0_0:u3.cell? ⟨w.heap.size,0,none⟩=some (.int .i64 p0):=by rw[G.cell (by first|omega|(simp;done)|(simp;omega))];exact pb0_0
 replace pb0_1:u3.cell? ⟨w.heap.size,1,none⟩=some (.slice A0 n0 c0):=by rw[G.cell (by first|omega|(simp;done)|(simp;omega))];exact pb0_1
 replace pb0_2:u3.cell? ⟨w.heap.size,2,none⟩=some (.slice Ab0 nb0 cb0):=by rw[G.cell (by first|omega|(simp;done)|(simp;omega))];exact pb0_2
 replace pb0_3:u3.cell? ⟨w.heap.size,3,none⟩=some (.slice Ac0 nc0 cc0):=by rw[G.cell (by first|omega|(simp;done)|(simp;omega))];exact pb0_3
 replace pb0_4:u3.cell? ⟨w.heap.size,4,none⟩=some (.slice Ad0 nd0 cd0):=by rw[G.cell (by first|omega|(simp;done)|(simp;omega))];exact pb0_4
 replace pb0_5:u3.cell? ⟨w.heap.size,5,none⟩=some (.slice Ae0 ne0 ce0):=by rw[G.cell (by first|omega|(simp;done)|(simp;omega))];exact pb0_5
 replace w0:=tZ.obelow w0 G (by omega);have wb0_0:u3.cell? ⟨u2.heap.size,0,none⟩=some (.int .i64 pw0):=by rw[bb.cell (by simp)];simp[go_sem]
 have wb0_1:u3.cell? ⟨u2.heap.size,1,none⟩=some (.slice Aw0 nw0 cw0):=by rw[bb.cell (by simp)];simp[go_sem]
 have wb0_2:u3.cell? ⟨u2.heap.size,2,none⟩=some (.slice Abw0 nbw0 cbw0):=by rw[bb.cell (by simp)];simp[go_sem]
 have wb0_3:u3.cell? ⟨u2.heap.size,3,none⟩=some (.slice Acw0 ncw0 ccw0):=by rw[bb.cell (by simp)];simp[go_sem]
 have wb0_4:u3.cell? ⟨u2.heap.size,4,none⟩=some (.slice Adw0 ndw0 cdw0):=by rw[bb.cell (by simp)];simp[go_sem]
 have wb0_5:u3.cell? ⟨u2.heap.size,5,none⟩=some (.slice Aew0 new0 cew0):=by rw[bb.cell (by simp)];simp[go_sem]
 replace x0o:tZ.O u3 (Iv (u2.heap.size+1) u3.heap.size) [.int .i64 px0o,.slice Ax0o nx0o cx0o,.slice Abx0o nbx0o cbx0o,.slice Acx0o ncx0o ccx0o,.slice Adx0o ndx0o cdx0o,.slice Aex0o nex0o cex0o] x0:=tZ.oiv x0o (by simp) (Nat.le_refl _);replace B:=zaa B G;clear G bb G0;replace lt0:w.heap.size<u3.heap.size:=by omega
 have lt1:u2.heap.size<u3.heap.size:=by omega
 have G0:Below u3.heap.size u3 (u3.alloc (.cells #[.int .i64 px0o,.slice Ax0o nx0o cx0o,.slice Abx0o nbx0o cbx0o,.slice Acx0o ncx0o ccx0o,.slice Adx0o ndx0o cdx0o,.slice Aex0o nex0o cex0o] 38)):=(Below.refl _ _).alloc (Nat.le_refl _) _;go_wp2_with fail;refine(HI.out _ _ _ _ _ _ _ _ _ _ _ _ _ _ _ _ _ (tZ.later (tZ.read x0o) G0) hw0).mono ?_;rintro e u4 ⟨pg0,Ag0,ng0,cg0,Abg0,nbg0,cbg0,Acg0,ncg0,ccg0,Adg0,ndg0,cdg0,Aeg0,neg0,ceg0,rfl,g0,bb⟩;have G:=zaa G0 bb;have zu4:u3.heap.size+1<=u4.heap.size:=by have:=bb.size;simp at this;omega
 replace pb0_0:u4.cell? ⟨w.heap.size,0,none⟩=some (.int .i64 p0):=by rw[G.cell (by first|omega|(simp;done)|(simp;omega))];exact pb0_0
 replace pb0_1:u4.cell? ⟨w.heap.size,1,none⟩=some (.slice A0 n0 c0):=by rw[G.cell (by first|omega|(simp;done)|(simp;omega))];exact pb0_1
 replace pb0_2:u4.cell? ⟨w.heap.size,2,none⟩=some (.slice Ab0 nb0 cb0):=by rw[G.cell (by first|omega|(simp;done)|(simp;omega))];exact pb0_2
 replace pb0_3:u4.cell? ⟨w.heap.size,3,none⟩=some (.slice Ac0 nc0 cc0):=by rw[G.cell (by first|omega|(simp;done)|(simp;omega))];exact pb0_3
 replace pb0_4:u4.cell? ⟨w.heap.size,4,none⟩=some (.slice Ad0 nd0 cd0):=by rw[G.cell (by first|omega|(simp;done)|(simp;omega))];exact pb0_4
 replace pb0_5:u4.cell? ⟨w.heap.size,5,none⟩=some (.slice Ae0 ne0 ce0):=by rw[G.cell (by first|omega|(simp;done)|(simp;omega))];exact pb0_5
 replace wb0_0:u4.cell? ⟨u2.heap.size,0,none⟩=some (.int .i64 pw0):=by rw[G.cell (by first|omega|(simp;done)|(simp;omega))];exact wb0_0
 replace wb0_1:u4.cell? ⟨u2.heap.size,1,none⟩=some (.slice Aw0 nw0 cw0):=by rw[G.cell (by first|omega|(simp;done)|(simp;omega))];exact wb0_1
 replace wb0_2:u4.cell? ⟨u2.heap.size,2,none⟩=some (.slice Abw0 nbw0 cbw0):=by rw[G.cell (by first|omega|(simp;done)|(simp;omega))];exact wb0_2
 replace wb0_3:u4.cell? ⟨u2.heap.size,3,none⟩=some (.slice Acw0 ncw0 ccw0):=by rw[G.cell (by first|omega|(simp;done)|(simp;omega))];exact wb0_3
 replace wb0_4:u4.cell? ⟨u2.heap.size,4,none⟩=some (.slice Adw0 ndw0 cdw0):=by rw[G.cell (by first|omega|(simp;done)|(simp;omega))];exact wb0_4
 replace wb0_5:u4.cell? ⟨u2.heap.size,5,none⟩=some (.slice Aew0 new0 cew0):=by rw[G.cell (by first|omega|(simp;done)|(simp;omega))];exact wb0_5
 replace w0:=tZ.obelow w0 G (by omega);replace x0o:=tZ.obelow x0o G (by omega);have xb0_0:u4.cell? ⟨u3.heap.size,0,none⟩=some (.int .i64 px0o):=by rw[bb.cell (by simp)];simp[go_sem]
 have xb0_1:u4.cell? ⟨u3.heap.size,1,none⟩=some (.slice Ax0o nx0o cx0o):=by rw[bb.cell (by simp)];simp[go_sem]
 have xb0_2:u4.cell? ⟨u3.heap.size,2,none⟩=some (.slice Abx0o nbx0o cbx0o):=by rw[bb.cell (by simp)];simp[go_sem]
 have xb0_3:u4.cell? ⟨u3.heap.size,3,none⟩=some (.slice Acx0o ncx0o ccx0o):=by rw[bb.cell (by simp)];simp[go_sem]
 have xb0_4:u4.cell? ⟨u3.heap.size,4,none⟩=some (.slice Adx0o ndx0o cdx0o):=by rw[bb.cell (by simp)];simp[go_sem]
 have xb0_5:u4.cell? ⟨u3.heap.size,5,none⟩=some (.slice Aex0o nex0o cex0o):=by rw[bb.cell (by simp)];simp[go_sem]
 replace g0:tZ.O u4 (Iv (u3.heap.size+1) u4.heap.size) [.int .i64 pg0,.slice Ag0 ng0 cg0,.slice Abg0 nbg0 cbg0,.slice Acg0 ncg0 ccg0,.slice Adg0 ndg0 cdg0,.slice Aeg0 neg0 ceg0] z0:=tZ.oiv g0 (by simp) (Nat.le_refl _);replace B:=zaa B G;clear G bb G0;replace lt0:w.heap.size<u4.heap.size:=by omega
 replace lt1:u2.heap.size<u4.heap.size:=by omega
 have lt2:u3.heap.size<u4.heap.size:=by omega
 have G0:Below u4.heap.size u4 (u4.alloc (.cells #[.int .i64 pg0,.slice Ag0 ng0 cg0,.slice Abg0 nbg0 cbg0,.slice Acg0 ncg0 ccg0,.slice Adg0 ndg0 cdg0,.slice Aeg0 neg0 ceg0] 38)):=(Below.refl _ _).alloc (Nat.le_refl _) _;go_wp2_with fail;refine(zh2 _ _ _ _ _ _ _ _ _ _ _ _ _ _ _ _ _ _ _ _ _ _ _ _ _ _ _ _ _ _ _ _ _ _ (tZ.later (tZ.read g0) G0) (tZ.later (tZ.read w0) G0) (by omega)).mono ?_;rintro e u5 ⟨rfl,bb⟩;have G:=zaa G0 bb;have zu5:u4.heap.size+1<=u5.heap.size:=by have:=bb.size;simp at this;omega
 replace pb0_0:u5.cell? ⟨w.heap.size,0,none⟩=some (.int .i64 p0):=by rw[G.cell (by first|omega|(simp;done)|(simp;omega))];exact pb0_0
 replace pb0_1:u5.cell? ⟨w.heap.size,1,none⟩=some (.slice A0 n0 c0):=by rw[G.cell (by first|omega|(simp;done)|(simp;omega))];exact pb0_1
 replace pb0_2:u5.cell? ⟨w.heap.size,2,none⟩=some (.slice Ab0 nb0 cb0):=by rw[G.cell (by first|omega|(simp;done)|(simp;omega))];exact pb0_2
 replace pb0_3:u5.cell? ⟨w.heap.size,3,none⟩=some (.slice Ac0 nc0 cc0):=by rw[G.cell (by first|omega|(simp;done)|(simp;omega))];exact pb0_3
 replace pb0_4:u5.cell? ⟨w.heap.size,4,none⟩=some (.slice Ad0 nd0 cd0):=by rw[G.cell (by first|omega|(simp;done)|(simp;omega))];exact pb0_4
 replace pb0_5:u5.cell? ⟨w.heap.size,5,none⟩=some (.slice Ae0 ne0 ce0):=by rw[G.cell (by first|omega|(simp;done)|(simp;omega))];exact pb0_5
 replace wb0_0:u5.cell? ⟨u2.heap.size,0,none⟩=some (.int .i64 pw0):=by rw[G.cell (by first|omega|(simp;done)|(simp;omega))];exact wb0_0
 replace wb0_1:u5.cell? ⟨u2.heap.size,1,none⟩=some (.slice Aw0 nw0 cw0):=by rw[G.cell (by first|omega|(simp;done)|(simp;omega))];exact wb0_1
 replace wb0_2:u5.cell? ⟨u2.heap.size,2,none⟩=some (.slice Abw0 nbw0 cbw0):=by rw[G.cell (by first|omega|(simp;done)|(simp;omega))];exact wb0_2
 replace wb0_3:u5.cell? ⟨u2.heap.size,3,none⟩=some (.slice Acw0 ncw0 ccw0):=by rw[G.cell (by first|omega|(simp;done)|(simp;omega))];exact wb0_3
 replace wb0_4:u5.cell? ⟨u2.heap.size,4,none⟩=some (.slice Adw0 ndw0 cdw0):=by rw[G.cell (by first|omega|(simp;done)|(simp;omega))];exact wb0_4
 replace wb0_5:u5.cell? ⟨u2.heap.size,5,none⟩=some (.slice Aew0 new0 cew0):=by rw[G.cell (by first|omega|(simp;done)|(simp;omega))];exact wb0_5
 replace xb0_0:u5.cell? ⟨u3.heap.size,0,none⟩=some (.int .i64 px0o):=by rw[G.cell (by first|omega|(simp;done)|(simp;omega))];exact xb0_0
 replace xb0_1:u5.cell? ⟨u3.heap.size,1,none⟩=some (.slice Ax0o nx0o cx0o):=by rw[G.cell (by first|omega|(simp;done)|(simp;omega))];exact xb0_1
 replace xb0_2:u5.cell? ⟨u3.heap.size,2,none⟩=some (.slice Abx0o nbx0o cbx0o):=by rw[G.cell (by first|omega|(simp;done)|(simp;omega))];exact xb0_2
 replace xb0_3:u5.cell? ⟨u3.heap.size,3,none⟩=some (.slice Acx0o ncx0o ccx0o):=by rw[G.cell (by first|omega|(simp;done)|(simp;omega))];exact xb0_3
 replace xb0_4:u5.cell? ⟨u3.heap.size,4,none⟩=some (.slice Adx0o ndx0o cdx0o):=by rw[G.cell (by first|omega|(simp;done)|(simp;omega))];exact xb0_4
 replace xb0_5:u5.cell? ⟨u3.heap.size,5,none⟩=some (.slice Aex0o nex0o cex0o):=by rw[G.cell (by first|omega|(simp;done)|(simp;omega))];exact xb0_5
 replace w0:=tZ.obelow w0 G (by omega);replace x0o:=tZ.obelow x0o G (by omega);replace g0:=tZ.obelow g0 G (by omega);have gb0_0:u5.cell? ⟨u4.heap.size,0,none⟩=some (.int .i64 pg0):=by rw[bb.cell (by simp)];simp[go_sem]
 have gb0_1:u5.cell? ⟨u4.heap.size,1,none⟩=some (.slice Ag0 ng0 cg0):=by rw[bb.cell (by simp)];simp[go_sem]
 have gb0_2:u5.cell? ⟨u4.heap.size,2,none⟩=some (.slice Abg0 nbg0 cbg0):=by rw[bb.cell (by simp)];simp[go_sem]
 have gb0_3:u5.cell? ⟨u4.heap.size,3,none⟩=some (.slice Acg0 ncg0 ccg0):=by rw[bb.cell (by simp)];simp[go_sem]
 have gb0_4:u5.cell? ⟨u4.heap.size,4,none⟩=some (.slice Adg0 ndg0 cdg0):=by rw[bb.cell (by simp)];simp[go_sem]
 have gb0_5:u5.cell? ⟨u4.heap.size,5,none⟩=some (.slice Aeg0 neg0 ceg0):=by rw[bb.cell (by simp)];simp[go_sem]
 replace B:=zaa B G;clear G bb G0;replace lt0:w.heap.size<u5.heap.size:=by omega
 replace lt1:u2.heap.size<u5.heap.size:=by omega
 replace lt2:u3.heap.size<u5.heap.size:=by omega
 have lt3:u4.heap.size<u5.heap.size:=by omega
 go_wp2_with fail
 go_region_held3 (fun w'=>Below u5.heap.size u5 w'/\w'.cell? ⟨w.heap.size,0,none⟩=some (.int .i64 p0)/\w'.cell? ⟨w.heap.size,1,none⟩=some (.slice A0 n0 c0)/\w'.cell? ⟨w.heap.size,2,none⟩=some (.slice Ab0 nb0 cb0)/\w'.cell? ⟨w.heap.size,3,none⟩=some (.slice Ac0 nc0 cc0)/\w'.cell? ⟨w.heap.size,4,none⟩=some (.slice Ad0 nd0 cd0)/\w'.cell? ⟨w.heap.size,5,none⟩=some (.slice Ae0 ne0 ce0)/\w'.cell? ⟨u3.heap.size,0,none⟩=some (.int .i64 px0o)/\w'.cell? ⟨u3.heap.size,1,none⟩=some (.slice Ax0o nx0o cx0o)/\w'.cell? ⟨u3.heap.size,2,none⟩=some (.slice Abx0o nbx0o cbx0o)/\w'.cell? ⟨u3.heap.size,3,none⟩=some (.slice Acx0o ncx0o ccx0o)/\w'.cell? ⟨u3.heap.size,4,none⟩=some (.slice Adx0o ndx0o cdx0o)/\w'.cell? ⟨u3.heap.size,5,none⟩=some (.slice Aex0o nex0o cex0o))
  (first|exact⟨zae (Below.refl _ _) _,pb0_0,pb0_1,pb0_2,pb0_3,pb0_4,pb0_5,xb0_0,xb0_1,xb0_2,xb0_3,xb0_4,xb0_5⟩|exact⟨gq,(by rw[gq.cell (by first|omega|(simp;done)|(simp;omega))];exact pb0_0),(by rw[gq.cell (by first|omega|(simp;done)|(simp;omega))];exact pb0_1),(by rw[gq.cell (by first|omega|(simp;done)|(simp;omega))];exact pb0_2),(by rw[gq.cell (by first|omega|(simp;done)|(simp;omega))];exact pb0_3),(by rw[gq.cell (by first|omega|(simp;done)|(simp;omega))];exact pb0_4),(by rw[gq.cell (by first|omega|(simp;done)|(simp;omega))];exact pb0_5),(by rw[gq.cell (by first|omega|(simp;done)|(simp;omega))];exact xb0_0),(by rw[gq.cell (by first|omega|(simp;done)|(simp;omega))];exact xb0_1),(by rw[gq.cell (by first|omega|(simp;done)|(simp;omega))];exact xb0_2),(by rw[gq.cell (by first|omega|(simp;done)|(simp;omega))];exact xb0_3),(by rw[gq.cell (by first|omega|(simp;done)|(simp;omega))];exact xb0_4),(by rw[gq.cell (by first|omega|(simp;done)|(simp;omega))];exact xb0_5)⟩|exact⟨gt,(by rw[gt.cell (by first|omega|(simp;done)|(simp;omega))];exact pb0_0),(by rw[gt.cell (by first|omega|(simp;done)|(simp;omega))];exact pb0_1),(by rw[gt.cell (by first|omega|(simp;done)|(simp;omega))];exact pb0_2),(by rw[gt.cell (by first|omega|(simp;done)|(simp;omega))];exact pb0_3),(by rw[gt.cell (by first|omega|(simp;done)|(simp;omega))];exact pb0_4),(by rw[gt.cell (by first|omega|(simp;done)|(simp;omega))];exact pb0_5),(by rw[gt.cell (by first|omega|(simp;done)|(simp;omega))];exact xb0_0),(by rw[gt.cell (by first|omega|(simp;done)|(simp;omega))];exact xb0_1),(by rw[gt.cell (by first|omega|(simp;done)|(simp;omega))];exact xb0_2),(by rw[gt.cell (by first|omega|(simp;done)|(simp;omega))];exact xb0_3),(by rw[gt.cell (by first|omega|(simp;done)|(simp;omega))];exact xb0_4),(by rw[gt.cell (by first|omega|(simp;done)|(simp;omega))];exact xb0_5)⟩)
  (first|(go_at_call 7;refine(zh1 _ _ _ _ _ _ _ _ _ _ _ _ _ _ _ _ _ _ (tZ.later (tZ.later hx0 B) (zae (Below.refl _ _) 1)) (by omega)).mono ?_;rintro e vt ⟨pq,Aq,nq,cq,Abq,nbq,cbq,Acq,ncq,ccq,Adq,ndq,cdq,Aeq,neq,ceq,rfl,ot,bt⟩;have gt:Below u5.heap.size u5 vt:=zaa (zae (Below.refl _ _) 1) bt)|(go_at_call 9;refine(zh2 _ _ _ _ _ _ _ _ _ _ _ _ _ _ _ _ _ _ _ _ _ _ _ _ _ _ _ _ _ _ _ _ _ _ (tZ.later (tZ.read x0o) gt) (tZ.read ot) (by omega)).mono ?_;rintro e u6 ⟨rfl,bq⟩;have gq:Below u5.heap.size u5 u6:=zaa gt bq))
 have zu6:u5.heap.size<=u6.heap.size:=gq.size;replace pb0_0:u6.cell? ⟨w.heap.size,0,none⟩=some (.int .i64 p0):=by rw[gq.cell (by first|omega|(simp;done)|(simp;omega))];exact pb0_0
 replace pb0_1:u6.cell? ⟨w.heap.size,1,none⟩=some (.slice A0 n0 c0):=by rw[gq.cell (by first|omega|(simp;done)|(simp;omega))];exact pb0_1
 replace pb0_2:u6.cell? ⟨w.heap.size,2,none⟩=some (.slice Ab0 nb0 cb0):=by rw[gq.cell (by first|omega|(simp;done)|(simp;omega))];exact pb0_2
 replace pb0_3:u6.cell? ⟨w.heap.size,3,none⟩=some (.slice Ac0 nc0 cc0):=by rw[gq.cell (by first|omega|(simp;done)|(simp;omega))];exact pb0_3
 replace pb0_4:u6.cell? ⟨w.heap.size,4,none⟩=some (.slice Ad0 nd0 cd0):=by rw[gq.cell (by first|omega|(simp;done)|(simp;omega))];exact pb0_4
 replace pb0_5:u6.cell? ⟨w.heap.size,5,none⟩=some (.slice Ae0 ne0 ce0):=by rw[gq.cell (by first|omega|(simp;done)|(simp;omega))];exact pb0_5
 replace wb0_0:u6.cell? ⟨u2.heap.size,0,none⟩=some (.int .i64 pw0):=by rw[gq.cell (by first|omega|(simp;done)|(simp;omega))];exact wb0_0
 replace wb0_1:u6.cell? ⟨u2.heap.size,1,none⟩=some (.slice Aw0 nw0 cw0):=by rw[gq.cell (by first|omega|(simp;done)|(simp;omega))];exact wb0_1
 replace wb0_2:u6.cell? ⟨u2.heap.size,2,none⟩=some (.slice Abw0 nbw0 cbw0):=by rw[gq.cell (by first|omega|(simp;done)|(simp;omega))];exact wb0_2
 replace wb0_3:u6.cell? ⟨u2.heap.size,3,none⟩=some (.slice Acw0 ncw0 ccw0):=by rw[gq.cell (by first|omega|(simp;done)|(simp;omega))];exact wb0_3
 replace wb0_4:u6.cell? ⟨u2.heap.size,4,none⟩=some (.slice Adw0 ndw0 cdw0):=by rw[gq.cell (by first|omega|(simp;done)|(simp;omega))];exact wb0_4
 replace wb0_5:u6.cell? ⟨u2.heap.size,5,none⟩=some (.slice Aew0 new0 cew0):=by rw[gq.cell (by first|omega|(simp;done)|(simp;omega))];exact wb0_5
 replace xb0_0:u6.cell? ⟨u3.heap.size,0,none⟩=some (.int .i64 px0o):=by rw[gq.cell (by first|omega|(simp;done)|(simp;omega))];exact xb0_0
 replace xb0_1:u6.cell? ⟨u3.heap.size,1,none⟩=some (.slice Ax0o nx0o cx0o):=by rw[gq.cell (by first|omega|(simp;done)|(simp;omega))];exact xb0_1
 replace xb0_2:u6.cell? ⟨u3.heap.size,2,none⟩=some (.slice Abx0o nbx0o cbx0o):=by rw[gq.cell (by first|omega|(simp;done)|(simp;omega))];exact xb0_2
 replace xb0_3:u6.cell? ⟨u3.heap.size,3,none⟩=some (.slice Acx0o ncx0o ccx0o):=by rw[gq.cell (by first|omega|(simp;done)|(simp;omega))];exact xb0_3
 replace xb0_4:u6.cell? ⟨u3.heap.size,4,none⟩=some (.slice Adx0o ndx0o cdx0o):=by rw[gq.cell (by first|omega|(simp;done)|(simp;omega))];exact xb0_4
 replace xb0_5:u6.cell? ⟨u3.heap.size,5,none⟩=some (.slice Aex0o nex0o cex0o):=by rw[gq.cell (by first|omega|(simp;done)|(simp;omega))];exact xb0_5
 replace gb0_0:u6.cell? ⟨u4.heap.size,0,none⟩=some (.int .i64 pg0):=by rw[gq.cell (by first|omega|(simp;done)|(simp;omega))];exact gb0_0
 replace gb0_1:u6.cell? ⟨u4.heap.size,1,none⟩=some (.slice Ag0 ng0 cg0):=by rw[gq.cell (by first|omega|(simp;done)|(simp;omega))];exact gb0_1
 replace gb0_2:u6.cell? ⟨u4.heap.size,2,none⟩=some (.slice Abg0 nbg0 cbg0):=by rw[gq.cell (by first|omega|(simp;done)|(simp;omega))];exact gb0_2
 replace gb0_3:u6.cell? ⟨u4.heap.size,3,none⟩=some (.slice Acg0 ncg0 ccg0):=by rw[gq.cell (by first|omega|(simp;done)|(simp;omega))];exact gb0_3
 replace gb0_4:u6.cell? ⟨u4.heap.size,4,none⟩=some (.slice Adg0 ndg0 cdg0):=by rw[gq.cell (by first|omega|(simp;done)|(simp;omega))];exact gb0_4
 replace gb0_5:u6.cell? ⟨u4.heap.size,5,none⟩=some (.slice Aeg0 neg0 ceg0):=by rw[gq.cell (by first|omega|(simp;done)|(simp;omega))];exact gb0_5
 replace w0:=tZ.obelow w0 gq (by omega);replace x0o:=tZ.obelow x0o gq (by omega);replace g0:=tZ.obelow g0 gq (by omega);replace B:=zaa B gq;clear gq gt bq bt ot;replace lt0:w.heap.size<u6.heap.size:=by omega
 replace lt1:u2.heap.size<u6.heap.size:=by omega
 replace lt2:u3.heap.size<u6.heap.size:=by omega
 replace lt3:u4.heap.size<u6.heap.size:=by omega
 have hk0:hZ.cnt x0<=20000000:=by have:=cl_Y x0;omega
 go_wp2_with fail;refine(zn6 _ _ _ _ _ _ _ _ _ _ _ _ _ _ _ _ _ _ _ _ x0o (fun b hb=>Nat.lt_of_lt_of_le hb.2 (by omega)) (by omega)).mono ?_;rintro e u7 ⟨rfl,x0o,mm⟩;have zu7:u6.heap.size<=u7.heap.size:=mm.size;replace pb0_0:u7.cell? ⟨w.heap.size,0,none⟩=some (.int .i64 p0):=by rw[World.cell?_of_block (mm.block _ (by first|omega|(simp;done)|(simp;omega)) (by first|(simp[Iv];done)|(simp[Iv];omega)))];exact pb0_0
 replace pb0_1:u7.cell? ⟨w.heap.size,1,none⟩=some (.slice A0 n0 c0):=by rw[World.cell?_of_block (mm.block _ (by first|omega|(simp;done)|(simp;omega)) (by first|(simp[Iv];done)|(simp[Iv];omega)))];exact pb0_1
 replace pb0_2:u7.cell? ⟨w.heap.size,2,none⟩=some (.slice Ab0 nb0 cb0):=by rw[World.cell?_of_block (mm.block _ (by first|omega|(simp;done)|(simp;omega)) (by first|(simp[Iv];done)|(simp[Iv];omega)))];exact pb0_2
 replace pb0_3:u7.cell? ⟨w.heap.size,3,none⟩=some (.slice Ac0 nc0 cc0):=by rw[World.cell?_of_block (mm.block _ (by first|omega|(simp;done)|(simp;omega)) (by first|(simp[Iv];done)|(simp[Iv];omega)))];exact pb0_3
 replace pb0_4:u7.cell? ⟨w.heap.size,4,none⟩=some (.slice Ad0 nd0 cd0):=by rw[World.cell?_of_block (mm.block _ (by first|omega|(simp;done)|(simp;omega)) (by first|(simp[Iv];done)|(simp[Iv];omega)))];exact pb0_4
 replace pb0_5:u7.cell? ⟨w.heap.size,5,none⟩=some (.slice Ae0 ne0 ce0):=by rw[World.cell?_of_block (mm.block _ (by first|omega|(simp;done)|(simp;omega)) (by first|(simp[Iv];done)|(simp[Iv];omega)))];exact pb0_5
 replace wb0_0:u7.cell? ⟨u2.heap.size,0,none⟩=some (.int .i64 pw0):=by rw[World.cell?_of_block (mm.block _ (by first|omega|(simp;done)|(simp;omega)) (by first|(simp[Iv];done)|(simp[Iv];omega)))];exact wb0_0
 replace wb0_1:u7.cell? ⟨u2.heap.size,1,none⟩=some (.slice Aw0 nw0 cw0):=by rw[World.cell?_of_block (mm.block _ (by first|omega|(simp;done)|(simp;omega)) (by first|(simp[Iv];done)|(simp[Iv];omega)))];exact wb0_1
 replace wb0_2:u7.cell? ⟨u2.heap.size,2,none⟩=some (.slice Abw0 nbw0 cbw0):=by rw[World.cell?_of_block (mm.block _ (by first|omega|(simp;done)|(simp;omega)) (by first|(simp[Iv];done)|(simp[Iv];omega)))];exact wb0_2
 replace wb0_3:u7.cell? ⟨u2.heap.size,3,none⟩=some (.slice Acw0 ncw0 ccw0):=by rw[World.cell?_of_block (mm.block _ (by first|omega|(simp;done)|(simp;omega)) (by first|(simp[Iv];done)|(simp[Iv];omega)))];exact wb0_3
 replace wb0_4:u7.cell? ⟨u2.heap.size,4,none⟩=some (.slice Adw0 ndw0 cdw0):=by rw[World.cell?_of_block (mm.block _ (by first|omega|(simp;done)|(simp;omega)) (by first|(simp[Iv];done)|(simp[Iv];omega)))];exact wb0_4
 replace wb0_5:u7.cell? ⟨u2.heap.size,5,none⟩=some (.slice Aew0 new0 cew0):=by rw[World.cell?_of_block (mm.block _ (by first|omega|(simp;done)|(simp;omega)) (by first|(simp[Iv];done)|(simp[Iv];omega)))];exact wb0_5
 replace xb0_0:u7.cell? ⟨u3.heap.size,0,none⟩=some (.int .i64 px0o):=by rw[World.cell?_of_block (mm.block _ (by first|omega|(simp;done)|(simp;omega)) (by first|(simp[Iv];done)|(simp[Iv];omega)))];exact xb0_0
 replace xb0_1:u7.cell? ⟨u3.heap.size,1,none⟩=some (.slice Ax0o nx0o cx0o):=by rw[World.cell?_of_block (mm.block _ (by first|omega|(simp;done)|(simp;omega)) (by first|(simp[Iv];done)|(simp[Iv];omega)))];exact xb0_1
 replace xb0_2:u7.cell? ⟨u3.heap.size,2,none⟩=some (.slice Abx0o nbx0o cbx0o):=by rw[World.cell?_of_block (mm.block _ (by first|omega|(simp;done)|(simp;omega)) (by first|(simp[Iv];done)|(simp[Iv];omega)))];exact xb0_2
 replace xb0_3:u7.cell? ⟨u3.heap.size,3,none⟩=some (.slice Acx0o ncx0o ccx0o):=by rw[World.cell?_of_block (mm.block _ (by first|omega|(simp;done)|(simp;omega)) (by first|(simp[Iv];done)|(simp[Iv];omega)))];exact xb0_3
 replace xb0_4:u7.cell? ⟨u3.heap.size,4,none⟩=some (.slice Adx0o ndx0o cdx0o):=by rw[World.cell?_of_block (mm.block _ (by first|omega|(simp;done)|(simp;omega)) (by first|(simp[Iv];done)|(simp[Iv];omega)))];exact xb0_4
 replace xb0_5:u7.cell? ⟨u3.heap.size,5,none⟩=some (.slice Aex0o nex0o cex0o):=by rw[World.cell?_of_block (mm.block _ (by first|omega|(simp;done)|(simp;omega)) (by first|(simp[Iv];done)|(simp[Iv];omega)))];exact xb0_5
 replace gb0_0:u7.cell? ⟨u4.heap.size,0,none⟩=some (.int .i64 pg0):=by rw[World.cell?_of_block (mm.block _ (by first|omega|(simp;done)|(simp;omega)) (by first|(simp[Iv];done)|(simp[Iv];omega)))];exact gb0_0
 replace gb0_1:u7.cell? ⟨u4.heap.size,1,none⟩=some (.slice Ag0 ng0 cg0):=by rw[World.cell?_of_block (mm.block _ (by first|omega|(simp;done)|(simp;omega)) (by first|(simp[Iv];done)|(simp[Iv];omega)))];exact gb0_1
 replace gb0_2:u7.cell? ⟨u4.heap.size,2,none⟩=some (.slice Abg0 nbg0 cbg0):=by rw[World.cell?_of_block (mm.block _ (by first|omega|(simp;done)|(simp;omega)) (by first|(simp[Iv];done)|(simp[Iv];omega)))];exact gb0_2
 replace gb0_3:u7.cell? ⟨u4.heap.size,3,none⟩=some (.slice Acg0 ncg0 ccg0):=by rw[World.cell?_of_block (mm.block _ (by first|omega|(simp;done)|(simp;omega)) (by first|(simp[Iv];done)|(simp[Iv];omega)))];exact gb0_3
 replace gb0_4:u7.cell? ⟨u4.heap.size,4,none⟩=some (.slice Adg0 ndg0 cdg0):=by rw[World.cell?_of_block (mm.block _ (by first|omega|(simp;done)|(simp;omega)) (by first|(simp[Iv];done)|(simp[Iv];omega)))];exact gb0_4
 replace gb0_5:u7.cell? ⟨u4.heap.size,5,none⟩=some (.slice Aeg0 neg0 ceg0):=by rw[World.cell?_of_block (mm.block _ (by first|omega|(simp;done)|(simp;omega)) (by first|(simp[Iv];done)|(simp[Iv];omega)))];exact gb0_5
 replace w0:=tZ.ochg w0 mm (by simp only[Iv];omega);replace g0:=tZ.ochg g0 mm (by simp only[Iv];omega);replace B:Below w.heap.size w u7:=B.trans (mm.toBelow (by simp only[Iv];omega) (by omega));clear mm;replace lt0:w.heap.size<u7.heap.size:=by omega
 replace lt1:u2.heap.size<u7.heap.size:=by omega
 replace lt2:u3.heap.size<u7.heap.size:=by omega
 replace lt3:u4.heap.size<u7.heap.size:=by omega
 clear x0o;go_wp2_with fail;refine(zh2 _ _ _ _ _ _ _ _ _ _ _ _ _ _ _ _ _ _ _ _ _ _ _ _ _ _ _ _ _ _ _ _ _ _ (tZ.read g0) (tZ.read w0) (by omega)).mono ?_;rintro e u8 ⟨rfl,bb⟩;have G:=bb;have zu8:u7.heap.size<=u8.heap.size:=by have:=bb.size;simpa using this
 replace pb0_0:u8.cell? ⟨w.heap.size,0,none⟩=some (.int .i64 p0):=by rw[G.cell (by first|omega|(simp;done)|(simp;omega))];exact pb0_0
 replace pb0_1:u8.cell? ⟨w.heap.size,1,none⟩=some (.slice A0 n0 c0):=by rw[G.cell (by first|omega|(simp;done)|(simp;omega))];exact pb0_1
 replace pb0_2:u8.cell? ⟨w.heap.size,2,none⟩=some (.slice Ab0 nb0 cb0):=by rw[G.cell (by first|omega|(simp;done)|(simp;omega))];exact pb0_2
 replace pb0_3:u8.cell? ⟨w.heap.size,3,none⟩=some (.slice Ac0 nc0 cc0):=by rw[G.cell (by first|omega|(simp;done)|(simp;omega))];exact pb0_3
 replace pb0_4:u8.cell? ⟨w.heap.size,4,none⟩=some (.slice Ad0 nd0 cd0):=by rw[G.cell (by first|omega|(simp;done)|(simp;omega))];exact pb0_4
 replace pb0_5:u8.cell? ⟨w.heap.size,5,none⟩=some (.slice Ae0 ne0 ce0):=by rw[G.cell (by first|omega|(simp;done)|(simp;omega))];exact pb0_5
 replace wb0_0:u8.cell? ⟨u2.heap.size,0,none⟩=some (.int .i64 pw0):=by rw[G.cell (by first|omega|(simp;done)|(simp;omega))];exact wb0_0
 replace wb0_1:u8.cell? ⟨u2.heap.size,1,none⟩=some (.slice Aw0 nw0 cw0):=by rw[G.cell (by first|omega|(simp;done)|(simp;omega))];exact wb0_1
 replace wb0_2:u8.cell? ⟨u2.heap.size,2,none⟩=some (.slice Abw0 nbw0 cbw0):=by rw[G.cell (by first|omega|(simp;done)|(simp;omega))];exact wb0_2
 replace wb0_3:u8.cell? ⟨u2.heap.size,3,none⟩=some (.slice Acw0 ncw0 ccw0):=by rw[G.cell (by first|omega|(simp;done)|(simp;omega))];exact wb0_3
 replace wb0_4:u8.cell? ⟨u2.heap.size,4,none⟩=some (.slice Adw0 ndw0 cdw0):=by rw[G.cell (by first|omega|(simp;done)|(simp;omega))];exact wb0_4
 replace wb0_5:u8.cell? ⟨u2.heap.size,5,none⟩=some (.slice Aew0 new0 cew0):=by rw[G.cell (by first|omega|(simp;done)|(simp;omega))];exact wb0_5
 replace xb0_0:u8.cell? ⟨u3.heap.size,0,none⟩=some (.int .i64 px0o):=by rw[G.cell (by first|omega|(simp;done)|(simp;omega))];exact xb0_0
 replace xb0_1:u8.cell? ⟨u3.heap.size,1,none⟩=some (.slice Ax0o nx0o cx0o):=by rw[G.cell (by first|omega|(simp;done)|(simp;omega))];exact xb0_1
 replace xb0_2:u8.cell? ⟨u3.heap.size,2,none⟩=some (.slice Abx0o nbx0o cbx0o):=by rw[G.cell (by first|omega|(simp;done)|(simp;omega))];exact xb0_2
 replace xb0_3:u8.cell? ⟨u3.heap.size,3,none⟩=some (.slice Acx0o ncx0o ccx0o):=by rw[G.cell (by first|omega|(simp;done)|(simp;omega))];exact xb0_3
 replace xb0_4:u8.cell? ⟨u3.heap.size,4,none⟩=some (.slice Adx0o ndx0o cdx0o):=by rw[G.cell (by first|omega|(simp;done)|(simp;omega))];exact xb0_4
 replace xb0_5:u8.cell? ⟨u3.heap.size,5,none⟩=some (.slice Aex0o nex0o cex0o):=by rw[G.cell (by first|omega|(simp;done)|(simp;omega))];exact xb0_5
 replace gb0_0:u8.cell? ⟨u4.heap.size,0,none⟩=some (.int .i64 pg0):=by rw[G.cell (by first|omega|(simp;done)|(simp;omega))];exact gb0_0
 replace gb0_1:u8.cell? ⟨u4.heap.size,1,none⟩=some (.slice Ag0 ng0 cg0):=by rw[G.cell (by first|omega|(simp;done)|(simp;omega))];exact gb0_1
 replace gb0_2:u8.cell? ⟨u4.heap.size,2,none⟩=some (.slice Abg0 nbg0 cbg0):=by rw[G.cell (by first|omega|(simp;done)|(simp;omega))];exact gb0_2
 replace gb0_3:u8.cell? ⟨u4.heap.size,3,none⟩=some (.slice Acg0 ncg0 ccg0):=by rw[G.cell (by first|omega|(simp;done)|(simp;omega))];exact gb0_3
 replace gb0_4:u8.cell? ⟨u4.heap.size,4,none⟩=some (.slice Adg0 ndg0 cdg0):=by rw[G.cell (by first|omega|(simp;done)|(simp;omega))];exact gb0_4
 replace gb0_5:u8.cell? ⟨u4.heap.size,5,none⟩=some (.slice Aeg0 neg0 ceg0):=by rw[G.cell (by first|omega|(simp;done)|(simp;omega))];exact gb0_5
 replace w0:=tZ.obelow w0 G (by omega);replace g0:=tZ.obelow g0 G (by omega);replace B:=zaa B G;clear G bb;replace lt0:w.heap.size<u8.heap.size:=by omega
 replace lt1:u2.heap.size<u8.heap.size:=by omega
 replace lt2:u3.heap.size<u8.heap.size:=by omega
 replace lt3:u4.heap.size<u8.heap.size:=by omega
 go_wp2_with fail;refine(zn6 _ _ _ _ _ _ _ _ _ _ _ _ _ _ _ _ _ _ _ _ g0 (fun b hb=>Nat.lt_of_lt_of_le hb.2 (by omega)) (by omega)).mono ?_;rintro e u9 ⟨rfl,g0,mm⟩;have zu9:u8.heap.size<=u9.heap.size:=mm.size;replace pb0_0:u9.cell? ⟨w.heap.size,0,none⟩=some (.int .i64 p0):=by rw[World.cell?_of_block (mm.block _ (by first|omega|(simp;done)|(simp;omega)) (by first|(simp[Iv];done)|(simp[Iv];omega)))];exact pb0_0
 replace pb0_1:u9.cell? ⟨w.heap.size,1,none⟩=some (.slice A0 n0 c0):=by rw[World.cell?_of_block (mm.block _ (by first|omega|(simp;done)|(simp;omega)) (by first|(simp[Iv];done)|(simp[Iv];omega)))];exact pb0_1
 replace pb0_2:u9.cell? ⟨w.heap.size,2,none⟩=some (.slice Ab0 nb0 cb0):=by rw[World.cell?_of_block (mm.block _ (by first|omega|(simp;done)|(simp;omega)) (by first|(simp[Iv];done)|(simp[Iv];omega)))];exact pb0_2
 replace pb0_3:u9.cell? ⟨w.heap.size,3,none⟩=some (.slice Ac0 nc0 cc0):=by rw[World.cell?_of_block (mm.block _ (by first|omega|(simp;done)|(simp;omega)) (by first|(simp[Iv];done)|(simp[Iv];omega)))];exact pb0_3
 replace pb0_4:u9.cell? ⟨w.heap.size,4,none⟩=some (.slice Ad0 nd0 cd0):=by rw[World.cell?_of_block (mm.block _ (by first|omega|(simp;done)|(simp;omega)) (by first|(simp[Iv];done)|(simp[Iv];omega)))];exact pb0_4
 replace pb0_5:u9.cell? ⟨w.heap.size,5,none⟩=some (.slice Ae0 ne0 ce0):=by rw[World.cell?_of_block (mm.block _ (by first|omega|(simp;done)|(simp;omega)) (by first|(simp[Iv];done)|(simp[Iv];omega)))];exact pb0_5
 replace wb0_0:u9.cell? ⟨u2.heap.size,0,none⟩=some (.int .i64 pw0):=by rw[World.cell?_of_block (mm.block _ (by first|omega|(simp;done)|(simp;omega)) (by first|(simp[Iv];done)|(simp[Iv];omega)))];exact wb0_0
 replace wb0_1:u9.cell? ⟨u2.heap.size,1,none⟩=some (.slice Aw0 nw0 cw0):=by rw[World.cell?_of_block (mm.block _ (by first|omega|(simp;done)|(simp;omega)) (by first|(simp[Iv];done)|(simp[Iv];omega)))];exact wb0_1
 replace wb0_2:u9.cell? ⟨u2.heap.size,2,none⟩=some (.slice Abw0 nbw0 cbw0):=by rw[World.cell?_of_block (mm.block _ (by first|omega|(simp;done)|(simp;omega)) (by first|(simp[Iv];done)|(simp[Iv];omega)))];exact wb0_2
 replace wb0_3:u9.cell? ⟨u2.heap.size,3,none⟩=some (.slice Acw0 ncw0 ccw0):=by rw[World.cell?_of_block (mm.block _ (by first|omega|(simp;done)|(simp;omega)) (by first|(simp[Iv];done)|(simp[Iv];omega)))];exact wb0_3
 replace wb0_4:u9.cell? ⟨u2.heap.size,4,none⟩=some (.slice Adw0 ndw0 cdw0):=by rw[World.cell?_of_block (mm.block _ (by first|omega|(simp;done)|(simp;omega)) (by first|(simp[Iv];done)|(simp[Iv];omega)))];exact wb0_4
 replace wb0_5:u9.cell? ⟨u2.heap.size,5,none⟩=some (.slice Aew0 new0 cew0):=by rw[World.cell?_of_block (mm.block _ (by first|omega|(simp;done)|(simp;omega)) (by first|(simp[Iv];done)|(simp[Iv];omega)))];exact wb0_5
 replace xb0_0:u9.cell? ⟨u3.heap.size,0,none⟩=some (.int .i64 px0o):=by rw[World.cell?_of_block (mm.block _ (by first|omega|(simp;done)|(simp;omega)) (by first|(simp[Iv];done)|(simp[Iv];omega)))];exact xb0_0
 replace xb0_1:u9.cell? ⟨u3.heap.size,1,none⟩=some (.slice Ax0o nx0o cx0o):=by rw[World.cell?_of_block (mm.block _ (by first|omega|(simp;done)|(simp;omega)) (by first|(simp[Iv];done)|(simp[Iv];omega)))];exact xb0_1
 replace xb0_2:u9.cell? ⟨u3.heap.size,2,none⟩=some (.slice Abx0o nbx0o cbx0o):=by rw[World.cell?_of_block (mm.block _ (by first|omega|(simp;done)|(simp;omega)) (by first|(simp[Iv];done)|(simp[Iv];omega)))];exact xb0_2
 replace xb0_3:u9.cell? ⟨u3.heap.size,3,none⟩=some (.slice Acx0o ncx0o ccx0o):=by rw[World.cell?_of_block (mm.block _ (by first|omega|(simp;done)|(simp;omega)) (by first|(simp[Iv];done)|(simp[Iv];omega)))];exact xb0_3
 replace xb0_4:u9.cell? ⟨u3.heap.size,4,none⟩=some (.slice Adx0o ndx0o cdx0o):=by rw[World.cell?_of_block (mm.block _ (by first|omega|(simp;done)|(simp;omega)) (by first|(simp[Iv];done)|(simp[Iv];omega)))];exact xb0_4
 replace xb0_5:u9.cell? ⟨u3.heap.size,5,none⟩=some (.slice Aex0o nex0o cex0o):=by rw[World.cell?_of_block (mm.block _ (by first|omega|(simp;done)|(simp;omega)) (by first|(simp[Iv];done)|(simp[Iv];omega)))];exact xb0_5
 replace gb0_0:u9.cell? ⟨u4.heap.size,0,none⟩=some (.int .i64 pg0):=by rw[World.cell?_of_block (mm.block _ (by first|omega|(simp;done)|(simp;omega)) (by first|(simp[Iv];done)|(simp[Iv];omega)))];exact gb0_0
 replace gb0_1:u9.cell? ⟨u4.heap.size,1,none⟩=some (.slice Ag0 ng0 cg0):=by rw[World.cell?_of_block (mm.block _ (by first|omega|(simp;done)|(simp;omega)) (by first|(simp[Iv];done)|(simp[Iv];omega)))];exact gb0_1
 replace gb0_2:u9.cell? ⟨u4.heap.size,2,none⟩=some (.slice Abg0 nbg0 cbg0):=by rw[World.cell?_of_block (mm.block _ (by first|omega|(simp;done)|(simp;omega)) (by first|(simp[Iv];done)|(simp[Iv];omega)))];exact gb0_2
 replace gb0_3:u9.cell? ⟨u4.heap.size,3,none⟩=some (.slice Acg0 ncg0 ccg0):=by rw[World.cell?_of_block (mm.block _ (by first|omega|(simp;done)|(simp;omega)) (by first|(simp[Iv];done)|(simp[Iv];omega)))];exact gb0_3
 replace gb0_4:u9.cell? ⟨u4.heap.size,4,none⟩=some (.slice Adg0 ndg0 cdg0):=by rw[World.cell?_of_block (mm.block _ (by first|omega|(simp;done)|(simp;omega)) (by first|(simp[Iv];done)|(simp[Iv];omega)))];exact gb0_4
 replace gb0_5:u9.cell? ⟨u4.heap.size,5,none⟩=some (.slice Aeg0 neg0 ceg0):=by rw[World.cell?_of_block (mm.block _ (by first|omega|(simp;done)|(simp;omega)) (by first|(simp[Iv];done)|(simp[Iv];omega)))];exact gb0_5
 replace w0:=tZ.ochg w0 mm (by simp only[Iv];omega);replace B:Below w.heap.size w u9:=B.trans (mm.toBelow (by simp only[Iv];omega) (by omega));clear mm;replace lt0:w.heap.size<u9.heap.size:=by omega
 replace lt1:u2.heap.size<u9.heap.size:=by omega
 replace lt2:u3.heap.size<u9.heap.size:=by omega
 replace lt3:u4.heap.size<u9.heap.size:=by omega
 go_wp2_with fail;refine(zn7 _ _ _ _ _ _ _ _ _ _ _ _ _ _ _ _ _ _ _ (tZ.read g0) (by omega)).mono ?_;rintro e u10 ⟨rfl,bb⟩;have G:=bb;have zu10:u9.heap.size<=u10.heap.size:=by have:=bb.size;simpa using this
 replace pb0_0:u10.cell? ⟨w.heap.size,0,none⟩=some (.int .i64 p0):=by rw[G.cell (by first|omega|(simp;done)|(simp;omega))];exact pb0_0
 replace pb0_1:u10.cell? ⟨w.heap.size,1,none⟩=some (.slice A0 n0 c0):=by rw[G.cell (by first|omega|(simp;done)|(simp;omega))];exact pb0_1
 replace pb0_2:u10.cell? ⟨w.heap.size,2,none⟩=some (.slice Ab0 nb0 cb0):=by rw[G.cell (by first|omega|(simp;done)|(simp;omega))];exact pb0_2
 replace pb0_3:u10.cell? ⟨w.heap.size,3,none⟩=some (.slice Ac0 nc0 cc0):=by rw[G.cell (by first|omega|(simp;done)|(simp;omega))];exact pb0_3
 replace pb0_4:u10.cell? ⟨w.heap.size,4,none⟩=some (.slice Ad0 nd0 cd0):=by rw[G.cell (by first|omega|(simp;done)|(simp;omega))];exact pb0_4
 replace pb0_5:u10.cell? ⟨w.heap.size,5,none⟩=some (.slice Ae0 ne0 ce0):=by rw[G.cell (by first|omega|(simp;done)|(simp;omega))];exact pb0_5
 replace wb0_0:u10.cell? ⟨u2.heap.size,0,none⟩=some (.int .i64 pw0):=by rw[G.cell (by first|omega|(simp;done)|(simp;omega))];exact wb0_0
 replace wb0_1:u10.cell? ⟨u2.heap.size,1,none⟩=some (.slice Aw0 nw0 cw0):=by rw[G.cell (by first|omega|(simp;done)|(simp;omega))];exact wb0_1
 replace wb0_2:u10.cell? ⟨u2.heap.size,2,none⟩=some (.slice Abw0 nbw0 cbw0):=by rw[G.cell (by first|omega|(simp;done)|(simp;omega))];exact wb0_2
 replace wb0_3:u10.cell? ⟨u2.heap.size,3,none⟩=some (.slice Acw0 ncw0 ccw0):=by rw[G.cell (by first|omega|(simp;done)|(simp;omega))];exact wb0_3
 replace wb0_4:u10.cell? ⟨u2.heap.size,4,none⟩=some (.slice Adw0 ndw0 cdw0):=by rw[G.cell (by first|omega|(simp;done)|(simp;omega))];exact wb0_4
 replace wb0_5:u10.cell? ⟨u2.heap.size,5,none⟩=some (.slice Aew0 new0 cew0):=by rw[G.cell (by first|omega|(simp;done)|(simp;omega))];exact wb0_5
 replace xb0_0:u10.cell? ⟨u3.heap.size,0,none⟩=some (.int .i64 px0o):=by rw[G.cell (by first|omega|(simp;done)|(simp;omega))];exact xb0_0
 replace xb0_1:u10.cell? ⟨u3.heap.size,1,none⟩=some (.slice Ax0o nx0o cx0o):=by rw[G.cell (by first|omega|(simp;done)|(simp;omega))];exact xb0_1
 replace xb0_2:u10.cell? ⟨u3.heap.size,2,none⟩=some (.slice Abx0o nbx0o cbx0o):=by rw[G.cell (by first|omega|(simp;done)|(simp;omega))];exact xb0_2
 replace xb0_3:u10.cell? ⟨u3.heap.size,3,none⟩=some (.slice Acx0o ncx0o ccx0o):=by rw[G.cell (by first|omega|(simp;done)|(simp;omega))];exact xb0_3
 replace xb0_4:u10.cell? ⟨u3.heap.size,4,none⟩=some (.slice Adx0o ndx0o cdx0o):=by rw[G.cell (by first|omega|(simp;done)|(simp;omega))];exact xb0_4
 replace xb0_5:u10.cell? ⟨u3.heap.size,5,none⟩=some (.slice Aex0o nex0o cex0o):=by rw[G.cell (by first|omega|(simp;done)|(simp;omega))];exact xb0_5
 replace gb0_0:u10.cell? ⟨u4.heap.size,0,none⟩=some (.int .i64 pg0):=by rw[G.cell (by first|omega|(simp;done)|(simp;omega))];exact gb0_0
 replace gb0_1:u10.cell? ⟨u4.heap.size,1,none⟩=some (.slice Ag0 ng0 cg0):=by rw[G.cell (by first|omega|(simp;done)|(simp;omega))];exact gb0_1
 replace gb0_2:u10.cell? ⟨u4.heap.size,2,none⟩=some (.slice Abg0 nbg0 cbg0):=by rw[G.cell (by first|omega|(simp;done)|(simp;omega))];exact gb0_2
 replace gb0_3:u10.cell? ⟨u4.heap.size,3,none⟩=some (.slice Acg0 ncg0 ccg0):=by rw[G.cell (by first|omega|(simp;done)|(simp;omega))];exact gb0_3
 replace gb0_4:u10.cell? ⟨u4.heap.size,4,none⟩=some (.slice Adg0 ndg0 cdg0):=by rw[G.cell (by first|omega|(simp;done)|(simp;omega))];exact gb0_4
 replace gb0_5:u10.cell? ⟨u4.heap.size,5,none⟩=some (.slice Aeg0 neg0 ceg0):=by rw[G.cell (by first|omega|(simp;done)|(simp;omega))];exact gb0_5
 replace w0:=tZ.obelow w0 G (by omega);replace g0:=tZ.obelow g0 G (by omega);replace B:=zaa B G;clear G bb;replace lt0:w.heap.size<u10.heap.size:=by omega
 replace lt1:u2.heap.size<u10.heap.size:=by omega
 replace lt2:u3.heap.size<u10.heap.size:=by omega
 replace lt3:u4.heap.size<u10.heap.size:=by omega
 go_wp2_with fail;refine(zh1 _ _ _ _ _ _ _ _ _ _ _ _ _ _ _ _ _ _ (tZ.later hx0 B) (by omega)).mono ?_;rintro e u11 ⟨ph0o,Ah0o,nh0o,ch0o,Abh0o,nbh0o,cbh0o,Ach0o,nch0o,cch0o,Adh0o,ndh0o,cdh0o,Aeh0o,neh0o,ceh0o,rfl,h0o,bb⟩;have G:=bb;have zu11:u10.heap.size<=u11.heap.size:=by have:=bb.size;simpa using this
 replace pb0_0:u11.cell? ⟨w.heap.size,0,none⟩=some (.int .i64 p0):=by rw[G.cell (by first|omega|(simp;done)|(simp;omega))];exact pb0_0
 replace pb0_1:u11.cell? ⟨w.heap.size,1,none⟩=some (.slice A0 n0 c0):=by rw[G.cell (by first|omega|(simp;done)|(simp;omega))];exact pb0_1
 replace pb0_2:u11.cell? ⟨w.heap.size,2,none⟩=some (.slice Ab0 nb0 cb0):=by rw[G.cell (by first|omega|(simp;done)|(simp;omega))];exact pb0_2
 replace pb0_3:u11.cell? ⟨w.heap.size,3,none⟩=some (.slice Ac0 nc0 cc0):=by rw[G.cell (by first|omega|(simp;done)|(simp;omega))];exact pb0_3
 replace pb0_4:u11.cell? ⟨w.heap.size,4,none⟩=some (.slice Ad0 nd0 cd0):=by rw[G.cell (by first|omega|(simp;done)|(simp;omega))];exact pb0_4
 replace pb0_5:u11.cell? ⟨w.heap.size,5,none⟩=some (.slice Ae0 ne0 ce0):=by rw[G.cell (by first|omega|(simp;done)|(simp;omega))];exact pb0_5
 replace wb0_0:u11.cell? ⟨u2.heap.size,0,none⟩=some (.int .i64 pw0):=by rw[G.cell (by first|omega|(simp;done)|(simp;omega))];exact wb0_0
 replace wb0_1:u11.cell? ⟨u2.heap.size,1,none⟩=some (.slice Aw0 nw0 cw0):=by rw[G.cell (by first|omega|(simp;done)|(simp;omega))];exact wb0_1
 replace wb0_2:u11.cell? ⟨u2.heap.size,2,none⟩=some (.slice Abw0 nbw0 cbw0):=by rw[G.cell (by first|omega|(simp;done)|(simp;omega))];exact wb0_2
 replace wb0_3:u11.cell? ⟨u2.heap.size,3,none⟩=some (.slice Acw0 ncw0 ccw0):=by rw[G.cell (by first|omega|(simp;done)|(simp;omega))];exact wb0_3
 replace wb0_4:u11.cell? ⟨u2.heap.size,4,none⟩=some (.slice Adw0 ndw0 cdw0):=by rw[G.cell (by first|omega|(simp;done)|(simp;omega))];exact wb0_4
 replace wb0_5:u11.cell? ⟨u2.heap.size,5,none⟩=some (.slice Aew0 new0 cew0):=by rw[G.cell (by first|omega|(simp;done)|(simp;omega))];exact wb0_5
 replace xb0_0:u11.cell? ⟨u3.heap.size,0,none⟩=some (.int .i64 px0o):=by rw[G.cell (by first|omega|(simp;done)|(simp;omega))];exact xb0_0
 replace xb0_1:u11.cell? ⟨u3.heap.size,1,none⟩=some (.slice Ax0o nx0o cx0o):=by rw[G.cell (by first|omega|(simp;done)|(simp;omega))];exact xb0_1
 replace xb0_2:u11.cell? ⟨u3.heap.size,2,none⟩=some (.slice Abx0o nbx0o cbx0o):=by rw[G.cell (by first|omega|(simp;done)|(simp;omega))];exact xb0_2
 replace xb0_3:u11.cell? ⟨u3.heap.size,3,none⟩=some (.slice Acx0o ncx0o ccx0o):=by rw[G.cell (by first|omega|(simp;done)|(simp;omega))];exact xb0_3
 replace xb0_4:u11.cell? ⟨u3.heap.size,4,none⟩=some (.slice Adx0o ndx0o cdx0o):=by rw[G.cell (by first|omega|(simp;done)|(simp;omega))];exact xb0_4
 replace xb0_5:u11.cell? ⟨u3.heap.size,5,none⟩=some (.slice Aex0o nex0o cex0o):=by rw[G.cell (by first|omega|(simp;done)|(simp;omega))];exact xb0_5
 replace gb0_0:u11.cell? ⟨u4.heap.size,0,none⟩=some (.int .i64 pg0):=by rw[G.cell (by first|omega|(simp;done)|(simp;omega))];exact gb0_0
 replace gb0_1:u11.cell? ⟨u4.heap.size,1,none⟩=some (.slice Ag0 ng0 cg0):=by rw[G.cell (by first|omega|(simp;done)|(simp;omega))];exact gb0_1
 replace gb0_2:u11.cell? ⟨u4.heap.size,2,none⟩=some (.slice Abg0 nbg0 cbg0):=by rw[G.cell (by first|omega|(simp;done)|(simp;omega))];exact gb0_2
 replace gb0_3:u11.cell? ⟨u4.heap.size,3,none⟩=some (.slice Acg0 ncg0 ccg0):=by rw[G.cell (by first|omega|(simp;done)|(simp;omega))];exact gb0_3
 replace gb0_4:u11.cell? ⟨u4.heap.size,4,none⟩=some (.slice Adg0 ndg0 cdg0):=by rw[G.cell (by first|omega|(simp;done)|(simp;omega))];exact gb0_4
 replace gb0_5:u11.cell? ⟨u4.heap.size,5,none⟩=some (.slice Aeg0 neg0 ceg0):=by rw[G.cell (by first|omega|(simp;done)|(simp;omega))];exact gb0_5
 replace w0:=tZ.obelow w0 G (by omega);replace g0:=tZ.obelow g0 G (by omega);replace h0o:tZ.O u11 (Iv (u10.heap.size) u11.heap.size) [.int .i64 ph0o,.slice Ah0o nh0o ch0o,.slice Abh0o nbh0o cbh0o,.slice Ach0o nch0o cch0o,.slice Adh0o ndh0o cdh0o,.slice Aeh0o neh0o ceh0o] x0:=tZ.oiv h0o (by simp) (Nat.le_refl _);replace B:=zaa B G;clear G bb;replace lt0:w.heap.size<u11.heap.size:=by omega
 replace lt1:u2.heap.size<u11.heap.size:=by omega
 replace lt2:u3.heap.size<u11.heap.size:=by omega
 replace lt3:u4.heap.size<u11.heap.size:=by omega
 go_wp2_with fail;refine(HI.out _ _ _ _ _ _ _ _ _ _ _ _ _ _ _ _ _ (tZ.read h0o) hw0).mono ?_;rintro e u12 ⟨ph0,Ah0,nh0,ch0,Abh0,nbh0,cbh0,Ach0,nch0,cch0,Adh0,ndh0,cdh0,Aeh0,neh0,ceh0,rfl,h0,bb⟩;have G:=bb;have zu12:u11.heap.size<=u12.heap.size:=by have:=bb.size;simpa using this
 replace pb0_0:u12.cell? ⟨w.heap.size,0,none⟩=some (.int .i64 p0):=by rw[G.cell (by first|omega|(simp;done)|(simp;omega))];exact pb0_0
 replace pb0_1:u12.cell? ⟨w.heap.size,1,none⟩=some (.slice A0 n0 c0):=by rw[G.cell (by first|omega|(simp;done)|(simp;omega))];exact pb0_1
 replace pb0_2:u12.cell? ⟨w.heap.size,2,none⟩=some (.slice Ab0 nb0 cb0):=by rw[G.cell (by first|omega|(simp;done)|(simp;omega))];exact pb0_2
 replace pb0_3:u12.cell? ⟨w.heap.size,3,none⟩=some (.slice Ac0 nc0 cc0):=by rw[G.cell (by first|omega|(simp;done)|(simp;omega))];exact pb0_3
 replace pb0_4:u12.cell? ⟨w.heap.size,4,none⟩=some (.slice Ad0 nd0 cd0):=by rw[G.cell (by first|omega|(simp;done)|(simp;omega))];exact pb0_4
 replace pb0_5:u12.cell? ⟨w.heap.size,5,none⟩=some (.slice Ae0 ne0 ce0):=by rw[G.cell (by first|omega|(simp;done)|(simp;omega))];exact pb0_5
 replace wb0_0:u12.cell? ⟨u2.heap.size,0,none⟩=some (.int .i64 pw0):=by rw[G.cell (by first|omega|(simp;done)|(simp;omega))];exact wb0_0
 replace wb0_1:u12.cell? ⟨u2.heap.size,1,none⟩=some (.slice Aw0 nw0 cw0):=by rw[G.cell (by first|omega|(simp;done)|(simp;omega))];exact wb0_1
 replace wb0_2:u12.cell? ⟨u2.heap.size,2,none⟩=some (.slice Abw0 nbw0 cbw0):=by rw[G.cell (by first|omega|(simp;done)|(simp;omega))];exact wb0_2
 replace wb0_3:u12.cell? ⟨u2.heap.size,3,none⟩=some (.slice Acw0 ncw0 ccw0):=by rw[G.cell (by first|omega|(simp;done)|(simp;omega))];exact wb0_3
 replace wb0_4:u12.cell? ⟨u2.heap.size,4,none⟩=some (.slice Adw0 ndw0 cdw0):=by rw[G.cell (by first|omega|(simp;done)|(simp;omega))];exact wb0_4
 replace wb0_5:u12.cell? ⟨u2.heap.size,5,none⟩=some (.slice Aew0 new0 cew0):=by rw[G.cell (by first|omega|(simp;done)|(simp;omega))];exact wb0_5
 replace xb0_0:u12.cell? ⟨u3.heap.size,0,none⟩=some (.int .i64 px0o):=by rw[G.cell (by first|omega|(simp;done)|(simp;omega))];exact xb0_0
 replace xb0_1:u12.cell? ⟨u3.heap.size,1,none⟩=some (.slice Ax0o nx0o cx0o):=by rw[G.cell (by first|omega|(simp;done)|(simp;omega))];exact xb0_1
 replace xb0_2:u12.cell? ⟨u3.heap.size,2,none⟩=some (.slice Abx0o nbx0o cbx0o):=by rw[G.cell (by first|omega|(simp;done)|(simp;omega))];exact xb0_2
 replace xb0_3:u12.cell? ⟨u3.heap.size,3,none⟩=some (.slice Acx0o ncx0o ccx0o):=by rw[G.cell (by first|omega|(simp;done)|(simp;omega))];exact xb0_3
 replace xb0_4:u12.cell? ⟨u3.heap.size,4,none⟩=some (.slice Adx0o ndx0o cdx0o):=by rw[G.cell (by first|omega|(simp;done)|(simp;omega))];exact xb0_4
 replace xb0_5:u12.cell? ⟨u3.heap.size,5,none⟩=some (.slice Aex0o nex0o cex0o):=by rw[G.cell (by first|omega|(simp;done)|(simp;omega))];exact xb0_5
 replace gb0_0:u12.cell? ⟨u4.heap.size,0,none⟩=some (.int .i64 pg0):=by rw[G.cell (by first|omega|(simp;done)|(simp;omega))];exact gb0_0
 replace gb0_1:u12.cell? ⟨u4.heap.size,1,none⟩=some (.slice Ag0 ng0 cg0):=by rw[G.cell (by first|omega|(simp;done)|(simp;omega))];exact gb0_1
 replace gb0_2:u12.cell? ⟨u4.heap.size,2,none⟩=some (.slice Abg0 nbg0 cbg0):=by rw[G.cell (by first|omega|(simp;done)|(simp;omega))];exact gb0_2
 replace gb0_3:u12.cell? ⟨u4.heap.size,3,none⟩=some (.slice Acg0 ncg0 ccg0):=by rw[G.cell (by first|omega|(simp;done)|(simp;omega))];exact gb0_3
 replace gb0_4:u12.cell? ⟨u4.heap.size,4,none⟩=some (.slice Adg0 ndg0 cdg0):=by rw[G.cell (by first|omega|(simp;done)|(simp;omega))];exact gb0_4
 replace gb0_5:u12.cell? ⟨u4.heap.size,5,none⟩=some (.slice Aeg0 neg0 ceg0):=by rw[G.cell (by first|omega|(simp;done)|(simp;omega))];exact gb0_5
 replace w0:=tZ.obelow w0 G (by omega);replace g0:=tZ.obelow g0 G (by omega);replace h0o:=tZ.obelow h0o G (by omega);replace h0:tZ.O u12 (Iv (u11.heap.size) u12.heap.size) [.int .i64 ph0,.slice Ah0 nh0 ch0,.slice Abh0 nbh0 cbh0,.slice Ach0 nch0 cch0,.slice Adh0 ndh0 cdh0,.slice Aeh0 neh0 ceh0] z0:=tZ.oiv h0 (by simp) (Nat.le_refl _);replace B:=zaa B G;clear G bb;replace lt0:w.heap.size<u12.heap.size:=by omega
 replace lt1:u2.heap.size<u12.heap.size:=by omega
 replace lt2:u3.heap.size<u12.heap.size:=by omega
 replace lt3:u4.heap.size<u12.heap.size:=by omega
 clear h0o;have G0:Below u12.heap.size u12 (u12.alloc (.cells #[.int .i64 ph0,.slice Ah0 nh0 ch0,.slice Abh0 nbh0 cbh0,.slice Ach0 nch0 cch0,.slice Adh0 ndh0 cdh0,.slice Aeh0 neh0 ceh0] 38)):=(Below.refl _ _).alloc (Nat.le_refl _) _;go_wp2_with fail;refine(zh2 _ _ _ _ _ _ _ _ _ _ _ _ _ _ _ _ _ _ _ _ _ _ _ _ _ _ _ _ _ _ _ _ _ _ (tZ.later (tZ.read h0) G0) (tZ.later (tZ.read w0) G0) (by omega)).mono ?_;rintro e u13 ⟨rfl,bb⟩;have G:=zaa G0 bb;have zu13:u12.heap.size+1<=u13.heap.size:=by have:=bb.size;simp at this;omega
 replace pb0_0:u13.cell? ⟨w.heap.size,0,none⟩=some (.int .i64 p0):=by rw[G.cell (by first|omega|(simp;done)|(simp;omega))];exact pb0_0
 replace pb0_1:u13.cell? ⟨w.heap.size,1,none⟩=some (.slice A0 n0 c0):=by rw[G.cell (by first|omega|(simp;done)|(simp;omega))];exact pb0_1
 replace pb0_2:u13.cell? ⟨w.heap.size,2,none⟩=some (.slice Ab0 nb0 cb0):=by rw[G.cell (by first|omega|(simp;done)|(simp;omega))];exact pb0_2
 replace pb0_3:u13.cell? ⟨w.heap.size,3,none⟩=some (.slice Ac0 nc0 cc0):=by rw[G.cell (by first|omega|(simp;done)|(simp;omega))];exact pb0_3
 replace pb0_4:u13.cell? ⟨w.heap.size,4,none⟩=some (.slice Ad0 nd0 cd0):=by rw[G.cell (by first|omega|(simp;done)|(simp;omega))];exact pb0_4
 replace pb0_5:u13.cell? ⟨w.heap.size,5,none⟩=some (.slice Ae0 ne0 ce0):=by rw[G.cell (by first|omega|(simp;done)|(simp;omega))];exact pb0_5
 replace wb0_0:u13.cell? ⟨u2.heap.size,0,none⟩=some (.int .i64 pw0):=by rw[G.cell (by first|omega|(simp;done)|(simp;omega))];exact wb0_0
 replace wb0_1:u13.cell? ⟨u2.heap.size,1,none⟩=some (.slice Aw0 nw0 cw0):=by rw[G.cell (by first|omega|(simp;done)|(simp;omega))];exact wb0_1
 replace wb0_2:u13.cell? ⟨u2.heap.size,2,none⟩=some (.slice Abw0 nbw0 cbw0):=by rw[G.cell (by first|omega|(simp;done)|(simp;omega))];exact wb0_2
 replace wb0_3:u13.cell? ⟨u2.heap.size,3,none⟩=some (.slice Acw0 ncw0 ccw0):=by rw[G.cell (by first|omega|(simp;done)|(simp;omega))];exact wb0_3
 replace wb0_4:u13.cell? ⟨u2.heap.size,4,none⟩=some (.slice Adw0 ndw0 cdw0):=by rw[G.cell (by first|omega|(simp;done)|(simp;omega))];exact wb0_4
 replace wb0_5:u13.cell? ⟨u2.heap.size,5,none⟩=some (.slice Aew0 new0 cew0):=by rw[G.cell (by first|omega|(simp;done)|(simp;omega))];exact wb0_5
 replace xb0_0:u13.cell? ⟨u3.heap.size,0,none⟩=some (.int .i64 px0o):=by rw[G.cell (by first|omega|(simp;done)|(simp;omega))];exact xb0_0
 replace xb0_1:u13.cell? ⟨u3.heap.size,1,none⟩=some (.slice Ax0o nx0o cx0o):=by rw[G.cell (by first|omega|(simp;done)|(simp;omega))];exact xb0_1
 replace xb0_2:u13.cell? ⟨u3.heap.size,2,none⟩=some (.slice Abx0o nbx0o cbx0o):=by rw[G.cell (by first|omega|(simp;done)|(simp;omega))];exact xb0_2
 replace xb0_3:u13.cell? ⟨u3.heap.size,3,none⟩=some (.slice Acx0o ncx0o ccx0o):=by rw[G.cell (by first|omega|(simp;done)|(simp;omega))];exact xb0_3
 replace xb0_4:u13.cell? ⟨u3.heap.size,4,none⟩=some (.slice Adx0o ndx0o cdx0o):=by rw[G.cell (by first|omega|(simp;done)|(simp;omega))];exact xb0_4
 replace xb0_5:u13.cell? ⟨u3.heap.size,5,none⟩=some (.slice Aex0o nex0o cex0o):=by rw[G.cell (by first|omega|(simp;done)|(simp;omega))];exact xb0_5
 replace gb0_0:u13.cell? ⟨u4.heap.size,0,none⟩=some (.int .i64 pg0):=by rw[G.cell (by first|omega|(simp;done)|(simp;omega))];exact gb0_0
 replace gb0_1:u13.cell? ⟨u4.heap.size,1,none⟩=some (.slice Ag0 ng0 cg0):=by rw[G.cell (by first|omega|(simp;done)|(simp;omega))];exact gb0_1
 replace gb0_2:u13.cell? ⟨u4.heap.size,2,none⟩=some (.slice Abg0 nbg0 cbg0):=by rw[G.cell (by first|omega|(simp;done)|(simp;omega))];exact gb0_2
 replace gb0_3:u13.cell? ⟨u4.heap.size,3,none⟩=some (.slice Acg0 ncg0 ccg0):=by rw[G.cell (by first|omega|(simp;done)|(simp;omega))];exact gb0_3
 replace gb0_4:u13.cell? ⟨u4.heap.size,4,none⟩=some (.slice Adg0 ndg0 cdg0):=by rw[G.cell (by first|omega|(simp;done)|(simp;omega))];exact gb0_4
 replace gb0_5:u13.cell? ⟨u4.heap.size,5,none⟩=some (.slice Aeg0 neg0 ceg0):=by rw[G.cell (by first|omega|(simp;done)|(simp;omega))];exact gb0_5
 replace w0:=tZ.obelow w0 G (by omega);replace g0:=tZ.obelow g0 G (by omega);replace h0:=tZ.obelow h0 G (by omega);have hb0_0:u13.cell? ⟨u12.heap.size,0,none⟩=some (.int .i64 ph0):=by rw[bb.cell (by simp)];simp[go_sem]
 have hb0_1:u13.cell? ⟨u12.heap.size,1,none⟩=some (.slice Ah0 nh0 ch0):=by rw[bb.cell (by simp)];simp[go_sem]
 have hb0_2:u13.cell? ⟨u12.heap.size,2,none⟩=some (.slice Abh0 nbh0 cbh0):=by rw[bb.cell (by simp)];simp[go_sem]
 have hb0_3:u13.cell? ⟨u12.heap.size,3,none⟩=some (.slice Ach0 nch0 cch0):=by rw[bb.cell (by simp)];simp[go_sem]
 have hb0_4:u13.cell? ⟨u12.heap.size,4,none⟩=some (.slice Adh0 ndh0 cdh0):=by rw[bb.cell (by simp)];simp[go_sem]
 have hb0_5:u13.cell? ⟨u12.heap.size,5,none⟩=some (.slice Aeh0 neh0 ceh0):=by rw[bb.cell (by simp)];simp[go_sem]
 replace B:=zaa B G;clear G bb G0;replace lt0:w.heap.size<u13.heap.size:=by omega
 replace lt1:u2.heap.size<u13.heap.size:=by omega
 replace lt2:u3.heap.size<u13.heap.size:=by omega
 replace lt3:u4.heap.size<u13.heap.size:=by omega
 have lt4:u12.heap.size<u13.heap.size:=by omega
 go_wp2_with fail;refine(zn7 _ _ _ _ _ _ _ _ _ _ _ _ _ _ _ _ _ _ _ (tZ.read g0) (by omega)).mono ?_;rintro e u14 ⟨rfl,bb⟩;have G:=bb;have zu14:u13.heap.size<=u14.heap.size:=by have:=bb.size;simpa using this
 replace pb0_0:u14.cell? ⟨w.heap.size,0,none⟩=some (.int .i64 p0):=by rw[G.cell (by first|omega|(simp;done)|(simp;omega))];exact pb0_0
 replace pb0_1:u14.cell? ⟨w.heap.size,1,none⟩=some (.slice A0 n0 c0):=by rw[G.cell (by first|omega|(simp;done)|(simp;omega))];exact pb0_1
 replace pb0_2:u14.cell? ⟨w.heap.size,2,none⟩=some (.slice Ab0 nb0 cb0):=by rw[G.cell (by first|omega|(simp;done)|(simp;omega))];exact pb0_2
 replace pb0_3:u14.cell? ⟨w.heap.size,3,none⟩=some (.slice Ac0 nc0 cc0):=by rw[G.cell (by first|omega|(simp;done)|(simp;omega))];exact pb0_3
 replace pb0_4:u14.cell? ⟨w.heap.size,4,none⟩=some (.slice Ad0 nd0 cd0):=by rw[G.cell (by first|omega|(simp;done)|(simp;omega))];exact pb0_4
 replace pb0_5:u14.cell? ⟨w.heap.size,5,none⟩=some (.slice Ae0 ne0 ce0):=by rw[G.cell (by first|omega|(simp;done)|(simp;omega))];exact pb0_5
 replace wb0_0:u14.cell? ⟨u2.heap.size,0,none⟩=some (.int .i64 pw0):=by rw[G.cell (by first|omega|(simp;done)|(simp;omega))];exact wb0_0
 replace wb0_1:u14.cell? ⟨u2.heap.size,1,none⟩=some (.slice Aw0 nw0 cw0):=by rw[G.cell (by first|omega|(simp;done)|(simp;omega))];exact wb0_1
 replace wb0_2:u14.cell? ⟨u2.heap.size,2,none⟩=some (.slice Abw0 nbw0 cbw0):=by rw[G.cell (by first|omega|(simp;done)|(simp;omega))];exact wb0_2
 replace wb0_3:u14.cell? ⟨u2.heap.size,3,none⟩=some (.slice Acw0 ncw0 ccw0):=by rw[G.cell (by first|omega|(simp;done)|(simp;omega))];exact wb0_3
 replace wb0_4:u14.cell? ⟨u2.heap.size,4,none⟩=some (.slice Adw0 ndw0 cdw0):=by rw[G.cell (by first|omega|(simp;done)|(simp;omega))];exact wb0_4
 replace wb0_5:u14.cell? ⟨u2.heap.size,5,none⟩=some (.slice Aew0 new0 cew0):=by rw[G.cell (by first|omega|(simp;done)|(simp;omega))];exact wb0_5
 replace xb0_0:u14.cell? ⟨u3.heap.size,0,none⟩=some (.int .i64 px0o):=by rw[G.cell (by first|omega|(simp;done)|(simp;omega))];exact xb0_0
 replace xb0_1:u14.cell? ⟨u3.heap.size,1,none⟩=some (.slice Ax0o nx0o cx0o):=by rw[G.cell (by first|omega|(simp;done)|(simp;omega))];exact xb0_1
 replace xb0_2:u14.cell? ⟨u3.heap.size,2,none⟩=some (.slice Abx0o nbx0o cbx0o):=by rw[G.cell (by first|omega|(simp;done)|(simp;omega))];exact xb0_2
 replace xb0_3:u14.cell? ⟨u3.heap.size,3,none⟩=some (.slice Acx0o ncx0o ccx0o):=by rw[G.cell (by first|omega|(simp;done)|(simp;omega))];exact xb0_3
 replace xb0_4:u14.cell? ⟨u3.heap.size,4,none⟩=some (.slice Adx0o ndx0o cdx0o):=by rw[G.cell (by first|omega|(simp;done)|(simp;omega))];exact xb0_4
 replace xb0_5:u14.cell? ⟨u3.heap.size,5,none⟩=some (.slice Aex0o nex0o cex0o):=by rw[G.cell (by first|omega|(simp;done)|(simp;omega))];exact xb0_5
 replace gb0_0:u14.cell? ⟨u4.heap.size,0,none⟩=some (.int .i64 pg0):=by rw[G.cell (by first|omega|(simp;done)|(simp;omega))];exact gb0_0
 replace gb0_1:u14.cell? ⟨u4.heap.size,1,none⟩=some (.slice Ag0 ng0 cg0):=by rw[G.cell (by first|omega|(simp;done)|(simp;omega))];exact gb0_1
 replace gb0_2:u14.cell? ⟨u4.heap.size,2,none⟩=some (.slice Abg0 nbg0 cbg0):=by rw[G.cell (by first|omega|(simp;done)|(simp;omega))];exact gb0_2
 replace gb0_3:u14.cell? ⟨u4.heap.size,3,none⟩=some (.slice Acg0 ncg0 ccg0):=by rw[G.cell (by first|omega|(simp;done)|(simp;omega))];exact gb0_3
 replace gb0_4:u14.cell? ⟨u4.heap.size,4,none⟩=some (.slice Adg0 ndg0 cdg0):=by rw[G.cell (by first|omega|(simp;done)|(simp;omega))];exact gb0_4
 replace gb0_5:u14.cell? ⟨u4.heap.size,5,none⟩=some (.slice Aeg0 neg0 ceg0):=by rw[G.cell (by first|omega|(simp;done)|(simp;omega))];exact gb0_5
 replace hb0_0:u14.cell? ⟨u12.heap.size,0,none⟩=some (.int .i64 ph0):=by rw[G.cell (by first|omega|(simp;done)|(simp;omega))];exact hb0_0
 replace hb0_1:u14.cell? ⟨u12.heap.size,1,none⟩=some (.slice Ah0 nh0 ch0):=by rw[G.cell (by first|omega|(simp;done)|(simp;omega))];exact hb0_1
 replace hb0_2:u14.cell? ⟨u12.heap.size,2,none⟩=some (.slice Abh0 nbh0 cbh0):=by rw[G.cell (by first|omega|(simp;done)|(simp;omega))];exact hb0_2
 replace hb0_3:u14.cell? ⟨u12.heap.size,3,none⟩=some (.slice Ach0 nch0 cch0):=by rw[G.cell (by first|omega|(simp;done)|(simp;omega))];exact hb0_3
 replace hb0_4:u14.cell? ⟨u12.heap.size,4,none⟩=some (.slice Adh0 ndh0 cdh0):=by rw[G.cell (by first|omega|(simp;done)|(simp;omega))];exact hb0_4
 replace hb0_5:u14.cell? ⟨u12.heap.size,5,none⟩=some (.slice Aeh0 neh0 ceh0):=by rw[G.cell (by first|omega|(simp;done)|(simp;omega))];exact hb0_5
 replace w0:=tZ.obelow w0 G (by omega);replace g0:=tZ.obelow g0 G (by omega);replace h0:=tZ.obelow h0 G (by omega);replace B:=zaa B G;clear G bb;replace lt0:w.heap.size<u14.heap.size:=by omega
 replace lt1:u2.heap.size<u14.heap.size:=by omega
 replace lt2:u3.heap.size<u14.heap.size:=by omega
 replace lt3:u4.heap.size<u14.heap.size:=by omega
 replace lt4:u12.heap.size<u14.heap.size:=by omega
 go_wp2_with fail;go_ret;exact⟨rfl,B⟩
end Go.Proofs.YtifeldeikhmckaaGreat
