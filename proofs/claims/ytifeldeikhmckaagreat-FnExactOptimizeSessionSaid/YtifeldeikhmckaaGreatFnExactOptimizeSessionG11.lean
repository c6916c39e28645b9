import Derived.Test.YtifeldeikhmckaaGreatFnExactOptimizeSessionG10
set_option linter.unusedVariables false
set_option linter.unusedSimpArgs false
set_option maxRecDepth 100000
set_option maxHeartbeats 4000000
namespace Go.Proofs.YtifeldeikhmckaaGreat
open Go.RowKit
abbrev Sess:=Int×(List (List Int))×(List (List zas))×(List Int)×(List zad)×(List zag)
abbrev tZ:Ty Sess:=tI.prod (tSS.prod (tTS.prod (tS.prod (tPS.prod tM))))
abbrev hZ:Hs Sess:=hU.prod (hSS.prod (hTS.prod (hS.prod (hPS.prod hM))))
theorem tZ_R{w:Yw}{B:Nat}{cs:List Value}{a0:Int}{x1:List (List Int)}{x2:List (List zas)}{x3:List Int}{x4:List zad}{x5:List zag}:tZ.R w B cs (a0,x1,x2,x3,x4,x5)↔∃A1 n1 c1 A2 n2 c2 A3 n3 c3 A4 n4 c4 A5 n5 c5,cs=[.int .i64 a0,.slice A1 n1 c1,.slice A2 n2 c2,.slice A3 n3 c3,.slice A4 n4 c4,.slice A5 n5 c5]/\tSS.R w B [.slice A1 n1 c1] x1/\tTS.R w B [.slice A2 n2 c2] x2/\tS.R w B [.slice A3 n3 c3] x3/\tPS.R w B [.slice A4 n4 c4] x4/\tM.R w B [.slice A5 n5 c5] x5:=by
 constructor
 ·rintro⟨u0,d0,rfl,g0,⟨u1,d1,rfl,g1,⟨u2,d2,rfl,g2,⟨u3,d3,rfl,g3,⟨u4,d4,rfl,g4,g5⟩⟩⟩⟩⟩;obtain rfl:u0=[.int .i64 a0]:=g0;obtain⟨A1,n1,c1,rfl⟩:=za9 g1;obtain⟨A2,n2,c2,rfl⟩:=za9 g2;obtain⟨A3,n3,c3,rfl⟩:=za9 g3;obtain⟨A4,n4,c4,rfl⟩:=za9 g4;obtain⟨A5,n5,c5,rfl⟩:=za9 g5;exact⟨A1,n1,c1,A2,n2,c2,A3,n3,c3,A4,n4,c4,A5,n5,c5,rfl,g1,g2,g3,g4,g5⟩
 rintro⟨A1,n1,c1,A2,n2,c2,A3,n3,c3,A4,n4,c4,A5,n5,c5,rfl,g1,g2,g3,g4,g5⟩;exact⟨[.int .i64 a0],_,rfl,rfl,⟨[.slice A1 n1 c1],_,rfl,g1,⟨[.slice A2 n2 c2],_,rfl,g2,⟨[.slice A3 n3 c3],_,rfl,g3,⟨[.slice A4 n4 c4],_,rfl,g4,g5⟩⟩⟩⟩⟩
theorem tZ_O{w:Yw}{F:Nat->Prop}{cs:List Value}{a0:Int}{x1:List (List Int)}{x2:List (List zas)}{x3:List Int}{x4:List zad}{x5:List zag}:tZ.O w F cs (a0,x1,x2,x3,x4,x5)↔∃A1 n1 c1 A2 n2 c2 A3 n3 c3 A4 n4 c4 A5 n5 c5,∃F1 F2 F3 F4 F5:Nat->Prop,cs=[.int .i64 a0,.slice A1 n1 c1,.slice A2 n2 c2,.slice A3 n3 c3,.slice A4 n4 c4,.slice A5 n5 c5]/\tSS.O w F1 [.slice A1 n1 c1] x1/\tTS.O w F2 [.slice A2 n2 c2] x2/\tS.O w F3 [.slice A3 n3 c3] x3/\tPS.O w F4 [.slice A4 n4 c4] x4/\tM.O w F5 [.slice A5 n5 c5] x5/\(∀b,F1 b->F b)/\(∀b,F2 b->F b)/\(∀b,F3 b->F b)/\(∀b,F4 b->F b)/\(∀b,F5 b->F b)/\(∀b,F1 b->¬F2 b)/\(∀b,F1 b->¬F3 b)/\(∀b,F1 b->¬F4 b)/\(∀b,F1 b->¬F5 b)/\(∀b,F2 b->¬F3 b)/\(∀b,F2 b->¬F4 b)/\(∀b,F2 b->¬F5 b)/\(∀b,F3 b->¬F4 b)/\(∀b,F3 b->¬F5 b)/\(∀b,F4 b->¬F5 b):=by
 constructor
 ·rintro⟨u0,d0,F0,G0,rfl,g0,⟨u1,d1,F1,G1,rfl,g1,⟨u2,d2,F2,G2,rfl,g2,⟨u3,d3,F3,G3,rfl,g3,⟨u4,d4,F4,G4,rfl,g4,g5,p4,q4,r4⟩,p3,q3,r3⟩,p2,q2,r2⟩,p1,q1,r1⟩,p0,q0,r0⟩;obtain rfl:u0=[.int .i64 a0]:=g0;obtain⟨A1,n1,c1,rfl⟩:=za9 (tSS.read g1);obtain⟨A2,n2,c2,rfl⟩:=za9 (tTS.read g2);obtain⟨A3,n3,c3,rfl⟩:=za9 (tS.read g3);obtain⟨A4,n4,c4,rfl⟩:=za9 (tPS.read g4);obtain⟨A5,n5,c5,rfl⟩:=za9 (tM.read g5);exact⟨A1,n1,c1,A2,n2,c2,A3,n3,c3,A4,n4,c4,A5,n5,c5,F1,F2,F3,F4,G4,rfl,g1,g2,g3,g4,g5,fun b h=>q0 _ (p1 _ h),fun b h=>q0 _ (q1 _ (p2 _ h)),fun b h=>q0 _ (q1 _ (q2 _ (p3 _ h))),fun b h=>q0 _ (q1 _ (q2 _ (q3 _ (p4 _ h)))),fun b h=>q0 _ (q1 _ (q2 _ (q3 _ (q4 _ (h))))),fun b h h2=>r1 b h (p2 _ h2),fun b h h2=>r1 b h (q2 _ (p3 _ h2)),fun b h h2=>r1 b h (q2 _ (q3 _ (p4 _ h2))),fun b h h2=>r1 b h (q2 _ (q3 _ (q4 _ (h2)))),fun b h h2=>r2 b h (p3 _ h2),fun b h h2=>r2 b h (q3 _ (p4 _ h2)),fun b h h2=>r2 b h (q3 _ (q4 _ (h2))),fun b h h2=>r3 b h (p4 _ h2),fun b h h2=>r3 b h (q4 _ (h2)),fun b h h2=>r4 b h (h2)⟩
 rintro⟨A1,n1,c1,A2,n2,c2,A3,n3,c3,A4,n4,c4,A5,n5,c5,F1,F2,F3,F4,F5,rfl,g1,g2,g3,g4,g5,p1,p2,p3,p4,p5,r1_2,r1_3,r1_4,r1_5,r2_3,r2_4,r2_5,r3_4,r3_5,r4_5⟩;exact⟨[.int .i64 a0],_,(fun _=>False),(fun b=>F1 b\/F2 b\/F3 b\/F4 b\/F5 b),rfl,rfl,⟨[.slice A1 n1 c1],_,F1,(fun b=>F2 b\/F3 b\/F4 b\/F5 b),rfl,g1,⟨[.slice A2 n2 c2],_,F2,(fun b=>F3 b\/F4 b\/F5 b),rfl,g2,⟨[.slice A3 n3 c3],_,F3,(fun b=>F4 b\/F5 b),rfl,g3,⟨[.slice A4 n4 c4],_,F4,F5,rfl,g4,g5,fun b h=>by first|exact h|(simp only[*,true_or,or_true]),fun b h=>by first|exact h|exact Or.inr h|(rcases h with h <;> simp only[*,true_or,or_true]),r4_5⟩,fun b h=>by first|exact h|(simp only[*,true_or,or_true]),fun b h=>by first|exact h|exact Or.inr h|(rcases h with h|h <;> simp only[*,true_or,or_true]),fun b h h2=>by rcases h2 with h2|h2 <;> first|exact r3_4 b h h2|exact r3_5 b h h2⟩,fun b h=>by first|exact h|(simp only[*,true_or,or_true]),fun b h=>by first|exact h|exact Or.inr h|(rcases h with h|h|h <;> simp only[*,true_or,or_true]),fun b h h2=>by rcases h2 with h2|h2|h2 <;> first|exact r2_3 b h h2|exact r2_4 b h h2|exact r2_5 b h h2⟩,fun b h=>by first|exact h|(simp only[*,true_or,or_true]),fun b h=>by first|exact h|exact Or.inr h|(rcases h with h|h|h|h <;> simp only[*,true_or,or_true]),fun b h h2=>by rcases h2 with h2|h2|h2|h2 <;> first|exact r1_2 b h h2|exact r1_3 b h h2|exact r1_4 b h h2|exact r1_5 b h h2⟩,fun _ h=>h.elim,fun b h=>by rcases h with h|h|h|h|h <;> first|exact p1 b h|exact p2 b h|exact p3 b h|exact p4 b h|exact p5 b h,fun _ h=>h.elim⟩
theorem zdi(a0:Int)(x1:List (List Int))(x2:List (List zas))(x3:List Int)(x4:List zad)(x5:List zag):hZ.sz (a0,x1,x2,x3,x4,x5)=hSS.sz x1+hTS.sz x2+hS.sz x3+hPS.sz x4+hM.sz x5:=by
 show 0+(hSS.sz x1+(hTS.sz x2+(hS.sz x3+(hPS.sz x4+(hM.sz x5)))))=_
 omega
theorem ziq(a0:Int)(x1:List (List Int))(x2:List (List zas))(x3:List Int)(x4:List zad)(x5:List zag):hZ.cnt (a0,x1,x2,x3,x4,x5)=hSS.cnt x1+hTS.cnt x2+hS.cnt x3+hPS.cnt x4+hM.cnt x5:=by
 show 0+(hSS.cnt x1+(hTS.cnt x2+(hS.cnt x3+(hPS.cnt x4+(hM.cnt x5)))))=_
 omega
theorem zqv(a0:Int)(A1:Yo)(n1 c1:Nat)(A2:Yo)(n2 c2:Nat)(A3:Yo)(n3 c3:Nat)(A4:Yo)(n4 c4:Nat)(A5:Yo)(n5 c5:Nat)(x1:List (List Int))(x2:List (List zas))(x3:List Int)(x4:List zad)(x5:List zag)(l:Int)(w:Yw)(h1:tSS.R w w.heap.size [.slice A1 n1 c1] x1)(h2:tTS.R w w.heap.size [.slice A2 n2 c2] x2)(h3:tS.R w w.heap.size [.slice A3 n3 c3] x3)(h4:tPS.R w w.heap.size [.slice A4 n4 c4] x4)(h5:tM.R w w.heap.size [.slice A5 n5 c5] x5)(hl:0<=l/\l<=1000000000):
 Calls Tryz.prog 5 #[.agg #[.int .i64 a0,.slice A1 n1 c1,.slice A2 n2 c2,.slice A3 n3 c3,.slice A4 n4 c4,.slice A5 n5 c5],.int .i64 l] w fun e w'=>e=.returned (.int .i64 (if (hZ.sz ((a0,x1,x2,x3,x4,x5):Sess):Int)<=l then l-hZ.sz ((a0,x1,x2,x3,x4,x5):Sess)else -1))/\Below w.heap.size w w':=by
 obtain⟨W,hW⟩:∃W,W=w.alloc (.cells #[.int .i64 a0,.slice A1 n1 c1,.slice A2 n2 c2,.slice A3 n3 c3,.slice A4 n4 c4,.slice A5 n5 c5] 30):=⟨_,rfl⟩;have B0:Below w.heap.size w W:=by rw[hW];exact(Below.refl _ _).alloc (Nat.le_refl _) _
 have p1:W.cell? ⟨w.heap.size,1,none⟩=some (.slice A1 n1 c1):=by rw[hW];simp[go_sem]
 have p2:W.cell? ⟨w.heap.size,2,none⟩=some (.slice A2 n2 c2):=by rw[hW];simp[go_sem]
 have p3:W.cell? ⟨w.heap.size,3,none⟩=some (.slice A3 n3 c3):=by rw[hW];simp[go_sem]
 have p4:W.cell? ⟨w.heap.size,4,none⟩=some (.slice A4 n4 c4):=by rw[hW];simp[go_sem]
 have p5:W.cell? ⟨w.heap.size,5,none⟩=some (.slice A5 n5 c5):=by rw[hW];simp[go_sem]
 have l0:w.heap.size<W.heap.size:=by rw[hW];simp
 have y1_0:=tSS.later h1 B0;have y2_0:=tTS.later h2 B0;have y3_0:=tS.later h3 B0;have y4_0:=tPS.later h4 B0;have y5_0:=tM.later h5 B0;have HW:=Lib.hid hW;clear hW;rw[zdi];have z1:0<=(hSS.sz x1:Int):=Int.natCast_nonneg _;have z2:0<=(hTS.sz x2:Int):=Int.natCast_nonneg _;have z3:0<=(hS.sz x3:Int):=Int.natCast_nonneg _;have z4:0<=(hPS.sz x4:Int):=Int.natCast_nonneg _;have z5:0<=(hM.sz x5:Int):=Int.natCast_nonneg _
 by_cases g0:(hSS.sz x1:Int)<=l
 ·have i0:=Lib.hid (show (if (hSS.sz x1:Int)<=l then l-hSS.sz x1 else -1)=l-hSS.sz x1 by rw[if_pos g0])
  by_cases g1:(hTS.sz x2:Int)<=l-hSS.sz x1
  ·have i1:=Lib.hid (show (if (hTS.sz x2:Int)<=l-hSS.sz x1 then l-hSS.sz x1-hTS.sz x2 else -1)=l-hSS.sz x1-hTS.sz x2 by rw[if_pos g1])
   by_cases g2:(hS.sz x3:Int)<=l-hSS.sz x1-hTS.sz x2
   ·have i2:=Lib.hid (show (if (hS.sz x3:Int)<=l-hSS.sz x1-hTS.sz x2 then l-hSS.sz x1-hTS.sz x2-hS.sz x3 else -1)=l-hSS.sz x1-hTS.sz x2-hS.sz x3 by rw[if_pos g2])
    by_cases g3:(hPS.sz x4:Int)<=l-hSS.sz x1-hTS.sz x2-hS.sz x3
    ·have i3:=Lib.hid (show (if (hPS.sz x4:Int)<=l-hSS.sz x1-hTS.sz x2-hS.sz x3 then l-hSS.sz x1-hTS.sz x2-hS.sz x3-hPS.sz x4 else -1)=l-hSS.sz x1-hTS.sz x2-hS.sz x3-hPS.sz x4 by rw[if_pos g3])
     by_cases g4:(hM.sz x5:Int)<=l-hSS.sz x1-hTS.sz x2-hS.sz x3-hPS.sz x4
     ·have i4:=Lib.hid (show (if (hM.sz x5:Int)<=l-hSS.sz x1-hTS.sz x2-hS.sz x3-hPS.sz x4 then l-hSS.sz x1-hTS.sz x2-hS.sz x3-hPS.sz x4-hM.sz x5 else -1)=l-hSS.sz x1-hTS.sz x2-hS.sz x3-hPS.sz x4-hM.sz x5 by rw[if_pos g4]);have hj:=Lib.hid (show (if ((hSS.sz x1+hTS.sz x2+hS.sz x3+hPS.sz x4+hM.sz x5:Nat):Int)<=l then l-((hSS.sz x1+hTS.sz x2+hS.sz x3+hPS.sz x4+hM.sz x5:Nat):Int)else -1)=l-hSS.sz x1-hTS.sz x2-hS.sz x3-hPS.sz x4-hM.sz x5 by rw[if_pos (by omega)];first|done|omega);rw[hj.out];clear z1 z2 z3 z4 z5
      go_enter Tryz.func5,Tryz.ntmps5
      go_wp2_with fail;rw[<-HW.out];refine(zd7 _ _ _ _ _ _ y1_0 (by omega)).mono ?_;rw[i0.out];rintro e w1 ⟨rfl,b1⟩;obtain⟨hc1,-⟩:=zan b1;have l1:=Nat.lt_of_lt_of_le l0 b1.size;have B1:=zaa B0 b1;have y2_1:=tTS.later y2_0 b1;have y3_1:=tS.later y3_0 b1;have y4_1:=tPS.later y4_0 b1;have y5_1:=tM.later y5_0 b1;go_wp2_with fail;refine(zgj _ _ _ _ _ _ y2_1 (by omega)).mono ?_;rw[i1.out];rintro e w2 ⟨rfl,b2⟩;obtain⟨hc2,-⟩:=zan b2;have l2:=Nat.lt_of_lt_of_le l1 b2.size;have B2:=zaa B1 b2;have y3_2:=tS.later y3_1 b2;have y4_2:=tPS.later y4_1 b2;have y5_2:=tM.later y5_1 b2;go_wp2_with fail;refine(zd6 _ _ _ _ _ _ y3_2 (by omega)).mono ?_;rw[i2.out];rintro e w3 ⟨rfl,b3⟩;obtain⟨hc3,-⟩:=zan b3;have l3:=Nat.lt_of_lt_of_le l2 b3.size;have B3:=zaa B2 b3;have y4_3:=tPS.later y4_2 b3;have y5_3:=tM.later y5_2 b3;go_wp2_with fail;refine(zin _ _ _ _ _ _ y4_3 (by omega)).mono ?_;rw[i3.out];rintro e w4 ⟨rfl,b4⟩;obtain⟨hc4,-⟩:=zan b4;have l4:=Nat.lt_of_lt_of_le l3 b4.size;have B4:=zaa B3 b4;have y5_4:=tM.later y5_3 b4;go_wp2_with fail;refine(zkn _ _ _ _ _ _ y5_4 (by omega)).mono ?_;rw[i4.out];rintro e w5 ⟨rfl,b5⟩;obtain⟨hc5,-⟩:=zan b5;have l5:=Nat.lt_of_lt_of_le l4 b5.size;have B5:=zaa B4 b5;go_wp2;go_ret;exact⟨rfl,B5⟩
     have i4:=Lib.hid (show (if (hM.sz x5:Int)<=l-hSS.sz x1-hTS.sz x2-hS.sz x3-hPS.sz x4 then l-hSS.sz x1-hTS.sz x2-hS.sz x3-hPS.sz x4-hM.sz x5 else -1) = -1 by rw[if_neg g4]);have hj:=Lib.hid (show (if ((hSS.sz x1+hTS.sz x2+hS.sz x3+hPS.sz x4+hM.sz x5:Nat):Int)<=l then l-((hSS.sz x1+hTS.sz x2+hS.sz x3+hPS.sz x4+hM.sz x5:Nat):Int)else -1) = -1 by rw[if_neg (by omega)]);rw[hj.out];clear z1 z2 z3 z4 z5
     go_enter Tryz.func5,Tryz.ntmps5
     go_wp2_with fail;rw[<-HW.out];refine(zd7 _ _ _ _ _ _ y1_0 (by omega)).mono ?_;rw[i0.out];rintro e w1 ⟨rfl,b1⟩;obtain⟨hc1,-⟩:=zan b1;have l1:=Nat.lt_of_lt_of_le l0 b1.size;have B1:=zaa B0 b1;have y2_1:=tTS.later y2_0 b1;have y3_1:=tS.later y3_0 b1;have y4_1:=tPS.later y4_0 b1;have y5_1:=tM.later y5_0 b1;go_wp2_with fail;refine(zgj _ _ _ _ _ _ y2_1 (by omega)).mono ?_;rw[i1.out];rintro e w2 ⟨rfl,b2⟩;obtain⟨hc2,-⟩:=zan b2;have l2:=Nat.lt_of_lt_of_le l1 b2.size;have B2:=zaa B1 b2;have y3_2:=tS.later y3_1 b2;have y4_2:=tPS.later y4_1 b2;have y5_2:=tM.later y5_1 b2;go_wp2_with fail;refine(zd6 _ _ _ _ _ _ y3_2 (by omega)).mono ?_;rw[i2.out];rintro e w3 ⟨rfl,b3⟩;obtain⟨hc3,-⟩:=zan b3;have l3:=Nat.lt_of_lt_of_le l2 b3.size;have B3:=zaa B2 b3;have y4_3:=tPS.later y4_2 b3;have y5_3:=tM.later y5_2 b3;go_wp2_with fail;refine(zin _ _ _ _ _ _ y4_3 (by omega)).mono ?_;rw[i3.out];rintro e w4 ⟨rfl,b4⟩;obtain⟨hc4,-⟩:=zan b4;have l4:=Nat.lt_of_lt_of_le l3 b4.size;have B4:=zaa B3 b4;have y5_4:=tM.later y5_3 b4;go_wp2_with fail;refine(zkn _ _ _ _ _ _ y5_4 (by omega)).mono ?_;rw[i4.out];rintro e w5 ⟨rfl,b5⟩;obtain⟨hc5,-⟩:=zan b5;have l5:=Nat.lt_of_lt_of_le l4 b5.size;have B5:=zaa B4 b5;go_wp2;go_ret;exact⟨rfl,B5⟩
    have i3:=Lib.hid (show (if (hPS.sz x4:Int)<=l-hSS.sz x1-hTS.sz x2-hS.sz x3 then l-hSS.sz x1-hTS.sz x2-hS.sz x3-hPS.sz x4 else -1) = -1 by rw[if_neg g3]);have hj:=Lib.hid (show (if ((hSS.sz x1+hTS.sz x2+hS.sz x3+hPS.sz x4+hM.sz x5:Nat):Int)<=l then l-((hSS.sz x1+hTS.sz x2+hS.sz x3+hPS.sz x4+hM.sz x5:Nat):Int)else -1) = -1 by rw[if_neg (by omega)]);rw[hj.out];clear z1 z2 z3 z4 z5
    go_enter Tryz.func5,Tryz.ntmps5
    go_wp2_with fail;rw[<-HW.out];refine(zd7 _ _ _ _ _ _ y1_0 (by omega)).mono ?_;rw[i0.out];rintro e w1 ⟨rfl,b1⟩;obtain⟨hc1,-⟩:=zan b1;have l1:=Nat.lt_of_lt_of_le l0 b1.size;have B1:=zaa B0 b1;have y2_1:=tTS.later y2_0 b1;have y3_1:=tS.later y3_0 b1;have y4_1:=tPS.later y4_0 b1;have y5_1:=tM.later y5_0 b1;go_wp2_with fail;refine(zgj _ _ _ _ _ _ y2_1 (by omega)).mono ?_;rw[i1.out];rintro e w2 ⟨rfl,b2⟩;obtain⟨hc2,-⟩:=zan b2;have l2:=Nat.lt_of_lt_of_le l1 b2.size;have B2:=zaa B1 b2;have y3_2:=tS.later y3_1 b2;have y4_2:=tPS.later y4_1 b2;have y5_2:=tM.later y5_1 b2;go_wp2_with fail;refine(zd6 _ _ _ _ _ _ y3_2 (by omega)).mono ?_;rw[i2.out];rintro e w3 ⟨rfl,b3⟩;obtain⟨hc3,-⟩:=zan b3;have l3:=Nat.lt_of_lt_of_le l2 b3.size;have B3:=zaa B2 b3;have y4_3:=tPS.later y4_2 b3;have y5_3:=tM.later y5_2 b3;go_wp2_with fail;refine(zin _ _ _ _ _ _ y4_3 (by omega)).mono ?_;rw[i3.out];rintro e w4 ⟨rfl,b4⟩;obtain⟨hc4,-⟩:=zan b4;have l4:=Nat.lt_of_lt_of_le l3 b4.size;have B4:=zaa B3 b4;have y5_4:=tM.later y5_3 b4;go_wp2;go_ret;exact⟨rfl,B4⟩
   have i2:=Lib.hid (show (if (hS.sz x3:Int)<=l-hSS.sz x1-hTS.sz x2 then l-hSS.sz x1-hTS.sz x2-hS.sz x3 else -1) = -1 by rw[if_neg g2]);have hj:=Lib.hid (show (if ((hSS.sz x1+hTS.sz x2+hS.sz x3+hPS.sz x4+hM.sz x5:Nat):Int)<=l then l-((hSS.sz x1+hTS.sz x2+hS.sz x3+hPS.sz x4+hM.sz x5:Nat):Int)else -1) = -1 by rw[if_neg (by omega)]);rw[hj.out];clear z1 z2 z3 z4 z5
   go_enter Tryz.func5,Tryz.ntmps5
   go_wp2_with fail;rw[<-HW.out];refine(zd7 _ _ _ _ _ _ y1_0 (by omega)).mono ?_;rw[i0.out];rintro e w1 ⟨rfl,b1⟩;obtain⟨hc1,-⟩:=zan b1;have l1:=Nat.lt_of_lt_of_le l0 b1.size;have B1:=zaa B0 b1;have y2_1:=tTS.later y2_0 b1;have y3_1:=tS.later y3_0 b1;have y4_1:=tPS.later y4_0 b1;have y5_1:=tM.later y5_0 b1;go_wp2_with fail;refine(zgj _ _ _ _ _ _ y2_1 (by omega)).mono ?_;rw[i1.out];rintro e w2 ⟨rfl,b2⟩;obtain⟨hc2,-⟩:=zan b2;have l2:=Nat.lt_of_lt_of_le l1 b2.size;have B2:=zaa B1 b2;have y3_2:=tS.later y3_1 b2;have y4_2:=tPS.later y4_1 b2;have y5_2:=tM.later y5_1 b2;go_wp2_with fail;refine(zd6 _ _ _ _ _ _ y3_2 (by omega)).mono ?_;rw[i2.out];rintro e w3 ⟨rfl,b3⟩;obtain⟨hc3,-⟩:=zan b3;have l3:=Nat.lt_of_lt_of_le l2 b3.size;have B3:=zaa B2 b3;have y4_3:=tPS.later y4_2 b3;have y5_3:=tM.later y5_2 b3;go_wp2;go_ret;exact⟨rfl,B3⟩
  have i1:=Lib.hid (show (if (hTS.sz x2:Int)<=l-hSS.sz x1 then l-hSS.sz x1-hTS.sz x2 else -1) = -1 by rw[if_neg g1]);have hj:=Lib.hid (show (if ((hSS.sz x1+hTS.sz x2+hS.sz x3+hPS.sz x4+hM.sz x5:Nat):Int)<=l then l-((hSS.sz x1+hTS.sz x2+hS.sz x3+hPS.sz x4+hM.sz x5:Nat):Int)else -1) = -1 by rw[if_neg (by omega)]);rw[hj.out];clear z1 z2 z3 z4 z5
  go_enter Tryz.func5,Tryz.ntmps5
  go_wp2_with fail;rw[<-HW.out];refine(zd7 _ _ _ _ _ _ y1_0 (by omega)).mono ?_;rw[i0.out];rintro e w1 ⟨rfl,b1⟩;obtain⟨hc1,-⟩:=zan b1;have l1:=Nat.lt_of_lt_of_le l0 b1.size;have B1:=zaa B0 b1;have y2_1:=tTS.later y2_0 b1;have y3_1:=tS.later y3_0 b1;have y4_1:=tPS.later y4_0 b1;have y5_1:=tM.later y5_0 b1;go_wp2_with fail;refine(zgj _ _ _ _ _ _ y2_1 (by omega)).mono ?_;rw[i1.out];rintro e w2 ⟨rfl,b2⟩;obtain⟨hc2,-⟩:=zan b2;have l2:=Nat.lt_of_lt_of_le l1 b2.size;have B2:=zaa B1 b2;have y3_2:=tS.later y3_1 b2;have y4_2:=tPS.later y4_1 b2;have y5_2:=tM.later y5_1 b2;go_wp2;go_ret;exact⟨rfl,B2⟩
 have i0:=Lib.hid (show (if (hSS.sz x1:Int)<=l then l-hSS.sz x1 else -1) = -1 by rw[if_neg g0]);have hj:=Lib.hid (show (if ((hSS.sz x1+hTS.sz x2+hS.sz x3+hPS.sz x4+hM.sz x5:Nat):Int)<=l then l-((hSS.sz x1+hTS.sz x2+hS.sz x3+hPS.sz x4+hM.sz x5:Nat):Int)else -1) = -1 by rw[if_neg (by omega)]);rw[hj.out];clear z1 z2 z3 z4 z5
 go_enter Tryz.func5,Tryz.ntmps5
 go_wp2_with fail;rw[<-HW.out];refine(zd7 _ _ _ _ _ _ y1_0 (by omega)).mono ?_;rw[i0.out];rintro e w1 ⟨rfl,b1⟩;obtain⟨hc1,-⟩:=zan b1;have l1:=Nat.lt_of_lt_of_le l0 b1.size;have B1:=zaa B0 b1;have y2_1:=tTS.later y2_0 b1;have y3_1:=tS.later y3_0 b1;have y4_1:=tPS.later y4_0 b1;have y5_1:=tM.later y5_0 b1;go_wp2;go_ret;exact⟨rfl,B1⟩
theorem zqw(a0:Int)(A1:Yo)(n1 c1:Nat)(A2:Yo)(n2 c2:Nat)(A3:Yo)(n3 c3:Nat)(A4:Yo)(n4 c4:Nat)(A5:Yo)(n5 c5:Nat)(A1':Yo)(n1' c1':Nat)(A2':Yo)(n2' c2':Nat)(A3':Yo)(n3' c3':Nat)(A4':Yo)(n4' c4':Nat)(A5':Yo)(n5' c5':Nat)(x1:List (List Int))(x2:List (List zas))(x3:List Int)(x4:List zad)(x5:List zag)(w:Yw)(h1:tSS.R w w.heap.size [.slice A1 n1 c1] x1)(h2:tTS.R w w.heap.size [.slice A2 n2 c2] x2)(h3:tS.R w w.heap.size [.slice A3 n3 c3] x3)(h4:tPS.R w w.heap.size [.slice A4 n4 c4] x4)(h5:tM.R w w.heap.size [.slice A5 n5 c5] x5)(k1:tSS.R w w.heap.size [.slice A1' n1' c1'] x1)(k2:tTS.R w w.heap.size [.slice A2' n2' c2'] x2)(k3:tS.R w w.heap.size [.slice A3' n3' c3'] x3)(k4:tPS.R w w.heap.size [.slice A4' n4' c4'] x4)(k5:tM.R w w.heap.size [.slice A5' n5' c5'] x5)(hn:hZ.sz ((a0,x1,x2,x3,x4,x5):Sess)<=100000000):
 Calls Tryz.prog 9 #[.agg #[.int .i64 a0,.slice A1 n1 c1,.slice A2 n2 c2,.slice A3 n3 c3,.slice A4 n4 c4,.slice A5 n5 c5],.agg #[.int .i64 a0,.slice A1' n1' c1',.slice A2' n2' c2',.slice A3' n3' c3',.slice A4' n4' c4',.slice A5' n5' c5']] w fun e w'=>e=.returned (.bool true)/\Below w.heap.size w w':=by
 obtain⟨W,hW⟩:∃W,W=(w.alloc (.cells #[.int .i64 a0,.slice A1 n1 c1,.slice A2 n2 c2,.slice A3 n3 c3,.slice A4 n4 c4,.slice A5 n5 c5] 38)).alloc (.cells #[.int .i64 a0,.slice A1' n1' c1',.slice A2' n2' c2',.slice A3' n3' c3',.slice A4' n4' c4',.slice A5' n5' c5'] 38):=⟨_,rfl⟩;have B0:Below w.heap.size w W:=by rw[hW];exact((Below.refl _ _).alloc (Nat.le_refl _) _).alloc (by simp) _
 have p0:W.cell? ⟨w.heap.size,0,none⟩=some (.int .i64 a0):=by rw[hW];simp[go_sem]
 have q0:W.cell? ⟨w.heap.size+1,0,none⟩=some (.int .i64 a0):=by rw[hW];simp[go_sem]
 have p1:W.cell? ⟨w.heap.size,1,none⟩=some (.slice A1 n1 c1):=by rw[hW];simp[go_sem]
 have q1:W.cell? ⟨w.heap.size+1,1,none⟩=some (.slice A1' n1' c1'):=by rw[hW];simp[go_sem]
 have p2:W.cell? ⟨w.heap.size,2,none⟩=some (.slice A2 n2 c2):=by rw[hW];simp[go_sem]
 have q2:W.cell? ⟨w.heap.size+1,2,none⟩=some (.slice A2' n2' c2'):=by rw[hW];simp[go_sem]
 have p3:W.cell? ⟨w.heap.size,3,none⟩=some (.slice A3 n3 c3):=by rw[hW];simp[go_sem]
 have q3:W.cell? ⟨w.heap.size+1,3,none⟩=some (.slice A3' n3' c3'):=by rw[hW];simp[go_sem]
 have p4:W.cell? ⟨w.heap.size,4,none⟩=some (.slice A4 n4 c4):=by rw[hW];simp[go_sem]
 have q4:W.cell? ⟨w.heap.size+1,4,none⟩=some (.slice A4' n4' c4'):=by rw[hW];simp[go_sem]
 have p5:W.cell? ⟨w.heap.size,5,none⟩=some (.slice A5 n5 c5):=by rw[hW];simp[go_sem]
 have q5:W.cell? ⟨w.heap.size+1,5,none⟩=some (.slice A5' n5' c5'):=by rw[hW];simp[go_sem]
 have l0:w.heap.size+1<W.heap.size:=by rw[hW];simp
 have l0':w.heap.size<W.heap.size:=by omega
 have y1_0:=tSS.later h1 B0;have v1_0:=tSS.later k1 B0;have y2_0:=tTS.later h2 B0;have v2_0:=tTS.later k2 B0;have y3_0:=tS.later h3 B0;have v3_0:=tS.later k3 B0;have y4_0:=tPS.later h4 B0;have v4_0:=tPS.later k4 B0;have y5_0:=tM.later h5 B0;have v5_0:=tM.later k5 B0;have HW:=Lib.hid hW;clear hW;rw[zdi]at hn
 go_enter Tryz.func9,Tryz.ntmps9
 go_wp2_with fail;rw[<-HW.out];refine(zj7 _ _ _ _ _ _ _ _ y1_0 v1_0 (by omega)).mono ?_;rintro e w1 ⟨rfl,b1⟩;obtain⟨hc1,-⟩:=zan b1;have l1:=Nat.lt_of_lt_of_le l0 b1.size;have l1':=Nat.lt_of_lt_of_le l0' b1.size;have B1:=zaa B0 b1;have y2_1:=tTS.later y2_0 b1;have v2_1:=tTS.later v2_0 b1;have y3_1:=tS.later y3_0 b1;have v3_1:=tS.later v3_0 b1;have y4_1:=tPS.later y4_0 b1;have v4_1:=tPS.later v4_0 b1;have y5_1:=tM.later y5_0 b1;have v5_1:=tM.later v5_0 b1;go_wp2_with fail;refine(zqu _ _ _ _ _ _ _ _ y2_1 v2_1 (by omega)).mono ?_;rintro e w2 ⟨rfl,b2⟩;obtain⟨hc2,-⟩:=zan b2;have l2:=Nat.lt_of_lt_of_le l1 b2.size;have l2':=Nat.lt_of_lt_of_le l1' b2.size;have B2:=zaa B1 b2;have y3_2:=tS.later y3_1 b2;have v3_2:=tS.later v3_1 b2;have y4_2:=tPS.later y4_1 b2;have v4_2:=tPS.later v4_1 b2;have y5_2:=tM.later y5_1 b2;have v5_2:=tM.later v5_1 b2;go_wp2_with fail;refine(zg5 _ _ _ _ _ _ _ _ y3_2 v3_2 (by omega)).mono ?_;rintro e w3 ⟨rfl,b3⟩;obtain⟨hc3,-⟩:=zan b3;have l3:=Nat.lt_of_lt_of_le l2 b3.size;have l3':=Nat.lt_of_lt_of_le l2' b3.size;have B3:=zaa B2 b3;have y4_3:=tPS.later y4_2 b3;have v4_3:=tPS.later v4_2 b3;have y5_3:=tM.later y5_2 b3;have v5_3:=tM.later v5_2 b3;go_wp2_with fail;refine(zqr _ _ _ _ _ _ _ _ y4_3 v4_3 (by omega)).mono ?_;rintro e w4 ⟨rfl,b4⟩;obtain⟨hc4,-⟩:=zan b4;have l4:=Nat.lt_of_lt_of_le l3 b4.size;have l4':=Nat.lt_of_lt_of_le l3' b4.size;have B4:=zaa B3 b4;have y5_4:=tM.later y5_3 b4;have v5_4:=tM.later v5_3 b4;go_wp2_with fail;refine(zpz _ _ _ _ _ _ _ _ y5_4 v5_4 (by omega)).mono ?_;rintro e w5 ⟨rfl,b5⟩;obtain⟨hc5,-⟩:=zan b5;have l5:=Nat.lt_of_lt_of_le l4 b5.size;have l5':=Nat.lt_of_lt_of_le l4' b5.size;have B5:=zaa B4 b5;go_wp2;go_ret;exact⟨rfl,B5⟩
theorem zqx(a0:Int)(A1:Yo)(n1 c1:Nat)(A2:Yo)(n2 c2:Nat)(A3:Yo)(n3 c3:Nat)(A4:Yo)(n4 c4:Nat)(A5:Yo)(n5 c5:Nat)(x1:List (List Int))(x2:List (List zas))(x3:List Int)(x4:List zad)(x5:List zag)(w:Yw)(h1:tSS.R w w.heap.size [.slice A1 n1 c1] x1)(h2:tTS.R w w.heap.size [.slice A2 n2 c2] x2)(h3:tS.R w w.heap.size [.slice A3 n3 c3] x3)(h4:tPS.R w w.heap.size [.slice A4 n4 c4] x4)(h5:tM.R w w.heap.size [.slice A5 n5 c5] x5)(hn:hZ.sz ((a0,x1,x2,x3,x4,x5):Sess)<=100000000):
 Calls Tryz.prog 7 #[.agg #[.int .i64 a0,.slice A1 n1 c1,.slice A2 n2 c2,.slice A3 n3 c3,.slice A4 n4 c4,.slice A5 n5 c5]] w fun e w'=>∃A1' n1' c1' A2' n2' c2' A3' n3' c3' A4' n4' c4' A5' n5' c5',e=.returned (.agg #[.int .i64 a0,.slice A1' n1' c1',.slice A2' n2' c2',.slice A3' n3' c3',.slice A4' n4' c4',.slice A5' n5' c5'])/\tZ.O w' (Iv w.heap.size w'.heap.size) [.int .i64 a0,.slice A1' n1' c1',.slice A2' n2' c2',.slice A3' n3' c3',.slice A4' n4' c4',.slice A5' n5' c5'] (a0,x1,x2,x3,x4,x5)/\Below w.heap.size w w':=by
 obtain⟨W,hW⟩:∃W,W=((w.alloc (.cells #[.int .i64 a0,.slice A1 n1 c1,.slice A2 n2 c2,.slice A3 n3 c3,.slice A4 n4 c4,.slice A5 n5 c5] 30)).alloc (.cells #[.int .i64 0,.slice none 0 0,.slice none 0 0,.slice none 0 0,.slice none 0 0,.slice none 0 0] 38)).alloc (.cells #[.int .i64 a0,.slice none 0 0,.slice none 0 0,.slice none 0 0,.slice none 0 0,.slice none 0 0] 38):=⟨_,rfl⟩;have B0:Below w.heap.size w W:=by rw[hW];exact(((Below.refl _ _).alloc (Nat.le_refl _) _).alloc (by simp) _).alloc (by simp;omega) _
 have z0:W.heap.size=w.heap.size+1+1+1:=by rw[hW];simp
 have p0:W.cell? ⟨w.heap.size,0,none⟩=some (.int .i64 a0):=by rw[hW];simp[go_sem]
 have q0:W.cell? ⟨w.heap.size+1,0,none⟩=some (.int .i64 0):=by rw[hW];simp[go_sem]
 have r0:W.cell? ⟨w.heap.size+1+1,0,none⟩=some (.int .i64 a0):=by rw[hW];simp[go_sem]
 have s0:W.frozen? ⟨w.heap.size+1,0,none⟩=false:=by rw[hW];simp[go_sem]
 have t0:W.frozen? ⟨w.heap.size+1+1,0,none⟩=false:=by rw[hW];simp[go_sem]
 have p1:W.cell? ⟨w.heap.size,1,none⟩=some (.slice A1 n1 c1):=by rw[hW];simp[go_sem]
 have q1:W.cell? ⟨w.heap.size+1,1,none⟩=some (.slice none 0 0):=by rw[hW];simp[go_sem]
 have r1:W.cell? ⟨w.heap.size+1+1,1,none⟩=some (.slice none 0 0):=by rw[hW];simp[go_sem]
 have s1:W.frozen? ⟨w.heap.size+1,1,none⟩=false:=by rw[hW];simp[go_sem]
 have t1:W.frozen? ⟨w.heap.size+1+1,1,none⟩=false:=by rw[hW];simp[go_sem]
 have p2:W.cell? ⟨w.heap.size,2,none⟩=some (.slice A2 n2 c2):=by rw[hW];simp[go_sem]
 have q2:W.cell? ⟨w.heap.size+1,2,none⟩=some (.slice none 0 0):=by rw[hW];simp[go_sem]
 have r2:W.cell? ⟨w.heap.size+1+1,2,none⟩=some (.slice none 0 0):=by rw[hW];simp[go_sem]
 have s2:W.frozen? ⟨w.heap.size+1,2,none⟩=false:=by rw[hW];simp[go_sem]
 have t2:W.frozen? ⟨w.heap.size+1+1,2,none⟩=false:=by rw[hW];simp[go_sem]
 have p3:W.cell? ⟨w.heap.size,3,none⟩=some (.slice A3 n3 c3):=by rw[hW];simp[go_sem]
 have q3:W.cell? ⟨w.heap.size+1,3,none⟩=some (.slice none 0 0):=by rw[hW];simp[go_sem]
 have r3:W.cell? ⟨w.heap.size+1+1,3,none⟩=some (.slice none 0 0):=by rw[hW];simp[go_sem]
 have s3:W.frozen? ⟨w.heap.size+1,3,none⟩=false:=by rw[hW];simp[go_sem]
 have t3:W.frozen? ⟨w.heap.size+1+1,3,none⟩=false:=by rw[hW];simp[go_sem]
 have p4:W.cell? ⟨w.heap.size,4,none⟩=some (.slice A4 n4 c4):=by rw[hW];simp[go_sem]
 have q4:W.cell? ⟨w.heap.size+1,4,none⟩=some (.slice none 0 0):=by rw[hW];simp[go_sem]
 have r4:W.cell? ⟨w.heap.size+1+1,4,none⟩=some (.slice none 0 0):=by rw[hW];simp[go_sem]
 have s4:W.frozen? ⟨w.heap.size+1,4,none⟩=false:=by rw[hW];simp[go_sem]
 have t4:W.frozen? ⟨w.heap.size+1+1,4,none⟩=false:=by rw[hW];simp[go_sem]
 have p5:W.cell? ⟨w.heap.size,5,none⟩=some (.slice A5 n5 c5):=by rw[hW];simp[go_sem]
 have q5:W.cell? ⟨w.heap.size+1,5,none⟩=some (.slice none 0 0):=by rw[hW];simp[go_sem]
 have r5:W.cell? ⟨w.heap.size+1+1,5,none⟩=some (.slice none 0 0):=by rw[hW];simp[go_sem]
 have s5:W.frozen? ⟨w.heap.size+1,5,none⟩=false:=by rw[hW];simp[go_sem]
 have t5:W.frozen? ⟨w.heap.size+1+1,5,none⟩=false:=by rw[hW];simp[go_sem]
 have l0:w.heap.size<W.heap.size:=by omega
 have l0':w.heap.size+1<W.heap.size:=by omega
 have l0'':w.heap.size+1+1<W.heap.size:=by omega
 have Z0:w.heap.size+1+1+1<=W.heap.size:=by omega
 clear z0;have y1_0:=tSS.later h1 B0;have y2_0:=tTS.later h2 B0;have y3_0:=tS.later h3 B0;have y4_0:=tPS.later h4 B0;have y5_0:=tM.later h5 B0;have HW:=Lib.hid hW;clear hW;rw[zdi]at hn
 go_enter Tryz.func7,Tryz.ntmps7
 go_wp2_with fail;rw[<-HW.out];refine(zky _ _ _ _ _ y1_0 (by omega)).mono ?_;rintro e w1 ⟨A1',n1',c1',rfl,o1_0,b1⟩;obtain⟨hc1,hf1⟩:=zan b1;obtain⟨U1,hU1⟩:∃U,U=w1.setCell ⟨w.heap.size+1+1,1,none⟩ (.slice A1' n1' c1'):=⟨_,rfl⟩;have m1:Mid (w.heap.size+1+1) (w.heap.size+1+1+1) w1 U1:=by rw[hU1];exact Mid.of_grown (zaz w1 (w.heap.size+1+1) 1 _) fun k hk=>by injection hk with hk;omega
 have e1:U1.heap.size=w1.heap.size:=by rw[hU1];simp
 have E1:=Lib.hid e1;have sz1:W.heap.size<=U1.heap.size:=by rw[e1];exact b1.size
 have BU1:Below (w.heap.size+1+1) w1 U1:=m1.toBelow (by omega);have B1:Below w.heap.size w U1:=(zaa B0 b1).trans (BU1.mono (by omega));have l1:=Nat.lt_of_lt_of_le l0 sz1;have l1':=Nat.lt_of_lt_of_le l0' sz1;have l1'':=Nat.lt_of_lt_of_le l0'' sz1;have Z1:=Nat.le_trans Z0 sz1;have o1_1:tSS.O U1 (Iv W.heap.size U1.heap.size) [.slice A1' n1' c1'] x1:=tSS.oiv (tSS.omid o1_0 m1 (.inr (by omega)) (Nat.le_refl _)) (Nat.le_refl _) (by omega);have y2_1:tTS.R U1 U1.heap.size [.slice A2 n2 c2] x2:=tTS.later h2 B1;have y3_1:tS.R U1 U1.heap.size [.slice A3 n3 c3] x3:=tS.later h3 B1;have y4_1:tPS.R U1 U1.heap.size [.slice A4 n4 c4] x4:=tPS.later h4 B1;have y5_1:tM.R U1 U1.heap.size [.slice A5 n5 c5] x5:=tM.later h5 B1;have q0_1:U1.cell? ⟨w.heap.size+1,0,none⟩=some (.int .i64 0):=by rw[BU1.cell (by show w.heap.size+1<_;omega),b1.cell (by show w.heap.size+1<_;omega)];exact q0
 have s0_1:U1.frozen? ⟨w.heap.size+1,0,none⟩=false:=by rw[BU1.frozen (by show w.heap.size+1<_;omega),b1.frozen (by show w.heap.size+1<_;omega)];exact s0
 have r0_1:U1.cell? ⟨w.heap.size+1+1,0,none⟩=some (.int .i64 a0):=by rw[hU1];simp[go_sem,hc1,l0'',r0]
 have t0_1:U1.frozen? ⟨w.heap.size+1+1,0,none⟩=false:=by rw[hU1];simp[go_sem,hf1,l0'',t0]
 have q1_1:U1.cell? ⟨w.heap.size+1,1,none⟩=some (.slice none 0 0):=by rw[BU1.cell (by show w.heap.size+1<_;omega),b1.cell (by show w.heap.size+1<_;omega)];exact q1
 have s1_1:U1.frozen? ⟨w.heap.size+1,1,none⟩=false:=by rw[BU1.frozen (by show w.heap.size+1<_;omega),b1.frozen (by show w.heap.size+1<_;omega)];exact s1
 have r1_1:U1.cell? ⟨w.heap.size+1+1,1,none⟩=some (.slice A1' n1' c1'):=by rw[hU1];simp[go_sem,hc1,l0'',r1]
 have t1_1:U1.frozen? ⟨w.heap.size+1+1,1,none⟩=false:=by rw[hU1];simp[go_sem,hf1,l0'',t1]
 have p2_1:U1.cell? ⟨w.heap.size,2,none⟩=some (.slice A2 n2 c2):=by rw[BU1.cell (by show w.heap.size<_;omega),b1.cell (by show w.heap.size<_;omega)];exact p2
 have q2_1:U1.cell? ⟨w.heap.size+1,2,none⟩=some (.slice none 0 0):=by rw[BU1.cell (by show w.heap.size+1<_;omega),b1.cell (by show w.heap.size+1<_;omega)];exact q2
 have s2_1:U1.frozen? ⟨w.heap.size+1,2,none⟩=false:=by rw[BU1.frozen (by show w.heap.size+1<_;omega),b1.frozen (by show w.heap.size+1<_;omega)];exact s2
 have r2_1:U1.cell? ⟨w.heap.size+1+1,2,none⟩=some (.slice none 0 0):=by rw[hU1];simp[go_sem,hc1,l0'',r2]
 have t2_1:U1.frozen? ⟨w.heap.size+1+1,2,none⟩=false:=by rw[hU1];simp[go_sem,hf1,l0'',t2]
 have p3_1:U1.cell? ⟨w.heap.size,3,none⟩=some (.slice A3 n3 c3):=by rw[BU1.cell (by show w.heap.size<_;omega),b1.cell (by show w.heap.size<_;omega)];exact p3
 have q3_1:U1.cell? ⟨w.heap.size+1,3,none⟩=some (.slice none 0 0):=by rw[BU1.cell (by show w.heap.size+1<_;omega),b1.cell (by show w.heap.size+1<_;omega)];exact q3
 have s3_1:U1.frozen? ⟨w.heap.size+1,3,none⟩=false:=by rw[BU1.frozen (by show w.heap.size+1<_;omega),b1.frozen (by show w.heap.size+1<_;omega)];exact s3
 have r3_1:U1.cell? ⟨w.heap.size+1+1,3,none⟩=some (.slice none 0 0):=by rw[hU1];simp[go_sem,hc1,l0'',r3]
 have t3_1:U1.frozen? ⟨w.heap.size+1+1,3,none⟩=false:=by rw[hU1];simp[go_sem,hf1,l0'',t3]
 have p4_1:U1.cell? ⟨w.heap.size,4,none⟩=some (.slice A4 n4 c4):=by rw[BU1.cell (by show w.heap.size<_;omega),b1.cell (by show w.heap.size<_;omega)];exact p4
 have q4_1:U1.cell? ⟨w.heap.size+1,4,none⟩=some (.slice none 0 0):=by rw[BU1.cell (by show w.heap.size+1<_;omega),b1.cell (by show w.heap.size+1<_;omega)];exact q4
 have s4_1:U1.frozen? ⟨w.heap.size+1,4,none⟩=false:=by rw[BU1.frozen (by show w.heap.size+1<_;omega),b1.frozen (by show w.heap.size+1<_;omega)];exact s4
 have r4_1:U1.cell? ⟨w.heap.size+1+1,4,none⟩=some (.slice none 0 0):=by rw[hU1];simp[go_sem,hc1,l0'',r4]
 have t4_1:U1.frozen? ⟨w.heap.size+1+1,4,none⟩=false:=by rw[hU1];simp[go_sem,hf1,l0'',t4]
 have p5_1:U1.cell? ⟨w.heap.size,5,none⟩=some (.slice A5 n5 c5):=by rw[BU1.cell (by show w.heap.size<_;omega),b1.cell (by show w.heap.size<_;omega)];exact p5
 have q5_1:U1.cell? ⟨w.heap.size+1,5,none⟩=some (.slice none 0 0):=by rw[BU1.cell (by show w.heap.size+1<_;omega),b1.cell (by show w.heap.size+1<_;omega)];exact q5
 have s5_1:U1.frozen? ⟨w.heap.size+1,5,none⟩=false:=by rw[BU1.frozen (by show w.heap.size+1<_;omega),b1.frozen (by show w.heap.size+1<_;omega)];exact s5
 have r5_1:U1.cell? ⟨w.heap.size+1+1,5,none⟩=some (.slice none 0 0):=by rw[hU1];simp[go_sem,hc1,l0'',r5]
 have t5_1:U1.frozen? ⟨w.heap.size+1+1,5,none⟩=false:=by rw[hU1];simp[go_sem,hf1,l0'',t5]
 have t1_w:w1.frozen? ⟨w.heap.size+1+1,1,none⟩=false:=by rw[hf1 _ _ l0''];exact t1
 have r1_w:w1.cell? ⟨w.heap.size+1+1,1,none⟩=some (.slice none 0 0):=by rw[hc1 _ _ l0''];exact r1
 have p2_w:w1.cell? ⟨w.heap.size,2,none⟩=some (.slice A2 n2 c2):=by rw[hc1 _ _ l0];exact p2
 have p3_w:w1.cell? ⟨w.heap.size,3,none⟩=some (.slice A3 n3 c3):=by rw[hc1 _ _ l0];exact p3
 have p4_w:w1.cell? ⟨w.heap.size,4,none⟩=some (.slice A4 n4 c4):=by rw[hc1 _ _ l0];exact p4
 have p5_w:w1.cell? ⟨w.heap.size,5,none⟩=some (.slice A5 n5 c5):=by rw[hc1 _ _ l0];exact p5
 have HU1:=Lib.hid hU1;clear hU1 e1 hc1 hf1 q0 s0 r0 t0 q1 s1 r1 t1 q2 s2 r2 t2 q3 s3 r3 t3 q4 s4 r4 t4 q5 s5 r5 t5;go_wp2_with fail;rw[<-HU1.out];clear t1_w r1_w p2_w p3_w p4_w p5_w;refine(zqt _ _ _ _ _ y2_1 (by omega)).mono ?_;rintro e w2 ⟨A2',n2',c2',rfl,o2_1,b2⟩;obtain⟨hc2,hf2⟩:=zan b2;obtain⟨U2,hU2⟩:∃U,U=w2.setCell ⟨w.heap.size+1+1,2,none⟩ (.slice A2' n2' c2'):=⟨_,rfl⟩;have m2:Mid (w.heap.size+1+1) (w.heap.size+1+1+1) w2 U2:=by rw[hU2];exact Mid.of_grown (zaz w2 (w.heap.size+1+1) 2 _) fun k hk=>by injection hk with hk;omega
 have e2:U2.heap.size=w2.heap.size:=by rw[hU2];simp
 have E2:=Lib.hid e2;have sz2:U1.heap.size<=U2.heap.size:=by rw[e2];exact b2.size
 have BU2:Below (w.heap.size+1+1) w2 U2:=m2.toBelow (by omega);have B2:Below w.heap.size w U2:=(zaa B1 b2).trans (BU2.mono (by omega));have l2:=Nat.lt_of_lt_of_le l1 sz2;have l2':=Nat.lt_of_lt_of_le l1' sz2;have l2'':=Nat.lt_of_lt_of_le l1'' sz2;have Z2:=Nat.le_trans Z1 sz2;have o2_2:tTS.O U2 (Iv U1.heap.size U2.heap.size) [.slice A2' n2' c2'] x2:=tTS.oiv (tTS.omid o2_1 m2 (.inr (by omega)) (Nat.le_refl _)) (Nat.le_refl _) (by omega);have o1_2:=tSS.omid (tSS.obelow o1_1 b2 (by omega)) m2 (.inr (by omega)) (by omega);have y3_2:tS.R U2 U2.heap.size [.slice A3 n3 c3] x3:=tS.later h3 B2;have y4_2:tPS.R U2 U2.heap.size [.slice A4 n4 c4] x4:=tPS.later h4 B2;have y5_2:tM.R U2 U2.heap.size [.slice A5 n5 c5] x5:=tM.later h5 B2;have q0_2:U2.cell? ⟨w.heap.size+1,0,none⟩=some (.int .i64 0):=by rw[BU2.cell (by show w.heap.size+1<_;omega),b2.cell (by show w.heap.size+1<_;omega)];exact q0_1
 have s0_2:U2.frozen? ⟨w.heap.size+1,0,none⟩=false:=by rw[BU2.frozen (by show w.heap.size+1<_;omega),b2.frozen (by show w.heap.size+1<_;omega)];exact s0_1
 have r0_2:U2.cell? ⟨w.heap.size+1+1,0,none⟩=some (.int .i64 a0):=by rw[hU2];simp[go_sem,hc2,l1'',r0_1]
 have t0_2:U2.frozen? ⟨w.heap.size+1+1,0,none⟩=false:=by rw[hU2];simp[go_sem,hf2,l1'',t0_1]
 have q1_2:U2.cell? ⟨w.heap.size+1,1,none⟩=some (.slice none 0 0):=by rw[BU2.cell (by show w.heap.size+1<_;omega),b2.cell (by show w.heap.size+1<_;omega)];exact q1_1
 have s1_2:U2.frozen? ⟨w.heap.size+1,1,none⟩=false:=by rw[BU2.frozen (by show w.heap.size+1<_;omega),b2.frozen (by show w.heap.size+1<_;omega)];exact s1_1
 have r1_2:U2.cell? ⟨w.heap.size+1+1,1,none⟩=some (.slice A1' n1' c1'):=by rw[hU2];simp[go_sem,hc2,l1'',r1_1]
 have t1_2:U2.frozen? ⟨w.heap.size+1+1,1,none⟩=false:=by rw[hU2];simp[go_sem,hf2,l1'',t1_1]
 have q2_2:U2.cell? ⟨w.heap.size+1,2,none⟩=some (.slice none 0 0):=by rw[BU2.cell (by show w.heap.size+1<_;omega),b2.cell (by show w.heap.size+1<_;omega)];exact q2_1
 have s2_2:U2.frozen? ⟨w.heap.size+1,2,none⟩=false:=by rw[BU2.frozen (by show w.heap.size+1<_;omega),b2.frozen (by show w.heap.size+1<_;omega)];exact s2_1
 have r2_2:U2.cell? ⟨w.heap.size+1+1,2,none⟩=some (.slice A2' n2' c2'):=by rw[hU2];simp[go_sem,hc2,l1'',r2_1]
 have t2_2:U2.frozen? ⟨w.heap.size+1+1,2,none⟩=false:=by rw[hU2];simp[go_sem,hf2,l1'',t2_1]
 have p3_2:U2.cell? ⟨w.heap.size,3,none⟩=some (.slice A3 n3 c3):=by rw[BU2.cell (by show w.heap.size<_;omega),b2.cell (by show w.heap.size<_;omega)];exact p3_1
 have q3_2:U2.cell? ⟨w.heap.size+1,3,none⟩=some (.slice none 0 0):=by rw[BU2.cell (by show w.heap.size+1<_;omega),b2.cell (by show w.heap.size+1<_;omega)];exact q3_1
 have s3_2:U2.frozen? ⟨w.heap.size+1,3,none⟩=false:=by rw[BU2.frozen (by show w.heap.size+1<_;omega),b2.frozen (by show w.heap.size+1<_;omega)];exact s3_1
 have r3_2:U2.cell? ⟨w.heap.size+1+1,3,none⟩=some (.slice none 0 0):=by rw[hU2];simp[go_sem,hc2,l1'',r3_1]
 have t3_2:U2.frozen? ⟨w.heap.size+1+1,3,none⟩=false:=by rw[hU2];simp[go_sem,hf2,l1'',t3_1]
 have p4_2:U2.cell? ⟨w.heap.size,4,none⟩=some (.slice A4 n4 c4):=by rw[BU2.cell (by show w.heap.size<_;omega),b2.cell (by show w.heap.size<_;omega)];exact p4_1
 have q4_2:U2.cell? ⟨w.heap.size+1,4,none⟩=some (.slice none 0 0):=by rw[BU2.cell (by show w.heap.size+1<_;omega),b2.cell (by show w.heap.size+1<_;omega)];exact q4_1
 have s4_2:U2.frozen? ⟨w.heap.size+1,4,none⟩=false:=by rw[BU2.frozen (by show w.heap.size+1<_;omega),b2.frozen (by show w.heap.size+1<_;omega)];exact s4_1
 have r4_2:U2.cell? ⟨w.heap.size+1+1,4,none⟩=some (.slice none 0 0):=by rw[hU2];simp[go_sem,hc2,l1'',r4_1]
 have t4_2:U2.frozen? ⟨w.heap.size+1+1,4,none⟩=false:=by rw[hU2];simp[go_sem,hf2,l1'',t4_1]
 have p5_2:U2.cell? ⟨w.heap.size,5,none⟩=some (.slice A5 n5 c5):=by rw[BU2.cell (by show w.heap.size<_;omega),b2.cell (by show w.heap.size<_;omega)];exact p5_1
 have q5_2:U2.cell? ⟨w.heap.size+1,5,none⟩=some (.slice none 0 0):=by rw[BU2.cell (by show w.heap.size+1<_;omega),b2.cell (by show w.heap.size+1<_;omega)];exact q5_1
 have s5_2:U2.frozen? ⟨w.heap.size+1,5,none⟩=false:=by rw[BU2.frozen (by show w.heap.size+1<_;omega),b2.frozen (by show w.heap.size+1<_;omega)];exact s5_1
 have r5_2:U2.cell? ⟨w.heap.size+1+1,5,none⟩=some (.slice none 0 0):=by rw[hU2];simp[go_sem,hc2,l1'',r5_1]
 have t5_2:U2.frozen? ⟨w.heap.size+1+1,5,none⟩=false:=by rw[hU2];simp[go_sem,hf2,l1'',t5_1]
 have t2_w:w2.frozen? ⟨w.heap.size+1+1,2,none⟩=false:=by rw[hf2 _ _ l1''];exact t2_1
 have r2_w:w2.cell? ⟨w.heap.size+1+1,2,none⟩=some (.slice none 0 0):=by rw[hc2 _ _ l1''];exact r2_1
 have p3_w:w2.cell? ⟨w.heap.size,3,none⟩=some (.slice A3 n3 c3):=by rw[hc2 _ _ l1];exact p3_1
 have p4_w:w2.cell? ⟨w.heap.size,4,none⟩=some (.slice A4 n4 c4):=by rw[hc2 _ _ l1];exact p4_1
 have p5_w:w2.cell? ⟨w.heap.size,5,none⟩=some (.slice A5 n5 c5):=by rw[hc2 _ _ l1];exact p5_1
 have HU2:=Lib.hid hU2;clear hU2 e2 hc2 hf2 q0_1 s0_1 r0_1 t0_1 q1_1 s1_1 r1_1 t1_1 q2_1 s2_1 r2_1 t2_1 q3_1 s3_1 r3_1 t3_1 q4_1 s4_1 r4_1 t4_1 q5_1 s5_1 r5_1 t5_1;go_wp2_with fail;rw[<-HU2.out];clear t2_w r2_w p3_w p4_w p5_w;refine(zg4 _ _ _ _ _ y3_2 (by omega)).mono ?_;rintro e w3 ⟨A3',n3',c3',rfl,o3_2,b3⟩;obtain⟨hc3,hf3⟩:=zan b3;obtain⟨U3,hU3⟩:∃U,U=w3.setCell ⟨w.heap.size+1+1,3,none⟩ (.slice A3' n3' c3'):=⟨_,rfl⟩;have m3:Mid (w.heap.size+1+1) (w.heap.size+1+1+1) w3 U3:=by rw[hU3];exact Mid.of_grown (zaz w3 (w.heap.size+1+1) 3 _) fun k hk=>by injection hk with hk;omega
 have e3:U3.heap.size=w3.heap.size:=by rw[hU3];simp
 have E3:=Lib.hid e3;have sz3:U2.heap.size<=U3.heap.size:=by rw[e3];exact b3.size
 have BU3:Below (w.heap.size+1+1) w3 U3:=m3.toBelow (by omega);have B3:Below w.heap.size w U3:=(zaa B2 b3).trans (BU3.mono (by omega));have l3:=Nat.lt_of_lt_of_le l2 sz3;have l3':=Nat.lt_of_lt_of_le l2' sz3;have l3'':=Nat.lt_of_lt_of_le l2'' sz3;have Z3:=Nat.le_trans Z2 sz3;have o3_3:tS.O U3 (Iv U2.heap.size U3.heap.size) [.slice A3' n3' c3'] x3:=tS.oiv (tS.omid o3_2 m3 (.inr (by omega)) (Nat.le_refl _)) (Nat.le_refl _) (by omega);have o1_3:=tSS.omid (tSS.obelow o1_2 b3 (by omega)) m3 (.inr (by omega)) (by omega);have o2_3:=tTS.omid (tTS.obelow o2_2 b3 (by omega)) m3 (.inr (by omega)) (by omega);have y4_3:tPS.R U3 U3.heap.size [.slice A4 n4 c4] x4:=tPS.later h4 B3;have y5_3:tM.R U3 U3.heap.size [.slice A5 n5 c5] x5:=tM.later h5 B3;have q0_3:U3.cell? ⟨w.heap.size+1,0,none⟩=some (.int .i64 0):=by rw[BU3.cell (by show w.heap.size+1<_;omega),b3.cell (by show w.heap.size+1<_;omega)];exact q0_2
 have s0_3:U3.frozen? ⟨w.heap.size+1,0,none⟩=false:=by rw[BU3.frozen (by show w.heap.size+1<_;omega),b3.frozen (by show w.heap.size+1<_;omega)];exact s0_2
 have r0_3:U3.cell? ⟨w.heap.size+1+1,0,none⟩=some (.int .i64 a0):=by rw[hU3];simp[go_sem,hc3,l2'',r0_2]
 have t0_3:U3.frozen? ⟨w.heap.size+1+1,0,none⟩=false:=by rw[hU3];simp[go_sem,hf3,l2'',t0_2]
 have q1_3:U3.cell? ⟨w.heap.size+1,1,none⟩=some (.slice none 0 0):=by rw[BU3.cell (by show w.heap.size+1<_;omega),b3.cell (by show w.heap.size+1<_;omega)];exact q1_2
 have s1_3:U3.frozen? ⟨w.heap.size+1,1,none⟩=false:=by rw[BU3.frozen (by show w.heap.size+1<_;omega),b3.frozen (by show w.heap.size+1<_;omega)];exact s1_2
 have r1_3:U3.cell? ⟨w.heap.size+1+1,1,none⟩=some (.slice A1' n1' c1'):=by rw[hU3];simp[go_sem,hc3,l2'',r1_2]
 have t1_3:U3.frozen? ⟨w.heap.size+1+1,1,none⟩=false:=by rw[hU3];simp[go_sem,hf3,l2'',t1_2]
 have q2_3:U3.cell? ⟨w.heap.size+1,2,none⟩=some (.slice none 0 0):=by rw[BU3.cell (by show w.heap.size+1<_;omega),b3.cell (by show w.heap.size+1<_;omega)];exact q2_2
 have s2_3:U3.frozen? ⟨w.heap.size+1,2,none⟩=false:=by rw[BU3.frozen (by show w.heap.size+1<_;omega),b3.frozen (by show w.heap.size+1<_;omega)];exact s2_2
 have r2_3:U3.cell? ⟨w.heap.size+1+1,2,none⟩=some (.slice A2' n2' c2'):=by rw[hU3];simp[go_sem,hc3,l2'',r2_2]
 have t2_3:U3.frozen? ⟨w.heap.size+1+1,2,none⟩=false:=by rw[hU3];simp[go_sem,hf3,l2'',t2_2]
 have q3_3:U3.cell? ⟨w.heap.size+1,3,none⟩=some (.slice none 0 0):=by rw[BU3.cell (by show w.heap.size+1<_;omega),b3.cell (by show w.heap.size+1<_;omega)];exact q3_2
 have s3_3:U3.frozen? ⟨w.heap.size+1,3,none⟩=false:=by rw[BU3.frozen (by show w.heap.size+1<_;omega),b3.frozen (by show w.heap.size+1<_;omega)];exact s3_2
 have r3_3:U3.cell? ⟨w.heap.size+1+1,3,none⟩=some (.slice A3' n3' c3'):=by rw[hU3];simp[go_sem,hc3,l2'',r3_2]
 have t3_3:U3.frozen? ⟨w.heap.size+1+1,3,none⟩=false:=by rw[hU3];simp[go_sem,hf3,l2'',t3_2]
 have p4_3:U3.cell? ⟨w.heap.size,4,none⟩=some (.slice A4 n4 c4):=by rw[BU3.cell (by show w.heap.size<_;omega),b3.cell (by show w.heap.size<_;omega)];exact p4_2
 have q4_3:U3.cell? ⟨w.heap.size+1,4,none⟩=some (.slice none 0 0):=by rw[BU3.cell (by show w.heap.size+1<_;omega),b3.cell (by show w.heap.size+1<_;omega)];exact q4_2
 have s4_3:U3.frozen? ⟨w.heap.size+1,4,none⟩=false:=by rw[BU3.frozen (by show w.heap.size+1<_;omega),b3.frozen (by show w.heap.size+1<_;omega)];exact s4_2
 have r4_3:U3.cell? ⟨w.heap.size+1+1,4,none⟩=some (.slice none 0 0):=by rw[hU3];simp[go_sem,hc3,l2'',r4_2]
 have t4_3:U3.frozen? ⟨w.heap.size+1+1,4,none⟩=false:=by rw[hU3];simp[go_sem,hf3,l2'',t4_2]
 have p5_3:U3.cell? ⟨w.heap.size,5,none⟩=some (.slice A5 n5 c5):=by rw[BU3.cell (by show w.heap.size<_;omega),b3.cell (by show w.heap.size<_;omega)];exact p5_2
 have q5_3:U3.cell? ⟨w.heap.size+1,5,none⟩=some (.slice none 0 0):=by rw[BU3.cell (by show w.heap.size+1<_;omega),b3.cell (by show w.heap.size+1<_;omega)];exact q5_2
 have s5_3:U3.frozen? ⟨w.heap.size+1,5,none⟩=false:=by rw[BU3.frozen (by show w.heap.size+1<_;omega),b3.frozen (by show w.heap.size+1<_;omega)];exact s5_2
 have r5_3:U3.cell? ⟨w.heap.size+1+1,5,none⟩=some (.slice none 0 0):=by rw[hU3];simp[go_sem,hc3,l2'',r5_2]
 have t5_3:U3.frozen? ⟨w.heap.size+1+1,5,none⟩=false:=by rw[hU3];simp[go_sem,hf3,l2'',t5_2]
 have t3_w:w3.frozen? ⟨w.heap.size+1+1,3,none⟩=false:=by rw[hf3 _ _ l2''];exact t3_2
 have r3_w:w3.cell? ⟨w.heap.size+1+1,3,none⟩=some (.slice none 0 0):=by rw[hc3 _ _ l2''];exact r3_2
 have p4_w:w3.cell? ⟨w.heap.size,4,none⟩=some (.slice A4 n4 c4):=by rw[hc3 _ _ l2];exact p4_2
 have p5_w:w3.cell? ⟨w.heap.size,5,none⟩=some (.slice A5 n5 c5):=by rw[hc3 _ _ l2];exact p5_2
 have HU3:=Lib.hid hU3;clear hU3 e3 hc3 hf3 q0_2 s0_2 r0_2 t0_2 q1_2 s1_2 r1_2 t1_2 q2_2 s2_2 r2_2 t2_2 q3_2 s3_2 r3_2 t3_2 q4_2 s4_2 r4_2 t4_2 q5_2 s5_2 r5_2 t5_2;go_wp2_with fail;rw[<-HU3.out];clear t3_w r3_w p4_w p5_w;refine(zqq _ _ _ _ _ y4_3 (by omega)).mono ?_;rintro e w4 ⟨A4',n4',c4',rfl,o4_3,b4⟩;obtain⟨hc4,hf4⟩:=zan b4;obtain⟨U4,hU4⟩:∃U,U=w4.setCell ⟨w.heap.size+1+1,4,none⟩ (.slice A4' n4' c4'):=⟨_,rfl⟩;have m4:Mid (w.heap.size+1+1) (w.heap.size+1+1+1) w4 U4:=by rw[hU4];exact Mid.of_grown (zaz w4 (w.heap.size+1+1) 4 _) fun k hk=>by injection hk with hk;omega
 have e4:U4.heap.size=w4.heap.size:=by rw[hU4];simp
 have E4:=Lib.hid e4;have sz4:U3.heap.size<=U4.heap.size:=by rw[e4];exact b4.size
 have BU4:Below (w.heap.size+1+1) w4 U4:=m4.toBelow (by omega);have B4:Below w.heap.size w U4:=(zaa B3 b4).trans (BU4.mono (by omega));have l4:=Nat.lt_of_lt_of_le l3 sz4;have l4':=Nat.lt_of_lt_of_le l3' sz4;have l4'':=Nat.lt_of_lt_of_le l3'' sz4;have Z4:=Nat.le_trans Z3 sz4;have o4_4:tPS.O U4 (Iv U3.heap.size U4.heap.size) [.slice A4' n4' c4'] x4:=tPS.oiv (tPS.omid o4_3 m4 (.inr (by omega)) (Nat.le_refl _)) (Nat.le_refl _) (by omega);have o1_4:=tSS.omid (tSS.obelow o1_3 b4 (by omega)) m4 (.inr (by omega)) (by omega);have o2_4:=tTS.omid (tTS.obelow o2_3 b4 (by omega)) m4 (.inr (by omega)) (by omega);have o3_4:=tS.omid (tS.obelow o3_3 b4 (by omega)) m4 (.inr (by omega)) (by omega);have y5_4:tM.R U4 U4.heap.size [.slice A5 n5 c5] x5:=tM.later h5 B4;have q0_4:U4.cell? ⟨w.heap.size+1,0,none⟩=some (.int .i64 0):=by rw[BU4.cell (by show w.heap.size+1<_;omega),b4.cell (by show w.heap.size+1<_;omega)];exact q0_3
 have s0_4:U4.frozen? ⟨w.heap.size+1,0,none⟩=false:=by rw[BU4.frozen (by show w.heap.size+1<_;omega),b4.frozen (by show w.heap.size+1<_;omega)];exact s0_3
 have r0_4:U4.cell? ⟨w.heap.size+1+1,0,none⟩=some (.int .i64 a0):=by rw[hU4];simp[go_sem,hc4,l3'',r0_3]
 have t0_4:U4.frozen? ⟨w.heap.size+1+1,0,none⟩=false:=by rw[hU4];simp[go_sem,hf4,l3'',t0_3]
 have q1_4:U4.cell? ⟨w.heap.size+1,1,none⟩=some (.slice none 0 0):=by rw[BU4.cell (by show w.heap.size+1<_;omega),b4.cell (by show w.heap.size+1<_;omega)];exact q1_3
 have s1_4:U4.frozen? ⟨w.heap.size+1,1,none⟩=false:=by rw[BU4.frozen (by show w.heap.size+1<_;omega),b4.frozen (by show w.heap.size+1<_;omega)];exact s1_3
 have r1_4:U4.cell? ⟨w.heap.size+1+1,1,none⟩=some (.slice A1' n1' c1'):=by rw[hU4];simp[go_sem,hc4,l3'',r1_3]
 have t1_4:U4.frozen? ⟨w.heap.size+1+1,1,none⟩=false:=by rw[hU4];simp[go_sem,hf4,l3'',t1_3]
 have q2_4:U4.cell? ⟨w.heap.size+1,2,none⟩=some (.slice none 0 0):=by rw[BU4.cell (by show w.heap.size+1<_;omega),b4.cell (by show w.heap.size+1<_;omega)];exact q2_3
 have s2_4:U4.frozen? ⟨w.heap.size+1,2,none⟩=false:=by rw[BU4.frozen (by show w.heap.size+1<_;omega),b4.frozen (by show w.heap.size+1<_;omega)];exact s2_3
 have r2_4:U4.cell? ⟨w.heap.size+1+1,2,none⟩=some (.slice A2' n2' c2'):=by rw[hU4];simp[go_sem,hc4,l3'',r2_3]
 have t2_4:U4.frozen? ⟨w.heap.size+1+1,2,none⟩=false:=by rw[hU4];simp[go_sem,hf4,l3'',t2_3]
 have q3_4:U4.cell? ⟨w.heap.size+1,3,none⟩=some (.slice none 0 0):=by rw[BU4.cell (by show w.heap.size+1<_;omega),b4.cell (by show w.heap.size+1<_;omega)];exact q3_3
 have s3_4:U4.frozen? ⟨w.heap.size+1,3,none⟩=false:=by rw[BU4.frozen (by show w.heap.size+1<_;omega),b4.frozen (by show w.heap.size+1<_;omega)];exact s3_3
 have r3_4:U4.cell? ⟨w.heap.size+1+1,3,none⟩=some (.slice A3' n3' c3'):=by rw[hU4];simp[go_sem,hc4,l3'',r3_3]
 have t3_4:U4.frozen? ⟨w.heap.size+1+1,3,none⟩=false:=by rw[hU4];simp[go_sem,hf4,l3'',t3_3]
 have q4_4:U4.cell? ⟨w.heap.size+1,4,none⟩=some (.slice none 0 0):=by rw[BU4.cell (by show w.heap.size+1<_;omega),b4.cell (by show w.heap.size+1<_;omega)];exact q4_3
 have s4_4:U4.frozen? ⟨w.heap.size+1,4,none⟩=false:=by rw[BU4.frozen (by show w.heap.size+1<_;omega),b4.frozen (by show w.heap.size+1<_;omega)];exact s4_3
 have r4_4:U4.cell? ⟨w.heap.size+1+1,4,none⟩=some (.slice A4' n4' c4'):=by rw[hU4];simp[go_sem,hc4,l3'',r4_3]
 have t4_4:U4.frozen? ⟨w.heap.size+1+1,4,none⟩=false:=by rw[hU4];simp[go_sem,hf4,l3'',t4_3]
 have p5_4:U4.cell? ⟨w.heap.size,5,none⟩=some (.slice A5 n5 c5):=by rw[BU4.cell (by show w.heap.size<_;omega),b4.cell (by show w.heap.size<_;omega)];exact p5_3
 have q5_4:U4.cell? ⟨w.heap.size+1,5,none⟩=some (.slice none 0 0):=by rw[BU4.cell (by show w.heap.size+1<_;omega),b4.cell (by show w.heap.size+1<_;omega)];exact q5_3
 have s5_4:U4.frozen? ⟨w.heap.size+1,5,none⟩=false:=by rw[BU4.frozen (by show w.heap.size+1<_;omega),b4.frozen (by show w.heap.size+1<_;omega)];exact s5_3
 have r5_4:U4.cell? ⟨w.heap.size+1+1,5,none⟩=some (.slice none 0 0):=by rw[hU4];simp[go_sem,hc4,l3'',r5_3]
 have t5_4:U4.frozen? ⟨w.heap.size+1+1,5,none⟩=false:=by rw[hU4];simp[go_sem,hf4,l3'',t5_3]
 have t4_w:w4.frozen? ⟨w.heap.size+1+1,4,none⟩=false:=by rw[hf4 _ _ l3''];exact t4_3
 have r4_w:w4.cell? ⟨w.heap.size+1+1,4,none⟩=some (.slice none 0 0):=by rw[hc4 _ _ l3''];exact r4_3
 have p5_w:w4.cell? ⟨w.heap.size,5,none⟩=some (.slice A5 n5 c5):=by rw[hc4 _ _ l3];exact p5_3
 have HU4:=Lib.hid hU4;clear hU4 e4 hc4 hf4 q0_3 s0_3 r0_3 t0_3 q1_3 s1_3 r1_3 t1_3 q2_3 s2_3 r2_3 t2_3 q3_3 s3_3 r3_3 t3_3 q4_3 s4_3 r4_3 t4_3 q5_3 s5_3 r5_3 t5_3;go_wp2_with fail;rw[<-HU4.out];clear t4_w r4_w p5_w;refine(zpy _ _ _ _ _ y5_4 (by omega)).mono ?_;rintro e w5 ⟨A5',n5',c5',rfl,o5_4,b5⟩;obtain⟨hc5,hf5⟩:=zan b5;obtain⟨U5,hU5⟩:∃U,U=w5.setCell ⟨w.heap.size+1+1,5,none⟩ (.slice A5' n5' c5'):=⟨_,rfl⟩;have m5:Mid (w.heap.size+1+1) (w.heap.size+1+1+1) w5 U5:=by rw[hU5];exact Mid.of_grown (zaz w5 (w.heap.size+1+1) 5 _) fun k hk=>by injection hk with hk;omega
 have e5:U5.heap.size=w5.heap.size:=by rw[hU5];simp
 have E5:=Lib.hid e5;have sz5:U4.heap.size<=U5.heap.size:=by rw[e5];exact b5.size
 have BU5:Below (w.heap.size+1+1) w5 U5:=m5.toBelow (by omega);have B5:Below w.heap.size w U5:=(zaa B4 b5).trans (BU5.mono (by omega));have l5:=Nat.lt_of_lt_of_le l4 sz5;have l5':=Nat.lt_of_lt_of_le l4' sz5;have l5'':=Nat.lt_of_lt_of_le l4'' sz5;have Z5:=Nat.le_trans Z4 sz5;have o5_5:tM.O U5 (Iv U4.heap.size U5.heap.size) [.slice A5' n5' c5'] x5:=tM.oiv (tM.omid o5_4 m5 (.inr (by omega)) (Nat.le_refl _)) (Nat.le_refl _) (by omega);have o1_5:=tSS.omid (tSS.obelow o1_4 b5 (by omega)) m5 (.inr (by omega)) (by omega);have o2_5:=tTS.omid (tTS.obelow o2_4 b5 (by omega)) m5 (.inr (by omega)) (by omega);have o3_5:=tS.omid (tS.obelow o3_4 b5 (by omega)) m5 (.inr (by omega)) (by omega);have o4_5:=tPS.omid (tPS.obelow o4_4 b5 (by omega)) m5 (.inr (by omega)) (by omega);have q0_5:U5.cell? ⟨w.heap.size+1,0,none⟩=some (.int .i64 0):=by rw[BU5.cell (by show w.heap.size+1<_;omega),b5.cell (by show w.heap.size+1<_;omega)];exact q0_4
 have s0_5:U5.frozen? ⟨w.heap.size+1,0,none⟩=false:=by rw[BU5.frozen (by show w.heap.size+1<_;omega),b5.frozen (by show w.heap.size+1<_;omega)];exact s0_4
 have r0_5:U5.cell? ⟨w.heap.size+1+1,0,none⟩=some (.int .i64 a0):=by rw[hU5];simp[go_sem,hc5,l4'',r0_4]
 have t0_5:U5.frozen? ⟨w.heap.size+1+1,0,none⟩=false:=by rw[hU5];simp[go_sem,hf5,l4'',t0_4]
 have q1_5:U5.cell? ⟨w.heap.size+1,1,none⟩=some (.slice none 0 0):=by rw[BU5.cell (by show w.heap.size+1<_;omega),b5.cell (by show w.heap.size+1<_;omega)];exact q1_4
 have s1_5:U5.frozen? ⟨w.heap.size+1,1,none⟩=false:=by rw[BU5.frozen (by show w.heap.size+1<_;omega),b5.frozen (by show w.heap.size+1<_;omega)];exact s1_4
 have r1_5:U5.cell? ⟨w.heap.size+1+1,1,none⟩=some (.slice A1' n1' c1'):=by rw[hU5];simp[go_sem,hc5,l4'',r1_4]
 have t1_5:U5.frozen? ⟨w.heap.size+1+1,1,none⟩=false:=by rw[hU5];simp[go_sem,hf5,l4'',t1_4]
 have q2_5:U5.cell? ⟨w.heap.size+1,2,none⟩=some (.slice none 0 0):=by rw[BU5.cell (by show w.heap.size+1<_;omega),b5.cell (by show w.heap.size+1<_;omega)];exact q2_4
 have s2_5:U5.frozen? ⟨w.heap.size+1,2,none⟩=false:=by rw[BU5.frozen (by show w.heap.size+1<_;omega),b5.frozen (by show w.heap.size+1<_;omega)];exact s2_4
 have r2_5:U5.cell? ⟨w.heap.size+1+1,2,none⟩=some (.slice A2' n2' c2'):=by rw[hU5];simp[go_sem,hc5,l4'',r2_4]
 have t2_5:U5.frozen? ⟨w.heap.size+1+1,2,none⟩=false:=by rw[hU5];simp[go_sem,hf5,l4'',t2_4]
 have q3_5:U5.cell? ⟨w.heap.size+1,3,none⟩=some (.slice none 0 0):=by rw[BU5.cell (by show w.heap.size+1<_;omega),b5.cell (by show w.heap.size+1<_;omega)];exact q3_4
 have s3_5:U5.frozen? ⟨w.heap.size+1,3,none⟩=false:=by rw[BU5.frozen (by show w.heap.size+1<_;omega),b5.frozen (by show w.heap.size+1<_;omega)];exact s3_4
 have r3_5:U5.cell? ⟨w.heap.size+1+1,3,none⟩=some (.slice A3' n3' c3'):=by rw[hU5];simp[go_sem,hc5,l4'',r3_4]
 have t3_5:U5.frozen? ⟨w.heap.size+1+1,3,none⟩=false:=by rw[hU5];simp[go_sem,hf5,l4'',t3_4]
 have q4_5:U5.cell? ⟨w.heap.size+1,4,none⟩=some (.slice none 0 0):=by rw[BU5.cell (by show w.heap.size+1<_;omega),b5.cell (by show w.heap.size+1<_;omega)];exact q4_4
 have s4_5:U5.frozen? ⟨w.heap.size+1,4,none⟩=false:=by rw[BU5.frozen (by show w.heap.size+1<_;omega),b5.frozen (by show w.heap.size+1<_;omega)];exact s4_4
 have r4_5:U5.cell? ⟨w.heap.size+1+1,4,none⟩=some (.slice A4' n4' c4'):=by rw[hU5];simp[go_sem,hc5,l4'',r4_4]
 have t4_5:U5.frozen? ⟨w.heap.size+1+1,4,none⟩=false:=by rw[hU5];simp[go_sem,hf5,l4'',t4_4]
 have q5_5:U5.cell? ⟨w.heap.size+1,5,none⟩=some (.slice none 0 0):=by rw[BU5.cell (by show w.heap.size+1<_;omega),b5.cell (by show w.heap.size+1<_;omega)];exact q5_4
 have s5_5:U5.frozen? ⟨w.heap.size+1,5,none⟩=false:=by rw[BU5.frozen (by show w.heap.size+1<_;omega),b5.frozen (by show w.heap.size+1<_;omega)];exact s5_4
 have r5_5:U5.cell? ⟨w.heap.size+1+1,5,none⟩=some (.slice A5' n5' c5'):=by rw[hU5];simp[go_sem,hc5,l4'',r5_4]
 have t5_5:U5.frozen? ⟨w.heap.size+1+1,5,none⟩=false:=by rw[hU5];simp[go_sem,hf5,l4'',t5_4]
 have t0_w:w5.frozen? ⟨w.heap.size+1+1,0,none⟩=false:=by rw[hf5 _ _ l4''];exact t0_4
 have s0_w:w5.frozen? ⟨w.heap.size+1,0,none⟩=false:=by rw[hf5 _ _ l4'];exact s0_4
 have q0_w:w5.cell? ⟨w.heap.size+1,0,none⟩=some (.int .i64 0):=by rw[hc5 _ _ l4'];exact q0_4
 have r0_w:w5.cell? ⟨w.heap.size+1+1,0,none⟩=some (.int .i64 a0):=by rw[hc5 _ _ l4''];exact r0_4
 have t1_w:w5.frozen? ⟨w.heap.size+1+1,1,none⟩=false:=by rw[hf5 _ _ l4''];exact t1_4
 have s1_w:w5.frozen? ⟨w.heap.size+1,1,none⟩=false:=by rw[hf5 _ _ l4'];exact s1_4
 have q1_w:w5.cell? ⟨w.heap.size+1,1,none⟩=some (.slice none 0 0):=by rw[hc5 _ _ l4'];exact q1_4
 have r1_w:w5.cell? ⟨w.heap.size+1+1,1,none⟩=some (.slice A1' n1' c1'):=by rw[hc5 _ _ l4''];exact r1_4
 have t2_w:w5.frozen? ⟨w.heap.size+1+1,2,none⟩=false:=by rw[hf5 _ _ l4''];exact t2_4
 have s2_w:w5.frozen? ⟨w.heap.size+1,2,none⟩=false:=by rw[hf5 _ _ l4'];exact s2_4
 have q2_w:w5.cell? ⟨w.heap.size+1,2,none⟩=some (.slice none 0 0):=by rw[hc5 _ _ l4'];exact q2_4
 have r2_w:w5.cell? ⟨w.heap.size+1+1,2,none⟩=some (.slice A2' n2' c2'):=by rw[hc5 _ _ l4''];exact r2_4
 have t3_w:w5.frozen? ⟨w.heap.size+1+1,3,none⟩=false:=by rw[hf5 _ _ l4''];exact t3_4
 have s3_w:w5.frozen? ⟨w.heap.size+1,3,none⟩=false:=by rw[hf5 _ _ l4'];exact s3_4
 have q3_w:w5.cell? ⟨w.heap.size+1,3,none⟩=some (.slice none 0 0):=by rw[hc5 _ _ l4'];exact q3_4
 have r3_w:w5.cell? ⟨w.heap.size+1+1,3,none⟩=some (.slice A3' n3' c3'):=by rw[hc5 _ _ l4''];exact r3_4
 have t4_w:w5.frozen? ⟨w.heap.size+1+1,4,none⟩=false:=by rw[hf5 _ _ l4''];exact t4_4
 have s4_w:w5.frozen? ⟨w.heap.size+1,4,none⟩=false:=by rw[hf5 _ _ l4'];exact s4_4
 have q4_w:w5.cell? ⟨w.heap.size+1,4,none⟩=some (.slice none 0 0):=by rw[hc5 _ _ l4'];exact q4_4
 have r4_w:w5.cell? ⟨w.heap.size+1+1,4,none⟩=some (.slice A4' n4' c4'):=by rw[hc5 _ _ l4''];exact r4_4
 have t5_w:w5.frozen? ⟨w.heap.size+1+1,5,none⟩=false:=by rw[hf5 _ _ l4''];exact t5_4
 have s5_w:w5.frozen? ⟨w.heap.size+1,5,none⟩=false:=by rw[hf5 _ _ l4'];exact s5_4
 have q5_w:w5.cell? ⟨w.heap.size+1,5,none⟩=some (.slice none 0 0):=by rw[hc5 _ _ l4'];exact q5_4
 have r5_w:w5.cell? ⟨w.heap.size+1+1,5,none⟩=some (.slice none 0 0):=by rw[hc5 _ _ l4''];exact r5_4
 have HU5:=Lib.hid hU5;clear hU5 e5 hc5 hf5 q0_4 s0_4 r0_4 t0_4 q1_4 s1_4 r1_4 t1_4 q2_4 s2_4 r2_4 t2_4 q3_4 s3_4 r3_4 t3_4 q4_4 s4_4 r4_4 t4_4 q5_4 s5_4 r5_4 t5_4;go_wp2;rw[<-HU5.out];clear t0_w r0_w s0_w q0_w t1_w r1_w s1_w q1_w t2_w r2_w s2_w q2_w t3_w r3_w s3_w q3_w t4_w r4_w s4_w q4_w t5_w r5_w s5_w q5_w;have mm:Mid (w.heap.size+1) (w.heap.size+1+1) U5 ((((((U5.setCell ⟨w.heap.size+1,0,none⟩ (.int .i64 a0)).setCell ⟨w.heap.size+1,1,none⟩ (.slice A1' n1' c1')).setCell ⟨w.heap.size+1,2,none⟩ (.slice A2' n2' c2')).setCell ⟨w.heap.size+1,3,none⟩ (.slice A3' n3' c3')).setCell ⟨w.heap.size+1,4,none⟩ (.slice A4' n4' c4')).setCell ⟨w.heap.size+1,5,none⟩ (.slice A5' n5' c5')):=((((((Mid.of_grown (zaz _ (w.heap.size+1) 0 _) fun k hk=>by injection hk with hk;omega).trans (Mid.of_grown (zaz _ (w.heap.size+1) 1 _) fun k hk=>by injection hk with hk;omega)).trans (Mid.of_grown (zaz _ (w.heap.size+1) 2 _) fun k hk=>by injection hk with hk;omega)).trans (Mid.of_grown (zaz _ (w.heap.size+1) 3 _) fun k hk=>by injection hk with hk;omega)).trans (Mid.of_grown (zaz _ (w.heap.size+1) 4 _) fun k hk=>by injection hk with hk;omega)).trans (Mid.of_grown (zaz _ (w.heap.size+1) 5 _) fun k hk=>by injection hk with hk;omega));refine bodyPost_ret (v:=.agg #[.int .i64 a0,.slice A1' n1' c1',.slice A2' n2' c2',.slice A3' n3' c3',.slice A4' n4' c4',.slice A5' n5' c5']) (by simp[results,Tryz.results7,go_sem,q0_5,s0_5,r0_5,q1_5,s1_5,r1_5,q2_5,s2_5,r2_5,q3_5,s3_5,r3_5,q4_5,s4_5,r4_5,q5_5,s5_5,r5_5]) rfl ?_;refine⟨A1',n1',c1',A2',n2',c2',A3',n3',c3',A4',n4',c4',A5',n5',c5',rfl,tZ_O.2 ⟨A1',n1',c1',A2',n2',c2',A3',n3',c3',A4',n4',c4',A5',n5',c5',Iv W.heap.size U1.heap.size,Iv U1.heap.size U2.heap.size,Iv U2.heap.size U3.heap.size,Iv U3.heap.size U4.heap.size,Iv U4.heap.size U5.heap.size,rfl,tSS.omid o1_5 mm (.inr (by omega)) (by omega),tTS.omid o2_5 mm (.inr (by omega)) (by omega),tS.omid o3_5 mm (.inr (by omega)) (by omega),tPS.omid o4_5 mm (.inr (by omega)) (by omega),tM.omid o5_5 mm (.inr (by omega)) (by omega),fun b h=>⟨by have:=h.1;omega,Nat.lt_of_lt_of_le (Nat.lt_of_lt_of_le h.2 (by omega)) mm.size⟩,fun b h=>⟨by have:=h.1;omega,Nat.lt_of_lt_of_le (Nat.lt_of_lt_of_le h.2 (by omega)) mm.size⟩,fun b h=>⟨by have:=h.1;omega,Nat.lt_of_lt_of_le (Nat.lt_of_lt_of_le h.2 (by omega)) mm.size⟩,fun b h=>⟨by have:=h.1;omega,Nat.lt_of_lt_of_le (Nat.lt_of_lt_of_le h.2 (by omega)) mm.size⟩,fun b h=>⟨by have:=h.1;omega,Nat.lt_of_lt_of_le (Nat.lt_of_lt_of_le h.2 (by omega)) mm.size⟩,fun b h h2=>by have:=h.2;have:=h2.1;omega,fun b h h2=>by have:=h.2;have:=h2.1;omega,fun b h h2=>by have:=h.2;have:=h2.1;omega,fun b h h2=>by have:=h.2;have:=h2.1;omega,fun b h h2=>by have:=h.2;have:=h2.1;omega,fun b h h2=>by have:=h.2;have:=h2.1;omega,fun b h h2=>by have:=h.2;have:=h2.1;omega,fun b h h2=>by have:=h.2;have:=h2.1;omega,fun b h h2=>by have:=h.2;have:=h2.1;omega,fun b h h2=>by have:=h.2;have:=h2.1;omega⟩,?_⟩;exact B5.trans ((mm.toBelow (by omega)).mono (by omega))
end Go.Proofs.YtifeldeikhmckaaGreat
