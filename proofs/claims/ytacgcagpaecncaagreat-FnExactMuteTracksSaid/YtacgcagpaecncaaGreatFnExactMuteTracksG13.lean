import Derived.Test.YtacgcagpaecncaaGreatFnExactMuteTracksG12
import Derived.Test.YtacgcagpaecncaaGreatFnExactMuteTracksG3
import Derived.Test.YtacgcagpaecncaaGreatFnExactMuteTracksG5
set_option linter.unusedVariables false
set_option linter.unusedSimpArgs false
namespace Go.Proofs.YtacgcagpaecncaaGreat
open Go.RowKit
theorem flat5_open {P : Program} {T : TypeId} {f0 f1 f2 f3 f4 : Field} {zero : Clip} {enc : Clip → List Value} {pos : 0 < 5} {henc : ∀ x, (enc x).length = 5} {h1c : ∀ x, ∀ u ∈ enc x, u.oneCell' = true}
    (hE : ∀ a b c d e, enc (a, b, c, d, e) = [.int .i64 a, .int .i64 b, .int .i64 c, .int .i64 d, .int .i64 e]) (hs : P.underlying T = some (.struct #[f0, f1, f2, f3, f4]))
    (h0 : P.underlying f0.type = some (.int .i64)) (h1 : P.underlying f1.type = some (.int .i64)) (h2 : P.underlying f2.type = some (.int .i64)) (h3 : P.underlying f3.type = some (.int .i64)) (h4 : P.underlying f4.type = some (.int .i64))
    (o0 : f0.offset = 0) (o1 : f1.offset = 1) (o2 : f2.offset = 2) (o3 : f3.offset = 3) (o4 : f4.offset = 4)
    (k0 : P.cellsOf f0.type = 1) (k1 : P.cellsOf f1.type = 1) (k2 : P.cellsOf f2.type = 1) (k3 : P.cellsOf f3.type = 1) (k4 : P.cellsOf f4.type = 1) (hC : P.cellsOf T = 5) : Opens P T (Ty.flat 5 pos zero enc henc h1c) :=
  opens_fields hs fun w cs hl {H} enc' base spare held n ys hyl hg => by
    obtain ⟨a, ha⟩ := field_at (i := 0) hyl hg rfl rfl o0 k0 (opens_int h0)
    obtain ⟨b, hb⟩ := field_at (i := 1) hyl hg rfl rfl o1 k1 (opens_int h1)
    obtain ⟨c, hc⟩ := field_at (i := 2) hyl hg rfl rfl o2 k2 (opens_int h2)
    obtain ⟨d, hd⟩ := field_at (i := 3) hyl hg rfl rfl o3 k3 (opens_int h3)
    obtain ⟨e, he⟩ := field_at (i := 4) hyl hg rfl rfl o4 k4 (opens_int h4)
    rw [hC] at hl
    match cs, hl with
    | [u0, u1, u2, u3, u4], _ =>
      refine ⟨(a, b, c, d, e), ?_⟩
      show [u0, u1, u2, u3, u4] = enc (a, b, c, d, e)
      have ha' : [u0] = [Value.int .i64 a] := ha
      have hb' : [u1] = [Value.int .i64 b] := hb
      have hc' : [u2] = [Value.int .i64 c] := hc
      have hd' : [u3] = [Value.int .i64 d] := hd
      have he' : [u4] = [Value.int .i64 e] := he
      rw [hE]
      injection ha' with e1
      injection hb' with e2
      injection hc' with e3
      injection hd' with e4
      injection he' with e5
      rw [e1, e2, e3, e4, e5]
theorem opens_T : Opens Tryz.prog 82 tT :=
  opens_struct1 Tryz.underlying82 rfl (by kernel_rfl) (opens_sl Tryz.underlying80 (by kernel_rfl) (flat5_open (fun _ _ _ _ _ => rfl) Tryz.underlying161 Tryz.underlying2 Tryz.underlying2 Tryz.underlying2 Tryz.underlying2 Tryz.underlying2 rfl rfl rfl rfl rfl (by kernel_rfl) (by kernel_rfl) (by kernel_rfl) (by kernel_rfl) (by kernel_rfl) (by kernel_rfl)))
theorem open_T {w : World} {B : Nat} {cs : List Value} {x : List Clip} (h : tT.R w B cs x) : ∃ A n c, cs = [.slice A n c] := by
  obtain ⟨v, rfl, hr⟩ := h
  obtain ⟨A, c, rfl⟩ := hr.shape
  exact ⟨_, _, _, rfl⟩
theorem tT_ra {w : World} {B : Nat} {A : Option Addr} {n c : Nat} {xs : List Clip} (h : tT.R w B [.slice A n c] xs) : RA cl 5 w B A n xs := (sl_R.1 h).flat.1
theorem tT_n {w : World} {B n c : Nat} {A : Option Addr} {xs : List Clip} (h : tT.R w B [.slice A n c] xs) : xs.length = n ∧ n ≤ c ∧ c ≤ maxLen := (sl_R.1 h).cap
theorem retT_nf {w w' : World} {r : List Clip × Int} {en : Ending} (h : RetT 133 w r en w') :
    ∃ A n c, en = .returned (.tuple #[.agg #[.slice A n c], .int .i64 r.2]) ∧ tT.O w' (Iv w.heap.size w'.heap.size) [.slice A n c] r.1 ∧ Below w.heap.size w w' := by
  obtain ⟨v, rfl, own, bel⟩ := h
  obtain ⟨A, c, rfl, _⟩ := own.shape
  exact ⟨_, _, _, rfl, sl_O.2 (OS.of_flat own), bel⟩
end Go.Proofs.YtacgcagpaecncaaGreat
namespace Go.Proofs.YtacgcagpaecncaaGreat
open Go.RowKit
theorem opens_str {P : Program} {T : TypeId} (h : P.underlying T = some .string) : Opens P T tStr := fun _ _ _ _ _ _ _ _ ht => by
  obtain ⟨s, rfl, _, hs⟩ := DataW.trod_string h ht
  exact ⟨s, rfl, hs⟩
theorem opens_SdS : Opens Tryz.prog 127 tSdS :=
  opens_sl Tryz.underlying127 (by kernel_rfl) (flat2_open (fun _ _ => rfl) Tryz.underlying177 Tryz.underlying2 Tryz.underlying2 rfl rfl (by kernel_rfl) (by kernel_rfl) (by kernel_rfl))
theorem st_open {P : Program} {T : TypeId} {f0 f1 f2 : Field} (hs : P.underlying T = some (.struct #[f0, f1, f2])) (h0 : P.underlying f0.type = some .string) (h1 : P.underlying f1.type = some (.int .i64)) (h2 : Opens P f2.type tSdS)
    (o0 : f0.offset = 0) (o1 : f1.offset = 1) (o2 : f2.offset = 2) (k0 : P.cellsOf f0.type = 1) (k1 : P.cellsOf f1.type = 1) (k2 : P.cellsOf f2.type = 1) (hC : P.cellsOf T = 3) : Opens P T tSt :=
  opens_fields hs fun w cs hl {H} enc base spare held n ys hyl hg => by
    obtain ⟨s, hs⟩ := field_at (i := 0) hyl hg rfl rfl o0 k0 (opens_str h0)
    obtain ⟨l, h1⟩ := field_at (i := 1) hyl hg rfl rfl o1 k1 (opens_int h1)
    obtain ⟨xs, h2⟩ := field_at (i := 2) hyl hg rfl rfl o2 k2 h2
    rw [hC] at hl
    match cs, hl with
    | [u0, u1, u2], _ =>
      refine ⟨(s, l, xs), st_R.2 ?_⟩
      have h0 : [u0] = [Value.string s] ∧ s.size ≤ maxLen := hs
      have h1' : [u1] = [Value.int .i64 l] := h1
      obtain ⟨A, n, c, e2⟩ := open_Sd h2
      have e2' : [u2] = [Value.slice A n c] := e2
      have h2' : tSdS.R w w.heap.size [u2] xs := h2
      injection h0.1 with e0
      injection h1' with e1
      injection e2' with e3
      subst e0 e1 e3
      exact ⟨A, n, c, rfl, h0.2, h2'⟩
theorem opens_St : Opens Tryz.prog 129 tSt :=
  st_open Tryz.underlying129 Tryz.underlying9 Tryz.underlying2 opens_SdS rfl rfl rfl (by kernel_rfl) (by kernel_rfl) (by kernel_rfl) (by kernel_rfl)
theorem opens_M : Opens Tryz.prog 28 tM :=
  opens_struct1 Tryz.underlying28 rfl (by kernel_rfl) (opens_sl Tryz.underlying26 (by kernel_rfl) opens_St)
theorem open_M {w : World} {B : Nat} {cs : List Value} {x : List Strip} (h : tM.R w B cs x) : ∃ A n c, cs = [.slice A n c] := by
  obtain ⟨v, rfl, hr⟩ := h
  obtain ⟨A, c, rfl⟩ := hr.shape
  exact ⟨_, _, _, rfl⟩
theorem ret2_nf7 {w w' : World} {r : List Int × Int} {en : Ending} (h : Ret2 2 w r en w') :
    ∃ A n c, en = .returned (.tuple #[.slice A n c, .int .i64 r.2]) ∧ tS.O w' (Iv w.heap.size w'.heap.size) [.slice A n c] r.1 ∧ Below w.heap.size w w' := by
  obtain ⟨v, rfl, own, bel⟩ := h
  obtain ⟨A, c, rfl, _⟩ := own.shape
  exact ⟨_, _, _, rfl, tS_O.2 own.os, bel⟩
end Go.Proofs.YtacgcagpaecncaaGreat
namespace Go.Proofs.YtacgcagpaecncaaGreat
open Go.RowKit
set_option maxRecDepth 100000
set_option maxHeartbeats 2000000
theorem opens_SS : Opens Tryz.prog 22 tSS := opens_sl Tryz.underlying22 (by kernel_rfl) opens_S
theorem n_open {P : Program} {T : TypeId} {f0 f1 f2 f3 : Field} (hs : P.underlying T = some (.struct #[f0, f1, f2, f3])) (h0 : P.underlying f0.type = some (.int .i64)) (h1 : P.underlying f1.type = some (.int .i64)) (h2 : P.underlying f2.type = some (.int .i64)) (h3 : Opens P f3.type tS) (o0 : f0.offset = 0) (o1 : f1.offset = 1) (o2 : f2.offset = 2) (o3 : f3.offset = 3) (k0 : P.cellsOf f0.type = 1) (k1 : P.cellsOf f1.type = 1) (k2 : P.cellsOf f2.type = 1) (k3 : P.cellsOf f3.type = 1) (hC : P.cellsOf T = 4) : Opens P T tN :=
  opens_fields hs fun w cs hl {H} enc base spare held n ys hyl hg => by
    obtain ⟨s0, g0⟩ := field_at (i := 0) hyl hg rfl rfl o0 k0 (opens_int h0)
    obtain ⟨s1, g1⟩ := field_at (i := 1) hyl hg rfl rfl o1 k1 (opens_int h1)
    obtain ⟨s2, g2⟩ := field_at (i := 2) hyl hg rfl rfl o2 k2 (opens_int h2)
    obtain ⟨s3, g3⟩ := field_at (i := 3) hyl hg rfl rfl o3 k3 h3
    rw [hC] at hl
    match cs, hl with
    | [u0, u1, u2, u3], _ =>
      refine ⟨(s0, s1, s2, s3), tN_R.2 ?_⟩
      have e0 : [u0] = [Value.int .i64 s0] := g0
      injection e0 with e0
      have e1 : [u1] = [Value.int .i64 s1] := g1
      injection e1 with e1
      have e2 : [u2] = [Value.int .i64 s2] := g2
      injection e2 with e2
      have r3 : tS.R w w.heap.size [u3] s3 := g3
      obtain ⟨A3, n3, c3, e3⟩ := open_sl r3
      injection e3 with e3
      subst e0 e1 e2 e3
      exact ⟨A3, n3, c3, rfl, r3⟩
theorem opens_Nd : Opens Tryz.prog 152 tN :=
  n_open Tryz.underlying152 Tryz.underlying2 Tryz.underlying2 Tryz.underlying2 opens_S rfl rfl rfl rfl (by kernel_rfl) (by kernel_rfl) (by kernel_rfl) (by kernel_rfl) (by kernel_rfl)
theorem opens_NdS : Opens Tryz.prog 84 tNS := opens_sl Tryz.underlying84 (by kernel_rfl) opens_Nd
theorem p_open {P : Program} {T : TypeId} {f0 f1 f2 f3 : Field} (hs : P.underlying T = some (.struct #[f0, f1, f2, f3])) (h0 : P.underlying f0.type = some (.int .i64)) (h1 : Opens P f1.type tSS) (h2 : Opens P f2.type tNS) (h3 : Opens P f3.type tS) (o0 : f0.offset = 0) (o1 : f1.offset = 1) (o2 : f2.offset = 2) (o3 : f3.offset = 3) (k0 : P.cellsOf f0.type = 1) (k1 : P.cellsOf f1.type = 1) (k2 : P.cellsOf f2.type = 1) (k3 : P.cellsOf f3.type = 1) (hC : P.cellsOf T = 4) : Opens P T tP :=
  opens_fields hs fun w cs hl {H} enc base spare held n ys hyl hg => by
    obtain ⟨s0, g0⟩ := field_at (i := 0) hyl hg rfl rfl o0 k0 (opens_int h0)
    obtain ⟨s1, g1⟩ := field_at (i := 1) hyl hg rfl rfl o1 k1 h1
    obtain ⟨s2, g2⟩ := field_at (i := 2) hyl hg rfl rfl o2 k2 h2
    obtain ⟨s3, g3⟩ := field_at (i := 3) hyl hg rfl rfl o3 k3 h3
    rw [hC] at hl
    match cs, hl with
    | [u0, u1, u2, u3], _ =>
      refine ⟨(s0, s1, s2, s3), tP_R.2 ?_⟩
      have e0 : [u0] = [Value.int .i64 s0] := g0
      injection e0 with e0
      have r1 : tSS.R w w.heap.size [u1] s1 := g1
      obtain ⟨A1, n1, c1, e1⟩ := open_sl r1
      injection e1 with e1
      have r2 : tNS.R w w.heap.size [u2] s2 := g2
      obtain ⟨A2, n2, c2, e2⟩ := open_sl r2
      injection e2 with e2
      have r3 : tS.R w w.heap.size [u3] s3 := g3
      obtain ⟨A3, n3, c3, e3⟩ := open_sl r3
      injection e3 with e3
      subst e0 e1 e2 e3
      exact ⟨A1, n1, c1, A2, n2, c2, A3, n3, c3, rfl, r1, r2, r3⟩
theorem opens_Pat : Opens Tryz.prog 86 tP :=
  p_open Tryz.underlying86 Tryz.underlying2 opens_SS opens_NdS opens_S rfl rfl rfl rfl (by kernel_rfl) (by kernel_rfl) (by kernel_rfl) (by kernel_rfl) (by kernel_rfl)
theorem opens_PatS : Opens Tryz.prog 25 tPS := opens_sl Tryz.underlying25 (by kernel_rfl) opens_Pat
theorem opens_TS : Opens Tryz.prog 23 tTS := opens_sl Tryz.underlying23 (by kernel_rfl) opens_T
theorem z_open {P : Program} {T : TypeId} {f0 f1 f2 f3 f4 f5 : Field} (hs : P.underlying T = some (.struct #[f0, f1, f2, f3, f4, f5])) (h0 : P.underlying f0.type = some (.int .i64)) (h1 : Opens P f1.type tSS) (h2 : Opens P f2.type tTS) (h3 : Opens P f3.type tS) (h4 : Opens P f4.type tPS) (h5 : Opens P f5.type tM) (o0 : f0.offset = 0) (o1 : f1.offset = 1) (o2 : f2.offset = 2) (o3 : f3.offset = 3) (o4 : f4.offset = 4) (o5 : f5.offset = 5) (k0 : P.cellsOf f0.type = 1) (k1 : P.cellsOf f1.type = 1) (k2 : P.cellsOf f2.type = 1) (k3 : P.cellsOf f3.type = 1) (k4 : P.cellsOf f4.type = 1) (k5 : P.cellsOf f5.type = 1) (hC : P.cellsOf T = 6) : Opens P T tZ :=
  opens_fields hs fun w cs hl {H} enc base spare held n ys hyl hg => by
    obtain ⟨s0, g0⟩ := field_at (i := 0) hyl hg rfl rfl o0 k0 (opens_int h0)
    obtain ⟨s1, g1⟩ := field_at (i := 1) hyl hg rfl rfl o1 k1 h1
    obtain ⟨s2, g2⟩ := field_at (i := 2) hyl hg rfl rfl o2 k2 h2
    obtain ⟨s3, g3⟩ := field_at (i := 3) hyl hg rfl rfl o3 k3 h3
    obtain ⟨s4, g4⟩ := field_at (i := 4) hyl hg rfl rfl o4 k4 h4
    obtain ⟨s5, g5⟩ := field_at (i := 5) hyl hg rfl rfl o5 k5 h5
    rw [hC] at hl
    match cs, hl with
    | [u0, u1, u2, u3, u4, u5], _ =>
      refine ⟨(s0, s1, s2, s3, s4, s5), tZ_R.2 ?_⟩
      have e0 : [u0] = [Value.int .i64 s0] := g0
      injection e0 with e0
      have r1 : tSS.R w w.heap.size [u1] s1 := g1
      obtain ⟨A1, n1, c1, e1⟩ := open_sl r1
      injection e1 with e1
      have r2 : tTS.R w w.heap.size [u2] s2 := g2
      obtain ⟨A2, n2, c2, e2⟩ := open_sl r2
      injection e2 with e2
      have r3 : tS.R w w.heap.size [u3] s3 := g3
      obtain ⟨A3, n3, c3, e3⟩ := open_sl r3
      injection e3 with e3
      have r4 : tPS.R w w.heap.size [u4] s4 := g4
      obtain ⟨A4, n4, c4, e4⟩ := open_sl r4
      injection e4 with e4
      have r5 : tM.R w w.heap.size [u5] s5 := g5
      obtain ⟨A5, n5, c5, e5⟩ := open_sl r5
      injection e5 with e5
      subst e0 e1 e2 e3 e4 e5
      exact ⟨A1, n1, c1, A2, n2, c2, A3, n3, c3, A4, n4, c4, A5, n5, c5, rfl, r1, r2, r3, r4, r5⟩
theorem opens_Ses : Opens Tryz.prog 30 tZ :=
  z_open Tryz.underlying30 Tryz.underlying2 opens_SS opens_TS opens_S opens_PatS opens_M rfl rfl rfl rfl rfl rfl (by kernel_rfl) (by kernel_rfl) (by kernel_rfl) (by kernel_rfl) (by kernel_rfl) (by kernel_rfl) (by kernel_rfl)
theorem opens_Y : Opens Tryz.prog 30 tZ := opens_Ses
theorem open_Y {w : World} {B : Nat} {cs : List Value} {x : Sess} (h : tZ.R w B cs x) : ∃ p A n c Ab nb cb Ac nc cc Ad nd cd Ae ne ce, cs = [.int .i64 p, .slice A n c, .slice Ab nb cb, .slice Ac nc cc, .slice Ad nd cd, .slice Ae ne ce] := by
  obtain ⟨a0, x1, x2, x3, x4, x5⟩ := x
  obtain ⟨A1, n1, c1, A2, n2, c2, A3, n3, c3, A4, n4, c4, A5, n5, c5, hcs, -⟩ := tZ_R.1 h
  exact ⟨_, _, _, _, _, _, _, _, _, _, _, _, _, _, _, _, hcs⟩
end Go.Proofs.YtacgcagpaecncaaGreat
