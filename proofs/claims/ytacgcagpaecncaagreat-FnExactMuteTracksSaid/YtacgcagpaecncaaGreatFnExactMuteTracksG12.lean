import Derived.Test.YtacgcagpaecncaaGreatFnExactMuteTracksG11
import Derived.Deep.DeepCutAuto
import Derived.Test.YtacgcagpaecncaaGreatFnExactMuteTracksG2
import Derived.Deep.Slices
import Derived.Deep.Fields
import Derived.ChangeSame
import Derived.Lib.SmallJoins
import Derived.Test.YtacgcagpaecncaaGreatFnExactMuteTracksG6
set_option linter.unusedVariables false
set_option linter.unusedSimpArgs false
namespace Go.Proofs.YtacgcagpaecncaaGreat
open Go.RowKit
set_option maxRecDepth 100000
set_option maxHeartbeats 4000000 in
theorem core_FnExactMuteTracks (p0 : Int) (A0 : Option Addr) (n0 : Nat) (c0 : Nat) (Ab0 : Option Addr) (nb0 : Nat) (cb0 : Nat) (Ac0 : Option Addr) (nc0 : Nat) (cc0 : Nat) (Ad0 : Option Addr) (nd0 : Nat) (cd0 : Nat) (Ae0 : Option Addr) (ne0 : Nat) (ce0 : Nat) (x0 : Sess) (A1 : Option Addr) (n1 : Nat) (c1 : Nat) (x1 : List Int) (z0 : Sess) (z1 : Int) (w : World)
    (hx0 : tZ.R w w.heap.size [.int .i64 p0, .slice A0 n0 c0, .slice Ab0 nb0 cb0, .slice Ac0 nc0 cc0, .slice Ad0 nd0 cd0, .slice Ae0 ne0 ce0] x0)
    (hx1 : tS.R w w.heap.size [.slice A1 n1 c1] x1)
    (hz0 : hZ.sz z0 ≤ 100000000) (hc0 : hZ.cnt z0 ≤ 100000000)
    (hSpec : ∀ (p0 : Int) (A0 : Option Addr) (n0 : Nat) (c0 : Nat) (Ab0 : Option Addr) (nb0 : Nat) (cb0 : Nat) (Ac0 : Option Addr) (nc0 : Nat) (cc0 : Nat) (Ad0 : Option Addr) (nd0 : Nat) (cd0 : Nat) (Ae0 : Option Addr) (ne0 : Nat) (ce0 : Nat) (A1 : Option Addr) (n1 : Nat) (c1 : Nat) (w : World), tZ.R w w.heap.size [.int .i64 p0, .slice A0 n0 c0, .slice Ab0 nb0 cb0, .slice Ac0 nc0 cc0, .slice Ad0 nd0 cd0, .slice Ae0 ne0 ce0] x0 → tS.R w w.heap.size [.slice A1 n1 c1] x1 → hZ.sz x0 ≤ 1048576 → hS.sz x1 ≤ 1048576 → Calls Tryz.prog 13 #[.agg #[.int .i64 p0, .slice A0 n0 c0, .slice Ab0 nb0 cb0, .slice Ac0 nc0 cc0, .slice Ad0 nd0 cd0, .slice Ae0 ne0 ce0], .slice A1 n1 c1] w fun e w' => ∃ pr0 Ar0 nr0 cr0 Abr0 nbr0 cbr0 Acr0 ncr0 ccr0 Adr0 ndr0 cdr0 Aer0 ner0 cer0, e = .returned (.tuple #[.agg #[.int .i64 pr0, .slice Ar0 nr0 cr0, .slice Abr0 nbr0 cbr0, .slice Acr0 ncr0 ccr0, .slice Adr0 ndr0 cdr0, .slice Aer0 ner0 cer0], .int .i64 z1]) ∧ tZ.O w' (Iv w.heap.size w'.heap.size) [.int .i64 pr0, .slice Ar0 nr0 cr0, .slice Abr0 nbr0 cbr0, .slice Acr0 ncr0 ccr0, .slice Adr0 ndr0 cdr0, .slice Aer0 ner0 cer0] z0 ∧ Below w.heap.size w w')
    (hImp : ∀ (p0 : Int) (A0 : Option Addr) (n0 : Nat) (c0 : Nat) (Ab0 : Option Addr) (nb0 : Nat) (cb0 : Nat) (Ac0 : Option Addr) (nc0 : Nat) (cc0 : Nat) (Ad0 : Option Addr) (nd0 : Nat) (cd0 : Nat) (Ae0 : Option Addr) (ne0 : Nat) (ce0 : Nat) (A1 : Option Addr) (n1 : Nat) (c1 : Nat) (w : World), tZ.R w w.heap.size [.int .i64 p0, .slice A0 n0 c0, .slice Ab0 nb0 cb0, .slice Ac0 nc0 cc0, .slice Ad0 nd0 cd0, .slice Ae0 ne0 ce0] x0 → tS.R w w.heap.size [.slice A1 n1 c1] x1 → hZ.sz x0 ≤ 1048576 → hS.sz x1 ≤ 1048576 → Calls Tryz.prog 15 #[.agg #[.int .i64 p0, .slice A0 n0 c0, .slice Ab0 nb0 cb0, .slice Ac0 nc0 cc0, .slice Ad0 nd0 cd0, .slice Ae0 ne0 ce0], .slice A1 n1 c1] w fun e w' => ∃ pr0 Ar0 nr0 cr0 Abr0 nbr0 cbr0 Acr0 ncr0 ccr0 Adr0 ndr0 cdr0 Aer0 ner0 cer0, e = .returned (.tuple #[.agg #[.int .i64 pr0, .slice Ar0 nr0 cr0, .slice Abr0 nbr0 cbr0, .slice Acr0 ncr0 ccr0, .slice Adr0 ndr0 cdr0, .slice Aer0 ner0 cer0], .int .i64 z1]) ∧ tZ.O w' (Iv w.heap.size w'.heap.size) [.int .i64 pr0, .slice Ar0 nr0 cr0, .slice Abr0 nbr0 cbr0, .slice Acr0 ncr0 ccr0, .slice Adr0 ndr0 cdr0, .slice Aer0 ner0 cer0] z0 ∧ Below w.heap.size w w') :
    Calls Tryz.prog 5 #[.agg #[.int .i64 p0, .slice A0 n0 c0, .slice Ab0 nb0 cb0, .slice Ac0 nc0 cc0, .slice Ad0 nd0 cd0, .slice Ae0 ne0 ce0], .slice A1 n1 c1] w fun e w' => e = .returned (.bool true) ∧ Below w.heap.size w w' := by
  have HS := Lib.hid hSpec
  have HI := Lib.hid hImp
  clear hSpec hImp
  have B : Below w.heap.size w (w.alloc (.cells #[.int .i64 p0, .slice A0 n0 c0, .slice Ab0 nb0 cb0, .slice Ac0 nc0 cc0, .slice Ad0 nd0 cd0, .slice Ae0 ne0 ce0] 30)) := ((Below.refl _ _).alloc (by exact Nat.le_refl _) _)
  have hsize : (w.alloc (.cells #[.int .i64 p0, .slice A0 n0 c0, .slice Ab0 nb0 cb0, .slice Ac0 nc0 cc0, .slice Ad0 nd0 cd0, .slice Ae0 ne0 ce0] 30)).heap.size = w.heap.size + 1 := by simp
  have pb0_0 : (w.alloc (.cells #[.int .i64 p0, .slice A0 n0 c0, .slice Ab0 nb0 cb0, .slice Ac0 nc0 cc0, .slice Ad0 nd0 cd0, .slice Ae0 ne0 ce0] 30)).cell? ⟨w.heap.size, 0, none⟩ = some (.int .i64 p0) := by simp [go_sem]
  have pb0_1 : (w.alloc (.cells #[.int .i64 p0, .slice A0 n0 c0, .slice Ab0 nb0 cb0, .slice Ac0 nc0 cc0, .slice Ad0 nd0 cd0, .slice Ae0 ne0 ce0] 30)).cell? ⟨w.heap.size, 1, none⟩ = some (.slice A0 n0 c0) := by simp [go_sem]
  have pb0_2 : (w.alloc (.cells #[.int .i64 p0, .slice A0 n0 c0, .slice Ab0 nb0 cb0, .slice Ac0 nc0 cc0, .slice Ad0 nd0 cd0, .slice Ae0 ne0 ce0] 30)).cell? ⟨w.heap.size, 2, none⟩ = some (.slice Ab0 nb0 cb0) := by simp [go_sem]
  have pb0_3 : (w.alloc (.cells #[.int .i64 p0, .slice A0 n0 c0, .slice Ab0 nb0 cb0, .slice Ac0 nc0 cc0, .slice Ad0 nd0 cd0, .slice Ae0 ne0 ce0] 30)).cell? ⟨w.heap.size, 3, none⟩ = some (.slice Ac0 nc0 cc0) := by simp [go_sem]
  have pb0_4 : (w.alloc (.cells #[.int .i64 p0, .slice A0 n0 c0, .slice Ab0 nb0 cb0, .slice Ac0 nc0 cc0, .slice Ad0 nd0 cd0, .slice Ae0 ne0 ce0] 30)).cell? ⟨w.heap.size, 4, none⟩ = some (.slice Ad0 nd0 cd0) := by simp [go_sem]
  have pb0_5 : (w.alloc (.cells #[.int .i64 p0, .slice A0 n0 c0, .slice Ab0 nb0 cb0, .slice Ac0 nc0 cc0, .slice Ad0 nd0 cd0, .slice Ae0 ne0 ce0] 30)).cell? ⟨w.heap.size, 5, none⟩ = some (.slice Ae0 ne0 ce0) := by simp [go_sem]
  have hn1 := Lib.hid (tS_len hx1)
  by_cases hb1 : 1048576 < n1
  · go_enter Tryz.func5, Tryz.ntmps5
    go_wp2_with fail
    go_ret
    exact ⟨rfl, B⟩
  have left : ∀ (s : Nat) (l : Int), (s : Int) ≤ l → (if (s : Int) ≤ l then l - (s : Int) else -1) = l - (s : Int) := fun s l h => if_pos h
  have less : ∀ (s : Nat) (l : Int), ¬ (s : Int) ≤ l → (if (s : Int) ≤ l then l - (s : Int) else -1) = -1 := fun s l h => if_neg h
  have LEFT := Lib.hid left
  have LESS := Lib.hid less
  clear left less
  by_cases hb0 : (1048576 : Int) < (hZ.sz x0 : Int)
  · go_enter Tryz.func5, Tryz.ntmps5
    go_wp2_with fail
    refine (nf_sz_Y _ _ _ _ _ _ _ _ _ _ _ _ _ _ _ _ _ ((1048576 : Int)) _ (tZ.later hx0 B) (by omega)).mono ?_
    rw [LESS.out _ _ (by omega)]
    rintro e y0 ⟨rfl, b0⟩
    replace B := bel_trans B b0
    go_wp2_with fail
    go_ret
    exact ⟨rfl, B⟩
  have hw0 : hZ.sz x0 ≤ 1048576 := by omega
  have hw1 : hS.sz x1 ≤ 1048576 := by rw [hS_sz, hn1.out]; omega
  have hd0 : decide ((1048576 : Int) - (hZ.sz x0 : Int) < 0) = false := by simp only [decide_eq_false_iff_not]; omega
  clear hsize
  go_enter Tryz.func5, Tryz.ntmps5
  go_wp2_with fail
  refine (nf_sz_Y _ _ _ _ _ _ _ _ _ _ _ _ _ _ _ _ _ ((1048576 : Int)) _ (tZ.later hx0 B) (by omega)).mono ?_
  rw [LEFT.out _ _ (by omega)]
  rintro e y0 ⟨rfl, b0⟩
  have zy0 : w.heap.size + 1 ≤ y0.heap.size := by have := b0.size; simpa using this
  replace pb0_0 : y0.cell? ⟨w.heap.size, 0, none⟩ = some (.int .i64 p0) := by rw [b0.cell (by first | omega | (simp; done) | (simp; omega))]; exact pb0_0
  replace pb0_1 : y0.cell? ⟨w.heap.size, 1, none⟩ = some (.slice A0 n0 c0) := by rw [b0.cell (by first | omega | (simp; done) | (simp; omega))]; exact pb0_1
  replace pb0_2 : y0.cell? ⟨w.heap.size, 2, none⟩ = some (.slice Ab0 nb0 cb0) := by rw [b0.cell (by first | omega | (simp; done) | (simp; omega))]; exact pb0_2
  replace pb0_3 : y0.cell? ⟨w.heap.size, 3, none⟩ = some (.slice Ac0 nc0 cc0) := by rw [b0.cell (by first | omega | (simp; done) | (simp; omega))]; exact pb0_3
  replace pb0_4 : y0.cell? ⟨w.heap.size, 4, none⟩ = some (.slice Ad0 nd0 cd0) := by rw [b0.cell (by first | omega | (simp; done) | (simp; omega))]; exact pb0_4
  replace pb0_5 : y0.cell? ⟨w.heap.size, 5, none⟩ = some (.slice Ae0 ne0 ce0) := by rw [b0.cell (by first | omega | (simp; done) | (simp; omega))]; exact pb0_5
  replace B := bel_trans B b0
  clear b0
  have lt0 : w.heap.size < y0.heap.size := by omega
  clear LEFT LESS
  go_wp2_with fail
  refine (nf_to_Y _ _ _ _ _ _ _ _ _ _ _ _ _ _ _ _ _ _ (tZ.later hx0 B) (by omega)).mono ?_
  rintro e u1 ⟨ps0, As0, ns0, cs0, Abs0, nbs0, cbs0, Acs0, ncs0, ccs0, Ads0, nds0, cds0, Aes0, nes0, ces0, rfl, s0, bb⟩
  have G := bb
  have zu1 : y0.heap.size ≤ u1.heap.size := by have := bb.size; simpa using this
  replace pb0_0 : u1.cell? ⟨w.heap.size, 0, none⟩ = some (.int .i64 p0) := by rw [G.cell (by first | omega | (simp; done) | (simp; omega))]; exact pb0_0
  replace pb0_1 : u1.cell? ⟨w.heap.size, 1, none⟩ = some (.slice A0 n0 c0) := by rw [G.cell (by first | omega | (simp; done) | (simp; omega))]; exact pb0_1
  replace pb0_2 : u1.cell? ⟨w.heap.size, 2, none⟩ = some (.slice Ab0 nb0 cb0) := by rw [G.cell (by first | omega | (simp; done) | (simp; omega))]; exact pb0_2
  replace pb0_3 : u1.cell? ⟨w.heap.size, 3, none⟩ = some (.slice Ac0 nc0 cc0) := by rw [G.cell (by first | omega | (simp; done) | (simp; omega))]; exact pb0_3
  replace pb0_4 : u1.cell? ⟨w.heap.size, 4, none⟩ = some (.slice Ad0 nd0 cd0) := by rw [G.cell (by first | omega | (simp; done) | (simp; omega))]; exact pb0_4
  replace pb0_5 : u1.cell? ⟨w.heap.size, 5, none⟩ = some (.slice Ae0 ne0 ce0) := by rw [G.cell (by first | omega | (simp; done) | (simp; omega))]; exact pb0_5
  replace s0 : tZ.O u1 (Iv (y0.heap.size) u1.heap.size) [.int .i64 ps0, .slice As0 ns0 cs0, .slice Abs0 nbs0 cbs0, .slice Acs0 ncs0 ccs0, .slice Ads0 nds0 cds0, .slice Aes0 nes0 ces0] x0 := tZ.oiv s0 (by simp) (Nat.le_refl _)
  replace B := bel_trans B G
  clear G bb
  replace lt0 : w.heap.size < u1.heap.size := by omega
  go_wp2_with fail
  refine (nf_to_S _ _ _ _ _ (tS.later hx1 B) (by omega)).mono ?_
  rintro e u2 ⟨As1, ns1, cs1, rfl, s1, bb⟩
  have G := bb
  have zu2 : u1.heap.size ≤ u2.heap.size := by have := bb.size; simpa using this
  replace pb0_0 : u2.cell? ⟨w.heap.size, 0, none⟩ = some (.int .i64 p0) := by rw [G.cell (by first | omega | (simp; done) | (simp; omega))]; exact pb0_0
  replace pb0_1 : u2.cell? ⟨w.heap.size, 1, none⟩ = some (.slice A0 n0 c0) := by rw [G.cell (by first | omega | (simp; done) | (simp; omega))]; exact pb0_1
  replace pb0_2 : u2.cell? ⟨w.heap.size, 2, none⟩ = some (.slice Ab0 nb0 cb0) := by rw [G.cell (by first | omega | (simp; done) | (simp; omega))]; exact pb0_2
  replace pb0_3 : u2.cell? ⟨w.heap.size, 3, none⟩ = some (.slice Ac0 nc0 cc0) := by rw [G.cell (by first | omega | (simp; done) | (simp; omega))]; exact pb0_3
  replace pb0_4 : u2.cell? ⟨w.heap.size, 4, none⟩ = some (.slice Ad0 nd0 cd0) := by rw [G.cell (by first | omega | (simp; done) | (simp; omega))]; exact pb0_4
  replace pb0_5 : u2.cell? ⟨w.heap.size, 5, none⟩ = some (.slice Ae0 ne0 ce0) := by rw [G.cell (by first | omega | (simp; done) | (simp; omega))]; exact pb0_5
  replace s0 := tZ.obelow s0 G (by omega)
  replace s1 : tS.O u2 (Iv (u1.heap.size) u2.heap.size) [.slice As1 ns1 cs1] x1 := tS.oiv s1 (by simp) (Nat.le_refl _)
  replace B := bel_trans B G
  clear G bb
  replace lt0 : w.heap.size < u2.heap.size := by omega
  go_wp2_with fail
  refine (HS.out _ _ _ _ _ _ _ _ _ _ _ _ _ _ _ _ _ _ _ _ (tZ.read s0) (tS.read s1) hw0 hw1).mono ?_
  rintro e u3 ⟨pw0, Aw0, nw0, cw0, Abw0, nbw0, cbw0, Acw0, ncw0, ccw0, Adw0, ndw0, cdw0, Aew0, new0, cew0, rfl, w0, bb⟩
  have G := bb
  have zu3 : u2.heap.size ≤ u3.heap.size := by have := bb.size; simpa using this
  replace pb0_0 : u3.cell? ⟨w.heap.size, 0, none⟩ = some (.int .i64 p0) := by rw [G.cell (by first | omega | (simp; done) | (simp; omega))]; exact pb0_0
  replace pb0_1 : u3.cell? ⟨w.heap.size, 1, none⟩ = some (.slice A0 n0 c0) := by rw [G.cell (by first | omega | (simp; done) | (simp; omega))]; exact pb0_1
  replace pb0_2 : u3.cell? ⟨w.heap.size, 2, none⟩ = some (.slice Ab0 nb0 cb0) := by rw [G.cell (by first | omega | (simp; done) | (simp; omega))]; exact pb0_2
  replace pb0_3 : u3.cell? ⟨w.heap.size, 3, none⟩ = some (.slice Ac0 nc0 cc0) := by rw [G.cell (by first | omega | (simp; done) | (simp; omega))]; exact pb0_3
  replace pb0_4 : u3.cell? ⟨w.heap.size, 4, none⟩ = some (.slice Ad0 nd0 cd0) := by rw [G.cell (by first | omega | (simp; done) | (simp; omega))]; exact pb0_4
  replace pb0_5 : u3.cell? ⟨w.heap.size, 5, none⟩ = some (.slice Ae0 ne0 ce0) := by rw [G.cell (by first | omega | (simp; done) | (simp; omega))]; exact pb0_5
  replace s0 := tZ.obelow s0 G (by omega)
  replace s1 := tS.obelow s1 G (by omega)
  replace w0 : tZ.O u3 (Iv (u2.heap.size) u3.heap.size) [.int .i64 pw0, .slice Aw0 nw0 cw0, .slice Abw0 nbw0 cbw0, .slice Acw0 ncw0 ccw0, .slice Adw0 ndw0 cdw0, .slice Aew0 new0 cew0] z0 := tZ.oiv w0 (by simp) (Nat.le_refl _)
  replace B := bel_trans B G
  clear G bb
  replace lt0 : w.heap.size < u3.heap.size := by omega
  clear s0
  clear s1
  have G0 : Below u3.heap.size u3 (u3.alloc (.cells #[.int .i64 pw0, .slice Aw0 nw0 cw0, .slice Abw0 nbw0 cbw0, .slice Acw0 ncw0 ccw0, .slice Adw0 ndw0 cdw0, .slice Aew0 new0 cew0] 39)) := (Below.refl _ _).alloc (Nat.le_refl _) _
  go_wp2_with fail
  refine (nf_to_Y _ _ _ _ _ _ _ _ _ _ _ _ _ _ _ _ _ _ (tZ.later hx0 (bel_trans B G0)) (by omega)).mono ?_
  rintro e u4 ⟨px0o, Ax0o, nx0o, cx0o, Abx0o, nbx0o, cbx0o, Acx0o, ncx0o, ccx0o, Adx0o, ndx0o, cdx0o, Aex0o, nex0o, cex0o, rfl, x0o, bb⟩
  have G := bel_trans G0 bb
  have zu4 : u3.heap.size + 1 ≤ u4.heap.size := by have := bb.size; simp at this; omega
  replace pb0_0 : u4.cell? ⟨w.heap.size, 0, none⟩ = some (.int .i64 p0) := by rw [G.cell (by first | omega | (simp; done) | (simp; omega))]; exact pb0_0
  replace pb0_1 : u4.cell? ⟨w.heap.size, 1, none⟩ = some (.slice A0 n0 c0) := by rw [G.cell (by first | omega | (simp; done) | (simp; omega))]; exact pb0_1
  replace pb0_2 : u4.cell? ⟨w.heap.size, 2, none⟩ = some (.slice Ab0 nb0 cb0) := by rw [G.cell (by first | omega | (simp; done) | (simp; omega))]; exact pb0_2
  replace pb0_3 : u4.cell? ⟨w.heap.size, 3, none⟩ = some (.slice Ac0 nc0 cc0) := by rw [G.cell (by first | omega | (simp; done) | (simp; omega))]; exact pb0_3
  replace pb0_4 : u4.cell? ⟨w.heap.size, 4, none⟩ = some (.slice Ad0 nd0 cd0) := by rw [G.cell (by first | omega | (simp; done) | (simp; omega))]; exact pb0_4
  replace pb0_5 : u4.cell? ⟨w.heap.size, 5, none⟩ = some (.slice Ae0 ne0 ce0) := by rw [G.cell (by first | omega | (simp; done) | (simp; omega))]; exact pb0_5
  replace w0 := tZ.obelow w0 G (by omega)
  have wb0_0 : u4.cell? ⟨u3.heap.size, 0, none⟩ = some (.int .i64 pw0) := by rw [bb.cell (by simp)]; simp [go_sem]
  have wb0_1 : u4.cell? ⟨u3.heap.size, 1, none⟩ = some (.slice Aw0 nw0 cw0) := by rw [bb.cell (by simp)]; simp [go_sem]
  have wb0_2 : u4.cell? ⟨u3.heap.size, 2, none⟩ = some (.slice Abw0 nbw0 cbw0) := by rw [bb.cell (by simp)]; simp [go_sem]
  have wb0_3 : u4.cell? ⟨u3.heap.size, 3, none⟩ = some (.slice Acw0 ncw0 ccw0) := by rw [bb.cell (by simp)]; simp [go_sem]
  have wb0_4 : u4.cell? ⟨u3.heap.size, 4, none⟩ = some (.slice Adw0 ndw0 cdw0) := by rw [bb.cell (by simp)]; simp [go_sem]
  have wb0_5 : u4.cell? ⟨u3.heap.size, 5, none⟩ = some (.slice Aew0 new0 cew0) := by rw [bb.cell (by simp)]; simp [go_sem]
  replace x0o : tZ.O u4 (Iv (u3.heap.size + 1) u4.heap.size) [.int .i64 px0o, .slice Ax0o nx0o cx0o, .slice Abx0o nbx0o cbx0o, .slice Acx0o ncx0o ccx0o, .slice Adx0o ndx0o cdx0o, .slice Aex0o nex0o cex0o] x0 := tZ.oiv x0o (by simp) (Nat.le_refl _)
  replace B := bel_trans B G
  clear G bb G0
  replace lt0 : w.heap.size < u4.heap.size := by omega
  have lt1 : u3.heap.size < u4.heap.size := by omega
  have G0 : Below u4.heap.size u4 (u4.alloc (.cells #[.int .i64 px0o, .slice Ax0o nx0o cx0o, .slice Abx0o nbx0o cbx0o, .slice Acx0o ncx0o ccx0o, .slice Adx0o ndx0o cdx0o, .slice Aex0o nex0o cex0o] 39)) := (Below.refl _ _).alloc (Nat.le_refl _) _
  go_wp2_with fail
  refine (nf_to_S _ _ _ _ _ (tS.later hx1 (bel_trans B G0)) (by omega)).mono ?_
  rintro e u5 ⟨Ax1o, nx1o, cx1o, rfl, x1o, bb⟩
  have G := bel_trans G0 bb
  have zu5 : u4.heap.size + 1 ≤ u5.heap.size := by have := bb.size; simp at this; omega
  replace pb0_0 : u5.cell? ⟨w.heap.size, 0, none⟩ = some (.int .i64 p0) := by rw [G.cell (by first | omega | (simp; done) | (simp; omega))]; exact pb0_0
  replace pb0_1 : u5.cell? ⟨w.heap.size, 1, none⟩ = some (.slice A0 n0 c0) := by rw [G.cell (by first | omega | (simp; done) | (simp; omega))]; exact pb0_1
  replace pb0_2 : u5.cell? ⟨w.heap.size, 2, none⟩ = some (.slice Ab0 nb0 cb0) := by rw [G.cell (by first | omega | (simp; done) | (simp; omega))]; exact pb0_2
  replace pb0_3 : u5.cell? ⟨w.heap.size, 3, none⟩ = some (.slice Ac0 nc0 cc0) := by rw [G.cell (by first | omega | (simp; done) | (simp; omega))]; exact pb0_3
  replace pb0_4 : u5.cell? ⟨w.heap.size, 4, none⟩ = some (.slice Ad0 nd0 cd0) := by rw [G.cell (by first | omega | (simp; done) | (simp; omega))]; exact pb0_4
  replace pb0_5 : u5.cell? ⟨w.heap.size, 5, none⟩ = some (.slice Ae0 ne0 ce0) := by rw [G.cell (by first | omega | (simp; done) | (simp; omega))]; exact pb0_5
  replace wb0_0 : u5.cell? ⟨u3.heap.size, 0, none⟩ = some (.int .i64 pw0) := by rw [G.cell (by first | omega | (simp; done) | (simp; omega))]; exact wb0_0
  replace wb0_1 : u5.cell? ⟨u3.heap.size, 1, none⟩ = some (.slice Aw0 nw0 cw0) := by rw [G.cell (by first | omega | (simp; done) | (simp; omega))]; exact wb0_1
  replace wb0_2 : u5.cell? ⟨u3.heap.size, 2, none⟩ = some (.slice Abw0 nbw0 cbw0) := by rw [G.cell (by first | omega | (simp; done) | (simp; omega))]; exact wb0_2
  replace wb0_3 : u5.cell? ⟨u3.heap.size, 3, none⟩ = some (.slice Acw0 ncw0 ccw0) := by rw [G.cell (by first | omega | (simp; done) | (simp; omega))]; exact wb0_3
  replace wb0_4 : u5.cell? ⟨u3.heap.size, 4, none⟩ = some (.slice Adw0 ndw0 cdw0) := by rw [G.cell (by first | omega | (simp; done) | (simp; omega))]; exact wb0_4
  replace wb0_5 : u5.cell? ⟨u3.heap.size, 5, none⟩ = some (.slice Aew0 new0 cew0) := by rw [G.cell (by first | omega | (simp; done) | (simp; omega))]; exact wb0_5
  replace w0 := tZ.obelow w0 G (by omega)
  replace x0o := tZ.obelow x0o G (by omega)
  have xb0_0 : u5.cell? ⟨u4.heap.size, 0, none⟩ = some (.int .i64 px0o) := by rw [bb.cell (by simp)]; simp [go_sem]
  have xb0_1 : u5.cell? ⟨u4.heap.size, 1, none⟩ = some (.slice Ax0o nx0o cx0o) := by rw [bb.cell (by simp)]; simp [go_sem]
  have xb0_2 : u5.cell? ⟨u4.heap.size, 2, none⟩ = some (.slice Abx0o nbx0o cbx0o) := by rw [bb.cell (by simp)]; simp [go_sem]
  have xb0_3 : u5.cell? ⟨u4.heap.size, 3, none⟩ = some (.slice Acx0o ncx0o ccx0o) := by rw [bb.cell (by simp)]; simp [go_sem]
  have xb0_4 : u5.cell? ⟨u4.heap.size, 4, none⟩ = some (.slice Adx0o ndx0o cdx0o) := by rw [bb.cell (by simp)]; simp [go_sem]
  have xb0_5 : u5.cell? ⟨u4.heap.size, 5, none⟩ = some (.slice Aex0o nex0o cex0o) := by rw [bb.cell (by simp)]; simp [go_sem]
  replace x1o : tS.O u5 (Iv (u4.heap.size + 1) u5.heap.size) [.slice Ax1o nx1o cx1o] x1 := tS.oiv x1o (by simp) (Nat.le_refl _)
  replace B := bel_trans B G
  clear G bb G0
  replace lt0 : w.heap.size < u5.heap.size := by omega
  replace lt1 : u3.heap.size < u5.heap.size := by omega
  have lt2 : u4.heap.size < u5.heap.size := by omega
  go_wp2_with fail
  refine (HI.out _ _ _ _ _ _ _ _ _ _ _ _ _ _ _ _ _ _ _ _ (tZ.read x0o) (tS.read x1o) hw0 hw1).mono ?_
  rintro e u6 ⟨pg0, Ag0, ng0, cg0, Abg0, nbg0, cbg0, Acg0, ncg0, ccg0, Adg0, ndg0, cdg0, Aeg0, neg0, ceg0, rfl, g0, bb⟩
  have G := bb
  have zu6 : u5.heap.size ≤ u6.heap.size := by have := bb.size; simpa using this
  replace pb0_0 : u6.cell? ⟨w.heap.size, 0, none⟩ = some (.int .i64 p0) := by rw [G.cell (by first | omega | (simp; done) | (simp; omega))]; exact pb0_0
  replace pb0_1 : u6.cell? ⟨w.heap.size, 1, none⟩ = some (.slice A0 n0 c0) := by rw [G.cell (by first | omega | (simp; done) | (simp; omega))]; exact pb0_1
  replace pb0_2 : u6.cell? ⟨w.heap.size, 2, none⟩ = some (.slice Ab0 nb0 cb0) := by rw [G.cell (by first | omega | (simp; done) | (simp; omega))]; exact pb0_2
  replace pb0_3 : u6.cell? ⟨w.heap.size, 3, none⟩ = some (.slice Ac0 nc0 cc0) := by rw [G.cell (by first | omega | (simp; done) | (simp; omega))]; exact pb0_3
  replace pb0_4 : u6.cell? ⟨w.heap.size, 4, none⟩ = some (.slice Ad0 nd0 cd0) := by rw [G.cell (by first | omega | (simp; done) | (simp; omega))]; exact pb0_4
  replace pb0_5 : u6.cell? ⟨w.heap.size, 5, none⟩ = some (.slice Ae0 ne0 ce0) := by rw [G.cell (by first | omega | (simp; done) | (simp; omega))]; exact pb0_5
  replace wb0_0 : u6.cell? ⟨u3.heap.size, 0, none⟩ = some (.int .i64 pw0) := by rw [G.cell (by first | omega | (simp; done) | (simp; omega))]; exact wb0_0
  replace wb0_1 : u6.cell? ⟨u3.heap.size, 1, none⟩ = some (.slice Aw0 nw0 cw0) := by rw [G.cell (by first | omega | (simp; done) | (simp; omega))]; exact wb0_1
  replace wb0_2 : u6.cell? ⟨u3.heap.size, 2, none⟩ = some (.slice Abw0 nbw0 cbw0) := by rw [G.cell (by first | omega | (simp; done) | (simp; omega))]; exact wb0_2
  replace wb0_3 : u6.cell? ⟨u3.heap.size, 3, none⟩ = some (.slice Acw0 ncw0 ccw0) := by rw [G.cell (by first | omega | (simp; done) | (simp; omega))]; exact wb0_3
  replace wb0_4 : u6.cell? ⟨u3.heap.size, 4, none⟩ = some (.slice Adw0 ndw0 cdw0) := by rw [G.cell (by first | omega | (simp; done) | (simp; omega))]; exact wb0_4
  replace wb0_5 : u6.cell? ⟨u3.heap.size, 5, none⟩ = some (.slice Aew0 new0 cew0) := by rw [G.cell (by first | omega | (simp; done) | (simp; omega))]; exact wb0_5
  replace xb0_0 : u6.cell? ⟨u4.heap.size, 0, none⟩ = some (.int .i64 px0o) := by rw [G.cell (by first | omega | (simp; done) | (simp; omega))]; exact xb0_0
  replace xb0_1 : u6.cell? ⟨u4.heap.size, 1, none⟩ = some (.slice Ax0o nx0o cx0o) := by rw [G.cell (by first | omega | (simp; done) | (simp; omega))]; exact xb0_1
  replace xb0_2 : u6.cell? ⟨u4.heap.size, 2, none⟩ = some (.slice Abx0o nbx0o cbx0o) := by rw [G.cell (by first | omega | (simp; done) | (simp; omega))]; exact xb0_2
  replace xb0_3 : u6.cell? ⟨u4.heap.size, 3, none⟩ = some (.slice Acx0o ncx0o ccx0o) := by rw [G.cell (by first | omega | (simp; done) | (simp; omega))]; exact xb0_3
  replace xb0_4 : u6.cell? ⟨u4.heap.size, 4, none⟩ = some (.slice Adx0o ndx0o cdx0o) := by rw [G.cell (by first | omega | (simp; done) | (simp; omega))]; exact xb0_4
  replace xb0_5 : u6.cell? ⟨u4.heap.size, 5, none⟩ = some (.slice Aex0o nex0o cex0o) := by rw [G.cell (by first | omega | (simp; done) | (simp; omega))]; exact xb0_5
  replace w0 := tZ.obelow w0 G (by omega)
  replace x0o := tZ.obelow x0o G (by omega)
  replace x1o := tS.obelow x1o G (by omega)
  replace g0 : tZ.O u6 (Iv (u5.heap.size) u6.heap.size) [.int .i64 pg0, .slice Ag0 ng0 cg0, .slice Abg0 nbg0 cbg0, .slice Acg0 ncg0 ccg0, .slice Adg0 ndg0 cdg0, .slice Aeg0 neg0 ceg0] z0 := tZ.oiv g0 (by simp) (Nat.le_refl _)
  replace B := bel_trans B G
  clear G bb
  replace lt0 : w.heap.size < u6.heap.size := by omega
  replace lt1 : u3.heap.size < u6.heap.size := by omega
  replace lt2 : u4.heap.size < u6.heap.size := by omega
  have G0 : Below u6.heap.size u6 (u6.alloc (.cells #[.int .i64 pg0, .slice Ag0 ng0 cg0, .slice Abg0 nbg0 cbg0, .slice Acg0 ncg0 ccg0, .slice Adg0 ndg0 cdg0, .slice Aeg0 neg0 ceg0] 39)) := (Below.refl _ _).alloc (Nat.le_refl _) _
  go_wp2_with fail
  refine (nf_eq_Y _ _ _ _ _ _ _ _ _ _ _ _ _ _ _ _ _ _ _ _ _ _ _ _ _ _ _ _ _ _ _ _ _ _ (tZ.later (tZ.read g0) G0) (tZ.later (tZ.read w0) G0) (by omega)).mono ?_
  rintro e u7 ⟨rfl, bb⟩
  have G := bel_trans G0 bb
  have zu7 : u6.heap.size + 1 ≤ u7.heap.size := by have := bb.size; simp at this; omega
  replace pb0_0 : u7.cell? ⟨w.heap.size, 0, none⟩ = some (.int .i64 p0) := by rw [G.cell (by first | omega | (simp; done) | (simp; omega))]; exact pb0_0
  replace pb0_1 : u7.cell? ⟨w.heap.size, 1, none⟩ = some (.slice A0 n0 c0) := by rw [G.cell (by first | omega | (simp; done) | (simp; omega))]; exact pb0_1
  replace pb0_2 : u7.cell? ⟨w.heap.size, 2, none⟩ = some (.slice Ab0 nb0 cb0) := by rw [G.cell (by first | omega | (simp; done) | (simp; omega))]; exact pb0_2
  replace pb0_3 : u7.cell? ⟨w.heap.size, 3, none⟩ = some (.slice Ac0 nc0 cc0) := by rw [G.cell (by first | omega | (simp; done) | (simp; omega))]; exact pb0_3
  replace pb0_4 : u7.cell? ⟨w.heap.size, 4, none⟩ = some (.slice Ad0 nd0 cd0) := by rw [G.cell (by first | omega | (simp; done) | (simp; omega))]; exact pb0_4
  replace pb0_5 : u7.cell? ⟨w.heap.size, 5, none⟩ = some (.slice Ae0 ne0 ce0) := by rw [G.cell (by first | omega | (simp; done) | (simp; omega))]; exact pb0_5
  replace wb0_0 : u7.cell? ⟨u3.heap.size, 0, none⟩ = some (.int .i64 pw0) := by rw [G.cell (by first | omega | (simp; done) | (simp; omega))]; exact wb0_0
  replace wb0_1 : u7.cell? ⟨u3.heap.size, 1, none⟩ = some (.slice Aw0 nw0 cw0) := by rw [G.cell (by first | omega | (simp; done) | (simp; omega))]; exact wb0_1
  replace wb0_2 : u7.cell? ⟨u3.heap.size, 2, none⟩ = some (.slice Abw0 nbw0 cbw0) := by rw [G.cell (by first | omega | (simp; done) | (simp; omega))]; exact wb0_2
  replace wb0_3 : u7.cell? ⟨u3.heap.size, 3, none⟩ = some (.slice Acw0 ncw0 ccw0) := by rw [G.cell (by first | omega | (simp; done) | (simp; omega))]; exact wb0_3
  replace wb0_4 : u7.cell? ⟨u3.heap.size, 4, none⟩ = some (.slice Adw0 ndw0 cdw0) := by rw [G.cell (by first | omega | (simp; done) | (simp; omega))]; exact wb0_4
  replace wb0_5 : u7.cell? ⟨u3.heap.size, 5, none⟩ = some (.slice Aew0 new0 cew0) := by rw [G.cell (by first | omega | (simp; done) | (simp; omega))]; exact wb0_5
  replace xb0_0 : u7.cell? ⟨u4.heap.size, 0, none⟩ = some (.int .i64 px0o) := by rw [G.cell (by first | omega | (simp; done) | (simp; omega))]; exact xb0_0
  replace xb0_1 : u7.cell? ⟨u4.heap.size, 1, none⟩ = some (.slice Ax0o nx0o cx0o) := by rw [G.cell (by first | omega | (simp; done) | (simp; omega))]; exact xb0_1
  replace xb0_2 : u7.cell? ⟨u4.heap.size, 2, none⟩ = some (.slice Abx0o nbx0o cbx0o) := by rw [G.cell (by first | omega | (simp; done) | (simp; omega))]; exact xb0_2
  replace xb0_3 : u7.cell? ⟨u4.heap.size, 3, none⟩ = some (.slice Acx0o ncx0o ccx0o) := by rw [G.cell (by first | omega | (simp; done) | (simp; omega))]; exact xb0_3
  replace xb0_4 : u7.cell? ⟨u4.heap.size, 4, none⟩ = some (.slice Adx0o ndx0o cdx0o) := by rw [G.cell (by first | omega | (simp; done) | (simp; omega))]; exact xb0_4
  replace xb0_5 : u7.cell? ⟨u4.heap.size, 5, none⟩ = some (.slice Aex0o nex0o cex0o) := by rw [G.cell (by first | omega | (simp; done) | (simp; omega))]; exact xb0_5
  replace w0 := tZ.obelow w0 G (by omega)
  replace x0o := tZ.obelow x0o G (by omega)
  replace x1o := tS.obelow x1o G (by omega)
  replace g0 := tZ.obelow g0 G (by omega)
  have gb0_0 : u7.cell? ⟨u6.heap.size, 0, none⟩ = some (.int .i64 pg0) := by rw [bb.cell (by simp)]; simp [go_sem]
  have gb0_1 : u7.cell? ⟨u6.heap.size, 1, none⟩ = some (.slice Ag0 ng0 cg0) := by rw [bb.cell (by simp)]; simp [go_sem]
  have gb0_2 : u7.cell? ⟨u6.heap.size, 2, none⟩ = some (.slice Abg0 nbg0 cbg0) := by rw [bb.cell (by simp)]; simp [go_sem]
  have gb0_3 : u7.cell? ⟨u6.heap.size, 3, none⟩ = some (.slice Acg0 ncg0 ccg0) := by rw [bb.cell (by simp)]; simp [go_sem]
  have gb0_4 : u7.cell? ⟨u6.heap.size, 4, none⟩ = some (.slice Adg0 ndg0 cdg0) := by rw [bb.cell (by simp)]; simp [go_sem]
  have gb0_5 : u7.cell? ⟨u6.heap.size, 5, none⟩ = some (.slice Aeg0 neg0 ceg0) := by rw [bb.cell (by simp)]; simp [go_sem]
  replace B := bel_trans B G
  clear G bb G0
  replace lt0 : w.heap.size < u7.heap.size := by omega
  replace lt1 : u3.heap.size < u7.heap.size := by omega
  replace lt2 : u4.heap.size < u7.heap.size := by omega
  have lt3 : u6.heap.size < u7.heap.size := by omega
  go_wp2_with fail
  go_region_held3 (fun w' => Below u7.heap.size u7 w' ∧ w'.cell? ⟨w.heap.size, 0, none⟩ = some (.int .i64 p0) ∧ w'.cell? ⟨w.heap.size, 1, none⟩ = some (.slice A0 n0 c0) ∧ w'.cell? ⟨w.heap.size, 2, none⟩ = some (.slice Ab0 nb0 cb0) ∧ w'.cell? ⟨w.heap.size, 3, none⟩ = some (.slice Ac0 nc0 cc0) ∧ w'.cell? ⟨w.heap.size, 4, none⟩ = some (.slice Ad0 nd0 cd0) ∧ w'.cell? ⟨w.heap.size, 5, none⟩ = some (.slice Ae0 ne0 ce0) ∧ w'.cell? ⟨u4.heap.size, 0, none⟩ = some (.int .i64 px0o) ∧ w'.cell? ⟨u4.heap.size, 1, none⟩ = some (.slice Ax0o nx0o cx0o) ∧ w'.cell? ⟨u4.heap.size, 2, none⟩ = some (.slice Abx0o nbx0o cbx0o) ∧ w'.cell? ⟨u4.heap.size, 3, none⟩ = some (.slice Acx0o ncx0o ccx0o) ∧ w'.cell? ⟨u4.heap.size, 4, none⟩ = some (.slice Adx0o ndx0o cdx0o) ∧ w'.cell? ⟨u4.heap.size, 5, none⟩ = some (.slice Aex0o nex0o cex0o))
    (first | exact ⟨below_drewN (Below.refl _ _) _, pb0_0, pb0_1, pb0_2, pb0_3, pb0_4, pb0_5, xb0_0, xb0_1, xb0_2, xb0_3, xb0_4, xb0_5⟩ | exact ⟨gq, (by rw [gq.cell (by first | omega | (simp; done) | (simp; omega))]; exact pb0_0), (by rw [gq.cell (by first | omega | (simp; done) | (simp; omega))]; exact pb0_1), (by rw [gq.cell (by first | omega | (simp; done) | (simp; omega))]; exact pb0_2), (by rw [gq.cell (by first | omega | (simp; done) | (simp; omega))]; exact pb0_3), (by rw [gq.cell (by first | omega | (simp; done) | (simp; omega))]; exact pb0_4), (by rw [gq.cell (by first | omega | (simp; done) | (simp; omega))]; exact pb0_5), (by rw [gq.cell (by first | omega | (simp; done) | (simp; omega))]; exact xb0_0), (by rw [gq.cell (by first | omega | (simp; done) | (simp; omega))]; exact xb0_1), (by rw [gq.cell (by first | omega | (simp; done) | (simp; omega))]; exact xb0_2), (by rw [gq.cell (by first | omega | (simp; done) | (simp; omega))]; exact xb0_3), (by rw [gq.cell (by first | omega | (simp; done) | (simp; omega))]; exact xb0_4), (by rw [gq.cell (by first | omega | (simp; done) | (simp; omega))]; exact xb0_5)⟩ | exact ⟨gt, (by rw [gt.cell (by first | omega | (simp; done) | (simp; omega))]; exact pb0_0), (by rw [gt.cell (by first | omega | (simp; done) | (simp; omega))]; exact pb0_1), (by rw [gt.cell (by first | omega | (simp; done) | (simp; omega))]; exact pb0_2), (by rw [gt.cell (by first | omega | (simp; done) | (simp; omega))]; exact pb0_3), (by rw [gt.cell (by first | omega | (simp; done) | (simp; omega))]; exact pb0_4), (by rw [gt.cell (by first | omega | (simp; done) | (simp; omega))]; exact pb0_5), (by rw [gt.cell (by first | omega | (simp; done) | (simp; omega))]; exact xb0_0), (by rw [gt.cell (by first | omega | (simp; done) | (simp; omega))]; exact xb0_1), (by rw [gt.cell (by first | omega | (simp; done) | (simp; omega))]; exact xb0_2), (by rw [gt.cell (by first | omega | (simp; done) | (simp; omega))]; exact xb0_3), (by rw [gt.cell (by first | omega | (simp; done) | (simp; omega))]; exact xb0_4), (by rw [gt.cell (by first | omega | (simp; done) | (simp; omega))]; exact xb0_5)⟩)
    (first | (go_at_call 8; refine (nf_to_Y _ _ _ _ _ _ _ _ _ _ _ _ _ _ _ _ _ _ (tZ.later (tZ.later hx0 B) (below_drewN (Below.refl _ _) 1)) (by omega)).mono ?_; rintro e vt ⟨pq, Aq, nq, cq, Abq, nbq, cbq, Acq, ncq, ccq, Adq, ndq, cdq, Aeq, neq, ceq, rfl, ot, bt⟩; have gt : Below u7.heap.size u7 vt := bel_trans (below_drewN (Below.refl _ _) 1) bt) | (go_at_call 10; refine (nf_eq_Y _ _ _ _ _ _ _ _ _ _ _ _ _ _ _ _ _ _ _ _ _ _ _ _ _ _ _ _ _ _ _ _ _ _ (tZ.later (tZ.read x0o) gt) (tZ.read ot) (by omega)).mono ?_; rintro e u8 ⟨rfl, bq⟩; have gq : Below u7.heap.size u7 u8 := bel_trans gt bq))
  have zu8 : u7.heap.size ≤ u8.heap.size := gq.size
  replace pb0_0 : u8.cell? ⟨w.heap.size, 0, none⟩ = some (.int .i64 p0) := by rw [gq.cell (by first | omega | (simp; done) | (simp; omega))]; exact pb0_0
  replace pb0_1 : u8.cell? ⟨w.heap.size, 1, none⟩ = some (.slice A0 n0 c0) := by rw [gq.cell (by first | omega | (simp; done) | (simp; omega))]; exact pb0_1
  replace pb0_2 : u8.cell? ⟨w.heap.size, 2, none⟩ = some (.slice Ab0 nb0 cb0) := by rw [gq.cell (by first | omega | (simp; done) | (simp; omega))]; exact pb0_2
  replace pb0_3 : u8.cell? ⟨w.heap.size, 3, none⟩ = some (.slice Ac0 nc0 cc0) := by rw [gq.cell (by first | omega | (simp; done) | (simp; omega))]; exact pb0_3
  replace pb0_4 : u8.cell? ⟨w.heap.size, 4, none⟩ = some (.slice Ad0 nd0 cd0) := by rw [gq.cell (by first | omega | (simp; done) | (simp; omega))]; exact pb0_4
  replace pb0_5 : u8.cell? ⟨w.heap.size, 5, none⟩ = some (.slice Ae0 ne0 ce0) := by rw [gq.cell (by first | omega | (simp; done) | (simp; omega))]; exact pb0_5
  replace wb0_0 : u8.cell? ⟨u3.heap.size, 0, none⟩ = some (.int .i64 pw0) := by rw [gq.cell (by first | omega | (simp; done) | (simp; omega))]; exact wb0_0
  replace wb0_1 : u8.cell? ⟨u3.heap.size, 1, none⟩ = some (.slice Aw0 nw0 cw0) := by rw [gq.cell (by first | omega | (simp; done) | (simp; omega))]; exact wb0_1
  replace wb0_2 : u8.cell? ⟨u3.heap.size, 2, none⟩ = some (.slice Abw0 nbw0 cbw0) := by rw [gq.cell (by first | omega | (simp; done) | (simp; omega))]; exact wb0_2
  replace wb0_3 : u8.cell? ⟨u3.heap.size, 3, none⟩ = some (.slice Acw0 ncw0 ccw0) := by rw [gq.cell (by first | omega | (simp; done) | (simp; omega))]; exact wb0_3
  replace wb0_4 : u8.cell? ⟨u3.heap.size, 4, none⟩ = some (.slice Adw0 ndw0 cdw0) := by rw [gq.cell (by first | omega | (simp; done) | (simp; omega))]; exact wb0_4
  replace wb0_5 : u8.cell? ⟨u3.heap.size, 5, none⟩ = some (.slice Aew0 new0 cew0) := by rw [gq.cell (by first | omega | (simp; done) | (simp; omega))]; exact wb0_5
  replace xb0_0 : u8.cell? ⟨u4.heap.size, 0, none⟩ = some (.int .i64 px0o) := by rw [gq.cell (by first | omega | (simp; done) | (simp; omega))]; exact xb0_0
  replace xb0_1 : u8.cell? ⟨u4.heap.size, 1, none⟩ = some (.slice Ax0o nx0o cx0o) := by rw [gq.cell (by first | omega | (simp; done) | (simp; omega))]; exact xb0_1
  replace xb0_2 : u8.cell? ⟨u4.heap.size, 2, none⟩ = some (.slice Abx0o nbx0o cbx0o) := by rw [gq.cell (by first | omega | (simp; done) | (simp; omega))]; exact xb0_2
  replace xb0_3 : u8.cell? ⟨u4.heap.size, 3, none⟩ = some (.slice Acx0o ncx0o ccx0o) := by rw [gq.cell (by first | omega | (simp; done) | (simp; omega))]; exact xb0_3
  replace xb0_4 : u8.cell? ⟨u4.heap.size, 4, none⟩ = some (.slice Adx0o ndx0o cdx0o) := by rw [gq.cell (by first | omega | (simp; done) | (simp; omega))]; exact xb0_4
  replace xb0_5 : u8.cell? ⟨u4.heap.size, 5, none⟩ = some (.slice Aex0o nex0o cex0o) := by rw [gq.cell (by first | omega | (simp; done) | (simp; omega))]; exact xb0_5
  replace gb0_0 : u8.cell? ⟨u6.heap.size, 0, none⟩ = some (.int .i64 pg0) := by rw [gq.cell (by first | omega | (simp; done) | (simp; omega))]; exact gb0_0
  replace gb0_1 : u8.cell? ⟨u6.heap.size, 1, none⟩ = some (.slice Ag0 ng0 cg0) := by rw [gq.cell (by first | omega | (simp; done) | (simp; omega))]; exact gb0_1
  replace gb0_2 : u8.cell? ⟨u6.heap.size, 2, none⟩ = some (.slice Abg0 nbg0 cbg0) := by rw [gq.cell (by first | omega | (simp; done) | (simp; omega))]; exact gb0_2
  replace gb0_3 : u8.cell? ⟨u6.heap.size, 3, none⟩ = some (.slice Acg0 ncg0 ccg0) := by rw [gq.cell (by first | omega | (simp; done) | (simp; omega))]; exact gb0_3
  replace gb0_4 : u8.cell? ⟨u6.heap.size, 4, none⟩ = some (.slice Adg0 ndg0 cdg0) := by rw [gq.cell (by first | omega | (simp; done) | (simp; omega))]; exact gb0_4
  replace gb0_5 : u8.cell? ⟨u6.heap.size, 5, none⟩ = some (.slice Aeg0 neg0 ceg0) := by rw [gq.cell (by first | omega | (simp; done) | (simp; omega))]; exact gb0_5
  replace w0 := tZ.obelow w0 gq (by omega)
  replace x0o := tZ.obelow x0o gq (by omega)
  replace x1o := tS.obelow x1o gq (by omega)
  replace g0 := tZ.obelow g0 gq (by omega)
  replace B := bel_trans B gq
  clear gq gt bq bt ot
  replace lt0 : w.heap.size < u8.heap.size := by omega
  replace lt1 : u3.heap.size < u8.heap.size := by omega
  replace lt2 : u4.heap.size < u8.heap.size := by omega
  replace lt3 : u6.heap.size < u8.heap.size := by omega
  go_wp2_with fail
  refine (nf_to_S _ _ _ _ _ (tS.later hx1 B) (by omega)).mono ?_
  rintro e u9 ⟨At1, nt1, ct1, rfl, t1, bb⟩
  have G := bb
  have zu9 : u8.heap.size ≤ u9.heap.size := by have := bb.size; simpa using this
  replace pb0_0 : u9.cell? ⟨w.heap.size, 0, none⟩ = some (.int .i64 p0) := by rw [G.cell (by first | omega | (simp; done) | (simp; omega))]; exact pb0_0
  replace pb0_1 : u9.cell? ⟨w.heap.size, 1, none⟩ = some (.slice A0 n0 c0) := by rw [G.cell (by first | omega | (simp; done) | (simp; omega))]; exact pb0_1
  replace pb0_2 : u9.cell? ⟨w.heap.size, 2, none⟩ = some (.slice Ab0 nb0 cb0) := by rw [G.cell (by first | omega | (simp; done) | (simp; omega))]; exact pb0_2
  replace pb0_3 : u9.cell? ⟨w.heap.size, 3, none⟩ = some (.slice Ac0 nc0 cc0) := by rw [G.cell (by first | omega | (simp; done) | (simp; omega))]; exact pb0_3
  replace pb0_4 : u9.cell? ⟨w.heap.size, 4, none⟩ = some (.slice Ad0 nd0 cd0) := by rw [G.cell (by first | omega | (simp; done) | (simp; omega))]; exact pb0_4
  replace pb0_5 : u9.cell? ⟨w.heap.size, 5, none⟩ = some (.slice Ae0 ne0 ce0) := by rw [G.cell (by first | omega | (simp; done) | (simp; omega))]; exact pb0_5
  replace wb0_0 : u9.cell? ⟨u3.heap.size, 0, none⟩ = some (.int .i64 pw0) := by rw [G.cell (by first | omega | (simp; done) | (simp; omega))]; exact wb0_0
  replace wb0_1 : u9.cell? ⟨u3.heap.size, 1, none⟩ = some (.slice Aw0 nw0 cw0) := by rw [G.cell (by first | omega | (simp; done) | (simp; omega))]; exact wb0_1
  replace wb0_2 : u9.cell? ⟨u3.heap.size, 2, none⟩ = some (.slice Abw0 nbw0 cbw0) := by rw [G.cell (by first | omega | (simp; done) | (simp; omega))]; exact wb0_2
  replace wb0_3 : u9.cell? ⟨u3.heap.size, 3, none⟩ = some (.slice Acw0 ncw0 ccw0) := by rw [G.cell (by first | omega | (simp; done) | (simp; omega))]; exact wb0_3
  replace wb0_4 : u9.cell? ⟨u3.heap.size, 4, none⟩ = some (.slice Adw0 ndw0 cdw0) := by rw [G.cell (by first | omega | (simp; done) | (simp; omega))]; exact wb0_4
  replace wb0_5 : u9.cell? ⟨u3.heap.size, 5, none⟩ = some (.slice Aew0 new0 cew0) := by rw [G.cell (by first | omega | (simp; done) | (simp; omega))]; exact wb0_5
  replace xb0_0 : u9.cell? ⟨u4.heap.size, 0, none⟩ = some (.int .i64 px0o) := by rw [G.cell (by first | omega | (simp; done) | (simp; omega))]; exact xb0_0
  replace xb0_1 : u9.cell? ⟨u4.heap.size, 1, none⟩ = some (.slice Ax0o nx0o cx0o) := by rw [G.cell (by first | omega | (simp; done) | (simp; omega))]; exact xb0_1
  replace xb0_2 : u9.cell? ⟨u4.heap.size, 2, none⟩ = some (.slice Abx0o nbx0o cbx0o) := by rw [G.cell (by first | omega | (simp; done) | (simp; omega))]; exact xb0_2
  replace xb0_3 : u9.cell? ⟨u4.heap.size, 3, none⟩ = some (.slice Acx0o ncx0o ccx0o) := by rw [G.cell (by first | omega | (simp; done) | (simp; omega))]; exact xb0_3
  replace xb0_4 : u9.cell? ⟨u4.heap.size, 4, none⟩ = some (.slice Adx0o ndx0o cdx0o) := by rw [G.cell (by first | omega | (simp; done) | (simp; omega))]; exact xb0_4
  replace xb0_5 : u9.cell? ⟨u4.heap.size, 5, none⟩ = some (.slice Aex0o nex0o cex0o) := by rw [G.cell (by first | omega | (simp; done) | (simp; omega))]; exact xb0_5
  replace gb0_0 : u9.cell? ⟨u6.heap.size, 0, none⟩ = some (.int .i64 pg0) := by rw [G.cell (by first | omega | (simp; done) | (simp; omega))]; exact gb0_0
  replace gb0_1 : u9.cell? ⟨u6.heap.size, 1, none⟩ = some (.slice Ag0 ng0 cg0) := by rw [G.cell (by first | omega | (simp; done) | (simp; omega))]; exact gb0_1
  replace gb0_2 : u9.cell? ⟨u6.heap.size, 2, none⟩ = some (.slice Abg0 nbg0 cbg0) := by rw [G.cell (by first | omega | (simp; done) | (simp; omega))]; exact gb0_2
  replace gb0_3 : u9.cell? ⟨u6.heap.size, 3, none⟩ = some (.slice Acg0 ncg0 ccg0) := by rw [G.cell (by first | omega | (simp; done) | (simp; omega))]; exact gb0_3
  replace gb0_4 : u9.cell? ⟨u6.heap.size, 4, none⟩ = some (.slice Adg0 ndg0 cdg0) := by rw [G.cell (by first | omega | (simp; done) | (simp; omega))]; exact gb0_4
  replace gb0_5 : u9.cell? ⟨u6.heap.size, 5, none⟩ = some (.slice Aeg0 neg0 ceg0) := by rw [G.cell (by first | omega | (simp; done) | (simp; omega))]; exact gb0_5
  replace w0 := tZ.obelow w0 G (by omega)
  replace x0o := tZ.obelow x0o G (by omega)
  replace x1o := tS.obelow x1o G (by omega)
  replace g0 := tZ.obelow g0 G (by omega)
  replace t1 : tS.O u9 (Iv (u8.heap.size) u9.heap.size) [.slice At1 nt1 ct1] x1 := tS.oiv t1 (by simp) (Nat.le_refl _)
  replace B := bel_trans B G
  clear G bb
  replace lt0 : w.heap.size < u9.heap.size := by omega
  replace lt1 : u3.heap.size < u9.heap.size := by omega
  replace lt2 : u4.heap.size < u9.heap.size := by omega
  replace lt3 : u6.heap.size < u9.heap.size := by omega
  go_wp2_with fail
  refine (nf_eq_S _ _ _ _ _ _ _ _ (tS.read x1o) (tS.read t1) (by omega)).mono ?_
  rintro e u10 ⟨rfl, bb⟩
  have G := bb
  have zu10 : u9.heap.size ≤ u10.heap.size := by have := bb.size; simpa using this
  replace pb0_0 : u10.cell? ⟨w.heap.size, 0, none⟩ = some (.int .i64 p0) := by rw [G.cell (by first | omega | (simp; done) | (simp; omega))]; exact pb0_0
  replace pb0_1 : u10.cell? ⟨w.heap.size, 1, none⟩ = some (.slice A0 n0 c0) := by rw [G.cell (by first | omega | (simp; done) | (simp; omega))]; exact pb0_1
  replace pb0_2 : u10.cell? ⟨w.heap.size, 2, none⟩ = some (.slice Ab0 nb0 cb0) := by rw [G.cell (by first | omega | (simp; done) | (simp; omega))]; exact pb0_2
  replace pb0_3 : u10.cell? ⟨w.heap.size, 3, none⟩ = some (.slice Ac0 nc0 cc0) := by rw [G.cell (by first | omega | (simp; done) | (simp; omega))]; exact pb0_3
  replace pb0_4 : u10.cell? ⟨w.heap.size, 4, none⟩ = some (.slice Ad0 nd0 cd0) := by rw [G.cell (by first | omega | (simp; done) | (simp; omega))]; exact pb0_4
  replace pb0_5 : u10.cell? ⟨w.heap.size, 5, none⟩ = some (.slice Ae0 ne0 ce0) := by rw [G.cell (by first | omega | (simp; done) | (simp; omega))]; exact pb0_5
  replace wb0_0 : u10.cell? ⟨u3.heap.size, 0, none⟩ = some (.int .i64 pw0) := by rw [G.cell (by first | omega | (simp; done) | (simp; omega))]; exact wb0_0
  replace wb0_1 : u10.cell? ⟨u3.heap.size, 1, none⟩ = some (.slice Aw0 nw0 cw0) := by rw [G.cell (by first | omega | (simp; done) | (simp; omega))]; exact wb0_1
  replace wb0_2 : u10.cell? ⟨u3.heap.size, 2, none⟩ = some (.slice Abw0 nbw0 cbw0) := by rw [G.cell (by first | omega | (simp; done) | (simp; omega))]; exact wb0_2
  replace wb0_3 : u10.cell? ⟨u3.heap.size, 3, none⟩ = some (.slice Acw0 ncw0 ccw0) := by rw [G.cell (by first | omega | (simp; done) | (simp; omega))]; exact wb0_3
  replace wb0_4 : u10.cell? ⟨u3.heap.size, 4, none⟩ = some (.slice Adw0 ndw0 cdw0) := by rw [G.cell (by first | omega | (simp; done) | (simp; omega))]; exact wb0_4
  replace wb0_5 : u10.cell? ⟨u3.heap.size, 5, none⟩ = some (.slice Aew0 new0 cew0) := by rw [G.cell (by first | omega | (simp; done) | (simp; omega))]; exact wb0_5
  replace xb0_0 : u10.cell? ⟨u4.heap.size, 0, none⟩ = some (.int .i64 px0o) := by rw [G.cell (by first | omega | (simp; done) | (simp; omega))]; exact xb0_0
  replace xb0_1 : u10.cell? ⟨u4.heap.size, 1, none⟩ = some (.slice Ax0o nx0o cx0o) := by rw [G.cell (by first | omega | (simp; done) | (simp; omega))]; exact xb0_1
  replace xb0_2 : u10.cell? ⟨u4.heap.size, 2, none⟩ = some (.slice Abx0o nbx0o cbx0o) := by rw [G.cell (by first | omega | (simp; done) | (simp; omega))]; exact xb0_2
  replace xb0_3 : u10.cell? ⟨u4.heap.size, 3, none⟩ = some (.slice Acx0o ncx0o ccx0o) := by rw [G.cell (by first | omega | (simp; done) | (simp; omega))]; exact xb0_3
  replace xb0_4 : u10.cell? ⟨u4.heap.size, 4, none⟩ = some (.slice Adx0o ndx0o cdx0o) := by rw [G.cell (by first | omega | (simp; done) | (simp; omega))]; exact xb0_4
  replace xb0_5 : u10.cell? ⟨u4.heap.size, 5, none⟩ = some (.slice Aex0o nex0o cex0o) := by rw [G.cell (by first | omega | (simp; done) | (simp; omega))]; exact xb0_5
  replace gb0_0 : u10.cell? ⟨u6.heap.size, 0, none⟩ = some (.int .i64 pg0) := by rw [G.cell (by first | omega | (simp; done) | (simp; omega))]; exact gb0_0
  replace gb0_1 : u10.cell? ⟨u6.heap.size, 1, none⟩ = some (.slice Ag0 ng0 cg0) := by rw [G.cell (by first | omega | (simp; done) | (simp; omega))]; exact gb0_1
  replace gb0_2 : u10.cell? ⟨u6.heap.size, 2, none⟩ = some (.slice Abg0 nbg0 cbg0) := by rw [G.cell (by first | omega | (simp; done) | (simp; omega))]; exact gb0_2
  replace gb0_3 : u10.cell? ⟨u6.heap.size, 3, none⟩ = some (.slice Acg0 ncg0 ccg0) := by rw [G.cell (by first | omega | (simp; done) | (simp; omega))]; exact gb0_3
  replace gb0_4 : u10.cell? ⟨u6.heap.size, 4, none⟩ = some (.slice Adg0 ndg0 cdg0) := by rw [G.cell (by first | omega | (simp; done) | (simp; omega))]; exact gb0_4
  replace gb0_5 : u10.cell? ⟨u6.heap.size, 5, none⟩ = some (.slice Aeg0 neg0 ceg0) := by rw [G.cell (by first | omega | (simp; done) | (simp; omega))]; exact gb0_5
  replace w0 := tZ.obelow w0 G (by omega)
  replace x0o := tZ.obelow x0o G (by omega)
  replace x1o := tS.obelow x1o G (by omega)
  replace g0 := tZ.obelow g0 G (by omega)
  replace t1 := tS.obelow t1 G (by omega)
  replace B := bel_trans B G
  clear G bb
  replace lt0 : w.heap.size < u10.heap.size := by omega
  replace lt1 : u3.heap.size < u10.heap.size := by omega
  replace lt2 : u4.heap.size < u10.heap.size := by omega
  replace lt3 : u6.heap.size < u10.heap.size := by omega
  clear t1
  have hk0 : hZ.cnt x0 ≤ 20000000 := by have := cl_Y x0; omega
  have hk1 : hS.cnt x1 ≤ 20000000 := by have := cl_S x1; omega
  go_wp2_with fail
  refine (nf_mark_Y _ _ _ _ _ _ _ _ _ _ _ _ _ _ _ _ _ _ _ _ x0o (fun b hb => Nat.lt_of_lt_of_le hb.2 (by omega)) (by omega)).mono ?_
  rintro e u11 ⟨rfl, x0o, mm⟩
  have zu11 : u10.heap.size ≤ u11.heap.size := mm.size
  replace pb0_0 : u11.cell? ⟨w.heap.size, 0, none⟩ = some (.int .i64 p0) := by rw [World.cell?_of_block (mm.block _ (by first | omega | (simp; done) | (simp; omega)) (by first | (simp [Iv]; done) | (simp [Iv]; omega)))]; exact pb0_0
  replace pb0_1 : u11.cell? ⟨w.heap.size, 1, none⟩ = some (.slice A0 n0 c0) := by rw [World.cell?_of_block (mm.block _ (by first | omega | (simp; done) | (simp; omega)) (by first | (simp [Iv]; done) | (simp [Iv]; omega)))]; exact pb0_1
  replace pb0_2 : u11.cell? ⟨w.heap.size, 2, none⟩ = some (.slice Ab0 nb0 cb0) := by rw [World.cell?_of_block (mm.block _ (by first | omega | (simp; done) | (simp; omega)) (by first | (simp [Iv]; done) | (simp [Iv]; omega)))]; exact pb0_2
  replace pb0_3 : u11.cell? ⟨w.heap.size, 3, none⟩ = some (.slice Ac0 nc0 cc0) := by rw [World.cell?_of_block (mm.block _ (by first | omega | (simp; done) | (simp; omega)) (by first | (simp [Iv]; done) | (simp [Iv]; omega)))]; exact pb0_3
  replace pb0_4 : u11.cell? ⟨w.heap.size, 4, none⟩ = some (.slice Ad0 nd0 cd0) := by rw [World.cell?_of_block (mm.block _ (by first | omega | (simp; done) | (simp; omega)) (by first | (simp [Iv]; done) | (simp [Iv]; omega)))]; exact pb0_4
  replace pb0_5 : u11.cell? ⟨w.heap.size, 5, none⟩ = some (.slice Ae0 ne0 ce0) := by rw [World.cell?_of_block (mm.block _ (by first | omega | (simp; done) | (simp; omega)) (by first | (simp [Iv]; done) | (simp [Iv]; omega)))]; exact pb0_5
  replace wb0_0 : u11.cell? ⟨u3.heap.size, 0, none⟩ = some (.int .i64 pw0) := by rw [World.cell?_of_block (mm.block _ (by first | omega | (simp; done) | (simp; omega)) (by first | (simp [Iv]; done) | (simp [Iv]; omega)))]; exact wb0_0
  replace wb0_1 : u11.cell? ⟨u3.heap.size, 1, none⟩ = some (.slice Aw0 nw0 cw0) := by rw [World.cell?_of_block (mm.block _ (by first | omega | (simp; done) | (simp; omega)) (by first | (simp [Iv]; done) | (simp [Iv]; omega)))]; exact wb0_1
  replace wb0_2 : u11.cell? ⟨u3.heap.size, 2, none⟩ = some (.slice Abw0 nbw0 cbw0) := by rw [World.cell?_of_block (mm.block _ (by first | omega | (simp; done) | (simp; omega)) (by first | (simp [Iv]; done) | (simp [Iv]; omega)))]; exact wb0_2
  replace wb0_3 : u11.cell? ⟨u3.heap.size, 3, none⟩ = some (.slice Acw0 ncw0 ccw0) := by rw [World.cell?_of_block (mm.block _ (by first | omega | (simp; done) | (simp; omega)) (by first | (simp [Iv]; done) | (simp [Iv]; omega)))]; exact wb0_3
  replace wb0_4 : u11.cell? ⟨u3.heap.size, 4, none⟩ = some (.slice Adw0 ndw0 cdw0) := by rw [World.cell?_of_block (mm.block _ (by first | omega | (simp; done) | (simp; omega)) (by first | (simp [Iv]; done) | (simp [Iv]; omega)))]; exact wb0_4
  replace wb0_5 : u11.cell? ⟨u3.heap.size, 5, none⟩ = some (.slice Aew0 new0 cew0) := by rw [World.cell?_of_block (mm.block _ (by first | omega | (simp; done) | (simp; omega)) (by first | (simp [Iv]; done) | (simp [Iv]; omega)))]; exact wb0_5
  replace xb0_0 : u11.cell? ⟨u4.heap.size, 0, none⟩ = some (.int .i64 px0o) := by rw [World.cell?_of_block (mm.block _ (by first | omega | (simp; done) | (simp; omega)) (by first | (simp [Iv]; done) | (simp [Iv]; omega)))]; exact xb0_0
  replace xb0_1 : u11.cell? ⟨u4.heap.size, 1, none⟩ = some (.slice Ax0o nx0o cx0o) := by rw [World.cell?_of_block (mm.block _ (by first | omega | (simp; done) | (simp; omega)) (by first | (simp [Iv]; done) | (simp [Iv]; omega)))]; exact xb0_1
  replace xb0_2 : u11.cell? ⟨u4.heap.size, 2, none⟩ = some (.slice Abx0o nbx0o cbx0o) := by rw [World.cell?_of_block (mm.block _ (by first | omega | (simp; done) | (simp; omega)) (by first | (simp [Iv]; done) | (simp [Iv]; omega)))]; exact xb0_2
  replace xb0_3 : u11.cell? ⟨u4.heap.size, 3, none⟩ = some (.slice Acx0o ncx0o ccx0o) := by rw [World.cell?_of_block (mm.block _ (by first | omega | (simp; done) | (simp; omega)) (by first | (simp [Iv]; done) | (simp [Iv]; omega)))]; exact xb0_3
  replace xb0_4 : u11.cell? ⟨u4.heap.size, 4, none⟩ = some (.slice Adx0o ndx0o cdx0o) := by rw [World.cell?_of_block (mm.block _ (by first | omega | (simp; done) | (simp; omega)) (by first | (simp [Iv]; done) | (simp [Iv]; omega)))]; exact xb0_4
  replace xb0_5 : u11.cell? ⟨u4.heap.size, 5, none⟩ = some (.slice Aex0o nex0o cex0o) := by rw [World.cell?_of_block (mm.block _ (by first | omega | (simp; done) | (simp; omega)) (by first | (simp [Iv]; done) | (simp [Iv]; omega)))]; exact xb0_5
  replace gb0_0 : u11.cell? ⟨u6.heap.size, 0, none⟩ = some (.int .i64 pg0) := by rw [World.cell?_of_block (mm.block _ (by first | omega | (simp; done) | (simp; omega)) (by first | (simp [Iv]; done) | (simp [Iv]; omega)))]; exact gb0_0
  replace gb0_1 : u11.cell? ⟨u6.heap.size, 1, none⟩ = some (.slice Ag0 ng0 cg0) := by rw [World.cell?_of_block (mm.block _ (by first | omega | (simp; done) | (simp; omega)) (by first | (simp [Iv]; done) | (simp [Iv]; omega)))]; exact gb0_1
  replace gb0_2 : u11.cell? ⟨u6.heap.size, 2, none⟩ = some (.slice Abg0 nbg0 cbg0) := by rw [World.cell?_of_block (mm.block _ (by first | omega | (simp; done) | (simp; omega)) (by first | (simp [Iv]; done) | (simp [Iv]; omega)))]; exact gb0_2
  replace gb0_3 : u11.cell? ⟨u6.heap.size, 3, none⟩ = some (.slice Acg0 ncg0 ccg0) := by rw [World.cell?_of_block (mm.block _ (by first | omega | (simp; done) | (simp; omega)) (by first | (simp [Iv]; done) | (simp [Iv]; omega)))]; exact gb0_3
  replace gb0_4 : u11.cell? ⟨u6.heap.size, 4, none⟩ = some (.slice Adg0 ndg0 cdg0) := by rw [World.cell?_of_block (mm.block _ (by first | omega | (simp; done) | (simp; omega)) (by first | (simp [Iv]; done) | (simp [Iv]; omega)))]; exact gb0_4
  replace gb0_5 : u11.cell? ⟨u6.heap.size, 5, none⟩ = some (.slice Aeg0 neg0 ceg0) := by rw [World.cell?_of_block (mm.block _ (by first | omega | (simp; done) | (simp; omega)) (by first | (simp [Iv]; done) | (simp [Iv]; omega)))]; exact gb0_5
  replace w0 := tZ.ochg w0 mm (by simp only [Iv]; omega)
  replace x1o := tS.ochg x1o mm (by simp only [Iv]; omega)
  replace g0 := tZ.ochg g0 mm (by simp only [Iv]; omega)
  replace B : Below w.heap.size w u11 := B.trans (mm.toBelow (by simp only [Iv]; omega) (by omega))
  clear mm
  replace lt0 : w.heap.size < u11.heap.size := by omega
  replace lt1 : u3.heap.size < u11.heap.size := by omega
  replace lt2 : u4.heap.size < u11.heap.size := by omega
  replace lt3 : u6.heap.size < u11.heap.size := by omega
  clear x0o
  go_wp2_with fail
  refine (nf_mark_S _ _ _ _ _ _ _ x1o (by omega)).mono ?_
  rintro e u12 ⟨rfl, x1o, mm⟩
  have zu12 : u11.heap.size ≤ u12.heap.size := mm.size
  replace pb0_0 : u12.cell? ⟨w.heap.size, 0, none⟩ = some (.int .i64 p0) := by rw [World.cell?_of_block (mm.block _ (by first | omega | (simp; done) | (simp; omega)) (by first | (simp [Iv]; done) | (simp [Iv]; omega)))]; exact pb0_0
  replace pb0_1 : u12.cell? ⟨w.heap.size, 1, none⟩ = some (.slice A0 n0 c0) := by rw [World.cell?_of_block (mm.block _ (by first | omega | (simp; done) | (simp; omega)) (by first | (simp [Iv]; done) | (simp [Iv]; omega)))]; exact pb0_1
  replace pb0_2 : u12.cell? ⟨w.heap.size, 2, none⟩ = some (.slice Ab0 nb0 cb0) := by rw [World.cell?_of_block (mm.block _ (by first | omega | (simp; done) | (simp; omega)) (by first | (simp [Iv]; done) | (simp [Iv]; omega)))]; exact pb0_2
  replace pb0_3 : u12.cell? ⟨w.heap.size, 3, none⟩ = some (.slice Ac0 nc0 cc0) := by rw [World.cell?_of_block (mm.block _ (by first | omega | (simp; done) | (simp; omega)) (by first | (simp [Iv]; done) | (simp [Iv]; omega)))]; exact pb0_3
  replace pb0_4 : u12.cell? ⟨w.heap.size, 4, none⟩ = some (.slice Ad0 nd0 cd0) := by rw [World.cell?_of_block (mm.block _ (by first | omega | (simp; done) | (simp; omega)) (by first | (simp [Iv]; done) | (simp [Iv]; omega)))]; exact pb0_4
  replace pb0_5 : u12.cell? ⟨w.heap.size, 5, none⟩ = some (.slice Ae0 ne0 ce0) := by rw [World.cell?_of_block (mm.block _ (by first | omega | (simp; done) | (simp; omega)) (by first | (simp [Iv]; done) | (simp [Iv]; omega)))]; exact pb0_5
  replace wb0_0 : u12.cell? ⟨u3.heap.size, 0, none⟩ = some (.int .i64 pw0) := by rw [World.cell?_of_block (mm.block _ (by first | omega | (simp; done) | (simp; omega)) (by first | (simp [Iv]; done) | (simp [Iv]; omega)))]; exact wb0_0
  replace wb0_1 : u12.cell? ⟨u3.heap.size, 1, none⟩ = some (.slice Aw0 nw0 cw0) := by rw [World.cell?_of_block (mm.block _ (by first | omega | (simp; done) | (simp; omega)) (by first | (simp [Iv]; done) | (simp [Iv]; omega)))]; exact wb0_1
  replace wb0_2 : u12.cell? ⟨u3.heap.size, 2, none⟩ = some (.slice Abw0 nbw0 cbw0) := by rw [World.cell?_of_block (mm.block _ (by first | omega | (simp; done) | (simp; omega)) (by first | (simp [Iv]; done) | (simp [Iv]; omega)))]; exact wb0_2
  replace wb0_3 : u12.cell? ⟨u3.heap.size, 3, none⟩ = some (.slice Acw0 ncw0 ccw0) := by rw [World.cell?_of_block (mm.block _ (by first | omega | (simp; done) | (simp; omega)) (by first | (simp [Iv]; done) | (simp [Iv]; omega)))]; exact wb0_3
  replace wb0_4 : u12.cell? ⟨u3.heap.size, 4, none⟩ = some (.slice Adw0 ndw0 cdw0) := by rw [World.cell?_of_block (mm.block _ (by first | omega | (simp; done) | (simp; omega)) (by first | (simp [Iv]; done) | (simp [Iv]; omega)))]; exact wb0_4
  replace wb0_5 : u12.cell? ⟨u3.heap.size, 5, none⟩ = some (.slice Aew0 new0 cew0) := by rw [World.cell?_of_block (mm.block _ (by first | omega | (simp; done) | (simp; omega)) (by first | (simp [Iv]; done) | (simp [Iv]; omega)))]; exact wb0_5
  replace xb0_0 : u12.cell? ⟨u4.heap.size, 0, none⟩ = some (.int .i64 px0o) := by rw [World.cell?_of_block (mm.block _ (by first | omega | (simp; done) | (simp; omega)) (by first | (simp [Iv]; done) | (simp [Iv]; omega)))]; exact xb0_0
  replace xb0_1 : u12.cell? ⟨u4.heap.size, 1, none⟩ = some (.slice Ax0o nx0o cx0o) := by rw [World.cell?_of_block (mm.block _ (by first | omega | (simp; done) | (simp; omega)) (by first | (simp [Iv]; done) | (simp [Iv]; omega)))]; exact xb0_1
  replace xb0_2 : u12.cell? ⟨u4.heap.size, 2, none⟩ = some (.slice Abx0o nbx0o cbx0o) := by rw [World.cell?_of_block (mm.block _ (by first | omega | (simp; done) | (simp; omega)) (by first | (simp [Iv]; done) | (simp [Iv]; omega)))]; exact xb0_2
  replace xb0_3 : u12.cell? ⟨u4.heap.size, 3, none⟩ = some (.slice Acx0o ncx0o ccx0o) := by rw [World.cell?_of_block (mm.block _ (by first | omega | (simp; done) | (simp; omega)) (by first | (simp [Iv]; done) | (simp [Iv]; omega)))]; exact xb0_3
  replace xb0_4 : u12.cell? ⟨u4.heap.size, 4, none⟩ = some (.slice Adx0o ndx0o cdx0o) := by rw [World.cell?_of_block (mm.block _ (by first | omega | (simp; done) | (simp; omega)) (by first | (simp [Iv]; done) | (simp [Iv]; omega)))]; exact xb0_4
  replace xb0_5 : u12.cell? ⟨u4.heap.size, 5, none⟩ = some (.slice Aex0o nex0o cex0o) := by rw [World.cell?_of_block (mm.block _ (by first | omega | (simp; done) | (simp; omega)) (by first | (simp [Iv]; done) | (simp [Iv]; omega)))]; exact xb0_5
  replace gb0_0 : u12.cell? ⟨u6.heap.size, 0, none⟩ = some (.int .i64 pg0) := by rw [World.cell?_of_block (mm.block _ (by first | omega | (simp; done) | (simp; omega)) (by first | (simp [Iv]; done) | (simp [Iv]; omega)))]; exact gb0_0
  replace gb0_1 : u12.cell? ⟨u6.heap.size, 1, none⟩ = some (.slice Ag0 ng0 cg0) := by rw [World.cell?_of_block (mm.block _ (by first | omega | (simp; done) | (simp; omega)) (by first | (simp [Iv]; done) | (simp [Iv]; omega)))]; exact gb0_1
  replace gb0_2 : u12.cell? ⟨u6.heap.size, 2, none⟩ = some (.slice Abg0 nbg0 cbg0) := by rw [World.cell?_of_block (mm.block _ (by first | omega | (simp; done) | (simp; omega)) (by first | (simp [Iv]; done) | (simp [Iv]; omega)))]; exact gb0_2
  replace gb0_3 : u12.cell? ⟨u6.heap.size, 3, none⟩ = some (.slice Acg0 ncg0 ccg0) := by rw [World.cell?_of_block (mm.block _ (by first | omega | (simp; done) | (simp; omega)) (by first | (simp [Iv]; done) | (simp [Iv]; omega)))]; exact gb0_3
  replace gb0_4 : u12.cell? ⟨u6.heap.size, 4, none⟩ = some (.slice Adg0 ndg0 cdg0) := by rw [World.cell?_of_block (mm.block _ (by first | omega | (simp; done) | (simp; omega)) (by first | (simp [Iv]; done) | (simp [Iv]; omega)))]; exact gb0_4
  replace gb0_5 : u12.cell? ⟨u6.heap.size, 5, none⟩ = some (.slice Aeg0 neg0 ceg0) := by rw [World.cell?_of_block (mm.block _ (by first | omega | (simp; done) | (simp; omega)) (by first | (simp [Iv]; done) | (simp [Iv]; omega)))]; exact gb0_5
  replace w0 := tZ.ochg w0 mm (by simp only [Iv]; omega)
  replace g0 := tZ.ochg g0 mm (by simp only [Iv]; omega)
  replace B : Below w.heap.size w u12 := B.trans (mm.toBelow (by simp only [Iv]; omega) (by omega))
  clear mm
  replace lt0 : w.heap.size < u12.heap.size := by omega
  replace lt1 : u3.heap.size < u12.heap.size := by omega
  replace lt2 : u4.heap.size < u12.heap.size := by omega
  replace lt3 : u6.heap.size < u12.heap.size := by omega
  clear x1o
  go_wp2_with fail
  refine (nf_eq_Y _ _ _ _ _ _ _ _ _ _ _ _ _ _ _ _ _ _ _ _ _ _ _ _ _ _ _ _ _ _ _ _ _ _ (tZ.read g0) (tZ.read w0) (by omega)).mono ?_
  rintro e u13 ⟨rfl, bb⟩
  have G := bb
  have zu13 : u12.heap.size ≤ u13.heap.size := by have := bb.size; simpa using this
  replace pb0_0 : u13.cell? ⟨w.heap.size, 0, none⟩ = some (.int .i64 p0) := by rw [G.cell (by first | omega | (simp; done) | (simp; omega))]; exact pb0_0
  replace pb0_1 : u13.cell? ⟨w.heap.size, 1, none⟩ = some (.slice A0 n0 c0) := by rw [G.cell (by first | omega | (simp; done) | (simp; omega))]; exact pb0_1
  replace pb0_2 : u13.cell? ⟨w.heap.size, 2, none⟩ = some (.slice Ab0 nb0 cb0) := by rw [G.cell (by first | omega | (simp; done) | (simp; omega))]; exact pb0_2
  replace pb0_3 : u13.cell? ⟨w.heap.size, 3, none⟩ = some (.slice Ac0 nc0 cc0) := by rw [G.cell (by first | omega | (simp; done) | (simp; omega))]; exact pb0_3
  replace pb0_4 : u13.cell? ⟨w.heap.size, 4, none⟩ = some (.slice Ad0 nd0 cd0) := by rw [G.cell (by first | omega | (simp; done) | (simp; omega))]; exact pb0_4
  replace pb0_5 : u13.cell? ⟨w.heap.size, 5, none⟩ = some (.slice Ae0 ne0 ce0) := by rw [G.cell (by first | omega | (simp; done) | (simp; omega))]; exact pb0_5
  replace wb0_0 : u13.cell? ⟨u3.heap.size, 0, none⟩ = some (.int .i64 pw0) := by rw [G.cell (by first | omega | (simp; done) | (simp; omega))]; exact wb0_0
  replace wb0_1 : u13.cell? ⟨u3.heap.size, 1, none⟩ = some (.slice Aw0 nw0 cw0) := by rw [G.cell (by first | omega | (simp; done) | (simp; omega))]; exact wb0_1
  replace wb0_2 : u13.cell? ⟨u3.heap.size, 2, none⟩ = some (.slice Abw0 nbw0 cbw0) := by rw [G.cell (by first | omega | (simp; done) | (simp; omega))]; exact wb0_2
  replace wb0_3 : u13.cell? ⟨u3.heap.size, 3, none⟩ = some (.slice Acw0 ncw0 ccw0) := by rw [G.cell (by first | omega | (simp; done) | (simp; omega))]; exact wb0_3
  replace wb0_4 : u13.cell? ⟨u3.heap.size, 4, none⟩ = some (.slice Adw0 ndw0 cdw0) := by rw [G.cell (by first | omega | (simp; done) | (simp; omega))]; exact wb0_4
  replace wb0_5 : u13.cell? ⟨u3.heap.size, 5, none⟩ = some (.slice Aew0 new0 cew0) := by rw [G.cell (by first | omega | (simp; done) | (simp; omega))]; exact wb0_5
  replace xb0_0 : u13.cell? ⟨u4.heap.size, 0, none⟩ = some (.int .i64 px0o) := by rw [G.cell (by first | omega | (simp; done) | (simp; omega))]; exact xb0_0
  replace xb0_1 : u13.cell? ⟨u4.heap.size, 1, none⟩ = some (.slice Ax0o nx0o cx0o) := by rw [G.cell (by first | omega | (simp; done) | (simp; omega))]; exact xb0_1
  replace xb0_2 : u13.cell? ⟨u4.heap.size, 2, none⟩ = some (.slice Abx0o nbx0o cbx0o) := by rw [G.cell (by first | omega | (simp; done) | (simp; omega))]; exact xb0_2
  replace xb0_3 : u13.cell? ⟨u4.heap.size, 3, none⟩ = some (.slice Acx0o ncx0o ccx0o) := by rw [G.cell (by first | omega | (simp; done) | (simp; omega))]; exact xb0_3
  replace xb0_4 : u13.cell? ⟨u4.heap.size, 4, none⟩ = some (.slice Adx0o ndx0o cdx0o) := by rw [G.cell (by first | omega | (simp; done) | (simp; omega))]; exact xb0_4
  replace xb0_5 : u13.cell? ⟨u4.heap.size, 5, none⟩ = some (.slice Aex0o nex0o cex0o) := by rw [G.cell (by first | omega | (simp; done) | (simp; omega))]; exact xb0_5
  replace gb0_0 : u13.cell? ⟨u6.heap.size, 0, none⟩ = some (.int .i64 pg0) := by rw [G.cell (by first | omega | (simp; done) | (simp; omega))]; exact gb0_0
  replace gb0_1 : u13.cell? ⟨u6.heap.size, 1, none⟩ = some (.slice Ag0 ng0 cg0) := by rw [G.cell (by first | omega | (simp; done) | (simp; omega))]; exact gb0_1
  replace gb0_2 : u13.cell? ⟨u6.heap.size, 2, none⟩ = some (.slice Abg0 nbg0 cbg0) := by rw [G.cell (by first | omega | (simp; done) | (simp; omega))]; exact gb0_2
  replace gb0_3 : u13.cell? ⟨u6.heap.size, 3, none⟩ = some (.slice Acg0 ncg0 ccg0) := by rw [G.cell (by first | omega | (simp; done) | (simp; omega))]; exact gb0_3
  replace gb0_4 : u13.cell? ⟨u6.heap.size, 4, none⟩ = some (.slice Adg0 ndg0 cdg0) := by rw [G.cell (by first | omega | (simp; done) | (simp; omega))]; exact gb0_4
  replace gb0_5 : u13.cell? ⟨u6.heap.size, 5, none⟩ = some (.slice Aeg0 neg0 ceg0) := by rw [G.cell (by first | omega | (simp; done) | (simp; omega))]; exact gb0_5
  replace w0 := tZ.obelow w0 G (by omega)
  replace g0 := tZ.obelow g0 G (by omega)
  replace B := bel_trans B G
  clear G bb
  replace lt0 : w.heap.size < u13.heap.size := by omega
  replace lt1 : u3.heap.size < u13.heap.size := by omega
  replace lt2 : u4.heap.size < u13.heap.size := by omega
  replace lt3 : u6.heap.size < u13.heap.size := by omega
  go_wp2_with fail
  refine (nf_mark_Y _ _ _ _ _ _ _ _ _ _ _ _ _ _ _ _ _ _ _ _ g0 (fun b hb => Nat.lt_of_lt_of_le hb.2 (by omega)) (by omega)).mono ?_
  rintro e u14 ⟨rfl, g0, mm⟩
  have zu14 : u13.heap.size ≤ u14.heap.size := mm.size
  replace pb0_0 : u14.cell? ⟨w.heap.size, 0, none⟩ = some (.int .i64 p0) := by rw [World.cell?_of_block (mm.block _ (by first | omega | (simp; done) | (simp; omega)) (by first | (simp [Iv]; done) | (simp [Iv]; omega)))]; exact pb0_0
  replace pb0_1 : u14.cell? ⟨w.heap.size, 1, none⟩ = some (.slice A0 n0 c0) := by rw [World.cell?_of_block (mm.block _ (by first | omega | (simp; done) | (simp; omega)) (by first | (simp [Iv]; done) | (simp [Iv]; omega)))]; exact pb0_1
  replace pb0_2 : u14.cell? ⟨w.heap.size, 2, none⟩ = some (.slice Ab0 nb0 cb0) := by rw [World.cell?_of_block (mm.block _ (by first | omega | (simp; done) | (simp; omega)) (by first | (simp [Iv]; done) | (simp [Iv]; omega)))]; exact pb0_2
  replace pb0_3 : u14.cell? ⟨w.heap.size, 3, none⟩ = some (.slice Ac0 nc0 cc0) := by rw [World.cell?_of_block (mm.block _ (by first | omega | (simp; done) | (simp; omega)) (by first | (simp [Iv]; done) | (simp [Iv]; omega)))]; exact pb0_3
  replace pb0_4 : u14.cell? ⟨w.heap.size, 4, none⟩ = some (.slice Ad0 nd0 cd0) := by rw [World.cell?_of_block (mm.block _ (by first | omega | (simp; done) | (simp; omega)) (by first | (simp [Iv]; done) | (simp [Iv]; omega)))]; exact pb0_4
  replace pb0_5 : u14.cell? ⟨w.heap.size, 5, none⟩ = some (.slice Ae0 ne0 ce0) := by rw [World.cell?_of_block (mm.block _ (by first | omega | (simp; done) | (simp; omega)) (by first | (simp [Iv]; done) | (simp [Iv]; omega)))]; exact pb0_5
  replace wb0_0 : u14.cell? ⟨u3.heap.size, 0, none⟩ = some (.int .i64 pw0) := by rw [World.cell?_of_block (mm.block _ (by first | omega | (simp; done) | (simp; omega)) (by first | (simp [Iv]; done) | (simp [Iv]; omega)))]; exact wb0_0
  replace wb0_1 : u14.cell? ⟨u3.heap.size, 1, none⟩ = some (.slice Aw0 nw0 cw0) := by rw [World.cell?_of_block (mm.block _ (by first | omega | (simp; done) | (simp; omega)) (by first | (simp [Iv]; done) | (simp [Iv]; omega)))]; exact wb0_1
  replace wb0_2 : u14.cell? ⟨u3.heap.size, 2, none⟩ = some (.slice Abw0 nbw0 cbw0) := by rw [World.cell?_of_block (mm.block _ (by first | omega | (simp; done) | (simp; omega)) (by first | (simp [Iv]; done) | (simp [Iv]; omega)))]; exact wb0_2
  replace wb0_3 : u14.cell? ⟨u3.heap.size, 3, none⟩ = some (.slice Acw0 ncw0 ccw0) := by rw [World.cell?_of_block (mm.block _ (by first | omega | (simp; done) | (simp; omega)) (by first | (simp [Iv]; done) | (simp [Iv]; omega)))]; exact wb0_3
  replace wb0_4 : u14.cell? ⟨u3.heap.size, 4, none⟩ = some (.slice Adw0 ndw0 cdw0) := by rw [World.cell?_of_block (mm.block _ (by first | omega | (simp; done) | (simp; omega)) (by first | (simp [Iv]; done) | (simp [Iv]; omega)))]; exact wb0_4
  replace wb0_5 : u14.cell? ⟨u3.heap.size, 5, none⟩ = some (.slice Aew0 new0 cew0) := by rw [World.cell?_of_block (mm.block _ (by first | omega | (simp; done) | (simp; omega)) (by first | (simp [Iv]; done) | (simp [Iv]; omega)))]; exact wb0_5
  replace xb0_0 : u14.cell? ⟨u4.heap.size, 0, none⟩ = some (.int .i64 px0o) := by rw [World.cell?_of_block (mm.block _ (by first | omega | (simp; done) | (simp; omega)) (by first | (simp [Iv]; done) | (simp [Iv]; omega)))]; exact xb0_0
  replace xb0_1 : u14.cell? ⟨u4.heap.size, 1, none⟩ = some (.slice Ax0o nx0o cx0o) := by rw [World.cell?_of_block (mm.block _ (by first | omega | (simp; done) | (simp; omega)) (by first | (simp [Iv]; done) | (simp [Iv]; omega)))]; exact xb0_1
  replace xb0_2 : u14.cell? ⟨u4.heap.size, 2, none⟩ = some (.slice Abx0o nbx0o cbx0o) := by rw [World.cell?_of_block (mm.block _ (by first | omega | (simp; done) | (simp; omega)) (by first | (simp [Iv]; done) | (simp [Iv]; omega)))]; exact xb0_2
  replace xb0_3 : u14.cell? ⟨u4.heap.size, 3, none⟩ = some (.slice Acx0o ncx0o ccx0o) := by rw [World.cell?_of_block (mm.block _ (by first | omega | (simp; done) | (simp; omega)) (by first | (simp [Iv]; done) | (simp [Iv]; omega)))]; exact xb0_3
  replace xb0_4 : u14.cell? ⟨u4.heap.size, 4, none⟩ = some (.slice Adx0o ndx0o cdx0o) := by rw [World.cell?_of_block (mm.block _ (by first | omega | (simp; done) | (simp; omega)) (by first | (simp [Iv]; done) | (simp [Iv]; omega)))]; exact xb0_4
  replace xb0_5 : u14.cell? ⟨u4.heap.size, 5, none⟩ = some (.slice Aex0o nex0o cex0o) := by rw [World.cell?_of_block (mm.block _ (by first | omega | (simp; done) | (simp; omega)) (by first | (simp [Iv]; done) | (simp [Iv]; omega)))]; exact xb0_5
  replace gb0_0 : u14.cell? ⟨u6.heap.size, 0, none⟩ = some (.int .i64 pg0) := by rw [World.cell?_of_block (mm.block _ (by first | omega | (simp; done) | (simp; omega)) (by first | (simp [Iv]; done) | (simp [Iv]; omega)))]; exact gb0_0
  replace gb0_1 : u14.cell? ⟨u6.heap.size, 1, none⟩ = some (.slice Ag0 ng0 cg0) := by rw [World.cell?_of_block (mm.block _ (by first | omega | (simp; done) | (simp; omega)) (by first | (simp [Iv]; done) | (simp [Iv]; omega)))]; exact gb0_1
  replace gb0_2 : u14.cell? ⟨u6.heap.size, 2, none⟩ = some (.slice Abg0 nbg0 cbg0) := by rw [World.cell?_of_block (mm.block _ (by first | omega | (simp; done) | (simp; omega)) (by first | (simp [Iv]; done) | (simp [Iv]; omega)))]; exact gb0_2
  replace gb0_3 : u14.cell? ⟨u6.heap.size, 3, none⟩ = some (.slice Acg0 ncg0 ccg0) := by rw [World.cell?_of_block (mm.block _ (by first | omega | (simp; done) | (simp; omega)) (by first | (simp [Iv]; done) | (simp [Iv]; omega)))]; exact gb0_3
  replace gb0_4 : u14.cell? ⟨u6.heap.size, 4, none⟩ = some (.slice Adg0 ndg0 cdg0) := by rw [World.cell?_of_block (mm.block _ (by first | omega | (simp; done) | (simp; omega)) (by first | (simp [Iv]; done) | (simp [Iv]; omega)))]; exact gb0_4
  replace gb0_5 : u14.cell? ⟨u6.heap.size, 5, none⟩ = some (.slice Aeg0 neg0 ceg0) := by rw [World.cell?_of_block (mm.block _ (by first | omega | (simp; done) | (simp; omega)) (by first | (simp [Iv]; done) | (simp [Iv]; omega)))]; exact gb0_5
  replace w0 := tZ.ochg w0 mm (by simp only [Iv]; omega)
  replace B : Below w.heap.size w u14 := B.trans (mm.toBelow (by simp only [Iv]; omega) (by omega))
  clear mm
  replace lt0 : w.heap.size < u14.heap.size := by omega
  replace lt1 : u3.heap.size < u14.heap.size := by omega
  replace lt2 : u4.heap.size < u14.heap.size := by omega
  replace lt3 : u6.heap.size < u14.heap.size := by omega
  go_wp2_with fail
  refine (nf_held_Y _ _ _ _ _ _ _ _ _ _ _ _ _ _ _ _ _ _ _ (tZ.read g0) (by omega)).mono ?_
  rintro e u15 ⟨rfl, bb⟩
  have G := bb
  have zu15 : u14.heap.size ≤ u15.heap.size := by have := bb.size; simpa using this
  replace pb0_0 : u15.cell? ⟨w.heap.size, 0, none⟩ = some (.int .i64 p0) := by rw [G.cell (by first | omega | (simp; done) | (simp; omega))]; exact pb0_0
  replace pb0_1 : u15.cell? ⟨w.heap.size, 1, none⟩ = some (.slice A0 n0 c0) := by rw [G.cell (by first | omega | (simp; done) | (simp; omega))]; exact pb0_1
  replace pb0_2 : u15.cell? ⟨w.heap.size, 2, none⟩ = some (.slice Ab0 nb0 cb0) := by rw [G.cell (by first | omega | (simp; done) | (simp; omega))]; exact pb0_2
  replace pb0_3 : u15.cell? ⟨w.heap.size, 3, none⟩ = some (.slice Ac0 nc0 cc0) := by rw [G.cell (by first | omega | (simp; done) | (simp; omega))]; exact pb0_3
  replace pb0_4 : u15.cell? ⟨w.heap.size, 4, none⟩ = some (.slice Ad0 nd0 cd0) := by rw [G.cell (by first | omega | (simp; done) | (simp; omega))]; exact pb0_4
  replace pb0_5 : u15.cell? ⟨w.heap.size, 5, none⟩ = some (.slice Ae0 ne0 ce0) := by rw [G.cell (by first | omega | (simp; done) | (simp; omega))]; exact pb0_5
  replace wb0_0 : u15.cell? ⟨u3.heap.size, 0, none⟩ = some (.int .i64 pw0) := by rw [G.cell (by first | omega | (simp; done) | (simp; omega))]; exact wb0_0
  replace wb0_1 : u15.cell? ⟨u3.heap.size, 1, none⟩ = some (.slice Aw0 nw0 cw0) := by rw [G.cell (by first | omega | (simp; done) | (simp; omega))]; exact wb0_1
  replace wb0_2 : u15.cell? ⟨u3.heap.size, 2, none⟩ = some (.slice Abw0 nbw0 cbw0) := by rw [G.cell (by first | omega | (simp; done) | (simp; omega))]; exact wb0_2
  replace wb0_3 : u15.cell? ⟨u3.heap.size, 3, none⟩ = some (.slice Acw0 ncw0 ccw0) := by rw [G.cell (by first | omega | (simp; done) | (simp; omega))]; exact wb0_3
  replace wb0_4 : u15.cell? ⟨u3.heap.size, 4, none⟩ = some (.slice Adw0 ndw0 cdw0) := by rw [G.cell (by first | omega | (simp; done) | (simp; omega))]; exact wb0_4
  replace wb0_5 : u15.cell? ⟨u3.heap.size, 5, none⟩ = some (.slice Aew0 new0 cew0) := by rw [G.cell (by first | omega | (simp; done) | (simp; omega))]; exact wb0_5
  replace xb0_0 : u15.cell? ⟨u4.heap.size, 0, none⟩ = some (.int .i64 px0o) := by rw [G.cell (by first | omega | (simp; done) | (simp; omega))]; exact xb0_0
  replace xb0_1 : u15.cell? ⟨u4.heap.size, 1, none⟩ = some (.slice Ax0o nx0o cx0o) := by rw [G.cell (by first | omega | (simp; done) | (simp; omega))]; exact xb0_1
  replace xb0_2 : u15.cell? ⟨u4.heap.size, 2, none⟩ = some (.slice Abx0o nbx0o cbx0o) := by rw [G.cell (by first | omega | (simp; done) | (simp; omega))]; exact xb0_2
  replace xb0_3 : u15.cell? ⟨u4.heap.size, 3, none⟩ = some (.slice Acx0o ncx0o ccx0o) := by rw [G.cell (by first | omega | (simp; done) | (simp; omega))]; exact xb0_3
  replace xb0_4 : u15.cell? ⟨u4.heap.size, 4, none⟩ = some (.slice Adx0o ndx0o cdx0o) := by rw [G.cell (by first | omega | (simp; done) | (simp; omega))]; exact xb0_4
  replace xb0_5 : u15.cell? ⟨u4.heap.size, 5, none⟩ = some (.slice Aex0o nex0o cex0o) := by rw [G.cell (by first | omega | (simp; done) | (simp; omega))]; exact xb0_5
  replace gb0_0 : u15.cell? ⟨u6.heap.size, 0, none⟩ = some (.int .i64 pg0) := by rw [G.cell (by first | omega | (simp; done) | (simp; omega))]; exact gb0_0
  replace gb0_1 : u15.cell? ⟨u6.heap.size, 1, none⟩ = some (.slice Ag0 ng0 cg0) := by rw [G.cell (by first | omega | (simp; done) | (simp; omega))]; exact gb0_1
  replace gb0_2 : u15.cell? ⟨u6.heap.size, 2, none⟩ = some (.slice Abg0 nbg0 cbg0) := by rw [G.cell (by first | omega | (simp; done) | (simp; omega))]; exact gb0_2
  replace gb0_3 : u15.cell? ⟨u6.heap.size, 3, none⟩ = some (.slice Acg0 ncg0 ccg0) := by rw [G.cell (by first | omega | (simp; done) | (simp; omega))]; exact gb0_3
  replace gb0_4 : u15.cell? ⟨u6.heap.size, 4, none⟩ = some (.slice Adg0 ndg0 cdg0) := by rw [G.cell (by first | omega | (simp; done) | (simp; omega))]; exact gb0_4
  replace gb0_5 : u15.cell? ⟨u6.heap.size, 5, none⟩ = some (.slice Aeg0 neg0 ceg0) := by rw [G.cell (by first | omega | (simp; done) | (simp; omega))]; exact gb0_5
  replace w0 := tZ.obelow w0 G (by omega)
  replace g0 := tZ.obelow g0 G (by omega)
  replace B := bel_trans B G
  clear G bb
  replace lt0 : w.heap.size < u15.heap.size := by omega
  replace lt1 : u3.heap.size < u15.heap.size := by omega
  replace lt2 : u4.heap.size < u15.heap.size := by omega
  replace lt3 : u6.heap.size < u15.heap.size := by omega
  go_wp2_with fail
  refine (nf_to_Y _ _ _ _ _ _ _ _ _ _ _ _ _ _ _ _ _ _ (tZ.later hx0 B) (by omega)).mono ?_
  rintro e u16 ⟨ph0o, Ah0o, nh0o, ch0o, Abh0o, nbh0o, cbh0o, Ach0o, nch0o, cch0o, Adh0o, ndh0o, cdh0o, Aeh0o, neh0o, ceh0o, rfl, h0o, bb⟩
  have G := bb
  have zu16 : u15.heap.size ≤ u16.heap.size := by have := bb.size; simpa using this
  replace pb0_0 : u16.cell? ⟨w.heap.size, 0, none⟩ = some (.int .i64 p0) := by rw [G.cell (by first | omega | (simp; done) | (simp; omega))]; exact pb0_0
  replace pb0_1 : u16.cell? ⟨w.heap.size, 1, none⟩ = some (.slice A0 n0 c0) := by rw [G.cell (by first | omega | (simp; done) | (simp; omega))]; exact pb0_1
  replace pb0_2 : u16.cell? ⟨w.heap.size, 2, none⟩ = some (.slice Ab0 nb0 cb0) := by rw [G.cell (by first | omega | (simp; done) | (simp; omega))]; exact pb0_2
  replace pb0_3 : u16.cell? ⟨w.heap.size, 3, none⟩ = some (.slice Ac0 nc0 cc0) := by rw [G.cell (by first | omega | (simp; done) | (simp; omega))]; exact pb0_3
  replace pb0_4 : u16.cell? ⟨w.heap.size, 4, none⟩ = some (.slice Ad0 nd0 cd0) := by rw [G.cell (by first | omega | (simp; done) | (simp; omega))]; exact pb0_4
  replace pb0_5 : u16.cell? ⟨w.heap.size, 5, none⟩ = some (.slice Ae0 ne0 ce0) := by rw [G.cell (by first | omega | (simp; done) | (simp; omega))]; exact pb0_5
  replace wb0_0 : u16.cell? ⟨u3.heap.size, 0, none⟩ = some (.int .i64 pw0) := by rw [G.cell (by first | omega | (simp; done) | (simp; omega))]; exact wb0_0
  replace wb0_1 : u16.cell? ⟨u3.heap.size, 1, none⟩ = some (.slice Aw0 nw0 cw0) := by rw [G.cell (by first | omega | (simp; done) | (simp; omega))]; exact wb0_1
  replace wb0_2 : u16.cell? ⟨u3.heap.size, 2, none⟩ = some (.slice Abw0 nbw0 cbw0) := by rw [G.cell (by first | omega | (simp; done) | (simp; omega))]; exact wb0_2
  replace wb0_3 : u16.cell? ⟨u3.heap.size, 3, none⟩ = some (.slice Acw0 ncw0 ccw0) := by rw [G.cell (by first | omega | (simp; done) | (simp; omega))]; exact wb0_3
  replace wb0_4 : u16.cell? ⟨u3.heap.size, 4, none⟩ = some (.slice Adw0 ndw0 cdw0) := by rw [G.cell (by first | omega | (simp; done) | (simp; omega))]; exact wb0_4
  replace wb0_5 : u16.cell? ⟨u3.heap.size, 5, none⟩ = some (.slice Aew0 new0 cew0) := by rw [G.cell (by first | omega | (simp; done) | (simp; omega))]; exact wb0_5
  replace xb0_0 : u16.cell? ⟨u4.heap.size, 0, none⟩ = some (.int .i64 px0o) := by rw [G.cell (by first | omega | (simp; done) | (simp; omega))]; exact xb0_0
  replace xb0_1 : u16.cell? ⟨u4.heap.size, 1, none⟩ = some (.slice Ax0o nx0o cx0o) := by rw [G.cell (by first | omega | (simp; done) | (simp; omega))]; exact xb0_1
  replace xb0_2 : u16.cell? ⟨u4.heap.size, 2, none⟩ = some (.slice Abx0o nbx0o cbx0o) := by rw [G.cell (by first | omega | (simp; done) | (simp; omega))]; exact xb0_2
  replace xb0_3 : u16.cell? ⟨u4.heap.size, 3, none⟩ = some (.slice Acx0o ncx0o ccx0o) := by rw [G.cell (by first | omega | (simp; done) | (simp; omega))]; exact xb0_3
  replace xb0_4 : u16.cell? ⟨u4.heap.size, 4, none⟩ = some (.slice Adx0o ndx0o cdx0o) := by rw [G.cell (by first | omega | (simp; done) | (simp; omega))]; exact xb0_4
  replace xb0_5 : u16.cell? ⟨u4.heap.size, 5, none⟩ = some (.slice Aex0o nex0o cex0o) := by rw [G.cell (by first | omega | (simp; done) | (simp; omega))]; exact xb0_5
  replace gb0_0 : u16.cell? ⟨u6.heap.size, 0, none⟩ = some (.int .i64 pg0) := by rw [G.cell (by first | omega | (simp; done) | (simp; omega))]; exact gb0_0
  replace gb0_1 : u16.cell? ⟨u6.heap.size, 1, none⟩ = some (.slice Ag0 ng0 cg0) := by rw [G.cell (by first | omega | (simp; done) | (simp; omega))]; exact gb0_1
  replace gb0_2 : u16.cell? ⟨u6.heap.size, 2, none⟩ = some (.slice Abg0 nbg0 cbg0) := by rw [G.cell (by first | omega | (simp; done) | (simp; omega))]; exact gb0_2
  replace gb0_3 : u16.cell? ⟨u6.heap.size, 3, none⟩ = some (.slice Acg0 ncg0 ccg0) := by rw [G.cell (by first | omega | (simp; done) | (simp; omega))]; exact gb0_3
  replace gb0_4 : u16.cell? ⟨u6.heap.size, 4, none⟩ = some (.slice Adg0 ndg0 cdg0) := by rw [G.cell (by first | omega | (simp; done) | (simp; omega))]; exact gb0_4
  replace gb0_5 : u16.cell? ⟨u6.heap.size, 5, none⟩ = some (.slice Aeg0 neg0 ceg0) := by rw [G.cell (by first | omega | (simp; done) | (simp; omega))]; exact gb0_5
  replace w0 := tZ.obelow w0 G (by omega)
  replace g0 := tZ.obelow g0 G (by omega)
  replace h0o : tZ.O u16 (Iv (u15.heap.size) u16.heap.size) [.int .i64 ph0o, .slice Ah0o nh0o ch0o, .slice Abh0o nbh0o cbh0o, .slice Ach0o nch0o cch0o, .slice Adh0o ndh0o cdh0o, .slice Aeh0o neh0o ceh0o] x0 := tZ.oiv h0o (by simp) (Nat.le_refl _)
  replace B := bel_trans B G
  clear G bb
  replace lt0 : w.heap.size < u16.heap.size := by omega
  replace lt1 : u3.heap.size < u16.heap.size := by omega
  replace lt2 : u4.heap.size < u16.heap.size := by omega
  replace lt3 : u6.heap.size < u16.heap.size := by omega
  go_wp2_with fail
  refine (nf_to_S _ _ _ _ _ (tS.later hx1 B) (by omega)).mono ?_
  rintro e u17 ⟨Ah1o, nh1o, ch1o, rfl, h1o, bb⟩
  have G := bb
  have zu17 : u16.heap.size ≤ u17.heap.size := by have := bb.size; simpa using this
  replace pb0_0 : u17.cell? ⟨w.heap.size, 0, none⟩ = some (.int .i64 p0) := by rw [G.cell (by first | omega | (simp; done) | (simp; omega))]; exact pb0_0
  replace pb0_1 : u17.cell? ⟨w.heap.size, 1, none⟩ = some (.slice A0 n0 c0) := by rw [G.cell (by first | omega | (simp; done) | (simp; omega))]; exact pb0_1
  replace pb0_2 : u17.cell? ⟨w.heap.size, 2, none⟩ = some (.slice Ab0 nb0 cb0) := by rw [G.cell (by first | omega | (simp; done) | (simp; omega))]; exact pb0_2
  replace pb0_3 : u17.cell? ⟨w.heap.size, 3, none⟩ = some (.slice Ac0 nc0 cc0) := by rw [G.cell (by first | omega | (simp; done) | (simp; omega))]; exact pb0_3
  replace pb0_4 : u17.cell? ⟨w.heap.size, 4, none⟩ = some (.slice Ad0 nd0 cd0) := by rw [G.cell (by first | omega | (simp; done) | (simp; omega))]; exact pb0_4
  replace pb0_5 : u17.cell? ⟨w.heap.size, 5, none⟩ = some (.slice Ae0 ne0 ce0) := by rw [G.cell (by first | omega | (simp; done) | (simp; omega))]; exact pb0_5
  replace wb0_0 : u17.cell? ⟨u3.heap.size, 0, none⟩ = some (.int .i64 pw0) := by rw [G.cell (by first | omega | (simp; done) | (simp; omega))]; exact wb0_0
  replace wb0_1 : u17.cell? ⟨u3.heap.size, 1, none⟩ = some (.slice Aw0 nw0 cw0) := by rw [G.cell (by first | omega | (simp; done) | (simp; omega))]; exact wb0_1
  replace wb0_2 : u17.cell? ⟨u3.heap.size, 2, none⟩ = some (.slice Abw0 nbw0 cbw0) := by rw [G.cell (by first | omega | (simp; done) | (simp; omega))]; exact wb0_2
  replace wb0_3 : u17.cell? ⟨u3.heap.size, 3, none⟩ = some (.slice Acw0 ncw0 ccw0) := by rw [G.cell (by first | omega | (simp; done) | (simp; omega))]; exact wb0_3
  replace wb0_4 : u17.cell? ⟨u3.heap.size, 4, none⟩ = some (.slice Adw0 ndw0 cdw0) := by rw [G.cell (by first | omega | (simp; done) | (simp; omega))]; exact wb0_4
  replace wb0_5 : u17.cell? ⟨u3.heap.size, 5, none⟩ = some (.slice Aew0 new0 cew0) := by rw [G.cell (by first | omega | (simp; done) | (simp; omega))]; exact wb0_5
  replace xb0_0 : u17.cell? ⟨u4.heap.size, 0, none⟩ = some (.int .i64 px0o) := by rw [G.cell (by first | omega | (simp; done) | (simp; omega))]; exact xb0_0
  replace xb0_1 : u17.cell? ⟨u4.heap.size, 1, none⟩ = some (.slice Ax0o nx0o cx0o) := by rw [G.cell (by first | omega | (simp; done) | (simp; omega))]; exact xb0_1
  replace xb0_2 : u17.cell? ⟨u4.heap.size, 2, none⟩ = some (.slice Abx0o nbx0o cbx0o) := by rw [G.cell (by first | omega | (simp; done) | (simp; omega))]; exact xb0_2
  replace xb0_3 : u17.cell? ⟨u4.heap.size, 3, none⟩ = some (.slice Acx0o ncx0o ccx0o) := by rw [G.cell (by first | omega | (simp; done) | (simp; omega))]; exact xb0_3
  replace xb0_4 : u17.cell? ⟨u4.heap.size, 4, none⟩ = some (.slice Adx0o ndx0o cdx0o) := by rw [G.cell (by first | omega | (simp; done) | (simp; omega))]; exact xb0_4
  replace xb0_5 : u17.cell? ⟨u4.heap.size, 5, none⟩ = some (.slice Aex0o nex0o cex0o) := by rw [G.cell (by first | omega | (simp; done) | (simp; omega))]; exact xb0_5
  replace gb0_0 : u17.cell? ⟨u6.heap.size, 0, none⟩ = some (.int .i64 pg0) := by rw [G.cell (by first | omega | (simp; done) | (simp; omega))]; exact gb0_0
  replace gb0_1 : u17.cell? ⟨u6.heap.size, 1, none⟩ = some (.slice Ag0 ng0 cg0) := by rw [G.cell (by first | omega | (simp; done) | (simp; omega))]; exact gb0_1
  replace gb0_2 : u17.cell? ⟨u6.heap.size, 2, none⟩ = some (.slice Abg0 nbg0 cbg0) := by rw [G.cell (by first | omega | (simp; done) | (simp; omega))]; exact gb0_2
  replace gb0_3 : u17.cell? ⟨u6.heap.size, 3, none⟩ = some (.slice Acg0 ncg0 ccg0) := by rw [G.cell (by first | omega | (simp; done) | (simp; omega))]; exact gb0_3
  replace gb0_4 : u17.cell? ⟨u6.heap.size, 4, none⟩ = some (.slice Adg0 ndg0 cdg0) := by rw [G.cell (by first | omega | (simp; done) | (simp; omega))]; exact gb0_4
  replace gb0_5 : u17.cell? ⟨u6.heap.size, 5, none⟩ = some (.slice Aeg0 neg0 ceg0) := by rw [G.cell (by first | omega | (simp; done) | (simp; omega))]; exact gb0_5
  replace w0 := tZ.obelow w0 G (by omega)
  replace g0 := tZ.obelow g0 G (by omega)
  replace h0o := tZ.obelow h0o G (by omega)
  replace h1o : tS.O u17 (Iv (u16.heap.size) u17.heap.size) [.slice Ah1o nh1o ch1o] x1 := tS.oiv h1o (by simp) (Nat.le_refl _)
  replace B := bel_trans B G
  clear G bb
  replace lt0 : w.heap.size < u17.heap.size := by omega
  replace lt1 : u3.heap.size < u17.heap.size := by omega
  replace lt2 : u4.heap.size < u17.heap.size := by omega
  replace lt3 : u6.heap.size < u17.heap.size := by omega
  go_wp2_with fail
  refine (HI.out _ _ _ _ _ _ _ _ _ _ _ _ _ _ _ _ _ _ _ _ (tZ.read h0o) (tS.read h1o) hw0 hw1).mono ?_
  rintro e u18 ⟨ph0, Ah0, nh0, ch0, Abh0, nbh0, cbh0, Ach0, nch0, cch0, Adh0, ndh0, cdh0, Aeh0, neh0, ceh0, rfl, h0, bb⟩
  have G := bb
  have zu18 : u17.heap.size ≤ u18.heap.size := by have := bb.size; simpa using this
  replace pb0_0 : u18.cell? ⟨w.heap.size, 0, none⟩ = some (.int .i64 p0) := by rw [G.cell (by first | omega | (simp; done) | (simp; omega))]; exact pb0_0
  replace pb0_1 : u18.cell? ⟨w.heap.size, 1, none⟩ = some (.slice A0 n0 c0) := by rw [G.cell (by first | omega | (simp; done) | (simp; omega))]; exact pb0_1
  replace pb0_2 : u18.cell? ⟨w.heap.size, 2, none⟩ = some (.slice Ab0 nb0 cb0) := by rw [G.cell (by first | omega | (simp; done) | (simp; omega))]; exact pb0_2
  replace pb0_3 : u18.cell? ⟨w.heap.size, 3, none⟩ = some (.slice Ac0 nc0 cc0) := by rw [G.cell (by first | omega | (simp; done) | (simp; omega))]; exact pb0_3
  replace pb0_4 : u18.cell? ⟨w.heap.size, 4, none⟩ = some (.slice Ad0 nd0 cd0) := by rw [G.cell (by first | omega | (simp; done) | (simp; omega))]; exact pb0_4
  replace pb0_5 : u18.cell? ⟨w.heap.size, 5, none⟩ = some (.slice Ae0 ne0 ce0) := by rw [G.cell (by first | omega | (simp; done) | (simp; omega))]; exact pb0_5
  replace wb0_0 : u18.cell? ⟨u3.heap.size, 0, none⟩ = some (.int .i64 pw0) := by rw [G.cell (by first | omega | (simp; done) | (simp; omega))]; exact wb0_0
  replace wb0_1 : u18.cell? ⟨u3.heap.size, 1, none⟩ = some (.slice Aw0 nw0 cw0) := by rw [G.cell (by first | omega | (simp; done) | (simp; omega))]; exact wb0_1
  replace wb0_2 : u18.cell? ⟨u3.heap.size, 2, none⟩ = some (.slice Abw0 nbw0 cbw0) := by rw [G.cell (by first | omega | (simp; done) | (simp; omega))]; exact wb0_2
  replace wb0_3 : u18.cell? ⟨u3.heap.size, 3, none⟩ = some (.slice Acw0 ncw0 ccw0) := by rw [G.cell (by first | omega | (simp; done) | (simp; omega))]; exact wb0_3
  replace wb0_4 : u18.cell? ⟨u3.heap.size, 4, none⟩ = some (.slice Adw0 ndw0 cdw0) := by rw [G.cell (by first | omega | (simp; done) | (simp; omega))]; exact wb0_4
  replace wb0_5 : u18.cell? ⟨u3.heap.size, 5, none⟩ = some (.slice Aew0 new0 cew0) := by rw [G.cell (by first | omega | (simp; done) | (simp; omega))]; exact wb0_5
  replace xb0_0 : u18.cell? ⟨u4.heap.size, 0, none⟩ = some (.int .i64 px0o) := by rw [G.cell (by first | omega | (simp; done) | (simp; omega))]; exact xb0_0
  replace xb0_1 : u18.cell? ⟨u4.heap.size, 1, none⟩ = some (.slice Ax0o nx0o cx0o) := by rw [G.cell (by first | omega | (simp; done) | (simp; omega))]; exact xb0_1
  replace xb0_2 : u18.cell? ⟨u4.heap.size, 2, none⟩ = some (.slice Abx0o nbx0o cbx0o) := by rw [G.cell (by first | omega | (simp; done) | (simp; omega))]; exact xb0_2
  replace xb0_3 : u18.cell? ⟨u4.heap.size, 3, none⟩ = some (.slice Acx0o ncx0o ccx0o) := by rw [G.cell (by first | omega | (simp; done) | (simp; omega))]; exact xb0_3
  replace xb0_4 : u18.cell? ⟨u4.heap.size, 4, none⟩ = some (.slice Adx0o ndx0o cdx0o) := by rw [G.cell (by first | omega | (simp; done) | (simp; omega))]; exact xb0_4
  replace xb0_5 : u18.cell? ⟨u4.heap.size, 5, none⟩ = some (.slice Aex0o nex0o cex0o) := by rw [G.cell (by first | omega | (simp; done) | (simp; omega))]; exact xb0_5
  replace gb0_0 : u18.cell? ⟨u6.heap.size, 0, none⟩ = some (.int .i64 pg0) := by rw [G.cell (by first | omega | (simp; done) | (simp; omega))]; exact gb0_0
  replace gb0_1 : u18.cell? ⟨u6.heap.size, 1, none⟩ = some (.slice Ag0 ng0 cg0) := by rw [G.cell (by first | omega | (simp; done) | (simp; omega))]; exact gb0_1
  replace gb0_2 : u18.cell? ⟨u6.heap.size, 2, none⟩ = some (.slice Abg0 nbg0 cbg0) := by rw [G.cell (by first | omega | (simp; done) | (simp; omega))]; exact gb0_2
  replace gb0_3 : u18.cell? ⟨u6.heap.size, 3, none⟩ = some (.slice Acg0 ncg0 ccg0) := by rw [G.cell (by first | omega | (simp; done) | (simp; omega))]; exact gb0_3
  replace gb0_4 : u18.cell? ⟨u6.heap.size, 4, none⟩ = some (.slice Adg0 ndg0 cdg0) := by rw [G.cell (by first | omega | (simp; done) | (simp; omega))]; exact gb0_4
  replace gb0_5 : u18.cell? ⟨u6.heap.size, 5, none⟩ = some (.slice Aeg0 neg0 ceg0) := by rw [G.cell (by first | omega | (simp; done) | (simp; omega))]; exact gb0_5
  replace w0 := tZ.obelow w0 G (by omega)
  replace g0 := tZ.obelow g0 G (by omega)
  replace h0o := tZ.obelow h0o G (by omega)
  replace h1o := tS.obelow h1o G (by omega)
  replace h0 : tZ.O u18 (Iv (u17.heap.size) u18.heap.size) [.int .i64 ph0, .slice Ah0 nh0 ch0, .slice Abh0 nbh0 cbh0, .slice Ach0 nch0 cch0, .slice Adh0 ndh0 cdh0, .slice Aeh0 neh0 ceh0] z0 := tZ.oiv h0 (by simp) (Nat.le_refl _)
  replace B := bel_trans B G
  clear G bb
  replace lt0 : w.heap.size < u18.heap.size := by omega
  replace lt1 : u3.heap.size < u18.heap.size := by omega
  replace lt2 : u4.heap.size < u18.heap.size := by omega
  replace lt3 : u6.heap.size < u18.heap.size := by omega
  clear h0o
  clear h1o
  have G0 : Below u18.heap.size u18 (u18.alloc (.cells #[.int .i64 ph0, .slice Ah0 nh0 ch0, .slice Abh0 nbh0 cbh0, .slice Ach0 nch0 cch0, .slice Adh0 ndh0 cdh0, .slice Aeh0 neh0 ceh0] 39)) := (Below.refl _ _).alloc (Nat.le_refl _) _
  go_wp2_with fail
  refine (nf_eq_Y _ _ _ _ _ _ _ _ _ _ _ _ _ _ _ _ _ _ _ _ _ _ _ _ _ _ _ _ _ _ _ _ _ _ (tZ.later (tZ.read h0) G0) (tZ.later (tZ.read w0) G0) (by omega)).mono ?_
  rintro e u19 ⟨rfl, bb⟩
  have G := bel_trans G0 bb
  have zu19 : u18.heap.size + 1 ≤ u19.heap.size := by have := bb.size; simp at this; omega
  replace pb0_0 : u19.cell? ⟨w.heap.size, 0, none⟩ = some (.int .i64 p0) := by rw [G.cell (by first | omega | (simp; done) | (simp; omega))]; exact pb0_0
  replace pb0_1 : u19.cell? ⟨w.heap.size, 1, none⟩ = some (.slice A0 n0 c0) := by rw [G.cell (by first | omega | (simp; done) | (simp; omega))]; exact pb0_1
  replace pb0_2 : u19.cell? ⟨w.heap.size, 2, none⟩ = some (.slice Ab0 nb0 cb0) := by rw [G.cell (by first | omega | (simp; done) | (simp; omega))]; exact pb0_2
  replace pb0_3 : u19.cell? ⟨w.heap.size, 3, none⟩ = some (.slice Ac0 nc0 cc0) := by rw [G.cell (by first | omega | (simp; done) | (simp; omega))]; exact pb0_3
  replace pb0_4 : u19.cell? ⟨w.heap.size, 4, none⟩ = some (.slice Ad0 nd0 cd0) := by rw [G.cell (by first | omega | (simp; done) | (simp; omega))]; exact pb0_4
  replace pb0_5 : u19.cell? ⟨w.heap.size, 5, none⟩ = some (.slice Ae0 ne0 ce0) := by rw [G.cell (by first | omega | (simp; done) | (simp; omega))]; exact pb0_5
  replace wb0_0 : u19.cell? ⟨u3.heap.size, 0, none⟩ = some (.int .i64 pw0) := by rw [G.cell (by first | omega | (simp; done) | (simp; omega))]; exact wb0_0
  replace wb0_1 : u19.cell? ⟨u3.heap.size, 1, none⟩ = some (.slice Aw0 nw0 cw0) := by rw [G.cell (by first | omega | (simp; done) | (simp; omega))]; exact wb0_1
  replace wb0_2 : u19.cell? ⟨u3.heap.size, 2, none⟩ = some (.slice Abw0 nbw0 cbw0) := by rw [G.cell (by first | omega | (simp; done) | (simp; omega))]; exact wb0_2
  replace wb0_3 : u19.cell? ⟨u3.heap.size, 3, none⟩ = some (.slice Acw0 ncw0 ccw0) := by rw [G.cell (by first | omega | (simp; done) | (simp; omega))]; exact wb0_3
  replace wb0_4 : u19.cell? ⟨u3.heap.size, 4, none⟩ = some (.slice Adw0 ndw0 cdw0) := by rw [G.cell (by first | omega | (simp; done) | (simp; omega))]; exact wb0_4
  replace wb0_5 : u19.cell? ⟨u3.heap.size, 5, none⟩ = some (.slice Aew0 new0 cew0) := by rw [G.cell (by first | omega | (simp; done) | (simp; omega))]; exact wb0_5
  replace xb0_0 : u19.cell? ⟨u4.heap.size, 0, none⟩ = some (.int .i64 px0o) := by rw [G.cell (by first | omega | (simp; done) | (simp; omega))]; exact xb0_0
  replace xb0_1 : u19.cell? ⟨u4.heap.size, 1, none⟩ = some (.slice Ax0o nx0o cx0o) := by rw [G.cell (by first | omega | (simp; done) | (simp; omega))]; exact xb0_1
  replace xb0_2 : u19.cell? ⟨u4.heap.size, 2, none⟩ = some (.slice Abx0o nbx0o cbx0o) := by rw [G.cell (by first | omega | (simp; done) | (simp; omega))]; exact xb0_2
  replace xb0_3 : u19.cell? ⟨u4.heap.size, 3, none⟩ = some (.slice Acx0o ncx0o ccx0o) := by rw [G.cell (by first | omega | (simp; done) | (simp; omega))]; exact xb0_3
  replace xb0_4 : u19.cell? ⟨u4.heap.size, 4, none⟩ = some (.slice Adx0o ndx0o cdx0o) := by rw [G.cell (by first | omega | (simp; done) | (simp; omega))]; exact xb0_4
  replace xb0_5 : u19.cell? ⟨u4.heap.size, 5, none⟩ = some (.slice Aex0o nex0o cex0o) := by rw [G.cell (by first | omega | (simp; done) | (simp; omega))]; exact xb0_5
  replace gb0_0 : u19.cell? ⟨u6.heap.size, 0, none⟩ = some (.int .i64 pg0) := by rw [G.cell (by first | omega | (simp; done) | (simp; omega))]; exact gb0_0
  replace gb0_1 : u19.cell? ⟨u6.heap.size, 1, none⟩ = some (.slice Ag0 ng0 cg0) := by rw [G.cell (by first | omega | (simp; done) | (simp; omega))]; exact gb0_1
  replace gb0_2 : u19.cell? ⟨u6.heap.size, 2, none⟩ = some (.slice Abg0 nbg0 cbg0) := by rw [G.cell (by first | omega | (simp; done) | (simp; omega))]; exact gb0_2
  replace gb0_3 : u19.cell? ⟨u6.heap.size, 3, none⟩ = some (.slice Acg0 ncg0 ccg0) := by rw [G.cell (by first | omega | (simp; done) | (simp; omega))]; exact gb0_3
  replace gb0_4 : u19.cell? ⟨u6.heap.size, 4, none⟩ = some (.slice Adg0 ndg0 cdg0) := by rw [G.cell (by first | omega | (simp; done) | (simp; omega))]; exact gb0_4
  replace gb0_5 : u19.cell? ⟨u6.heap.size, 5, none⟩ = some (.slice Aeg0 neg0 ceg0) := by rw [G.cell (by first | omega | (simp; done) | (simp; omega))]; exact gb0_5
  replace w0 := tZ.obelow w0 G (by omega)
  replace g0 := tZ.obelow g0 G (by omega)
  replace h0 := tZ.obelow h0 G (by omega)
  have hb0_0 : u19.cell? ⟨u18.heap.size, 0, none⟩ = some (.int .i64 ph0) := by rw [bb.cell (by simp)]; simp [go_sem]
  have hb0_1 : u19.cell? ⟨u18.heap.size, 1, none⟩ = some (.slice Ah0 nh0 ch0) := by rw [bb.cell (by simp)]; simp [go_sem]
  have hb0_2 : u19.cell? ⟨u18.heap.size, 2, none⟩ = some (.slice Abh0 nbh0 cbh0) := by rw [bb.cell (by simp)]; simp [go_sem]
  have hb0_3 : u19.cell? ⟨u18.heap.size, 3, none⟩ = some (.slice Ach0 nch0 cch0) := by rw [bb.cell (by simp)]; simp [go_sem]
  have hb0_4 : u19.cell? ⟨u18.heap.size, 4, none⟩ = some (.slice Adh0 ndh0 cdh0) := by rw [bb.cell (by simp)]; simp [go_sem]
  have hb0_5 : u19.cell? ⟨u18.heap.size, 5, none⟩ = some (.slice Aeh0 neh0 ceh0) := by rw [bb.cell (by simp)]; simp [go_sem]
  replace B := bel_trans B G
  clear G bb G0
  replace lt0 : w.heap.size < u19.heap.size := by omega
  replace lt1 : u3.heap.size < u19.heap.size := by omega
  replace lt2 : u4.heap.size < u19.heap.size := by omega
  replace lt3 : u6.heap.size < u19.heap.size := by omega
  have lt4 : u18.heap.size < u19.heap.size := by omega
  go_wp2_with fail
  refine (nf_held_Y _ _ _ _ _ _ _ _ _ _ _ _ _ _ _ _ _ _ _ (tZ.read g0) (by omega)).mono ?_
  rintro e u20 ⟨rfl, bb⟩
  have G := bb
  have zu20 : u19.heap.size ≤ u20.heap.size := by have := bb.size; simpa using this
  replace pb0_0 : u20.cell? ⟨w.heap.size, 0, none⟩ = some (.int .i64 p0) := by rw [G.cell (by first | omega | (simp; done) | (simp; omega))]; exact pb0_0
  replace pb0_1 : u20.cell? ⟨w.heap.size, 1, none⟩ = some (.slice A0 n0 c0) := by rw [G.cell (by first | omega | (simp; done) | (simp; omega))]; exact pb0_1
  replace pb0_2 : u20.cell? ⟨w.heap.size, 2, none⟩ = some (.slice Ab0 nb0 cb0) := by rw [G.cell (by first | omega | (simp; done) | (simp; omega))]; exact pb0_2
  replace pb0_3 : u20.cell? ⟨w.heap.size, 3, none⟩ = some (.slice Ac0 nc0 cc0) := by rw [G.cell (by first | omega | (simp; done) | (simp; omega))]; exact pb0_3
  replace pb0_4 : u20.cell? ⟨w.heap.size, 4, none⟩ = some (.slice Ad0 nd0 cd0) := by rw [G.cell (by first | omega | (simp; done) | (simp; omega))]; exact pb0_4
  replace pb0_5 : u20.cell? ⟨w.heap.size, 5, none⟩ = some (.slice Ae0 ne0 ce0) := by rw [G.cell (by first | omega | (simp; done) | (simp; omega))]; exact pb0_5
  replace wb0_0 : u20.cell? ⟨u3.heap.size, 0, none⟩ = some (.int .i64 pw0) := by rw [G.cell (by first | omega | (simp; done) | (simp; omega))]; exact wb0_0
  replace wb0_1 : u20.cell? ⟨u3.heap.size, 1, none⟩ = some (.slice Aw0 nw0 cw0) := by rw [G.cell (by first | omega | (simp; done) | (simp; omega))]; exact wb0_1
  replace wb0_2 : u20.cell? ⟨u3.heap.size, 2, none⟩ = some (.slice Abw0 nbw0 cbw0) := by rw [G.cell (by first | omega | (simp; done) | (simp; omega))]; exact wb0_2
  replace wb0_3 : u20.cell? ⟨u3.heap.size, 3, none⟩ = some (.slice Acw0 ncw0 ccw0) := by rw [G.cell (by first | omega | (simp; done) | (simp; omega))]; exact wb0_3
  replace wb0_4 : u20.cell? ⟨u3.heap.size, 4, none⟩ = some (.slice Adw0 ndw0 cdw0) := by rw [G.cell (by first | omega | (simp; done) | (simp; omega))]; exact wb0_4
  replace wb0_5 : u20.cell? ⟨u3.heap.size, 5, none⟩ = some (.slice Aew0 new0 cew0) := by rw [G.cell (by first | omega | (simp; done) | (simp; omega))]; exact wb0_5
  replace xb0_0 : u20.cell? ⟨u4.heap.size, 0, none⟩ = some (.int .i64 px0o) := by rw [G.cell (by first | omega | (simp; done) | (simp; omega))]; exact xb0_0
  replace xb0_1 : u20.cell? ⟨u4.heap.size, 1, none⟩ = some (.slice Ax0o nx0o cx0o) := by rw [G.cell (by first | omega | (simp; done) | (simp; omega))]; exact xb0_1
  replace xb0_2 : u20.cell? ⟨u4.heap.size, 2, none⟩ = some (.slice Abx0o nbx0o cbx0o) := by rw [G.cell (by first | omega | (simp; done) | (simp; omega))]; exact xb0_2
  replace xb0_3 : u20.cell? ⟨u4.heap.size, 3, none⟩ = some (.slice Acx0o ncx0o ccx0o) := by rw [G.cell (by first | omega | (simp; done) | (simp; omega))]; exact xb0_3
  replace xb0_4 : u20.cell? ⟨u4.heap.size, 4, none⟩ = some (.slice Adx0o ndx0o cdx0o) := by rw [G.cell (by first | omega | (simp; done) | (simp; omega))]; exact xb0_4
  replace xb0_5 : u20.cell? ⟨u4.heap.size, 5, none⟩ = some (.slice Aex0o nex0o cex0o) := by rw [G.cell (by first | omega | (simp; done) | (simp; omega))]; exact xb0_5
  replace gb0_0 : u20.cell? ⟨u6.heap.size, 0, none⟩ = some (.int .i64 pg0) := by rw [G.cell (by first | omega | (simp; done) | (simp; omega))]; exact gb0_0
  replace gb0_1 : u20.cell? ⟨u6.heap.size, 1, none⟩ = some (.slice Ag0 ng0 cg0) := by rw [G.cell (by first | omega | (simp; done) | (simp; omega))]; exact gb0_1
  replace gb0_2 : u20.cell? ⟨u6.heap.size, 2, none⟩ = some (.slice Abg0 nbg0 cbg0) := by rw [G.cell (by first | omega | (simp; done) | (simp; omega))]; exact gb0_2
  replace gb0_3 : u20.cell? ⟨u6.heap.size, 3, none⟩ = some (.slice Acg0 ncg0 ccg0) := by rw [G.cell (by first | omega | (simp; done) | (simp; omega))]; exact gb0_3
  replace gb0_4 : u20.cell? ⟨u6.heap.size, 4, none⟩ = some (.slice Adg0 ndg0 cdg0) := by rw [G.cell (by first | omega | (simp; done) | (simp; omega))]; exact gb0_4
  replace gb0_5 : u20.cell? ⟨u6.heap.size, 5, none⟩ = some (.slice Aeg0 neg0 ceg0) := by rw [G.cell (by first | omega | (simp; done) | (simp; omega))]; exact gb0_5
  replace hb0_0 : u20.cell? ⟨u18.heap.size, 0, none⟩ = some (.int .i64 ph0) := by rw [G.cell (by first | omega | (simp; done) | (simp; omega))]; exact hb0_0
  replace hb0_1 : u20.cell? ⟨u18.heap.size, 1, none⟩ = some (.slice Ah0 nh0 ch0) := by rw [G.cell (by first | omega | (simp; done) | (simp; omega))]; exact hb0_1
  replace hb0_2 : u20.cell? ⟨u18.heap.size, 2, none⟩ = some (.slice Abh0 nbh0 cbh0) := by rw [G.cell (by first | omega | (simp; done) | (simp; omega))]; exact hb0_2
  replace hb0_3 : u20.cell? ⟨u18.heap.size, 3, none⟩ = some (.slice Ach0 nch0 cch0) := by rw [G.cell (by first | omega | (simp; done) | (simp; omega))]; exact hb0_3
  replace hb0_4 : u20.cell? ⟨u18.heap.size, 4, none⟩ = some (.slice Adh0 ndh0 cdh0) := by rw [G.cell (by first | omega | (simp; done) | (simp; omega))]; exact hb0_4
  replace hb0_5 : u20.cell? ⟨u18.heap.size, 5, none⟩ = some (.slice Aeh0 neh0 ceh0) := by rw [G.cell (by first | omega | (simp; done) | (simp; omega))]; exact hb0_5
  replace w0 := tZ.obelow w0 G (by omega)
  replace g0 := tZ.obelow g0 G (by omega)
  replace h0 := tZ.obelow h0 G (by omega)
  replace B := bel_trans B G
  clear G bb
  replace lt0 : w.heap.size < u20.heap.size := by omega
  replace lt1 : u3.heap.size < u20.heap.size := by omega
  replace lt2 : u4.heap.size < u20.heap.size := by omega
  replace lt3 : u6.heap.size < u20.heap.size := by omega
  replace lt4 : u18.heap.size < u20.heap.size := by omega
  go_wp2_with fail
  go_ret
  exact ⟨rfl, B⟩
end Go.Proofs.YtacgcagpaecncaaGreat
namespace Go.Proofs.YtacgcagpaecncaaGreat
open Go.ChangeShapes Go.WideShapes Go.Deep Go.RowKit
/-- Whatever came in at this type reads as something. -/
def Opens (P : Program) (T : TypeId) {α : Type} (t : Ty α) : Prop :=
  ∀ {H : Type} (enc : TypeId × Value → H) (w : World) (base : Nat) (spare : Nat → Bool) (held : Bool) (fuel : Nat) (cs : List Value) (d : DataW H × List MemPlace), DataW.trod enc P w base spare held fuel T cs = some d → ∃ x, t.R w w.heap.size cs x
section
variable {P : Program} {T : TypeId}
theorem opens_int (h : P.underlying T = some (.int .i64)) : Opens P T tI := fun _ _ _ _ _ _ _ _ ht => by
  obtain ⟨n, hn, _⟩ := DataW.trod_int h ht
  exact ⟨n, hn⟩
theorem opens_bool (h : P.underlying T = some .bool) : Opens P T tB := fun _ _ _ _ _ _ _ _ ht => by
  obtain ⟨n, hn, _⟩ := DataW.trod_bool h ht
  exact ⟨n, hn⟩
theorem opens_sl {α : Type} {t : Ty α} {e e' : TypeId} (ht : P.underlying T = some (.slice e)) (hC : P.cellsOf e = t.s) (he : Opens P e t) : Opens P T (t.sl e') := by
  intro H enc w base spare held fuel cs d h
  rcases open_slice ht h with ⟨rfl, _⟩ | ⟨a, len, cap, m, n, D, Pl, rfl, hb, hl, hm, hmm, hx, hi⟩
  · exact ⟨[], _, rfl, RS.nil _ _ _⟩
  · have hlm : len ≤ m := by rw [hmm]; split <;> omega
    have key : ∀ i, ∃ p : List Value × α, i < len → t.R w w.heap.size p.1 p.2 ∧ ∀ j u, p.1[j]? = some u → w.cell? (a.add (i * t.s + j)) = some u := by
      intro i
      by_cases hil : i < len
      · obtain ⟨cs', hc, ht'⟩ := hi i (by omega)
        rw [hC] at hc
        obtain ⟨x, hR⟩ := he enc w base spare held n cs' _ ht'
        obtain ⟨_, hcl, hat⟩ := World.cells?_some hc
        refine ⟨(cs', x), fun _ => ⟨hR, fun j u hu => ?_⟩⟩
        have hj : j < t.s := by rw [← hcl]; exact (List.getElem?_eq_some_iff.1 hu).1
        have := hat j hj
        rw [Go.Deep.add_add] at this
        rw [this]
        exact hu
      · exact ⟨([], t.zero), fun hc => absurd hc hil⟩
    obtain ⟨g, hg⟩ : ∃ g : Nat → List Value × α, ∀ i, i < len → t.R w w.heap.size (g i).1 (g i).2 ∧ ∀ j u, (g i).1[j]? = some u → w.cell? (a.add (i * t.s + j)) = some u := ⟨fun i => Classical.choose (key i), fun i => Classical.choose_spec (key i)⟩
    have hs : ∀ c ∈ (List.range len).map (fun i => (g i).1), c.length = t.s := by
      intro c hc
      obtain ⟨i, hi, rfl⟩ := List.mem_map.1 hc
      exact t.rlen (hg i (List.mem_range.1 hi)).1
    refine ⟨(List.range len).map fun i => (g i).2, _, rfl, some a, cap, (List.range len).map fun i => (g i).1, by simp, by simpa using hl, hm, by simp, ?_, ?_⟩
    · refine ⟨by rw [flat2_len hs]; simp, fun hn => ⟨a, rfl, ?_, fun j u hu => ?_⟩⟩
      · have hn' : 0 < len := by simpa using hn
        have h0 := (hg 0 hn')
        have hp := t.pos
        obtain ⟨u, hu⟩ : ∃ u, (g 0).1[0]? = some u := ⟨_, List.getElem?_eq_getElem (by rw [t.rlen h0.1]; exact hp)⟩
        have := World.block_lt_of_cell? _ _ (h0.2 0 u hu)
        rwa [block_of_add] at this
      · have hj : j < len * t.s := by have := (List.getElem?_eq_some_iff.1 hu).1; rw [flat2_len hs] at this; simpa using this
        have hk : j / t.s < len := Nat.div_lt_of_lt_mul (by rw [Nat.mul_comm]; exact hj)
        have hr : j % t.s < t.s := Nat.mod_lt _ t.pos
        have e0 : j / t.s * t.s + j % t.s = j := by rw [Nat.mul_comm]; exact Nat.div_add_mod j t.s
        have hf := flat2_at hs (k := j / t.s) (c := (g (j / t.s)).1) (by simp [hk]) (j % t.s) hr
        rw [e0, hu] at hf
        have := (hg _ hk).2 (j % t.s) u hf.symm
        rwa [e0] at this
    · intro k hk hk'
      simp only [List.length_map, List.length_range] at hk
      simp only [List.getElem_map, List.getElem_range]
      exact (hg k hk).1
/-- What the fields from the j-th cell on read as. -/
theorem R_one {α : Type} {t : Ty α} {w : World} {B o n : Nat} {cs : List Value} {x : α} (ho : o = 0) (hn : cs.length = n) (h : t.R w B ((cs.drop o).take n) x) : t.R w B cs x := by
  subst ho hn
  simpa using h
theorem R_pair {α β : Type} {a : Ty α} {b : Ty β} {w : World} {B n : Nat} {cs : List Value} {x : α} {y : β} (h1 : a.R w B (cs.take n) x) (h2 : b.R w B (cs.drop n) y) : (a.prod b).R w B cs (x, y) := ⟨cs.take n, cs.drop n, by simp, h1, h2⟩
/-- A struct of one field. -/
theorem opens_struct1 {α : Type} {t : Ty α} {f0 : Field} (hs : P.underlying T = some (.struct #[f0])) (o0 : f0.offset = 0) (hC : P.cellsOf T = P.cellsOf f0.type) (h0 : Opens P f0.type t) : Opens P T t := by
  intro H enc w base spare held fuel cs d h
  obtain ⟨y0, n, _, hlen, t0⟩ := trod_struct1 hs h
  obtain ⟨x, hx⟩ := h0 enc w base spare held n _ _ t0
  exact ⟨x, R_one o0 (by rw [hlen, hC]) hx⟩
theorem opens_fields {α : Type} {t : Ty α} {fs : Array Field} (hs : P.underlying T = some (.struct fs))
    (hf : ∀ (w : World) (cs : List Value), cs.length = P.cellsOf T → (∀ {H : Type} (enc : TypeId × Value → H) (base : Nat) (spare : Nat → Bool) (held : Bool) (n : Nat) (ys : List (DataW H × List MemPlace)), ys.length = fs.size → (∀ (i : Nat) (f : Field), fs[i]? = some f → DataW.trod enc P w base spare held n f.type ((cs.drop f.offset).take (P.cellsOf f.type)) = ys[i]?) → ∃ x, t.R w w.heap.size cs x)) : Opens P T t := by
  intro H enc w base spare held fuel cs d h
  obtain ⟨ys, n, _, _, hlen, hyl, hg⟩ := DataW.trod_struct hs h
  exact hf w cs hlen enc base spare held n ys hyl hg
end
/-- One field of a struct. -/
theorem field_at {P : Program} {H : Type} {enc : TypeId × Value → H} {w : World} {base n i o k : Nat} {spare : Nat → Bool} {held : Bool} {fs : Array Field} {cs : List Value} {ys : List (DataW H × List MemPlace)} {α : Type} {t : Ty α} {f : Field} {e : TypeId}
    (hyl : ys.length = fs.size) (hg : ∀ (i : Nat) (f : Field), fs[i]? = some f → DataW.trod enc P w base spare held n f.type ((cs.drop f.offset).take (P.cellsOf f.type)) = ys[i]?)
    (hi : fs[i]? = some f) (he : f.type = e) (ho : f.offset = o) (hk : P.cellsOf e = k) (h : Opens P e t) : ∃ x, t.R w w.heap.size ((cs.drop o).take k) x := by
  have h1 := hg i f hi
  have hlt : i < ys.length := by rw [hyl]; exact (Array.getElem?_eq_some_iff.1 hi).1
  rw [List.getElem?_eq_getElem hlt, he, ho, hk] at h1
  exact h enc w base spare held n _ _ h1
theorem flat2_open {P : Program} {T : TypeId} {f0 f1 : Field} {zero : Int × Int} {enc : Int × Int → List Value} {pos : 0 < 2} {henc : ∀ x, (enc x).length = 2} {h1c : ∀ x, ∀ u ∈ enc x, u.oneCell' = true}
    (hE : ∀ a b, enc (a, b) = [.int .i64 a, .int .i64 b]) (hs : P.underlying T = some (.struct #[f0, f1])) (h0 : P.underlying f0.type = some (.int .i64)) (h1 : P.underlying f1.type = some (.int .i64)) (o0 : f0.offset = 0) (o1 : f1.offset = 1)
    (k0 : P.cellsOf f0.type = 1) (k1 : P.cellsOf f1.type = 1) (hC : P.cellsOf T = 2) : Opens P T (Ty.flat 2 pos zero enc henc h1c) :=
  opens_fields hs fun w cs hl {H} enc' base spare held n ys hyl hg => by
    obtain ⟨a, ha⟩ := field_at (i := 0) hyl hg rfl rfl o0 k0 (opens_int h0)
    obtain ⟨b, hb⟩ := field_at (i := 1) hyl hg rfl rfl o1 k1 (opens_int h1)
    rw [hC] at hl
    match cs, hl with
    | [u, v], _ =>
      refine ⟨(a, b), ?_⟩
      show [u, v] = enc (a, b)
      have ha' : [u] = [Value.int .i64 a] := ha
      have hb' : [v] = [Value.int .i64 b] := hb
      rw [hE]
      injection ha' with e1
      injection hb' with e2
      rw [e1, e2]
end Go.Proofs.YtacgcagpaecncaaGreat
namespace Go.Proofs.YtacgcagpaecncaaGreat
open Go.RowKit
set_option maxHeartbeats 400000
set_option maxRecDepth 100000
/-! Curve -/
abbrev tPt : Ty (Int × Int) := Ty.flat 2 (by decide) (0, 0) pt pt_len (by simp [pt, Value.oneCell'])
abbrev hPt : Hs (Int × Int) := hI.prod hI
abbrev hC : Hs (List (Int × Int)) := hPt.sl
theorem hPt_szL (xs : List (Int × Int)) : hPt.szL xs = 0 := by
  induction xs with
  | nil => rfl
  | cons x xs ih => rw [Hs.szL, ih]; rfl
theorem hPt_cntL (xs : List (Int × Int)) : hPt.cntL xs = 2 * xs.length := by
  induction xs with
  | nil => rfl
  | cons x xs ih =>
    rw [Hs.cntL, ih, List.length_cons]
    show 1 + 1 + _ = _
    omega
theorem hPt_mkL (k : Int) (xs : List (Int × Int)) : hPt.mkL k xs = rampP k xs.length := by
  apply List.ext_getElem?
  intro i
  by_cases hi : i < xs.length
  · rw [hPt.mkL_at k (List.getElem?_eq_getElem hi), hPt_cntL, List.length_take, rampP_at hi]
    show some (_, _) = some (_, _)
    simp only [Hs.prod, hI, Option.some.injEq, Prod.mk.injEq]
    omega
  · rw [List.getElem?_eq_none (by rw [Hs.mkL_len]; omega), List.getElem?_eq_none (by rw [rampP_len]; omega)]
theorem hC_sz (xs : List (Int × Int)) : hC.sz xs = xs.length := by show xs.length + hPt.szL xs = _; rw [hPt_szL]; rfl
theorem hC_cnt (xs : List (Int × Int)) : hC.cnt xs = 2 * xs.length := hPt_cntL xs
theorem hC_mark (k : Int) (xs : List (Int × Int)) : hC.mark k xs = rampP k xs.length := hPt_mkL k xs
theorem cl_C (x : List (Int × Int)) : hC.cnt x ≤ 10 * hC.sz x + 10 := by rw [hC_sz, hC_cnt]; omega
end Go.Proofs.YtacgcagpaecncaaGreat
namespace Go.Proofs.YtacgcagpaecncaaGreat
open Go.RowKit
theorem opens_S : Opens Tryz.prog 24 tS := opens_sl Tryz.underlying24 (by kernel_rfl) (opens_int Tryz.underlying2)
theorem ret2_nf {w w' : World} {r : List Int × Int} {en : Ending} (h : Ret2 2 w r en w') :
    ∃ A n c, en = .returned (.tuple #[.slice A n c, .int .i64 r.2]) ∧ tS.O w' (Iv w.heap.size w'.heap.size) [.slice A n c] r.1 ∧ Below w.heap.size w w' := by
  obtain ⟨v, rfl, own, bel⟩ := h
  obtain ⟨A, c, rfl, _⟩ := own.shape
  exact ⟨_, _, _, rfl, tS_O.2 own.os, bel⟩
end Go.Proofs.YtacgcagpaecncaaGreat
