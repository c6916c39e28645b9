import Derived.Test.YtecdendjlgohjaaGreatDoorFnExactReadMixerG2
import Derived.Test.YtecdendjlgohjaaGreatDoorFnExactReadMixerG1
import Derived.Lib.QuietBelow
import Derived.Deep.DeepCutAuto
import Derived.Lib.Strings
import Derived.Maps.OwnOps
import Derived.Maps.OwnSet
import Derived.StringKeys
set_option linter.unusedVariables false
set_option linter.unusedSimpArgs false
namespace Go.Proofs.YtecdendjlgohjaaGreatDoor
open Go.RowKit
set_option maxHeartbeats 2000000
set_option maxRecDepth 100000
theorem nf_eq_M (A A' : Option Addr) (n c n' c' : Nat) (xs : List Strip) (w : World) (hx : tM.R w w.heap.size [.slice A n c] xs) (hy : tM.R w w.heap.size [.slice A' n' c'] xs) (hn : hM.sz xs ≤ 100000000) :
    Calls Tryz.prog 7 #[.agg #[.slice A n c], .agg #[.slice A' n' c']] w fun e w' => e = .returned (.bool true) ∧ Below w.heap.size w w' := by
  have hb : Below w.heap.size w ((w.alloc (.cells #[.slice A n c] 24)).alloc (.cells #[.slice A' n' c'] 24)) := ((Below.refl _ _).alloc (Nat.le_refl _) _).alloc (by simp) _
  have hx2 := tM.later hx hb
  have hy2 := tM.later hy hb
  go_enter Tryz.func7, Tryz.ntmps7
  go_wp2_with (go_at_call 25; refine (nf_eq_M_ _ _ _ _ _ _ _ _ hx2 hy2 hn).mono ?_; rintro e w2 ⟨rfl, bel2⟩)
  go_ret
  exact ⟨rfl, hb.trans (bel2.mono hb.size)⟩
theorem cl_M (x : List Strip) : hM.cnt x ≤ 10 * hM.sz x + 10 := by
  have key : hSt.cntL x ≤ 2 * (x.length + hSt.szL x) := by
    induction x with
    | nil => simp [Hs.cntL]
    | cons y ys ih =>
      obtain ⟨s, l, zs⟩ := y
      rw [Hs.cntL, Hs.szL, hSt_cnt, hSt_sz, List.length_cons]
      omega
  show hSt.cntL x ≤ 10 * (x.length + hSt.szL x) + 10
  omega
theorem M.digs_step {j : Nat} (h : 0 < j) : M.digs j = M.digs (j / 10) ++ [UInt8.ofNat (48 + j % 10)] := by rw [M.digs, if_neg (by omega)]
theorem conv_one (j : Nat) (wr : World) : (convert 30 9 (.slice (some ⟨wr.heap.size, 0, none⟩) 1 1)).run Tryz.prog (wr.alloc (.cells #[.int .u8 (48 + (j : Int) % 10)] 5)) = .ok (.string ⟨[UInt8.ofNat (48 + j % 10)].toArray⟩) (wr.alloc (.cells #[.int .u8 (48 + (j : Int) % 10)] 5)) := by
  refine run_convert_bytes_back _ _ _ 5 ⟨wr.heap.size, 0, none⟩ 1 [UInt8.ofNat (48 + j % 10)] Tryz.underlying30 Tryz.underlying5 Tryz.underlying9 ?_
  intro i hi
  obtain rfl : i = 0 := by simpa using hi
  have e0 : (⟨wr.heap.size, 0, none⟩ : Addr).add 0 = ⟨wr.heap.size, 0, none⟩ := rfl
  rw [e0, cell_of_row _ wr.heap.size 0 _ 5 (0, 0) (heap_alloc_new wr _)]
  simp
  omega
theorem bytes_app (a b : ByteArray) : (a ++ b).data.toList = a.data.toList ++ b.data.toList := by simp
theorem M.digs_next {j : Nat} {s : ByteArray} {D : List UInt8} (h : 0 < j) (H : M.digs j ++ s.data.toList = D) : M.digs (j / 10) ++ ((⟨#[48 + UInt8.ofNat (j % 10)]⟩ : ByteArray) ++ s).data.toList = D := by
  rw [M.digs_step h, List.append_assoc] at H
  rw [bytes_app, ← H, UInt8.ofNat_add]
  rfl
theorem M.mark_end {k : Nat} {s : ByteArray} (H : M.digs 0 ++ s.data.toList = M.digs k) : (⟨#[109]⟩ ++ s : ByteArray) = ⟨(109 :: M.digs k).toArray⟩ := by
  rw [← H]
  apply ByteArray.ext
  apply Array.toList_inj.1
  rw [bytes_app, show M.digs 0 = [] by rw [M.digs]; rfl]
  rfl
theorem laws_markText (k : Nat) (w : World) (hk : k ≤ 1000000000) :
    Calls Tryz.prog 51 #[.int .i64 k] w fun e w' => e = .returned (.string (M.markT k)) ∧ Below w.heap.size w w' := by
  by_cases h0 : k = 0
  · subst h0
    go_enter Tryz.func51, Tryz.ntmps51
    go_wp2
    go_ret
    exact ⟨rfl, Below.refl _ _⟩
  have hR := Lib.hid (show M.markT (k : Int) = ⟨(109 :: M.digs k).toArray⟩ by rw [M.markT, if_neg (by omega), Int.toNat_natCast])
  have hL := M.digs_len k
  have HL := Lib.hid (show (M.digs k).length ≤ 1000000000 by omega)
  clear hL
  go_enter Tryz.func51, Tryz.ntmps51
  go_wp2
  go_loopw [0, 3] (fun i v wr => ∃ (j : Nat) (s : ByteArray), i = .int .i64 j ∧ j ≤ k ∧ v = .string s ∧ Hid (M.digs j ++ s.data.toList = M.digs k) ∧ s.size ≤ 1000000000 ∧ Below w.heap.size w wr) (fun i _ _ => (intOf i).toNat)
  case atStart => exact ⟨k, ⟨#[]⟩, rfl, by omega, rfl, Lib.hid (by simp), Nat.zero_le _, Below.refl _ _⟩
  case round =>
    obtain ⟨j, s, rfl, hj, rfl, H, hs, hb⟩ := hrel
    by_cases hlt : 0 < j
    · have hconv := conv_one j wr
      go_wp2
      go_roundw
      case rel =>
        have h2 := M.digs_next hlt H.out
        have h3 := congrArg List.length h2
        have h4 := HL.out
        rw [List.length_append] at h3
        exact ⟨j / 10, _, by go_num, by omega, rfl, Lib.hid h2, by show ((⟨#[48 + UInt8.ofNat (j % 10)]⟩ : ByteArray) ++ s).data.size ≤ _; rw [← Array.length_toList]; omega, hb.alloc hb.size _⟩
      case measure => simp [intOf]; omega
    · obtain rfl : j = 0 := by omega
      go_wp2
      go_ret
      exact ⟨by rw [hR.out, ← M.mark_end H.out]; rfl, hb⟩
theorem nf_mark_M_ (A : Option Addr) (n c : Nat) (k : Int) (xs : List Strip) (w : World) (F : Nat → Prop) (hx : tM.O w F [.slice A n c] xs) (hk : 0 ≤ k ∧ k + (hM.cnt xs : Int) ≤ 1000000000) :
    Calls Tryz.prog 26 #[.slice A n c, .int .i64 k] w fun e w' => e = .returned (.int .i64 (k + hM.cnt xs)) ∧ tM.O w' F [.slice A n c] (hM.mark k xs) ∧ Chg F w w' := by
  have ow := sl_O.1 hx
  have hcap := ow.read.cap
  obtain rfl : xs.length = n := hcap.1
  have hl : xs.length ≤ 9223372036854775807 := by have h1 := hcap.2; unfold maxLen at h1; omega
  clear hcap
  have hcn : k + (hSt.cntL xs : Int) ≤ 1000000000 := hk.2
  obtain ⟨k, rfl⟩ : ∃ q : Nat, k = q := ⟨k.toNat, by omega⟩
  clear hx
  go_enter Tryz.func26, Tryz.ntmps26
  go_wp2
  go_loopw [1, 5] (fun q i wr => ∃ j : Nat, i = .int .i64 j ∧ j ≤ xs.length ∧ q = .int .i64 ((k : Int) + (hSt.cntL (xs.take j) : Int)) ∧ OS tSt 44 wr F (.slice A xs.length c) ((hSt.mkL k xs).take j ++ xs.drop j) ∧ Chg F w wr)
    (fun _ i _ => xs.length - (intOf i).toNat)
  case atStart => exact ⟨0, rfl, by omega, by simp [Hs.cntL], by simpa using ow, Chg.refl _ _⟩
  case round =>
    obtain ⟨j, rfl, hj, rfl, own, hg⟩ := hrel
    by_cases hlt : j < xs.length
    · have hml := Lib.hid (hSt.mkL_len k xs)
      have hX := Lib.hid (List.getElem?_eq_getElem hlt)
      have hc1 := hSt.cntL_at hX.out
      have hct2 := Lib.hid (hSt.cntL_take hX.out)
      have hmk := Lib.hid (hSt.mkL_at k hX.out)
      generalize xs[j] = x at hX hc1 hct2 hmk
      obtain ⟨s, l0, ys⟩ := x
      rw [hSt_cnt] at hc1
      have hyj := Lib.hid (show ((hSt.mkL k xs).take j ++ xs.drop j)[j]? = some (s, l0, ys) by rw [M.mid_at hml.out]; exact hX.out)
      have hz := hSdS_cnt ys
      have hmt := laws_markText (k + hSt.cntL (xs.take j)) wr (by omega)
      rw [Int.natCast_add] at hmt
      have hms := Lib.hid (M.markT_size ((k : Int) + (hSt.cntL (xs.take j) : Int)))
      go_wp2_with (first | (go_at_call 51; refine hmt.mono ?_; clear hmt; rintro e w2 ⟨rfl, bel2⟩; have own2 := (own.real.keep (fun b hb => bel2.block b hb.2)).wide (F' := F) (fun b hb => hb.1); obtain ⟨css, Fs, hole, cs, hcs, hE⟩ := own2.openAt hyj.out; obtain ⟨A0, n0, c0, rfl, -, hE⟩ := st_O.1 hE; obtain ⟨g, rfl, hFg, hFn, hgl, -⟩ := hole.form (List.getElem?_eq_some_iff.1 hyj.out).1; have q0 := (hole.cell hcs (j := 0) rfl).1; have r0 := (hole.cell hcs (j := 0) rfl).2; have q1 := (hole.cell hcs (j := 1) rfl).1; have r1 := (hole.cell hcs (j := 1) rfl).2; have q2 := (hole.cell hcs (j := 2) rfl).1; change w2.cell? ⟨g, j * 3 + 0, none⟩ = _ at q0; change w2.frozen? ⟨g, j * 3 + 0, none⟩ = _ at r0; change w2.cell? ⟨g, j * 3 + 1, none⟩ = _ at q1; change w2.frozen? ⟨g, j * 3 + 1, none⟩ = _ at r1; change w2.cell? ⟨g, j * 3 + 2, none⟩ = _ at q2; rw [Nat.add_zero] at q0 r0) | (go_at_call 52; refine (nf_mark_SdS_ _ _ _ _ _ _ (Fs j) (tSdS.okeep (fun b hb => (heap_setCell_other _ ⟨g, j * 3 + 1, none⟩ b _ (fun e => hFn (by simp only at e; rw [← e]; exact hb))).trans (heap_setCell_other w2 ⟨g, j * 3, none⟩ b _ (fun e => hFn (by simp only at e; rw [← e]; exact hb)))) hE) (by omega)).mono ?_; rintro e w3 ⟨rfl, o3, ch3⟩))
      go_roundw
      case rel =>
        have s0 := hole.set hcs 0 (by decide) (.string (M.markT ((k : Int) + (hSt.cntL (xs.take j) : Int))))
        have s1 := s0.1.set s0.2 1 (by decide) (.int .i64 ((k : Int) + (hSt.cntL (xs.take j) : Int) + 1))
        have h3 := (s1.1.chg ch3).fill s1.2 (y := (M.markT ((k : Int) + (hSt.cntL (xs.take j) : Int)), (k : Int) + (hSt.cntL (xs.take j) : Int) + 1, hSdS.mark ((k : Int) + (hSt.cntL (xs.take j) : Int) + 1 + 1) ys)) (st_O.2 ⟨A0, n0, c0, rfl, by have := hms.out; unfold maxLen; omega, o3⟩)
        have hmk2 : (hSt.mkL k xs)[j]? = some (M.markT ((k : Int) + (hSt.cntL (xs.take j) : Int)), (k : Int) + (hSt.cntL (xs.take j) : Int) + 1, hSdS.mark ((k : Int) + (hSt.cntL (xs.take j) : Int) + 1 + 1) ys) := hmk.out
        rw [M.set_mid hml.out hmk2] at h3
        exact ⟨j + 1, by go_num, by omega, by rw [hct2.out, hSt_cnt]; go_num, h3, ((hg.trans (Chg.of_below bel2 F)).trans ((Chg.set w2 g (j * 3) _ hFg).trans (Chg.set _ g (j * 3 + 1) _ hFg))).trans (ch3.wide hole.fits)⟩
      case measure => simp [intOf]; omega
    · obtain rfl : xs.length = j := by omega
      go_wp2
      go_ret
      rw [List.take_of_length_le (by rw [Hs.mkL_len]; omega), List.drop_eq_nil_of_le (by omega), List.append_nil] at own
      exact ⟨by rw [List.take_of_length_le (Nat.le_refl _)]; rfl, sl_O.2 own, hg⟩
theorem nf_mark_M (A : Option Addr) (n c : Nat) (k : Int) (xs : List Strip) (w : World) (F : Nat → Prop) (hx : tM.O w F [.slice A n c] xs) (hF : ∀ b, F b → b < w.heap.size) (hk : 0 ≤ k ∧ k + (hM.cnt xs : Int) ≤ 1000000000) :
    Calls Tryz.prog 8 #[.agg #[.slice A n c], .int .i64 k] w fun e w' => e = .returned (.int .i64 (k + hM.cnt xs)) ∧ tM.O w' F [.slice A n c] (hM.mark k xs) ∧ Chg F w w' := by
  have hb : Below w.heap.size w (w.alloc (.cells #[.slice A n c] 24)) := (Below.refl _ _).alloc (Nat.le_refl _) _
  have hx2 : tM.O (w.alloc (.cells #[.slice A n c] 24)) F [.slice A n c] xs := tM.okeep (fun b h => hb.block b (hF b h)) hx
  go_enter Tryz.func8, Tryz.ntmps8
  go_wp2_with (go_at_call 26; refine (nf_mark_M_ _ _ _ _ _ _ _ hx2 hk).mono ?_; rintro e w2 ⟨rfl, own2, m2⟩)
  go_ret
  exact ⟨rfl, own2, (Chg.of_below hb _).trans m2⟩
end Go.Proofs.YtecdendjlgohjaaGreatDoor
namespace Go.Proofs.YtecdendjlgohjaaGreatDoor
open Go.RowKit Go.Sort
set_option maxHeartbeats 4000000
set_option maxRecDepth 100000
theorem nf_held_M_ (A : Option Addr) (n c : Nat) (k : Int) (xs : List Strip) (w : World) (hx : tM.R w w.heap.size [.slice A n c] (hM.mark k xs)) (hk : 0 ≤ k ∧ k + (hM.cnt xs : Int) ≤ 1000000000) :
    Calls Tryz.prog 27 #[.slice A n c, .int .i64 k] w fun e w' => e = .returned (.int .i64 (k + hM.cnt xs)) ∧ Below w.heap.size w w' := by
  have hr : RS tSt w w.heap.size (.slice A n c) (hSt.mkL k xs) := sl_R.1 hx
  obtain rfl : xs.length = n := by rw [← hr.cap.1, Hs.mkL_len]
  have hl : xs.length ≤ 9223372036854775807 := by have h1 := hr.cap.2; unfold maxLen at h1; omega
  have hcn : k + (hSt.cntL xs : Int) ≤ 1000000000 := hk.2
  have hml := Lib.hid (hSt.mkL_len k xs)
  clear hx
  go_enter Tryz.func27, Tryz.ntmps27
  go_wp2
  go_loopw [1, 5] (fun q i wr => ∃ j : Nat, i = .int .i64 j ∧ j ≤ xs.length ∧ q = .int .i64 (k + (hSt.cntL (xs.take j) : Int)) ∧ Below w.heap.size w wr) (fun _ i _ => xs.length - (intOf i).toNat)
  case atStart => exact ⟨0, rfl, by omega, by simp [Hs.cntL], Below.refl _ _⟩
  case round =>
    obtain ⟨j, rfl, hj, rfl, hb⟩ := hrel
    by_cases hlt : j < xs.length
    · have hX := Lib.hid (List.getElem?_eq_getElem hlt)
      have hmk := hSt.mkL_at k hX.out
      obtain ⟨b, o, c1, cs, hv, hab, -, hE, hc⟩ := (hr.below hb).atX hmk
      simp only [Value.slice.injEq] at hv
      obtain ⟨rfl, -, -⟩ := hv
      have hc1 := hSt.cntL_at hX.out
      have hct2 := Lib.hid (hSt.cntL_take hX.out)
      clear hmk
      generalize xs[j] = x at hX hE hc1 hct2
      obtain ⟨s, l0, ys⟩ := x
      rw [hSt_cnt] at hc1
      have hz := hSdS_cnt ys
      generalize hK : k + (hSt.cntL (xs.take j) : Int) = K at hE ⊢
      have HK := Lib.hid hK
      have hK0 : 0 ≤ K ∧ K + 2 + 2 * (ys.length : Int) ≤ 1000000000 := by omega
      clear hK
      obtain ⟨q, rfl⟩ : ∃ q : Nat, K = q := ⟨K.toNat, by omega⟩
      have hE2 : tSt.R wr w.heap.size cs (M.markT (q : Int), (q : Int) + 1, hSdS.mark ((q : Int) + 1 + 1) ys) := hE
      obtain ⟨A0, n0, c0, rfl, hs, y0⟩ := st_R.1 hE2
      have ec0 : wr.cell? ⟨b, o + j * 3, none⟩ = some (.string (M.markT (q : Int))) := hc 0 _ rfl
      have ec1 : wr.cell? ⟨b, o + j * 3 + 1, none⟩ = some (.int .i64 ((q : Int) + 1)) := hc 1 _ rfl
      have ec2 : wr.cell? ⟨b, o + j * 3 + 2, none⟩ = some (.slice A0 n0 c0) := hc 2 _ rfl
      have y1 := tSdS.more hb.size y0
      have hbr : b < wr.heap.size := Nat.lt_of_lt_of_le hab hb.size
      have rc0 := cell_regrown ec0
      have cT : ∀ d os, Calls Tryz.prog 51 #[.int .i64 (q : Int)] (grow (redrawn wr d) os) fun e w'' => e = .returned (.string (M.markT (q : Int))) ∧ ∃ p : Regrown, w'' = grow (redrawn wr p.d) p.os := fun d os => Calls.regrown_of (laws_markText q _ (by omega))
      generalize M.markT (q : Int) = T at ec0 rc0 cT
      clear hc hE hE2
      go_wp2_with fail
      (refine wp_region_quiet_below (by kernel_rfl) (by kernel_rfl) ?_; (repeat (go_big_quiet_step (exact cT _ _))); refine wpQuiet_nil ?_; intro _ hw'; obtain ⟨⟨dq, osq⟩, hw''⟩ := hw'; subst hw'')
      have G0 := below_regrown wr dq osq
      generalize hVV : grow (redrawn wr dq) osq = V at G0 ⊢
      clear hVV
      replace ec1 : V.cell? ⟨b, o + j * 3 + 1, none⟩ = some (.int .i64 ((q : Int) + 1)) := by rw [G0.cell (by show b < _; omega)]; exact ec1
      replace ec2 : V.cell? ⟨b, o + j * 3 + 2, none⟩ = some (.slice A0 n0 c0) := by rw [G0.cell (by show b < _; omega)]; exact ec2
      have y2 := tSdS.later y1 G0
      go_wp2_with fail
      refine (nf_held_SdS_ _ _ _ _ _ _ y2 (by omega)).mono ?_
      rintro e v1 ⟨rfl, b1⟩
      replace hb := bel_trans hb (bel_trans G0 b1)
      go_wp2
      go_roundw
      case rel => exact ⟨j + 1, by go_num, by omega, by rw [hct2.out, hSt_cnt]; have := HK.out; go_num, hb⟩
      case measure => simp [intOf]; omega
    · obtain rfl : xs.length = j := by omega
      go_wp2
      go_ret
      exact ⟨by rw [List.take_of_length_le (Nat.le_refl _)]; rfl, hb⟩
theorem nf_held_M (A : Option Addr) (n c : Nat) (k : Int) (xs : List Strip) (w : World) (hx : tM.R w w.heap.size [.slice A n c] (hM.mark k xs)) (hk : 0 ≤ k ∧ k + (hM.cnt xs : Int) ≤ 1000000000) :
    Calls Tryz.prog 9 #[.agg #[.slice A n c], .int .i64 k] w fun e w' => e = .returned (.int .i64 (k + hM.cnt xs)) ∧ Below w.heap.size w w' := by
  have hb : Below w.heap.size w (w.alloc (.cells #[.slice A n c] 24)) := (Below.refl _ _).alloc (Nat.le_refl _) _
  have hx2 := tM.later hx hb
  go_enter Tryz.func9, Tryz.ntmps9
  go_wp2_with (go_at_call 27; refine (nf_held_M_ _ _ _ _ _ _ hx2 hk).mono ?_; rintro e w2 ⟨rfl, bel2⟩)
  go_ret
  exact ⟨rfl, hb.trans (bel2.mono hb.size)⟩
end Go.Proofs.YtecdendjlgohjaaGreatDoor
namespace Go.Proofs.YtecdendjlgohjaaGreatDoor
open Go.RowKit
set_option maxRecDepth 100000
set_option maxHeartbeats 4000000 in
theorem core_FnExactReadMixer (a0 : ByteArray) (z0 : List (ByteArray × Int × List (Int × Int))) (z1 : Bool) (w : World)
    (hT : LAD w)
    (hz0 : hM.sz z0 ≤ 100000000) (hc0 : hM.cnt z0 ≤ 100000000)
    (hs0 : a0.size ≤ maxLen)
    (hSpec : ∀ (w : World), a0.size ≤ 1048576 → LAD w → Calls Tryz.prog 5 #[.string a0] w fun e w' => ∃ Ar0 nr0 cr0, e = .returned (.tuple #[.agg #[.slice Ar0 nr0 cr0], .bool z1]) ∧ tM.O w' (Iv w.heap.size w'.heap.size) [.slice Ar0 nr0 cr0] z0 ∧ Below w.heap.size w w')
    (hImp : ∀ (w : World), a0.size ≤ 1048576 → LAD w → Calls Tryz.prog 6 #[.string a0] w fun e w' => ∃ Ar0 nr0 cr0, e = .returned (.tuple #[.agg #[.slice Ar0 nr0 cr0], .bool z1]) ∧ tM.O w' (Iv w.heap.size w'.heap.size) [.slice Ar0 nr0 cr0] z0 ∧ Below w.heap.size w w') :
    Calls Tryz.prog 3 #[.string a0] w fun e w' => e = .returned (.bool true) ∧ Below w.heap.size w w' := by
  have HT := Lib.hid hT
  have HS := Lib.hid hSpec
  have HI := Lib.hid hImp
  clear hSpec hImp hT
  have B : Below w.heap.size w w := (Below.refl _ _)
  have hsize : w.heap.size = w.heap.size := by simp
  have hn0 : a0.size ≤ 9223372036854775807 := by unfold maxLen at hs0; omega
  by_cases hb0 : 1048576 < a0.size
  · go_enter Tryz.func3, Tryz.ntmps3
    go_wp2_with fail
    go_ret
    exact ⟨rfl, B⟩
  clear hsize
  go_enter Tryz.func3, Tryz.ntmps3
  go_wp2_with fail
  refine (HS.out  _  (by omega) (HT.out.on B)).mono ?_
  rintro e u1 ⟨Aw0, nw0, cw0, rfl, w0, bb⟩
  have G := bb
  have zu1 : w.heap.size ≤ u1.heap.size := by have := bb.size; simpa using this
  replace w0 : tM.O u1 (Iv (w.heap.size) u1.heap.size) [.slice Aw0 nw0 cw0] z0 := tM.oiv w0 (by simp) (Nat.le_refl _)
  replace B := bel_trans B G
  clear G bb
  have G0 : Below u1.heap.size u1 (u1.alloc (.cells #[.slice Aw0 nw0 cw0] 24)) := (Below.refl _ _).alloc (Nat.le_refl _) _
  go_wp2_with fail
  refine (HI.out  _  (by omega) (HT.out.on (bel_trans B G0))).mono ?_
  rintro e u2 ⟨Ag0, ng0, cg0, rfl, g0, bb⟩
  have G := bel_trans G0 bb
  have zu2 : u1.heap.size + 1 ≤ u2.heap.size := by have := bb.size; simp at this; omega
  replace w0 := tM.obelow w0 G (by omega)
  have wb0_0 : u2.cell? ⟨u1.heap.size, 0, none⟩ = some (.slice Aw0 nw0 cw0) := by rw [bb.cell (by simp)]; simp [go_sem]
  replace g0 : tM.O u2 (Iv (u1.heap.size + 1) u2.heap.size) [.slice Ag0 ng0 cg0] z0 := tM.oiv g0 (by simp) (Nat.le_refl _)
  replace B := bel_trans B G
  clear G bb G0
  have lt0 : u1.heap.size < u2.heap.size := by omega
  have G0 : Below u2.heap.size u2 (u2.alloc (.cells #[.slice Ag0 ng0 cg0] 24)) := (Below.refl _ _).alloc (Nat.le_refl _) _
  go_wp2_with fail
  refine (nf_eq_M _ _ _ _ _ _ _ _ (tM.later (tM.read g0) G0) (tM.later (tM.read w0) G0) (by omega)).mono ?_
  rintro e u3 ⟨rfl, bb⟩
  have G := bel_trans G0 bb
  have zu3 : u2.heap.size + 1 ≤ u3.heap.size := by have := bb.size; simp at this; omega
  replace wb0_0 : u3.cell? ⟨u1.heap.size, 0, none⟩ = some (.slice Aw0 nw0 cw0) := by rw [G.cell (by first | omega | (simp; done) | (simp; omega))]; exact wb0_0
  replace w0 := tM.obelow w0 G (by omega)
  replace g0 := tM.obelow g0 G (by omega)
  have gb0_0 : u3.cell? ⟨u2.heap.size, 0, none⟩ = some (.slice Ag0 ng0 cg0) := by rw [bb.cell (by simp)]; simp [go_sem]
  replace B := bel_trans B G
  clear G bb G0
  replace lt0 : u1.heap.size < u3.heap.size := by omega
  have lt1 : u2.heap.size < u3.heap.size := by omega
  go_wp2_with fail
  refine (nf_mark_M _ _ _ _ _ _ _ g0 (fun b hb => Nat.lt_of_lt_of_le hb.2 (by omega)) (by omega)).mono ?_
  rintro e u4 ⟨rfl, g0, mm⟩
  have zu4 : u3.heap.size ≤ u4.heap.size := mm.size
  replace wb0_0 : u4.cell? ⟨u1.heap.size, 0, none⟩ = some (.slice Aw0 nw0 cw0) := by rw [World.cell?_of_block (mm.block _ (by first | omega | (simp; done) | (simp; omega)) (by first | (simp [Iv]; done) | (simp [Iv]; omega)))]; exact wb0_0
  replace gb0_0 : u4.cell? ⟨u2.heap.size, 0, none⟩ = some (.slice Ag0 ng0 cg0) := by rw [World.cell?_of_block (mm.block _ (by first | omega | (simp; done) | (simp; omega)) (by first | (simp [Iv]; done) | (simp [Iv]; omega)))]; exact gb0_0
  replace w0 := tM.ochg w0 mm (by simp only [Iv]; omega)
  replace B : Below w.heap.size w u4 := B.trans (mm.toBelow (by simp only [Iv]; omega) (by omega))
  clear mm
  replace lt0 : u1.heap.size < u4.heap.size := by omega
  replace lt1 : u2.heap.size < u4.heap.size := by omega
  go_wp2_with fail
  refine (nf_held_M _ _ _ _ _ _ (tM.read g0) (by omega)).mono ?_
  rintro e u5 ⟨rfl, bb⟩
  have G := bb
  have zu5 : u4.heap.size ≤ u5.heap.size := by have := bb.size; simpa using this
  replace wb0_0 : u5.cell? ⟨u1.heap.size, 0, none⟩ = some (.slice Aw0 nw0 cw0) := by rw [G.cell (by first | omega | (simp; done) | (simp; omega))]; exact wb0_0
  replace gb0_0 : u5.cell? ⟨u2.heap.size, 0, none⟩ = some (.slice Ag0 ng0 cg0) := by rw [G.cell (by first | omega | (simp; done) | (simp; omega))]; exact gb0_0
  replace w0 := tM.obelow w0 G (by omega)
  replace g0 := tM.obelow g0 G (by omega)
  replace B := bel_trans B G
  clear G bb
  replace lt0 : u1.heap.size < u5.heap.size := by omega
  replace lt1 : u2.heap.size < u5.heap.size := by omega
  go_wp2_with fail
  refine (HI.out  _  (by omega) (HT.out.on B)).mono ?_
  rintro e u6 ⟨Ah0, nh0, ch0, rfl, h0, bb⟩
  have G := bb
  have zu6 : u5.heap.size ≤ u6.heap.size := by have := bb.size; simpa using this
  replace wb0_0 : u6.cell? ⟨u1.heap.size, 0, none⟩ = some (.slice Aw0 nw0 cw0) := by rw [G.cell (by first | omega | (simp; done) | (simp; omega))]; exact wb0_0
  replace gb0_0 : u6.cell? ⟨u2.heap.size, 0, none⟩ = some (.slice Ag0 ng0 cg0) := by rw [G.cell (by first | omega | (simp; done) | (simp; omega))]; exact gb0_0
  replace w0 := tM.obelow w0 G (by omega)
  replace g0 := tM.obelow g0 G (by omega)
  replace h0 : tM.O u6 (Iv (u5.heap.size) u6.heap.size) [.slice Ah0 nh0 ch0] z0 := tM.oiv h0 (by simp) (Nat.le_refl _)
  replace B := bel_trans B G
  clear G bb
  replace lt0 : u1.heap.size < u6.heap.size := by omega
  replace lt1 : u2.heap.size < u6.heap.size := by omega
  have G0 : Below u6.heap.size u6 (u6.alloc (.cells #[.slice Ah0 nh0 ch0] 24)) := (Below.refl _ _).alloc (Nat.le_refl _) _
  go_wp2_with fail
  refine (nf_eq_M _ _ _ _ _ _ _ _ (tM.later (tM.read h0) G0) (tM.later (tM.read w0) G0) (by omega)).mono ?_
  rintro e u7 ⟨rfl, bb⟩
  have G := bel_trans G0 bb
  have zu7 : u6.heap.size + 1 ≤ u7.heap.size := by have := bb.size; simp at this; omega
  replace wb0_0 : u7.cell? ⟨u1.heap.size, 0, none⟩ = some (.slice Aw0 nw0 cw0) := by rw [G.cell (by first | omega | (simp; done) | (simp; omega))]; exact wb0_0
  replace gb0_0 : u7.cell? ⟨u2.heap.size, 0, none⟩ = some (.slice Ag0 ng0 cg0) := by rw [G.cell (by first | omega | (simp; done) | (simp; omega))]; exact gb0_0
  replace w0 := tM.obelow w0 G (by omega)
  replace g0 := tM.obelow g0 G (by omega)
  replace h0 := tM.obelow h0 G (by omega)
  have hb0_0 : u7.cell? ⟨u6.heap.size, 0, none⟩ = some (.slice Ah0 nh0 ch0) := by rw [bb.cell (by simp)]; simp [go_sem]
  replace B := bel_trans B G
  clear G bb G0
  replace lt0 : u1.heap.size < u7.heap.size := by omega
  replace lt1 : u2.heap.size < u7.heap.size := by omega
  have lt2 : u6.heap.size < u7.heap.size := by omega
  go_wp2_with fail
  refine (nf_held_M _ _ _ _ _ _ (tM.read g0) (by omega)).mono ?_
  rintro e u8 ⟨rfl, bb⟩
  have G := bb
  have zu8 : u7.heap.size ≤ u8.heap.size := by have := bb.size; simpa using this
  replace wb0_0 : u8.cell? ⟨u1.heap.size, 0, none⟩ = some (.slice Aw0 nw0 cw0) := by rw [G.cell (by first | omega | (simp; done) | (simp; omega))]; exact wb0_0
  replace gb0_0 : u8.cell? ⟨u2.heap.size, 0, none⟩ = some (.slice Ag0 ng0 cg0) := by rw [G.cell (by first | omega | (simp; done) | (simp; omega))]; exact gb0_0
  replace hb0_0 : u8.cell? ⟨u6.heap.size, 0, none⟩ = some (.slice Ah0 nh0 ch0) := by rw [G.cell (by first | omega | (simp; done) | (simp; omega))]; exact hb0_0
  replace w0 := tM.obelow w0 G (by omega)
  replace g0 := tM.obelow g0 G (by omega)
  replace h0 := tM.obelow h0 G (by omega)
  replace B := bel_trans B G
  clear G bb
  replace lt0 : u1.heap.size < u8.heap.size := by omega
  replace lt1 : u2.heap.size < u8.heap.size := by omega
  replace lt2 : u6.heap.size < u8.heap.size := by omega
  go_wp2_with fail
  go_ret
  exact ⟨rfl, B⟩
end Go.Proofs.YtecdendjlgohjaaGreatDoor
namespace Go.Proofs.YtecdendjlgohjaaGreatDoor
open Go.RowKit
set_option maxHeartbeats 4000000
set_option maxRecDepth 100000
theorem tSdS_ra {w : World} {B : Nat} {A : Option Addr} {n c : Nat} {xs : List (Int × Int)} (h : tSdS.R w B [.slice A n c] xs) : RA sd 2 w B A n xs ∧ n ≤ c ∧ c ≤ maxLen := (sl_R.1 h).flat
theorem str_ne {s t : ByteArray} (h : ¬ s = t) : ¬ s.toList = t.toList := fun e => h (by
  rw [Lib.toList_data, Lib.toList_data] at e
  exact ByteArray.ext (Array.toList_inj.1 e))
end Go.Proofs.YtecdendjlgohjaaGreatDoor
namespace Go.Proofs.YtecdendjlgohjaaGreatDoor
open Go.RowKit
set_option maxHeartbeats 4000000
set_option maxRecDepth 100000
end Go.Proofs.YtecdendjlgohjaaGreatDoor
namespace Go.Proofs.YtecdendjlgohjaaGreatDoor
open Go.RowKit
set_option maxHeartbeats 2000000
set_option maxRecDepth 100000
def M.small (c : UInt8) : Bool := decide (97 ≤ c.toNat) && decide (c.toNat ≤ 122)
def M.digit (c : UInt8) : Bool := decide (48 ≤ c.toNat) && decide (c.toNat ≤ 57)
def M.nameAt (s : ByteArray) (i : Nat) : Bool := match s.data.toList[i]? with
  | some c => M.small c || (M.digit c && decide (i ≠ 0))
  | none => true
/-- A name. -/
def M.name (s : ByteArray) : Bool := decide (1 ≤ s.size) && decide (s.size ≤ 10) && (List.range s.size).all (M.nameAt s)
theorem M.nameAt_eq {s : ByteArray} {k : Nat} (hk : k < s.size) : M.nameAt s k = (M.small s[k] || (M.digit s[k] && decide (k ≠ 0))) := by
  have h1 : s.data.toList[k]? = some s[k] := by
    rw [List.getElem?_eq_getElem (by simpa using hk)]
    rfl
  rw [M.nameAt, h1]
theorem M.name_no {s : ByteArray} {k : Nat} (hk : k < s.size) (h : M.nameAt s k = false) : M.name s = false := by
  rw [M.name]
  cases hall : (List.range s.size).all (M.nameAt s)
  · simp
  · rw [List.all_eq_true] at hall
    have := hall k (List.mem_range.2 hk)
    rw [h] at this
    cases this
theorem M.name_yes {s : ByteArray} (h1 : 1 ≤ s.size) (h2 : s.size ≤ 10) (h : ∀ j, j < s.size → M.nameAt s j = true) : M.name s = true := by
  rw [M.name, decide_eq_true h1, decide_eq_true h2, Bool.true_and, Bool.true_and, List.all_eq_true]
  exact fun j hj => h j (List.mem_range.1 hj)
theorem M.name_len {s : ByteArray} (h : ¬ (1 ≤ s.size ∧ s.size ≤ 10)) : M.name s = false := by
  rw [M.name]
  by_cases h1 : 1 ≤ s.size
  · have h2 : ¬ s.size ≤ 10 := fun e => h ⟨h1, e⟩
    simp [h2]
  · simp [h1]
theorem impl_IsName (s : ByteArray) (w : World) (hs : s.size ≤ maxLen) :
    Calls Tryz.prog 47 #[.string s] w fun e w' => e = .returned (.bool (M.name s)) ∧ w = w' := by
  unfold maxLen at hs
  by_cases hlen : 1 ≤ s.size ∧ s.size ≤ 10
  · obtain ⟨hl1, hl2⟩ := hlen
    go_enter Tryz.func47, Tryz.ntmps47
    go_wp2
    go_loop [3, 4, 5] (fun i _ _ => ∃ k : Nat, i = .int .i64 k ∧ k ≤ s.size ∧ Hid (∀ j, j < k → M.nameAt s j = true)) (fun i _ _ => s.size - (intOf i).toNat)
    case atStart => exact ⟨0, rfl, by omega, Lib.hid (by omega)⟩
    case round =>
      obtain ⟨k, rfl, hk, H⟩ := hrel
      by_cases hlt : k < s.size
      · have hA := Lib.hid (M.nameAt_eq hlt)
        have hgo : M.nameAt s k = true → ∀ j, j < k + 1 → M.nameAt s j = true := fun h j hj => by
          rcases Nat.lt_or_ge j k with h1 | h1
          · exact H.out j h1
          · obtain rfl : j = k := by omega
            exact h
        have HG := Lib.hid hgo
        have HN := Lib.hid (fun h => M.name_no (s := s) (k := k) hlt h)
        clear hgo
        by_cases h97 : 97 ≤ s[k].toNat
        · by_cases h122 : s[k].toNat ≤ 122
          · have h2 := Lib.hid (show M.nameAt s k = true by rw [hA.out]; simp [M.small, M.digit]; omega)
            have g1 : (97 : Int) ≤ (s[k].toNat : Int) := by omega
            have g2 : (s[k].toNat : Int) ≤ 122 := by omega
            clear h97 h122
            go_wp2
            go_round
            case rel => exact ⟨k + 1, by go_num, by omega, Lib.hid (HG.out h2.out)⟩
            case measure => simp [intOf]; omega
          · have h2 := Lib.hid (HN.out (show M.nameAt s k = false by rw [hA.out]; simp [M.small, M.digit]; omega))
            have g1 : (97 : Int) ≤ (s[k].toNat : Int) := by omega
            have g2 : ¬ (s[k].toNat : Int) ≤ 122 := by omega
            have g3 : (48 : Int) ≤ (s[k].toNat : Int) := by omega
            have g4 : ¬ (s[k].toNat : Int) ≤ 57 := by omega
            clear h97 h122
            go_wp2
            go_ret
            exact ⟨ret_bool (by rw [h2.out]), rfl⟩
        · by_cases h48 : 48 ≤ s[k].toNat
          · by_cases h57 : s[k].toNat ≤ 57
            · by_cases hk0 : k = 0
              · have h2 := Lib.hid (HN.out (show M.nameAt s k = false by rw [hA.out]; simp [M.small, M.digit]; omega))
                have g1 : ¬ (97 : Int) ≤ (s[k].toNat : Int) := by omega
                have g3 : (48 : Int) ≤ (s[k].toNat : Int) := by omega
                have g4 : (s[k].toNat : Int) ≤ 57 := by omega
                clear h97 h48 h57
                subst hk0
                go_wp2
                go_ret
                exact ⟨ret_bool (by rw [h2.out]), rfl⟩
              · have h2 := Lib.hid (show M.nameAt s k = true by rw [hA.out]; simp [M.small, M.digit]; omega)
                have g1 : ¬ (97 : Int) ≤ (s[k].toNat : Int) := by omega
                have g3 : (48 : Int) ≤ (s[k].toNat : Int) := by omega
                have g4 : (s[k].toNat : Int) ≤ 57 := by omega
                clear h97 h48 h57
                go_wp2
                go_round
                case rel => exact ⟨k + 1, by go_num, by omega, Lib.hid (HG.out h2.out)⟩
                case measure => simp [intOf]; omega
            · have h2 := Lib.hid (HN.out (show M.nameAt s k = false by rw [hA.out]; simp [M.small, M.digit]; omega))
              have g1 : ¬ (97 : Int) ≤ (s[k].toNat : Int) := by omega
              have g3 : (48 : Int) ≤ (s[k].toNat : Int) := by omega
              have g4 : ¬ (s[k].toNat : Int) ≤ 57 := by omega
              clear h97 h48 h57
              go_wp2
              go_ret
              exact ⟨ret_bool (by rw [h2.out]), rfl⟩
          · have h2 := Lib.hid (HN.out (show M.nameAt s k = false by rw [hA.out]; simp [M.small, M.digit]; omega))
            have g1 : ¬ (97 : Int) ≤ (s[k].toNat : Int) := by omega
            have g3 : ¬ (48 : Int) ≤ (s[k].toNat : Int) := by omega
            clear h97 h48
            go_wp2
            go_ret
            exact ⟨ret_bool (by rw [h2.out]), rfl⟩
      · have hY := Lib.hid (M.name_yes hl1 hl2 (fun j hj => H.out j (by omega)))
        go_wp2
        go_ret
        exact ⟨ret_bool (by rw [hY.out]), rfl⟩
  · have hN := Lib.hid (M.name_len hlen)
    by_cases h1 : s.size < 1
    · go_enter Tryz.func47, Tryz.ntmps47
      go_wp2
      go_ret
      exact ⟨ret_bool (by rw [hN.out]), rfl⟩
    · have h2 : 10 < s.size := by omega
      go_enter Tryz.func47, Tryz.ntmps47
      go_wp2
      go_ret
      exact ⟨ret_bool (by rw [hN.out]), rfl⟩
theorem spec_l01Small (c : UInt8) (w : World) : Calls Tryz.prog 78 #[.int .u8 (c.toNat : Int)] w fun e w' => e = .returned (.bool (M.small c)) ∧ w = w' := by
  go_enter Tryz.func78, Tryz.ntmps78
  go_wp2
  all_goals
    go_ret
    exact ⟨ret_bool (by rw [M.small, Bool.eq_iff_iff]; simp; omega), rfl⟩
theorem spec_l01Digit (c : UInt8) (w : World) : Calls Tryz.prog 36 #[.int .u8 (c.toNat : Int)] w fun e w' => e = .returned (.bool (M.digit c)) ∧ w = w' := by
  go_enter Tryz.func36, Tryz.ntmps36
  go_wp2
  all_goals
    go_ret
    exact ⟨ret_bool (by rw [M.digit, Bool.eq_iff_iff]; simp; omega), rfl⟩
theorem spec_IsName (s : ByteArray) (w : World) (hs : s.size ≤ maxLen) :
    Calls Tryz.prog 63 #[.string s] w fun e w' => e = .returned (.bool (M.name s)) ∧ w = w' := by
  unfold maxLen at hs
  by_cases h0 : s.size = 0
  · have hN := Lib.hid (M.name_len (s := s) (by omega))
    have he : s.toList = [] := by rw [Lib.toList_data]; exact List.eq_nil_of_length_eq_zero (by simpa using h0)
    have he2 : s.toList.isEmpty = true := by rw [he]; rfl
    clear h0
    go_enter Tryz.func63, Tryz.ntmps63
    go_wp2
    go_ret
    exact ⟨ret_bool (by rw [hN.out]), rfl⟩
  · have he : ¬ s.toList = [] := by
      rw [Lib.toList_data]
      intro e
      exact h0 (by have := congrArg List.length e; simpa using this)
    have he2 : s.toList.isEmpty = false := by simpa using he
    have hp : 0 < s.size := by omega
    by_cases h10 : 10 < s.size
    · have hN := Lib.hid (M.name_len (s := s) (by omega))
      go_enter Tryz.func63, Tryz.ntmps63
      go_wp2
      go_ret
      exact ⟨ret_bool (by rw [hN.out]), rfl⟩
    · cases hsm : M.small s[0]
      · have hN := Lib.hid (M.name_no (s := s) (k := 0) hp (by rw [M.nameAt_eq hp, hsm]; simp))
        go_enter Tryz.func63, Tryz.ntmps63
        go_wp2_with (go_at_call 78; refine (spec_l01Small _ _).mono ?_; rw [hsm]; rintro e w' ⟨rfl, rfl⟩)
        go_ret
        exact ⟨ret_bool (by rw [hN.out]), rfl⟩
      · have hl2 : s.size ≤ 10 := by omega
        have HSM := Lib.hid hsm
        clear hsm
        go_enter Tryz.func63, Tryz.ntmps63
        go_wp2_with (go_at_call 78; refine (spec_l01Small _ _).mono ?_; rw [HSM.out]; rintro e w' ⟨rfl, rfl⟩)
        go_loop [3] (fun i => ∃ k : Nat, i = .int .i64 k ∧ k ≤ s.size ∧ Hid (∀ j, j < k → M.nameAt s j = true)) (fun i => s.size - (intOf i).toNat)
        case atStart => exact ⟨0, rfl, by omega, Lib.hid (by omega)⟩
        case round =>
          obtain ⟨k, rfl, hk, H⟩ := hrel
          by_cases hlt : k < s.size
          · have hA := Lib.hid (M.nameAt_eq hlt)
            have HG := Lib.hid (show M.nameAt s k = true → ∀ j, j < k + 1 → M.nameAt s j = true from fun h j hj => by
              rcases Nat.lt_or_ge j k with h1 | h1
              · exact H.out j h1
              · obtain rfl : j = k := by omega
                exact h)
            have HN := Lib.hid (fun h => M.name_no (s := s) (k := k) hlt h)
            have HK := Lib.hid (show k = 0 → M.small s[k] = true from fun e => by subst e; exact HSM.out)
            cases h1 : M.small s[k]
            · cases h2 : M.digit s[k]
              · have h3 := Lib.hid (HN.out (by rw [hA.out, h1, h2]; rfl))
                go_wp2_with (first | (go_at_call 78; refine (spec_l01Small _ _).mono ?_; rw [h1]; rintro e w' ⟨rfl, rfl⟩) | (go_at_call 36; refine (spec_l01Digit _ _).mono ?_; rw [h2]; rintro e w' ⟨rfl, rfl⟩))
                go_ret
                exact ⟨ret_bool (by rw [h3.out]), rfl⟩
              · have hk0 : ¬ k = 0 := fun e => by have := HK.out e; rw [h1] at this; cases this
                have h3 := Lib.hid (HG.out (by rw [hA.out, h1, h2]; simpa using hk0))
                clear hk0
                go_wp2_with (first | (go_at_call 78; refine (spec_l01Small _ _).mono ?_; rw [h1]; rintro e w' ⟨rfl, rfl⟩) | (go_at_call 36; refine (spec_l01Digit _ _).mono ?_; rw [h2]; rintro e w' ⟨rfl, rfl⟩))
                go_round
                case rel => exact ⟨k + 1, by go_num, by omega, h3⟩
                case measure => simp [intOf]; omega
            · have h3 := Lib.hid (HG.out (by rw [hA.out, h1]; rfl))
              go_wp2_with (go_at_call 78; refine (spec_l01Small _ _).mono ?_; rw [h1]; rintro e w' ⟨rfl, rfl⟩)
              go_round
              case rel => exact ⟨k + 1, by go_num, by omega, h3⟩
              case measure => simp [intOf]; omega
          · have hY := Lib.hid (M.name_yes (s := s) hp hl2 (fun j hj => H.out j (by omega)))
            go_wp2
            go_ret
            exact ⟨ret_bool (by rw [hY.out]), rfl⟩
end Go.Proofs.YtecdendjlgohjaaGreatDoor
namespace Go.Proofs.YtecdendjlgohjaaGreatDoor
open Go.RowKit
set_option maxHeartbeats 4000000
set_option maxRecDepth 100000
theorem M.inn_iffM {n lo hi : Int} : M.inn n lo hi = true ↔ lo ≤ n ∧ n ≤ hi := by simp [M.inn]
def M.sendsB (m : Int) : Int → List (Int × Int) → Bool
  | _, [] => true
  | last, x :: xs => M.inn x.1 (last + 1) (m - 1) && M.smp x.2 && M.sendsB m x.1 xs
def M.areSends (xs : List (Int × Int)) (k m : Int) : Bool := M.sendsB m k xs && (if k = m - 1 then decide (xs.length = 0) else M.inn xs.length 1 4)
def M.stripOk (x : Strip) (k m : Int) : Bool := M.name x.1 && M.inn x.2.1 0 32 && M.areSends x.2.2 k m
theorem M.sendsB_at {m last : Int} {xs : List (Int × Int)} {j : Nat} {p0 p1 : Int} (h : xs[j]? = some (p0, p1)) : M.sendsB m last (xs.drop j) = (M.inn p0 (last + 1) (m - 1) && M.smp p1 && M.sendsB m p0 (xs.drop (j + 1))) := by
  rw [M.drop_at h, M.sendsB]
theorem impl_size_impl_Send (A : Option Addr) (n c : Nat) (w : World) : Calls Tryz.prog 70 #[.slice A n c] w fun e w' => e = .returned (.int .i64 n) ∧ w = w' := by
  go_enter Tryz.func70, Tryz.ntmps70
  go_wp2
  go_ret
  exact ⟨rfl, rfl⟩
theorem impl_size_impl_Strip (A : Option Addr) (n c : Nat) (w : World) : Calls Tryz.prog 46 #[.slice A n c] w fun e w' => e = .returned (.int .i64 n) ∧ w = w' := by
  go_enter Tryz.func46, Tryz.ntmps46
  go_wp2
  go_ret
  exact ⟨rfl, rfl⟩
theorem impl_areSends (A : Option Addr) (n c : Nat) (xs : List (Int × Int)) (k m : Int) (w : World) (hx : RA sd 2 w w.heap.size A n xs) (hn : n ≤ 1000000000) (hk : 0 ≤ k ∧ k ≤ 1000000000) (hm : 0 ≤ m ∧ m ≤ 1000000000) :
    Calls Tryz.prog 49 #[.slice A n c, .int .i64 k, .int .i64 m] w fun e w' => e = .returned (.bool (M.areSends xs k m)) ∧ Below w.heap.size w w' := by
  have hl := Lib.hid hx.1
  go_enter Tryz.func49, Tryz.ntmps49
  go_wp2
  go_loopw [7, 9, 13] (fun v _ i wr => ∃ (j : Nat) (last : Int), i = .int .i64 j ∧ j ≤ n ∧ v = .int .i64 last ∧ 0 ≤ last ∧ last ≤ 1000000000 ∧ Hid (M.sendsB m k xs = M.sendsB m last (xs.drop j)) ∧ Below w.heap.size w wr) (fun _ _ i _ => n - (intOf i).toNat)
  case atStart => exact ⟨0, k, rfl, by omega, rfl, by omega, by omega, Lib.hid rfl, Below.refl _ _⟩
  case round =>
    obtain ⟨j, last, rfl, hj, rfl, hl0, hl1, H, hb⟩ := hrel
    by_cases hlt : j < n
    · obtain ⟨b, o, ⟨p0, p1⟩, rfl, hab, X, hcc⟩ := (hx.below hb).at sd_len (by decide) hlt
      have e0 : wr.cell? ⟨b, o + j * 2, none⟩ = some (.int .i64 p0) := hcc 0 _ rfl
      have e1 : wr.cell? ⟨b, o + j * 2 + 1, none⟩ = some (.int .i64 p1) := hcc 1 _ rfl
      have hS := Lib.hid (M.sendsB_at (m := m) (last := last) X.out)
      clear hcc
      cases h1 : M.inn p0 (last + 1) (m - 1)
      · have R := Lib.hid (show M.areSends xs k m = false by rw [M.areSends, H.out, hS.out, h1]; rfl)
        go_wp2_with (go_at_call 48; refine (impl_within _ _ _ _).mono ?_; rintro e w' ⟨rfl, rfl⟩)
        go_ret
        exact ⟨ret_bool (by rw [R.out]), hb.alloc hb.size _⟩
      · cases h2 : M.smp p1
        · have R := Lib.hid (show M.areSends xs k m = false by rw [M.areSends, H.out, hS.out, h1, h2]; rfl)
          go_wp2_with (first | (go_at_call 48; refine (impl_within _ _ _ _).mono ?_; rintro e w' ⟨rfl, rfl⟩) | (go_at_call 69; refine (impl_isSample _ _).mono ?_; rintro e w' ⟨rfl, rfl⟩))
          go_ret
          exact ⟨ret_bool (by rw [R.out]), hb.alloc hb.size _⟩
        · have hp := M.inn_iffM.1 h1
          have H2 := Lib.hid (show M.sendsB m k xs = M.sendsB m p0 (xs.drop (j + 1)) by rw [H.out, hS.out, h1, h2]; rfl)
          go_wp2_with (first | (go_at_call 48; refine (impl_within _ _ _ _).mono ?_; rintro e w' ⟨rfl, rfl⟩) | (go_at_call 69; refine (impl_isSample _ _).mono ?_; rintro e w' ⟨rfl, rfl⟩))
          go_roundw
          case rel => exact ⟨j + 1, p0, by go_num, by omega, rfl, by omega, by omega, H2, hb.alloc hb.size _⟩
          case measure => simp [intOf]; omega
    · have H2 := Lib.hid (show M.sendsB m k xs = true by rw [H.out, List.drop_eq_nil_of_le (by rw [hl.out]; omega)]; rfl)
      by_cases hkm : k = m - 1
      · have R := Lib.hid (show M.areSends xs k m = decide (n = 0) by rw [M.areSends, H2.out, if_pos hkm, hl.out]; rfl)
        have hkm2 : (k == m - 1) = true := by simpa using hkm
        clear hkm
        by_cases hz : n = 0
        · subst hz
          go_wp2
          go_ret
          exact ⟨ret_bool (by rw [R.out]; rfl), hb⟩
        · have hz2 : ((n : Int) == 0) = false := by simpa using hz
          have R2 := Lib.hid (show M.areSends xs k m = false by rw [R.out]; simpa using hz)
          clear hz
          go_wp2
          go_ret
          exact ⟨ret_bool (by first | (rw [R2.out]; done) | (rw [R2.out]; exact hz2)), hb⟩
      · have hkm2 : (k == m - 1) = false := by simpa using hkm
        have R := Lib.hid (show M.areSends xs k m = M.inn n 1 4 by rw [M.areSends, H2.out, if_neg hkm, hl.out]; rfl)
        go_wp2_with (first | (go_at_call 48; refine (impl_within _ _ _ _).mono ?_; rintro e w' ⟨rfl, rfl⟩) | (go_at_call 70; refine (impl_size_impl_Send _ _ _ _).mono ?_; rintro e w' ⟨rfl, rfl⟩))
        go_ret
        exact ⟨ret_bool (by rw [R.out]), hb⟩
theorem spec_l26Strip (g o : Nat) (s : ByteArray) (l : Int) (A : Option Addr) (n c : Nat) (xs : List (Int × Int)) (k m : Int) (w : World) (a0 : w.cell? ⟨g, o, none⟩ = some (.string s)) (a1 : w.cell? ⟨g, o + 1, none⟩ = some (.int .i64 l)) (a2 : w.cell? ⟨g, o + 2, none⟩ = some (.slice A n c))
    (hs : s.size ≤ maxLen) (hx : RA sd 2 w w.heap.size A n xs) (hn : n ≤ 1000000000) (hk : 0 ≤ k ∧ k ≤ 1000000000) (hm : 0 ≤ m ∧ m ≤ 1000000000) :
    Calls Tryz.prog 40 #[.pointer (some ⟨g, o, none⟩), .int .i64 k, .int .i64 m] w fun e w' => e = .returned (.bool (M.stripOk (s, l, xs) k m)) ∧ w = w' := by
  have hl := Lib.hid hx.1
  cases hN : M.name s
  · have R := Lib.hid (show M.stripOk (s, l, xs) k m = false by rw [M.stripOk, hN]; rfl)
    go_enter Tryz.func40, Tryz.ntmps40
    go_wp2_with (first | (go_at_call 63; refine (spec_IsName _ _ hs).mono ?_; rw [hN]; rintro e w' ⟨rfl, rfl⟩) | (go_at_call 39; refine (spec_l00In _ _ _ _).mono ?_; rintro e w' ⟨rfl, rfl⟩))
    go_ret
    exact ⟨ret_bool (by rw [R.out]), rfl⟩
  cases hL : M.inn l 0 32
  · have R := Lib.hid (show M.stripOk (s, l, xs) k m = false by rw [M.stripOk, hN, hL]; rfl)
    go_enter Tryz.func40, Tryz.ntmps40
    go_wp2_with (first | (go_at_call 63; refine (spec_IsName _ _ hs).mono ?_; rw [hN]; rintro e w' ⟨rfl, rfl⟩) | (go_at_call 39; refine (spec_l00In _ _ _ _).mono ?_; rintro e w' ⟨rfl, rfl⟩))
    go_ret
    exact ⟨ret_bool (by rw [R.out]), rfl⟩
  by_cases h4 : 4 < n
  · have h4' : (4 : Int) < (n : Int) := by omega
    have R := Lib.hid (show M.stripOk (s, l, xs) k m = false by
      rw [M.stripOk, hN, hL]
      show M.areSends xs k m = false
      rw [M.areSends, hl.out]
      split
      · rw [decide_eq_false (by omega), Bool.and_false]
      · rw [show M.inn (n : Int) 1 4 = false by simp [M.inn]; omega, Bool.and_false])
    go_enter Tryz.func40, Tryz.ntmps40
    go_wp2_with (first | (go_at_call 63; refine (spec_IsName _ _ hs).mono ?_; rw [hN]; rintro e w' ⟨rfl, rfl⟩) | (go_at_call 39; refine (spec_l00In _ _ _ _).mono ?_; rintro e w' ⟨rfl, rfl⟩))
    go_ret
    exact ⟨ret_bool (by rw [R.out]), rfl⟩
  by_cases hz : n = 0
  · by_cases hkm : k = m - 1
    · have R := Lib.hid (show M.stripOk (s, l, xs) k m = true by
        have hnil : xs = [] := List.eq_nil_of_length_eq_zero (by rw [hl.out, hz])
        rw [M.stripOk, hN, hL, M.areSends, if_pos hkm, hnil]; rfl)
      have hkm2 : (k == m - 1) = true := by simpa using hkm
      subst hz
      clear hkm
      go_enter Tryz.func40, Tryz.ntmps40
      go_wp2_with (first | (go_at_call 63; refine (spec_IsName _ _ hs).mono ?_; rw [hN]; rintro e w' ⟨rfl, rfl⟩) | (go_at_call 39; refine (spec_l00In _ _ _ _).mono ?_; rintro e w' ⟨rfl, rfl⟩))
      go_loop [7, 8] (fun _ i => i = .int .i64 0) (fun _ _ => 0)
      case atStart => exact rfl
      case round =>
        obtain rfl := hrel
        go_wp2
        go_ret
        exact ⟨ret_bool (by rw [R.out]), rfl⟩
    · have R := Lib.hid (show M.stripOk (s, l, xs) k m = false by
        rw [M.stripOk, hN, hL]
        show M.areSends xs k m = false
        rw [M.areSends, hl.out, if_neg hkm, hz, show M.inn ((0 : Nat) : Int) 1 4 = false by decide, Bool.and_false])
      have hkm2 : (k == m - 1) = false := by simpa using hkm
      subst hz
      go_enter Tryz.func40, Tryz.ntmps40
      go_wp2_with (first | (go_at_call 63; refine (spec_IsName _ _ hs).mono ?_; rw [hN]; rintro e w' ⟨rfl, rfl⟩) | (go_at_call 39; refine (spec_l00In _ _ _ _).mono ?_; rintro e w' ⟨rfl, rfl⟩))
      go_ret
      exact ⟨ret_bool (by rw [R.out]), rfl⟩
  · have hz2 : ((n : Int) == 0) = false := by simpa using hz
    by_cases hkm : k = m - 1
    · have R := Lib.hid (show M.stripOk (s, l, xs) k m = false by
        rw [M.stripOk, hN, hL]
        show M.areSends xs k m = false
        rw [M.areSends, hl.out, if_pos hkm, decide_eq_false hz, Bool.and_false])
      have hkm2 : (k == m - 1) = true := by simpa using hkm
      clear hkm hz
      go_enter Tryz.func40, Tryz.ntmps40
      go_wp2_with (first | (go_at_call 63; refine (spec_IsName _ _ hs).mono ?_; rw [hN]; rintro e w' ⟨rfl, rfl⟩) | (go_at_call 39; refine (spec_l00In _ _ _ _).mono ?_; rintro e w' ⟨rfl, rfl⟩))
      go_ret
      exact ⟨ret_bool (by rw [R.out]), rfl⟩
    · have R := Lib.hid (show M.stripOk (s, l, xs) k m = M.sendsB m k xs by
        rw [M.stripOk, hN, hL]
        show M.areSends xs k m = _
        rw [M.areSends, hl.out, if_neg hkm, show M.inn (n : Int) 1 4 = true from M.inn_iffM.2 ⟨by omega, by omega⟩, Bool.and_true])
      have hkm2 : (k == m - 1) = false := by simpa using hkm
      have hN' := Lib.hid hN
      have hL' := Lib.hid hL
      clear hkm hz hN hL
      go_enter Tryz.func40, Tryz.ntmps40
      go_wp2_with (first | (go_at_call 63; refine (spec_IsName _ _ hs).mono ?_; rw [hN'.out]; rintro e w' ⟨rfl, rfl⟩) | (go_at_call 39; refine (spec_l00In _ _ _ _).mono ?_; rw [hL'.out]; rintro e w' ⟨rfl, rfl⟩))
      go_loop [7, 8] (fun v i => ∃ (j : Nat) (last : Int), i = .int .i64 j ∧ j ≤ n ∧ v = .int .i64 last ∧ 0 ≤ last ∧ last ≤ 1000000000 ∧ Hid (M.sendsB m k xs = M.sendsB m last (xs.drop j))) (fun _ i => n - (intOf i).toNat)
      case atStart => exact ⟨0, k, rfl, by omega, rfl, by omega, by omega, Lib.hid rfl⟩
      case round =>
        obtain ⟨j, last, rfl, hj, rfl, hl0, hl1, H⟩ := hrel
        by_cases hlt : j < n
        · obtain ⟨b, o1, ⟨p0, p1⟩, rfl, hab, X, hcc⟩ := hx.at sd_len (by decide) hlt
          have e0 : w.cell? ⟨b, o1 + j * 2, none⟩ = some (.int .i64 p0) := hcc 0 _ rfl
          have e1 : w.cell? ⟨b, o1 + j * 2 + 1, none⟩ = some (.int .i64 p1) := hcc 1 _ rfl
          have hS := Lib.hid (M.sendsB_at (m := m) (last := last) X.out)
          clear hcc
          cases h1 : M.inn p0 (last + 1) (m - 1)
          · have R2 := Lib.hid (show M.stripOk (s, l, xs) k m = false by rw [R.out, H.out, hS.out, h1]; rfl)
            go_wp2_with (go_at_call 39; refine (spec_l00In _ _ _ _).mono ?_; rintro e w' ⟨rfl, rfl⟩)
            go_ret
            exact ⟨ret_bool (by rw [R2.out]), rfl⟩
          · cases h2 : M.smp p1
            · have R2 := Lib.hid (show M.stripOk (s, l, xs) k m = false by rw [R.out, H.out, hS.out, h1, h2]; rfl)
              go_wp2_with (first | (go_at_call 39; refine (spec_l00In _ _ _ _).mono ?_; rintro e w' ⟨rfl, rfl⟩) | (go_at_call 64; refine (spec_l01Sample _ _).mono ?_; rintro e w' ⟨rfl, rfl⟩))
              go_ret
              exact ⟨ret_bool (by rw [R2.out]), rfl⟩
            · have hp := M.inn_iffM.1 h1
              have H2 := Lib.hid (show M.sendsB m k xs = M.sendsB m p0 (xs.drop (j + 1)) by rw [H.out, hS.out, h1, h2]; rfl)
              go_wp2_with (first | (go_at_call 39; refine (spec_l00In _ _ _ _).mono ?_; rintro e w' ⟨rfl, rfl⟩) | (go_at_call 64; refine (spec_l01Sample _ _).mono ?_; rintro e w' ⟨rfl, rfl⟩))
              go_round
              case rel => exact ⟨j + 1, p0, by go_num, by omega, rfl, by omega, by omega, H2⟩
              case measure => simp [intOf]; omega
        · have R2 := Lib.hid (show M.stripOk (s, l, xs) k m = true by rw [R.out, H.out, List.drop_eq_nil_of_le (by rw [hl.out]; omega)]; rfl)
          go_wp2
          go_ret
          exact ⟨ret_bool (by rw [R2.out]), rfl⟩
end Go.Proofs.YtecdendjlgohjaaGreatDoor
namespace Go.Proofs.YtecdendjlgohjaaGreatDoor
open Go.RowKit
open Go.Maps (Keyed)
set_option maxHeartbeats 4000000
set_option maxRecDepth 100000
theorem lookup_bool {P : Program} {k t e : TypeId} {w : World} {b n : Nat} {D : DataW Unit} (h : w.ownsMap P k (plainElem P e) b n D) (K : Keyed P k) (ht : P.underlying t = some (.map k e)) (he : P.underlying e = some .bool) (hz : (zeroValue e).run P w = .ok (.bool false) w)
    {key : Value} {kl : Lit} (hkey : keyOf P k key = some kl) : ∃ c, (Instr.lookup t (.map (some b)) key false).run P w = .ok (.bool c) w ∧ D.atKey kl (.lit (.bool false)) = .lit (.bool c) := by
  obtain ⟨v, ps, hrun, hv⟩ := h.lookup K ht hz (plainElem_bool he false) hkey
  unfold plainElem at hv
  rw [he] at hv
  cases v <;> simp at hv
  rename_i c
  exact ⟨c, hrun, hv.1.symm⟩
def M.has (s : ByteArray) (l : List ByteArray) : Bool := l.any fun t => decide (t = s)
/-- The map of the names so far. -/
def NamesOf (D : DataW Unit) (l : List ByteArray) : Prop := Go.Maps.IsMap D ∧ ∀ s : ByteArray, D.atKey (.string s.data.toList) (.lit (.bool false)) = .lit (.bool (M.has s l))
theorem bytes_eq {s t : ByteArray} (h : s.data.toList = t.data.toList) : s = t := ByteArray.ext (Array.toList_inj.1 h)
theorem names_nil : NamesOf (.map []) [] := ⟨⟨[], rfl⟩, fun s => rfl⟩
theorem names_put {D : DataW Unit} {l : List ByteArray} (h : NamesOf D l) (s : ByteArray) : NamesOf (D.put (.string s.data.toList) (.lit (.bool true))) (l ++ [s]) := by
  refine ⟨?_, fun t => ?_⟩
  · obtain ⟨es, rfl⟩ := h.1
    exact ⟨_, rfl⟩
  · by_cases e : t = s
    · subst e
      rw [Go.Maps.atKey_put_same (k := .string t.data.toList) h.1 (by simp [WideAt.IsKeyLit])]
      simp [M.has]
    · rw [Go.Maps.atKey_put_other (fun e2 => e (by injection e2 with e2; exact bytes_eq e2)), h.2 t]
      have e2 : ¬ s = t := fun h => e h.symm
      simp [M.has, e2]
theorem keyed_str : Keyed Tryz.prog 9 := Keyed.of_law (Go.WideMaps.string_law Tryz.underlying9)
theorem zero_bool (w : World) : (zeroValue 4).run Tryz.prog w = .ok (.bool false) w := by kernel_rfl
def M.sz : Strip := (⟨#[]⟩, 0, [])
def M.stepM (xs : List Strip) (k : Nat) : Bool := M.stripOk ((xs[k]?).getD M.sz) k xs.length && !M.has ((xs[k]?).getD M.sz).1 ((xs.take k).map (·.1))
/-- A mixer is valid. -/
def M.mixOk (xs : List Strip) : Bool := M.inn xs.length 1 8 && (List.range xs.length).all (M.stepM xs)
theorem M.mix_no {xs : List Strip} {k : Nat} (hk : k < xs.length) (h : M.stepM xs k = false) : M.mixOk xs = false := by
  rw [M.mixOk]
  cases hall : (List.range xs.length).all (M.stepM xs)
  · simp
  · rw [List.all_eq_true] at hall
    have := hall k (List.mem_range.2 hk)
    rw [h] at this
    cases this
theorem M.mix_end {xs : List Strip} (h : ∀ j, j < xs.length → M.stepM xs j = true) : M.mixOk xs = M.inn xs.length 1 8 := by
  rw [M.mixOk, show (List.range xs.length).all (M.stepM xs) = true from List.all_eq_true.2 fun j hj => h j (List.mem_range.1 hj), Bool.and_true]
theorem M.stepM_eq {xs : List Strip} {k : Nat} {x : Strip} (h : xs[k]? = some x) : M.stepM xs k = (M.stripOk x k xs.length && !M.has x.1 ((xs.take k).map (·.1))) := by
  rw [M.stepM, h]; rfl
theorem grown_of_bel {w w' : World} (h : Below w.heap.size w w') (row : Option Nat) : w.grownBy w' row := ⟨h.os, h.tape, h.output, h.size, fun k hk _ => h.block k hk⟩
theorem impl_isMixer (A : Option Addr) (n c : Nat) (xs : List Strip) (w : World) (hx : tM.R w w.heap.size [.slice A n c] xs) (hn : hM.sz xs ≤ 100000000) :
    Calls Tryz.prog 24 #[.agg #[.slice A n c]] w fun e w' => e = .returned (.bool (M.mixOk xs)) ∧ Below w.heap.size w w' := by
  have rx := sl_R.1 hx
  have hlx := rx.cap.1
  have hm1 : xs.length + hSt.szL xs ≤ 100000000 := hn
  have hnb : n ≤ 100000000 := by omega
  have HLX := Lib.hid hlx
  have HM1 := Lib.hid hm1
  clear hlx hx hn hm1
  have hmm := @run_makeMap Tryz.prog
  go_enter Tryz.func24, Tryz.ntmps24
  go_wp2_with (go_at_call 46; refine (impl_size_impl_Strip _ _ _ _).mono ?_; rintro e w' ⟨rfl, rfl⟩)
  go_loopw [5, 6, 14] (fun _ _ i wr => ∃ (k : Nat) (D : DataW Unit), i = .int .i64 k ∧ k ≤ n ∧ Hid (∀ j, j < k → M.stepM xs j = true) ∧ Hid (NamesOf D ((xs.take k).map (·.1))) ∧ wr.ownsMap Tryz.prog 9 (plainElem Tryz.prog 4) (w.heap.size + 1) k D ∧ w.heap.size + 1 + 1 ≤ wr.heap.size ∧ Below w.heap.size w wr) (fun _ _ i _ => n - (intOf i).toNat)
  case atStart => exact ⟨0, .map [], rfl, by omega, Lib.hid (by omega), Lib.hid (by simpa using names_nil), by have := World.ownsMap_made (w.alloc (.cells #[.slice A n c] 24)) Tryz.prog 9 (plainElem (H := Unit) Tryz.prog 4); simpa using this, by simp, ((Below.refl _ _).alloc (Nat.le_refl _) _).alloc (by simp) _⟩
  case round =>
    obtain ⟨k, D, rfl, hk, H, HD, hown, hsz, Bw⟩ := hrel
    clear hmm
    by_cases hlt : k < n
    · have hX := Lib.hid (List.getElem?_eq_getElem (l := xs) (i := k) (by rw [HLX.out]; exact hlt))
      obtain ⟨b, o1, cc, cs, hv, hab, -, hE, hcc⟩ := (rx.below Bw).atX hX.out
      simp only [Value.slice.injEq] at hv
      obtain ⟨rfl, -, rfl⟩ := hv
      have hU := hSt.szL_at hX.out
      generalize xs[k]'(by rw [HLX.out]; exact hlt) = x at hX hE hU
      obtain ⟨s, l, us⟩ := x
      rw [hSt_sz] at hU
      obtain ⟨A1, n1, c1, rfl, hs, hE⟩ := st_R.1 hE
      have n1b : n1 ≤ 1000000000 := by have := (tSdS_ra hE).1.1; have := HM1.out; omega
      have e0 : wr.cell? ⟨b, o1 + k * 3, none⟩ = some (.string s) := hcc 0 _ rfl
      have e1 : wr.cell? ⟨b, o1 + k * 3 + 1, none⟩ = some (.int .i64 l) := hcc 1 _ rfl
      have e2 : wr.cell? ⟨b, o1 + k * 3 + 2, none⟩ = some (.slice A1 n1 c1) := hcc 2 _ rfl
      have hbr : b < wr.heap.size := Nat.lt_of_lt_of_le hab Bw.size
      have hE2 := tSdS.later (tSdS.more Bw.size hE) ((Below.refl wr.heap.size wr).alloc (Nat.le_refl _) (.cells #[.string s, .int .i64 l, .slice A1 n1 c1] 44))
      have hra := (tSdS_ra hE2).1
      have hS := Lib.hid (M.stepM_eq hX.out)
      have HNO := Lib.hid (fun h => M.mix_no (xs := xs) (k := k) (by rw [HLX.out]; exact hlt) h)
      have hownU := hown.alloc (.cells #[.string s, .int .i64 l, .slice A1 n1 c1] 44)
      have hkey : keyOf Tryz.prog 9 (.string s) = some (.string s.data.toList) := Go.WideMaps.keyOf_string_mk Tryz.underlying9 hs
      obtain ⟨q, hrun, hat⟩ := lookup_bool hownU keyed_str Tryz.underlying80 Tryz.underlying4 (zero_bool _) hkey
      have hq : q = M.has s ((xs.take k).map (·.1)) := by
        rw [HD.out.2 s] at hat
        injection hat with hat
        injection hat with hat
        exact hat.symm
      have HQ := Lib.hid hq
      have Bu := Bw.alloc Bw.size (.cells #[.string s, .int .i64 l, .slice A1 n1 c1] 44)
      clear hcc hU hE hE2 hat hq
      cases hN : M.name s
      · have R := Lib.hid (show M.mixOk xs = false from HNO.out (by rw [hS.out, M.stripOk, hN]; rfl))
        go_wp2_with (first | (go_at_call 47; refine (impl_IsName _ _ hs).mono ?_; rw [hN]; rintro e w' ⟨rfl, rfl⟩))
        go_ret
        exact ⟨ret_bool (by rw [R.out]), Bu⟩
      by_cases hq1 : q = true
      · subst hq1
        have R := Lib.hid (show M.mixOk xs = false from HNO.out (by rw [hS.out, ← HQ.out, Bool.not_true, Bool.and_false]))
        go_wp2_with (first | (go_at_call 47; refine (impl_IsName _ _ hs).mono ?_; rw [hN]; rintro e w' ⟨rfl, rfl⟩))
        go_ret
        exact ⟨ret_bool (by rw [R.out]), Bu⟩
      have hq0 : q = false := by simpa using hq1
      subst hq0
      clear hq1
      cases hL : M.inn l 0 32
      · have R := Lib.hid (show M.mixOk xs = false from HNO.out (by rw [hS.out, M.stripOk, hN, hL]; rfl))
        go_wp2_with (first | (go_at_call 47; refine (impl_IsName _ _ hs).mono ?_; rw [hN]; rintro e w' ⟨rfl, rfl⟩) | (go_at_call 48; refine (impl_within _ _ _ _).mono ?_; rintro e w' ⟨rfl, rfl⟩))
        go_ret
        exact ⟨ret_bool (by rw [R.out]), Bu⟩
      have hAS := impl_areSends A1 n1 c1 us k n _ hra n1b ⟨by omega, by omega⟩ ⟨by omega, by omega⟩
      cases hA : M.areSends us k n
      · have R := Lib.hid (show M.mixOk xs = false from HNO.out (by rw [hS.out, M.stripOk, hN, hL, HLX.out, hA]; rfl))
        go_wp2_with (first | (go_at_call 47; refine (impl_IsName _ _ hs).mono ?_; rw [hN]; rintro e w' ⟨rfl, rfl⟩) | (go_at_call 48; refine (impl_within _ _ _ _).mono ?_; rintro e w' ⟨rfl, rfl⟩) | (go_at_call 49; refine hAS.mono ?_; rw [hA]; clear hAS; rintro e w2 ⟨rfl, bel2⟩))
        go_ret
        exact ⟨ret_bool (by rw [R.out]), bel_trans' Bu (by simp; omega) bel2⟩
      · have HST := Lib.hid (show M.stepM xs k = true by rw [hS.out, M.stripOk, hN, hL, HLX.out, hA, ← HQ.out]; rfl)
        have HT := Lib.hid (show (xs.take (k + 1)).map (·.1) = (xs.take k).map (·.1) ++ [s] by rw [M.take_at hX.out, List.map_append]; rfl)
        go_wp2_with (first | (go_at_call 47; refine (impl_IsName _ _ hs).mono ?_; rw [hN]; rintro e w' ⟨rfl, rfl⟩) | (go_at_call 48; refine (impl_within _ _ _ _).mono ?_; rintro e w' ⟨rfl, rfl⟩) | (go_at_call 49; refine hAS.mono ?_; rw [hA]; clear hAS; rintro e w2 ⟨rfl, bel2⟩; have hown2 := hownU.kept (grown_of_bel bel2 none) (by simp); have z2 : wr.heap.size + 1 ≤ w2.heap.size := (by have := bel2.size; simpa using this); have g0 : w2.cell? ⟨wr.heap.size, 0, none⟩ = some (.string s) := (by rw [bel2.cell (by simp), cell_of_row _ wr.heap.size 0 _ 44 (0, 0) (heap_alloc_new wr _)]; rfl)) | (at_mapUpdate; refine wpList_mapUpdate_own _ rfl _ _ _ 80 rfl 9 4 keyed_str Tryz.underlying80 _ (w.heap.size + 1) k _ rfl hown2 (by unfold maxLen; omega) _ _ _ rfl rfl hkey _ [] (plainElem_bool Tryz.underlying4 true) ?_; intro w3 hown3 hgrow3))
        go_roundw
        case rel => exact ⟨k + 1, _, by go_num, by omega, Lib.hid (fun j hj => by
            rcases Nat.lt_or_ge j k with h1 | h1
            · exact H.out j h1
            · obtain rfl : j = k := by omega
              exact HST.out), Lib.hid (by rw [HT.out]; exact names_put HD.out s), hown3, by have := hgrow3.size; omega, (bel_trans' Bu (by simp; omega) bel2).grown hgrow3 (by omega) (fun j hj => by injection hj with hj; omega)⟩
        case measure => simp [intOf]; omega
    · have R := Lib.hid (show M.mixOk xs = M.inn n 1 8 by rw [M.mix_end (fun j hj => H.out j (by rw [HLX.out] at hj; omega)), HLX.out])
      go_wp2_with (go_at_call 48; refine (impl_within _ _ _ _).mono ?_; rintro e w' ⟨rfl, rfl⟩)
      go_ret
      exact ⟨ret_bool (by rw [R.out]), Bw⟩
end Go.Proofs.YtecdendjlgohjaaGreatDoor
namespace Go.Proofs.YtecdendjlgohjaaGreatDoor
open Go.RowKit
set_option maxHeartbeats 4000000
set_option maxRecDepth 100000
theorem M.has_no {xs : List Strip} {k : Nat} {s : ByteArray} (h : ∀ j, j < k → ∀ y, xs[j]? = some y → ¬ y.1 = s) : M.has s ((xs.take k).map (·.1)) = false := by
  rw [M.has, List.any_eq_false]
  intro t ht
  obtain ⟨y, hy, rfl⟩ := List.mem_map.1 ht
  obtain ⟨j, hj⟩ := List.getElem?_of_mem hy
  have hj2 : j < k := by
    have := (List.getElem?_eq_some_iff.1 hj).1
    rw [List.length_take] at this
    omega
  rw [List.getElem?_take, if_pos hj2] at hj
  simpa using h j hj2 y hj
theorem M.has_yes {xs : List Strip} {k j : Nat} {y : Strip} (hj : j < k) (h : xs[j]? = some y) : M.has y.1 ((xs.take k).map (·.1)) = true := by
  rw [M.has, List.any_eq_true]
  refine ⟨y.1, List.mem_map.2 ⟨y, List.mem_of_getElem? (i := j) (by rw [List.getElem?_take, if_pos hj]; exact h), rfl⟩, by simp⟩
theorem spec_l26Ok_at (vb vo : Nat) (A : Option Addr) (n c : Nat) (xs : List Strip) (w : World) (hv0 : w.cell? ⟨vb, vo, none⟩ = some (.slice A n c)) (hx : tM.R w w.heap.size [.slice A n c] xs) (hn : hM.sz xs ≤ 100000000) :
    Calls Tryz.prog 21 #[.pointer (some ⟨vb, vo, none⟩)] w fun e w' => e = .returned (.bool (M.mixOk xs)) ∧ Below w.heap.size w w' := by
  have hvb : vb < w.heap.size := World.block_lt_of_cell? w _ hv0
  have rx := sl_R.1 hx
  have hlx := rx.cap.1
  have hm1 : xs.length + hSt.szL xs ≤ 100000000 := hn
  have hnb : n ≤ 100000000 := by omega
  have HLX := Lib.hid hlx
  have HM1 := Lib.hid hm1
  clear hlx hx hn hm1
  cases hI : M.inn n 1 8
  · have R := Lib.hid (show M.mixOk xs = false by rw [M.mixOk, HLX.out, hI]; rfl)
    go_enter Tryz.func21, Tryz.ntmps21
    go_wp2_with (go_at_call 39; refine (spec_l00In _ _ _ _).mono ?_; rintro e w' ⟨rfl, rfl⟩)
    go_ret
    exact ⟨ret_bool (by rw [R.out]), Below.refl _ _⟩
  · have hb8 := M.inn_iffM.1 hI
    have HI := Lib.hid hI
    go_enter Tryz.func21, Tryz.ntmps21
    go_wp2_with (go_at_call 39; refine (spec_l00In _ _ _ _).mono ?_; rintro e w' ⟨rfl, rfl⟩)
    clear hI
    go_loopw [4, 5] (fun i _ wr => ∃ k : Nat, i = .int .i64 k ∧ k ≤ n ∧ Hid (∀ j, j < k → M.stepM xs j = true) ∧ Below w.heap.size w wr) (fun i _ _ => n - (intOf i).toNat)
    case atStart => exact ⟨0, rfl, by omega, Lib.hid (by omega), Below.refl _ _⟩
    case round =>
      obtain ⟨k, rfl, hk, H, Bw⟩ := hrel
      have c0 : wr.cell? ⟨vb, vo, none⟩ = some (.slice A n c) := by rw [Bw.cell hvb]; exact hv0
      by_cases hlt : k < n
      · have hX := Lib.hid (List.getElem?_eq_getElem (l := xs) (i := k) (by rw [HLX.out]; exact hlt))
        obtain ⟨b, o1, cc, cs, hv, hab, -, hE, hcc⟩ := (rx.below Bw).atX hX.out
        simp only [Value.slice.injEq] at hv
        obtain ⟨rfl, -, rfl⟩ := hv
        have hU := hSt.szL_at hX.out
        generalize xs[k]'(by rw [HLX.out]; exact hlt) = x at hX hE hU
        obtain ⟨s, l, us⟩ := x
        rw [hSt_sz] at hU
        obtain ⟨A1, n1, c1, rfl, hs, hE⟩ := st_R.1 hE
        have n1b : n1 ≤ 1000000000 := by have := (tSdS_ra hE).1.1; have := HM1.out; omega
        have e0 : wr.cell? ⟨b, o1 + k * 3, none⟩ = some (.string s) := hcc 0 _ rfl
        have e1 : wr.cell? ⟨b, o1 + k * 3 + 1, none⟩ = some (.int .i64 l) := hcc 1 _ rfl
        have e2 : wr.cell? ⟨b, o1 + k * 3 + 2, none⟩ = some (.slice A1 n1 c1) := hcc 2 _ rfl
        have hra := (tSdS_ra (tSdS.more Bw.size hE)).1
        have hS := Lib.hid (M.stepM_eq hX.out)
        have HNO := Lib.hid (fun h => M.mix_no (xs := xs) (k := k) (by rw [HLX.out]; exact hlt) h)
        have HC := Lib.hid (spec_l26Strip b (o1 + k * 3) s l A1 n1 c1 us k n wr e0 e1 e2 hs hra n1b ⟨by omega, by omega⟩ ⟨by omega, by omega⟩)
        clear hcc hU hE
        cases hST : M.stripOk (s, l, us) k n
        · have R := Lib.hid (show M.mixOk xs = false from HNO.out (by rw [hS.out, HLX.out, hST]; rfl))
          go_wp2_with (go_at_call 40; refine HC.out.mono ?_; rw [hST]; rintro e w' ⟨rfl, rfl⟩)
          go_ret
          exact ⟨ret_bool (by rw [R.out]), Bw⟩
        · have HST := Lib.hid hST
          clear hST
          go_wp2_with (go_at_call 40; refine HC.out.mono ?_; rw [HST.out]; rintro e w' ⟨rfl, rfl⟩)
          obtain ⟨wo, rfl⟩ : ∃ wo : World, wo = wr := ⟨_, rfl⟩
          clear HC e1 e2 hra
          go_loopw [5] (fun i wr => ∃ j : Nat, i = .int .i64 j ∧ j ≤ k ∧ Hid (∀ q, q < j → ∀ y, xs[q]? = some y → ¬ y.1 = s) ∧ Below w.heap.size w wr) (fun i _ => k - (intOf i).toNat)
          case atStart => exact ⟨0, rfl, by omega, Lib.hid (by omega), Bw⟩
          case round =>
            obtain ⟨j, rfl, hj, HJ, Bw2⟩ := hrel
            have d0 : wr.cell? ⟨vb, vo, none⟩ = some (.slice (some ⟨b, o1, none⟩) n c) := by rw [Bw2.cell hvb]; exact hv0
            by_cases hlt2 : j < k
            · have hY := Lib.hid (List.getElem?_eq_getElem (l := xs) (i := j) (by rw [HLX.out]; omega))
              obtain ⟨b', o2, cc', cs', hv', -, -, hE', hdd⟩ := (rx.below Bw2).atX hY.out
              simp only [Value.slice.injEq, Option.some.injEq, Addr.mk.injEq] at hv'
              obtain ⟨⟨rfl, rfl, -⟩, -, rfl⟩ := hv'
              generalize xs[j]'(by rw [HLX.out]; omega) = y at hY hE'
              obtain ⟨s', l', vs⟩ := y
              obtain ⟨A2, n2, c2, rfl, -, -⟩ := st_R.1 hE'
              have f0 : wr.cell? ⟨b, o1 + j * 3, none⟩ = some (.string s') := hdd 0 _ rfl
              have f1 : wr.cell? ⟨b, o1 + k * 3, none⟩ = some (.string s) := by
                obtain ⟨b2, o3, cc2, cs2, hv2, -, -, hE2, hgg⟩ := (rx.below Bw2).atX hX.out
                simp only [Value.slice.injEq, Option.some.injEq, Addr.mk.injEq] at hv2
                obtain ⟨⟨rfl, rfl, -⟩, -, rfl⟩ := hv2
                obtain ⟨A3, n3, c3, rfl, -, -⟩ := st_R.1 hE2
                exact hgg 0 _ rfl
              have hjn : (j : Int) < (n : Int) := by omega
              have hj0 : (0 : Int) ≤ (j : Int) := by omega
              have hkn : (k : Int) < (n : Int) := by omega
              clear hdd hE'
              by_cases hss : s' = s
              · have R := Lib.hid (show M.mixOk xs = false from HNO.out (by
                  have h1 := M.has_yes hlt2 hY.out
                  rw [hss] at h1
                  rw [hS.out, h1, Bool.not_true, Bool.and_false]))
                have h1 : s'.toList = s.toList := by rw [hss]
                subst hss
                go_wp2
                go_quiet (fail)
                go_wp2
                go_ret
                exact ⟨ret_bool (by rw [R.out]), below_drewN Bw2 _⟩
              · have h1 := str_ne hss
                have h2 : (s'.toList == s.toList) = false := by simpa using h1
                have HSS := Lib.hid hss
                clear hss
                go_wp2
                go_quiet (fail)
                go_wp2
                go_roundw
                case rel => exact ⟨j + 1, by go_num, by omega, Lib.hid (fun q hq y hy => by
                    rcases Nat.lt_or_ge q j with h3 | h3
                    · exact HJ.out q h3 y hy
                    · obtain rfl : q = j := by omega
                      rw [hY.out] at hy
                      injection hy with hy
                      subst hy
                      exact HSS.out), below_drewN Bw2 _⟩
                case measure => simp [intOf]; omega
            · obtain rfl : j = k := by omega
              have HGO := Lib.hid (show M.stepM xs j = true by rw [hS.out, HLX.out, HST.out, M.has_no HJ.out]; rfl)
              go_wp2
              go_roundw
              case rel => exact ⟨j + 1, by go_num, by omega, Lib.hid (fun q hq => by
                  rcases Nat.lt_or_ge q j with h3 | h3
                  · exact H.out q h3
                  · obtain rfl : q = j := by omega
                    exact HGO.out), Bw2⟩
              case measure => simp [intOf]; omega
      · have R := Lib.hid (show M.mixOk xs = true by rw [M.mix_end (fun j hj => H.out j (by rw [HLX.out] at hj; omega)), HLX.out, HI.out])
        go_wp2
        go_ret
        exact ⟨ret_bool (by rw [R.out]), Bw⟩
theorem spec_l26Ok (vb : Nat) (A : Option Addr) (n c : Nat) (xs : List Strip) (w : World) (hv0 : w.cell? ⟨vb, 0, none⟩ = some (.slice A n c)) (hx : tM.R w w.heap.size [.slice A n c] xs) (hn : hM.sz xs ≤ 100000000) :
    Calls Tryz.prog 21 #[.pointer (some ⟨vb, 0, none⟩)] w fun e w' => e = .returned (.bool (M.mixOk xs)) ∧ Below w.heap.size w w' :=
  spec_l26Ok_at vb 0 A n c xs w hv0 hx hn
end Go.Proofs.YtecdendjlgohjaaGreatDoor
namespace Go.Proofs.YtecdendjlgohjaaGreatDoor
open Go.RowKit
set_option maxHeartbeats 4000000
set_option maxRecDepth 100000
/-- The strip with a name. -/
def M.named (xs : List Strip) (s : ByteArray) : Int := match xs.findIdx? (fun x => decide (x.1 = s)) with
  | some i => (i : Int)
  | none => -1
theorem M.named_at {xs : List Strip} {s : ByteArray} {k : Nat} {x : Strip} (h : xs[k]? = some x) (hx : x.1 = s) (hb : ∀ j, j < k → ∀ y, xs[j]? = some y → ¬ y.1 = s) : M.named xs s = k := by
  obtain ⟨hk, rfl⟩ := List.getElem?_eq_some_iff.1 h
  have : xs.findIdx? (fun x => decide (x.1 = s)) = some k := by
    rw [List.findIdx?_eq_some_iff_getElem]
    exact ⟨hk, by simpa using hx, fun j hj => by simpa using hb j hj _ (List.getElem?_eq_getElem (by omega))⟩
  rw [M.named, this]
theorem M.named_none {xs : List Strip} {s : ByteArray} (hb : ∀ j, j < xs.length → ∀ y, xs[j]? = some y → ¬ y.1 = s) : M.named xs s = -1 := by
  have : xs.findIdx? (fun x => decide (x.1 = s)) = none := by
    rw [List.findIdx?_eq_none_iff]
    intro x hx
    obtain ⟨j, hj⟩ := List.getElem?_of_mem hx
    simpa using hb j (List.getElem?_eq_some_iff.1 hj).1 x hj
  rw [M.named, this]
theorem impl_stripNamed (A : Option Addr) (n c : Nat) (xs : List Strip) (s : ByteArray) (w : World) (hx : tM.R w w.heap.size [.slice A n c] xs) (hn : hM.sz xs ≤ 100000000) :
    Calls Tryz.prog 45 #[.agg #[.slice A n c], .string s] w fun e w' => e = .returned (.int .i64 (M.named xs s)) ∧ Below w.heap.size w w' := by
  have rx := sl_R.1 hx
  have hlx := rx.cap.1
  have hm1 : xs.length + hSt.szL xs ≤ 100000000 := hn
  have hnb : n ≤ 100000000 := by omega
  have HLX := Lib.hid hlx
  clear hlx hx hn hm1
  go_enter Tryz.func45, Tryz.ntmps45
  go_wp2
  go_loopw [5, 6, 10] (fun _ _ i wr => ∃ k : Nat, i = .int .i64 k ∧ k ≤ n ∧ Hid (∀ j, j < k → ∀ y, xs[j]? = some y → ¬ y.1 = s) ∧ Below w.heap.size w wr) (fun _ _ i _ => n - (intOf i).toNat)
  case atStart => exact ⟨0, rfl, by omega, Lib.hid (by omega), (Below.refl _ _).alloc (Nat.le_refl _) _⟩
  case round =>
    obtain ⟨k, rfl, hk, H, Bw⟩ := hrel
    by_cases hlt : k < n
    · have hX := Lib.hid (List.getElem?_eq_getElem (l := xs) (i := k) (by rw [HLX.out]; exact hlt))
      obtain ⟨b, o1, cc, cs, hv, hab, -, hE, hcc⟩ := (rx.below Bw).atX hX.out
      simp only [Value.slice.injEq] at hv
      obtain ⟨rfl, -, rfl⟩ := hv
      generalize xs[k]'(by rw [HLX.out]; exact hlt) = x at hX hE
      obtain ⟨s', l, us⟩ := x
      obtain ⟨A1, n1, c1, rfl, -, -⟩ := st_R.1 hE
      have e0 : wr.cell? ⟨b, o1 + k * 3, none⟩ = some (.string s') := hcc 0 _ rfl
      have e1 : wr.cell? ⟨b, o1 + k * 3 + 1, none⟩ = some (.int .i64 l) := hcc 1 _ rfl
      have e2 : wr.cell? ⟨b, o1 + k * 3 + 2, none⟩ = some (.slice A1 n1 c1) := hcc 2 _ rfl
      clear hcc hE
      by_cases hss : s' = s
      · have R := Lib.hid (M.named_at hX.out hss H.out)
        subst hss
        go_wp2
        go_ret
        exact ⟨ret_int (by rw [R.out]), Bw.alloc Bw.size _⟩
      · have h1 := str_ne hss
        have h2 : (s'.toList == s.toList) = false := by simpa using h1
        have HSS := Lib.hid hss
        clear hss
        go_wp2
        go_roundw
        case rel => exact ⟨k + 1, by go_num, by omega, Lib.hid (fun q hq y hy => by
            rcases Nat.lt_or_ge q k with h3 | h3
            · exact H.out q h3 y hy
            · obtain rfl : q = k := by omega
              rw [hX.out] at hy
              injection hy with hy
              subst hy
              exact HSS.out), Bw.alloc Bw.size _⟩
        case measure => simp [intOf]; omega
    · have R := Lib.hid (M.named_none (xs := xs) (s := s) (fun j hj => H.out j (by rw [HLX.out] at hj; omega)))
      go_wp2
      go_ret
      exact ⟨ret_int (by rw [R.out]), Bw⟩
theorem spec_l26Named (vb : Nat) (A : Option Addr) (n c : Nat) (xs : List Strip) (s : ByteArray) (w : World) (hv0 : w.cell? ⟨vb, 0, none⟩ = some (.slice A n c)) (hx : tM.R w w.heap.size [.slice A n c] xs) (hn : hM.sz xs ≤ 100000000) :
    Calls Tryz.prog 38 #[.pointer (some ⟨vb, 0, none⟩), .string s] w fun e w' => e = .returned (.int .i64 (M.named xs s)) ∧ Below w.heap.size w w' := by
  have hvb : vb < w.heap.size := World.block_lt_of_cell? w _ hv0
  have rx := sl_R.1 hx
  have hlx := rx.cap.1
  have hm1 : xs.length + hSt.szL xs ≤ 100000000 := hn
  have hnb : n ≤ 100000000 := by omega
  have HLX := Lib.hid hlx
  clear hlx hx hn hm1
  go_enter Tryz.func38, Tryz.ntmps38
  go_wp2
  go_loopw [5] (fun i wr => ∃ k : Nat, i = .int .i64 k ∧ k ≤ n ∧ Hid (∀ j, j < k → ∀ y, xs[j]? = some y → ¬ y.1 = s) ∧ Below w.heap.size w wr) (fun i _ => n - (intOf i).toNat)
  case atStart => exact ⟨0, rfl, by omega, Lib.hid (by omega), Below.refl _ _⟩
  case round =>
    obtain ⟨k, rfl, hk, H, Bw⟩ := hrel
    have c0 : wr.cell? ⟨vb, 0, none⟩ = some (.slice A n c) := by rw [Bw.cell hvb]; exact hv0
    by_cases hlt : k < n
    · have hX := Lib.hid (List.getElem?_eq_getElem (l := xs) (i := k) (by rw [HLX.out]; exact hlt))
      obtain ⟨b, o1, cc, cs, hv, hab, -, hE, hcc⟩ := (rx.below Bw).atX hX.out
      simp only [Value.slice.injEq] at hv
      obtain ⟨rfl, -, rfl⟩ := hv
      generalize xs[k]'(by rw [HLX.out]; exact hlt) = x at hX hE
      obtain ⟨s', l, us⟩ := x
      obtain ⟨A1, n1, c1, rfl, -, -⟩ := st_R.1 hE
      have e0 : wr.cell? ⟨b, o1 + k * 3, none⟩ = some (.string s') := hcc 0 _ rfl
      have e1 : wr.cell? ⟨b, o1 + k * 3 + 1, none⟩ = some (.int .i64 l) := hcc 1 _ rfl
      have e2 : wr.cell? ⟨b, o1 + k * 3 + 2, none⟩ = some (.slice A1 n1 c1) := hcc 2 _ rfl
      clear hcc hE
      by_cases hss : s' = s
      · have R := Lib.hid (M.named_at hX.out hss H.out)
        subst hss
        go_wp2
        go_ret
        exact ⟨ret_int (by rw [R.out]), Bw⟩
      · have h1 := str_ne hss
        have h2 : (s'.toList == s.toList) = false := by simpa using h1
        have HSS := Lib.hid hss
        clear hss
        go_wp2
        go_roundw
        case rel => exact ⟨k + 1, by go_num, by omega, Lib.hid (fun q hq y hy => by
            rcases Nat.lt_or_ge q k with h3 | h3
            · exact H.out q h3 y hy
            · obtain rfl : q = k := by omega
              rw [hX.out] at hy
              injection hy with hy
              subst hy
              exact HSS.out), Bw⟩
        case measure => simp [intOf]; omega
    · have R := Lib.hid (M.named_none (xs := xs) (s := s) (fun j hj => H.out j (by rw [HLX.out] at hj; omega)))
      go_wp2
      go_ret
      exact ⟨ret_int (by rw [R.out]), Bw⟩
end Go.Proofs.YtecdendjlgohjaaGreatDoor
namespace Go.Proofs.YtecdendjlgohjaaGreatDoor
open Go.RowKit
set_option maxHeartbeats 1000000
theorem M.mix_n {xs : List Strip} (h : M.mixOk xs = true) : 1 ≤ xs.length ∧ xs.length ≤ 8 := by
  rw [M.mixOk, Bool.and_eq_true] at h
  have := M.inn_iffM.1 h.1
  omega
theorem M.mix_strip {xs : List Strip} (h : M.mixOk xs = true) {k : Nat} {s : ByteArray} {l : Int} {us : List (Int × Int)} (hk : xs[k]? = some (s, l, us)) : (0 ≤ l ∧ l ≤ 32) ∧ us.length ≤ 4 ∧ M.sendsB xs.length k us = true := by
  rw [M.mixOk, Bool.and_eq_true, List.all_eq_true] at h
  have h1 := h.2 k (List.mem_range.2 (List.getElem?_eq_some_iff.1 hk).1)
  rw [M.stepM_eq hk, Bool.and_eq_true] at h1
  have h2 := h1.1
  rw [M.stripOk, Bool.and_eq_true, Bool.and_eq_true, M.areSends, Bool.and_eq_true] at h2
  refine ⟨M.inn_iffM.1 h2.1.2, ?_, h2.2.1⟩
  have h3 := h2.2.2
  split at h3
  · have : us.length = 0 := by simpa using h3
    omega
  · have := M.inn_iffM.1 h3
    simp only at this
    omega
theorem M.sends_at {m : Int} {us : List (Int × Int)} : ∀ {last : Int} {j : Nat} {p0 p1 : Int}, M.sendsB m last us = true → us[j]? = some (p0, p1) → last < p0 ∧ p0 ≤ m - 1 ∧ M.smp p1 = true := by
  induction us with
  | nil => intro last j p0 p1 _ h; simp at h
  | cons u us ih =>
    intro last j p0 p1 h hj
    rw [M.sendsB, Bool.and_eq_true, Bool.and_eq_true] at h
    have h1 := M.inn_iffM.1 h.1.1
    cases j with
    | zero =>
      simp only [List.getElem?_cons_zero, Option.some.injEq] at hj
      subst hj
      exact ⟨by simp only at h1; omega, h1.2, h.1.2⟩
    | succ j =>
      simp only [List.getElem?_cons_succ] at hj
      have := ih h.2 hj
      exact ⟨by omega, this.2⟩
end Go.Proofs.YtecdendjlgohjaaGreatDoor
namespace Go.Proofs.YtecdendjlgohjaaGreatDoor
open Go.RowKit
/-! The text of a mixer, in plain lists. -/
def M.bs (s : ByteArray) : List UInt8 := s.data.toList
theorem M.bs_mk (s : ByteArray) : (⟨(M.bs s).toArray⟩ : ByteArray) = s := by
  apply ByteArray.ext
  simp [M.bs]
def M.nmAt (ms : List Strip) (q : Nat) : List UInt8 := M.bs ((ms[q]?).getD M.sz).1
def M.sndW (ms : List Strip) (u : Int × Int) : List (List UInt8) := [[116, 111], M.nmAt ms u.1.toNat, Lib.itoa u.2]
def M.stW (ms : List Strip) (s : ByteArray) (l : Int) (us : List (Int × Int)) (j : Nat) : List (List UInt8) := [M.bs s, Lib.itoa l] ++ (us.take j).flatMap (M.sndW ms)
def M.stT (ms : List Strip) (s : ByteArray) (l : Int) (us : List (Int × Int)) (j : Nat) : List UInt8 := Lib.join (M.stW ms s l us j) [32]
section
variable {ms : List Strip} {s : ByteArray} {l : Int} {us : List (Int × Int)} {j : Nat} {p : Int × Int}
theorem M.stW_zero : M.stW ms s l us 0 = [M.bs s, Lib.itoa l] := by simp [M.stW]
theorem M.stW_next (h : us[j]? = some p) : M.stW ms s l us (j + 1) = M.stW ms s l us j ++ [[116, 111], M.nmAt ms p.1.toNat, Lib.itoa p.2] := by
  rw [M.stW, M.take_at h, List.flatMap_append]
  simp [M.stW, M.sndW]
theorem M.stW_len (h : j ≤ us.length) : (M.stW ms s l us j).length = 2 + 3 * j := by
  induction j with
  | zero => rw [M.stW_zero]; rfl
  | succ j ih =>
    rw [M.stW_next (List.getElem?_eq_getElem (by omega : j < us.length)), List.length_append, ih (by omega)]
    simp only [List.length_cons, List.length_nil]
    omega
theorem M.join3 {ws : List (List UInt8)} (h : ws ≠ []) (a b c sep : List UInt8) : Lib.join (ws ++ [a, b, c]) sep = Lib.join ws sep ++ (sep ++ (a ++ (sep ++ (b ++ (sep ++ c))))) := by
  have e : ws ++ [a, b, c] = ((ws ++ [a]) ++ [b]) ++ [c] := by simp
  rw [e, M.join_snoc, if_neg (by simp), M.join_snoc, if_neg (by simp), M.join_snoc, if_neg h]
  simp
theorem M.stW_ne (h : j ≤ us.length) : M.stW ms s l us j ≠ [] := by
  intro e
  have := M.stW_len (ms := ms) (s := s) (l := l) h
  rw [e, List.length_nil] at this
  omega
theorem M.stT_zero : M.stT ms s l us 0 = M.bs s ++ 32 :: Lib.itoa l := by
  rw [M.stT, M.stW_zero, show ([M.bs s, Lib.itoa l] : List (List UInt8)) = [M.bs s] ++ [Lib.itoa l] from rfl, M.join_snoc, if_neg (by simp), Lib.join_one]
  simp
theorem M.stT_next (h : us[j]? = some p) : M.stT ms s l us (j + 1) = M.stT ms s l us j ++ ([32, 116, 111, 32] ++ (M.nmAt ms p.1.toNat ++ 32 :: Lib.itoa p.2)) := by
  have hj : j < us.length := (List.getElem?_eq_some_iff.1 h).1
  rw [M.stT, M.stW_next h, M.join3 (M.stW_ne (by omega))]
  simp [M.stT]
end
/-- The first k lines. -/
def M.mxT (ms : List Strip) : Nat → List UInt8
  | 0 => []
  | k + 1 => M.mxT ms k ++ (M.stT ms ((ms[k]?).getD M.sz).1 ((ms[k]?).getD M.sz).2.1 ((ms[k]?).getD M.sz).2.2 ((ms[k]?).getD M.sz).2.2.length ++ [10])
theorem M.mxT_next {ms : List Strip} {k : Nat} {s : ByteArray} {l : Int} {us : List (Int × Int)} (h : ms[k]? = some (s, l, us)) : M.mxT ms (k + 1) = M.mxT ms k ++ (M.stT ms s l us us.length ++ [10]) := by
  rw [M.mxT, h]; rfl
/-- The text of a mixer; none if it is no mixer. -/
def M.mixerText (ms : List Strip) : List UInt8 := if M.mixOk ms = true then M.mxT ms ms.length else []
theorem M.mix_name {xs : List Strip} (h : M.mixOk xs = true) {k : Nat} {s : ByteArray} {l : Int} {us : List (Int × Int)} (hk : xs[k]? = some (s, l, us)) : s.size ≤ 10 := by
  rw [M.mixOk, Bool.and_eq_true, List.all_eq_true] at h
  have h1 := h.2 k (List.mem_range.2 (List.getElem?_eq_some_iff.1 hk).1)
  rw [M.stepM_eq hk] at h1
  simp only [M.stripOk, M.name, Bool.and_eq_true, decide_eq_true_eq] at h1
  exact h1.1.1.1.1.2
theorem M.bs_len (s : ByteArray) : (M.bs s).length = s.size := by rw [M.bs, Lib.size_eq]
theorem M.nm_le {xs : List Strip} (h : M.mixOk xs = true) (q : Nat) : (M.nmAt xs q).length ≤ 10 := by
  rw [M.nmAt, M.bs_len]
  cases hq : xs[q]? with
  | none => simp [M.sz]; decide
  | some x =>
    obtain ⟨s, l, us⟩ := x
    exact M.mix_name h hq
theorem M.stT_le {xs : List Strip} (h : M.mixOk xs = true) {k : Nat} {s : ByteArray} {l : Int} {us : List (Int × Int)} (hk : xs[k]? = some (s, l, us)) : ∀ j, j ≤ us.length → (M.stT xs s l us j).length ≤ 32 + 36 * j := by
  have hs := M.mix_name h hk
  obtain ⟨hl, hu, hb⟩ := M.mix_strip h hk
  intro j
  induction j with
  | zero =>
    intro _
    have := M.itoa_le l (by omega) (by omega)
    rw [M.stT_zero]
    simp only [List.length_append, List.length_cons, M.bs_len]
    omega
  | succ j ih =>
    intro hj
    rcases hp : us[j]'(by omega) with ⟨p0, p1⟩
    have h2 : us[j]? = some (p0, p1) := by rw [List.getElem?_eq_getElem (by omega), hp]
    obtain ⟨-, -, h3⟩ := M.sends_at hb h2
    have h4 := M.inn_iffM.1 h3
    have h5 := M.itoa_le p1 (by omega) (by omega)
    have h6 := M.nm_le h p0.toNat
    have h7 := ih (by omega)
    rw [M.stT_next h2]
    simp only [List.length_append, List.length_cons, List.length_nil]
    omega
theorem M.mxT_le {xs : List Strip} (h : M.mixOk xs = true) : ∀ k, k ≤ xs.length → (M.mxT xs k).length ≤ 200 * k := by
  intro k
  induction k with
  | zero => intro _; simp [M.mxT]
  | succ k ih =>
    intro hk
    rcases hx : xs[k]'(by omega) with ⟨s, l, us⟩
    have h2 : xs[k]? = some (s, l, us) := by rw [List.getElem?_eq_getElem (by omega), hx]
    have h3 := M.stT_le h h2 us.length (Nat.le_refl _)
    obtain ⟨-, hu, -⟩ := M.mix_strip h h2
    have h4 := ih (by omega)
    rw [M.mxT_next h2]
    simp only [List.length_append, List.length_cons, List.length_nil]
    omega
end Go.Proofs.YtecdendjlgohjaaGreatDoor
namespace Go.Proofs.YtecdendjlgohjaaGreatDoor
open Go.RowKit
set_option maxHeartbeats 1000000
/-! The text of a mixer read, in plain lists. -/
theorem M.named_names {xs ys : List Strip} (h : xs.map (·.1) = ys.map (·.1)) (s : ByteArray) : M.named xs s = M.named ys s := by
  have key : ∀ zs : List Strip, zs.findIdx? (fun x => decide (x.1 = s)) = (zs.map (·.1)).findIdx? (fun x => decide (x = s)) := by
    intro zs
    rw [List.findIdx?_map]
    rfl
  unfold M.named
  rw [key xs, key ys, h]
def M.wd (ws : List (List UInt8)) (k : Nat) : List UInt8 := (ws[k]?).getD []
def M.cntW (ws : List (List UInt8)) : Nat := (ws.length - 2) / 3
def M.headOk (ws : List (List UInt8)) : Bool := decide (2 ≤ ws.length) && decide (ws.length % 3 = 2) && (M.num (M.wd ws 1)).isSome
def M.headR (ws : List (List UInt8)) : Strip := (⟨(M.wd ws 0).toArray⟩, (M.num (M.wd ws 1)).getD 0, [])
def M.gOk (ws : List (List UInt8)) (k : Nat) : Bool := (M.num (M.wd ws (2 + 3 * k + 2))).isSome
def M.sndR (hs : List Strip) (ws : List (List UInt8)) (k : Nat) : Int × Int := (M.named hs ⟨(M.wd ws (2 + 3 * k + 1)).toArray⟩, (M.num (M.wd ws (2 + 3 * k + 2))).getD 0)
def M.sndsR (hs : List Strip) (ws : List (List UInt8)) (m : Nat) : List (Int × Int) := (List.range m).map (M.sndR hs ws)
def M.fullR (hs : List Strip) (ws : List (List UInt8)) : Strip := (⟨(M.wd ws 0).toArray⟩, (M.num (M.wd ws 1)).getD 0, M.sndsR hs ws (M.cntW ws))
theorem M.sndsR_next (hs : List Strip) (ws : List (List UInt8)) (m : Nat) : M.sndsR hs ws (m + 1) = M.sndsR hs ws m ++ [M.sndR hs ws m] := by
  rw [M.sndsR, List.range_succ, List.map_append]; rfl
theorem M.sndsR_len (hs : List Strip) (ws : List (List UInt8)) (m : Nat) : (M.sndsR hs ws m).length = m := by simp [M.sndsR]
/-- The strips that lines of words spell; none if one is out of form. -/
def M.build (ok : List (List UInt8) → Bool) (Ws : List (List (List UInt8))) : Option (List Strip) :=
  if Ws.all ok = true then some (Ws.map (M.fullR (Ws.map M.headR))) else none
def M.okI (ws : List (List UInt8)) : Bool := M.headOk ws && (List.range (M.cntW ws)).all (M.gOk ws)
def M.okS (ws : List (List UInt8)) : Bool := decide (ws.length % 3 = 2) && decide (ws.length ≤ 14) && (M.num (M.wd ws 1)).isSome && (List.range (M.cntW ws)).all (fun k => M.gOk ws k && decide (M.wd ws (2 + 3 * k) = [116, 111]))
/-- What is kept of what was read: a mixer with this text. -/
def M.kept (s : List UInt8) (r : Option (List Strip)) : Option (List Strip) := r.bind fun ms => if M.mixOk ms = true ∧ M.mxT ms ms.length = s then some ms else none
def M.linesI (s : List UInt8) : List (List (List UInt8)) := (M.splitBy 10 (Lib.trimSuffix s [10])).map M.wordsOf
def M.linesS (s : List UInt8) : List (List (List UInt8)) := ((M.splitBy 10 s).take ((M.splitBy 10 s).length - 1)).map (M.splitBy 32)
def M.mixI (s : List UInt8) : Option (List Strip) := M.kept s (M.build M.okI (M.linesI s))
def M.mixS (s : List UInt8) : Option (List Strip) := if (M.splitBy 10 s).length ≤ 9 then M.kept s (M.build M.okS (M.linesS s)) else none
/-! Words and lines of a mixer's text. -/
def M.lineW (ms : List Strip) (x : Strip) : List (List UInt8) := M.stW ms x.1 x.2.1 x.2.2 x.2.2.length
def M.lineT (ms : List Strip) (x : Strip) : List UInt8 := Lib.join (M.lineW ms x) [32]
theorem M.lineW_eq (ms : List Strip) (x : Strip) : M.lineW ms x = [M.bs x.1, Lib.itoa x.2.1] ++ x.2.2.flatMap (M.sndW ms) := by
  rw [M.lineW, M.stW, List.take_length]
theorem M.mxT_join (ms : List Strip) : ∀ k, k ≤ ms.length → Lib.join ((ms.take k).map (M.lineT ms) ++ [[]]) [10] = M.mxT ms k
  | 0, _ => rfl
  | k + 1, h => by
    have ih := M.mxT_join ms k (by omega)
    have hk : ms[k]? = some ms[k] := List.getElem?_eq_getElem (by omega)
    rw [M.join_snoc] at ih ⊢
    rw [M.take_at hk, List.map_append, if_neg (by simp), List.map_cons, List.map_nil, M.join_snoc]
    rw [M.mxT, hk, Option.getD_some]
    show _ = M.mxT ms k ++ (M.lineT ms ms[k] ++ [10])
    by_cases h0 : (ms.take k).map (M.lineT ms) = []
    · rw [if_pos h0] at ih ⊢
      rw [← ih]; simp
    · rw [if_neg h0] at ih ⊢
      rw [← ih]; simp
theorem M.trimNL (l : List UInt8) : Lib.trimSuffix (l ++ [10]) [10] = l := by
  unfold Lib.trimSuffix Lib.hasSuffix
  simp
theorem M.name_plain {s : ByteArray} (h : M.name s = true) : M.bs s ≠ [] ∧ (32 : UInt8) ∉ M.bs s ∧ (10 : UInt8) ∉ M.bs s := by
  rw [M.name, Bool.and_eq_true, Bool.and_eq_true, decide_eq_true_eq, decide_eq_true_eq, List.all_eq_true] at h
  have key : ∀ b ∈ M.bs s, M.small b = true ∨ M.digit b = true := by
    intro b hb
    obtain ⟨k, hk, rfl⟩ := List.mem_iff_getElem.1 hb
    have hk' : k < s.size := by rw [← M.bs_len]; exact hk
    have h2 := h.2 k (List.mem_range.2 hk')
    rw [M.nameAt_eq hk', Bool.or_eq_true, Bool.and_eq_true] at h2
    rcases h2 with h2 | h2
    · exact Or.inl h2
    · exact Or.inr h2.1
  refine ⟨fun e => ?_, fun hm => ?_, fun hm => ?_⟩
  · have := M.bs_len s
    rw [e, List.length_nil] at this
    omega
  · rcases key _ hm with h3 | h3 <;> exact absurd h3 (by decide)
  · rcases key _ hm with h3 | h3 <;> exact absurd h3 (by decide)
theorem M.itoa_plain (n : Int) : Lib.itoa n ≠ [] ∧ (32 : UInt8) ∉ Lib.itoa n ∧ (10 : UInt8) ∉ Lib.itoa n := by
  refine ⟨fun e => ?_, fun h => absurd (M.itoa_digit _ _ h) (by decide), fun h => absurd (M.itoa_digit _ _ h) (by decide)⟩
  unfold Lib.itoa at e
  split at e
  · cases e
  · exact M.dd_ne _ e
end Go.Proofs.YtecdendjlgohjaaGreatDoor
namespace Go.Proofs.YtecdendjlgohjaaGreatDoor
open Go.RowKit
set_option maxHeartbeats 1000000
theorem M.flat3 {α β : Type} (f : α → List β) (h : ∀ x, (f x).length = 3) : ∀ (xs : List α) (j i : Nat) (x : α), xs[j]? = some x → i < 3 → (xs.flatMap f)[3 * j + i]? = (f x)[i]?
  | y :: ys, 0, i, x, hx, hi => by
    simp only [List.getElem?_cons_zero, Option.some.injEq] at hx
    subst hx
    rw [List.flatMap_cons, List.getElem?_append_left (by rw [h]; omega), Nat.mul_zero, Nat.zero_add]
  | y :: ys, j + 1, i, x, hx, hi => by
    rw [List.getElem?_cons_succ] at hx
    rw [List.flatMap_cons, List.getElem?_append_right (by rw [h]; omega), h]
    have := M.flat3 f h ys j i x hx hi
    rw [show 3 * (j + 1) + i - 3 = 3 * j + i by omega]
    exact this
theorem M.flat3_len {α β : Type} (f : α → List β) (h : ∀ x, (f x).length = 3) (xs : List α) : (xs.flatMap f).length = 3 * xs.length := by
  induction xs with
  | nil => rfl
  | cons x xs ih => rw [List.flatMap_cons, List.length_append, h, ih, List.length_cons]; omega
theorem M.sndW_len (ms : List Strip) (u : Int × Int) : (M.sndW ms u).length = 3 := rfl
section
variable {ms : List Strip} {x : Strip}
theorem M.lineW_len : (M.lineW ms x).length = 2 + 3 * x.2.2.length := by
  rw [M.lineW_eq, List.length_append, M.flat3_len _ (M.sndW_len ms)]; rfl
theorem M.lineW_cnt : M.cntW (M.lineW ms x) = x.2.2.length := by
  rw [M.cntW, M.lineW_len]; omega
theorem M.lineW_0 : M.wd (M.lineW ms x) 0 = M.bs x.1 := by rw [M.wd, M.lineW_eq]; rfl
theorem M.lineW_1 : M.wd (M.lineW ms x) 1 = Lib.itoa x.2.1 := by rw [M.wd, M.lineW_eq]; rfl
theorem M.lineW_at {j : Nat} {u : Int × Int} (hu : x.2.2[j]? = some u) {i : Nat} (hi : i < 3) : M.wd (M.lineW ms x) (2 + 3 * j + i) = (M.sndW ms u).getD i [] := by
  rw [M.wd, M.lineW_eq, List.getElem?_append_right (by simp; omega), show 2 + 3 * j + i - [M.bs x.1, Lib.itoa x.2.1].length = 3 * j + i by simp; omega, M.flat3 _ (M.sndW_len ms) _ _ _ _ hu hi]
  rw [List.getD_eq_getElem?_getD]
end
theorem M.mixOk_len {ms : List Strip} (h : M.mixOk ms = true) : 1 ≤ ms.length ∧ ms.length ≤ 8 := by
  rw [M.mixOk, Bool.and_eq_true] at h
  have := M.inn_iffM.1 h.1
  omega
theorem M.mix_step {ms : List Strip} (h : M.mixOk ms = true) {k : Nat} {x : Strip} (hk : ms[k]? = some x) : M.name x.1 = true ∧ M.has x.1 ((ms.take k).map (·.1)) = false := by
  rw [M.mixOk, Bool.and_eq_true, List.all_eq_true] at h
  have h1 := h.2 k (List.mem_range.2 (List.getElem?_eq_some_iff.1 hk).1)
  rw [M.stepM_eq hk, Bool.and_eq_true, Bool.not_eq_true'] at h1
  refine ⟨?_, h1.2⟩
  have h2 := h1.1
  rw [M.stripOk, Bool.and_eq_true, Bool.and_eq_true] at h2
  exact h2.1.1
theorem M.named_self {ms : List Strip} (h : M.mixOk ms = true) {k : Nat} {x : Strip} (hk : ms[k]? = some x) : M.named ms x.1 = k := by
  refine M.named_at hk rfl fun j hj y hy e => ?_
  have h1 := (M.mix_step h hk).2
  have h2 := M.has_yes (xs := ms) (k := k) hj hy
  rw [e, h1] at h2
  cases h2
theorem M.mix_send {ms : List Strip} (h : M.mixOk ms = true) {k : Nat} {x : Strip} (hk : ms[k]? = some x) {j : Nat} {u : Int × Int} (hu : x.2.2[j]? = some u) : 0 ≤ u.1 ∧ u.1 < ms.length ∧ -2147483648 ≤ u.2 ∧ u.2 ≤ 2147483647 := by
  obtain ⟨s, l, us⟩ := x
  obtain ⟨u0, u1⟩ := u
  obtain ⟨-, -, hb⟩ := M.mix_strip h hk
  obtain ⟨h1, h2, h3⟩ := M.sends_at hb hu
  have h4 := M.smp_bd h3
  simp only
  omega
theorem M.nmAt_in {ms : List Strip} {q : Nat} (hq : q < ms.length) : M.nmAt ms q = M.bs ms[q].1 := by
  rw [M.nmAt, List.getElem?_eq_getElem hq]; rfl
theorem M.lineW_plain {ms : List Strip} (h : M.mixOk ms = true) {k : Nat} {x : Strip} (hk : ms[k]? = some x) : ∀ a ∈ M.lineW ms x, a ≠ [] ∧ (32 : UInt8) ∉ a ∧ (10 : UInt8) ∉ a := by
  intro a ha
  rw [M.lineW_eq, List.mem_append] at ha
  rcases ha with ha | ha
  · simp only [List.mem_cons, List.not_mem_nil, or_false] at ha
    rcases ha with rfl | rfl
    · exact M.name_plain (M.mix_step h hk).1
    · exact M.itoa_plain _
  · obtain ⟨u, hu, ha⟩ := List.mem_flatMap.1 ha
    obtain ⟨j, hj⟩ := List.getElem?_of_mem hu
    have hb := M.mix_send h hk hj
    simp only [M.sndW, List.mem_cons, List.not_mem_nil, or_false] at ha
    rcases ha with rfl | rfl | rfl
    · decide
    · have hq : u.1.toNat < ms.length := by omega
      rw [M.nmAt_in hq]
      exact M.name_plain (M.mix_step h (List.getElem?_eq_getElem hq)).1
    · exact M.itoa_plain _
theorem M.lineW_ne {ms : List Strip} {x : Strip} : M.lineW ms x ≠ [] := by
  intro e
  have := M.lineW_len (ms := ms) (x := x)
  rw [e, List.length_nil] at this
  omega
theorem M.line_split {ms : List Strip} (h : M.mixOk ms = true) {k : Nat} {x : Strip} (hk : ms[k]? = some x) : M.splitBy 32 (M.lineT ms x) = M.lineW ms x :=
  M.splitBy_join M.lineW_ne fun a ha => (M.lineW_plain h hk a ha).2.1
theorem M.line_words {ms : List Strip} (h : M.mixOk ms = true) {k : Nat} {x : Strip} (hk : ms[k]? = some x) : M.wordsOf (M.lineT ms x) = M.lineW ms x := by
  rw [M.wordsOf, M.line_split h hk]
  refine List.filter_eq_self.2 fun a ha => ?_
  simpa using (M.lineW_plain h hk a ha).1
theorem M.join_mem {c : UInt8} {sep : List UInt8} : ∀ {ls : List (List UInt8)}, c ∈ Lib.join ls sep → (∃ a ∈ ls, c ∈ a) ∨ c ∈ sep
  | [], h => by simp [Lib.join] at h
  | [a], h => by rw [Lib.join_one] at h; exact Or.inl ⟨a, by simp, h⟩
  | a :: b :: r, h => by
    rw [M.join_cons2, List.mem_append, List.mem_append] at h
    rcases h with (h | h) | h
    · exact Or.inl ⟨a, by simp, h⟩
    · exact Or.inr h
    · rcases M.join_mem h with ⟨d, hd, h2⟩ | h2
      · exact Or.inl ⟨d, List.mem_cons_of_mem _ hd, h2⟩
      · exact Or.inr h2
theorem M.line_noNL {ms : List Strip} (h : M.mixOk ms = true) {k : Nat} {x : Strip} (hk : ms[k]? = some x) : (10 : UInt8) ∉ M.lineT ms x := by
  intro hm
  rcases M.join_mem hm with ⟨a, ha, h2⟩ | h2
  · exact (M.lineW_plain h hk a ha).2.2 h2
  · exact absurd h2 (by decide)
theorem M.all_lines {ms : List Strip} (h : M.mixOk ms = true) : ∀ a ∈ ms.map (M.lineT ms), (10 : UInt8) ∉ a := by
  intro a ha
  obtain ⟨x, hx, rfl⟩ := List.mem_map.1 ha
  obtain ⟨k, hk⟩ := List.getElem?_of_mem hx
  exact M.line_noNL h hk
theorem M.text_split {ms : List Strip} (h : M.mixOk ms = true) : M.splitBy 10 (M.mxT ms ms.length) = ms.map (M.lineT ms) ++ [[]] := by
  rw [← M.mxT_join ms ms.length (Nat.le_refl _), List.take_length]
  refine M.splitBy_join (by simp) fun a ha => ?_
  rcases List.mem_append.1 ha with ha | ha
  · exact M.all_lines h a ha
  · simp only [List.mem_cons, List.not_mem_nil, or_false] at ha
    subst ha
    simp
theorem M.text_trim {ms : List Strip} (h : M.mixOk ms = true) : M.splitBy 10 (Lib.trimSuffix (M.mxT ms ms.length) [10]) = ms.map (M.lineT ms) := by
  have hl := (M.mixOk_len h).1
  have e : M.mxT ms ms.length = Lib.join (ms.map (M.lineT ms)) [10] ++ [10] := by
    rw [← M.mxT_join ms ms.length (Nat.le_refl _), List.take_length, M.join_snoc, if_neg (by intro e; rw [List.map_eq_nil_iff] at e; rw [e] at hl; simp at hl)]
    simp
  rw [e, M.trimNL]
  exact M.splitBy_join (by intro e; rw [List.map_eq_nil_iff] at e; rw [e] at hl; simp at hl) (M.all_lines h)
theorem M.map_words {ms : List Strip} (h : M.mixOk ms = true) : (ms.map (M.lineT ms)).map M.wordsOf = ms.map (M.lineW ms) := by
  rw [List.map_map]
  refine List.map_congr_left fun x hx => ?_
  obtain ⟨k, hk⟩ := List.getElem?_of_mem hx
  exact M.line_words h hk
theorem M.map_split {ms : List Strip} (h : M.mixOk ms = true) : (ms.map (M.lineT ms)).map (M.splitBy 32) = ms.map (M.lineW ms) := by
  rw [List.map_map]
  refine List.map_congr_left fun x hx => ?_
  obtain ⟨k, hk⟩ := List.getElem?_of_mem hx
  exact M.line_split h hk
theorem M.line_lat {ms : List Strip} (h : M.mixOk ms = true) {k : Nat} {x : Strip} (hk : ms[k]? = some x) : M.num (M.wd (M.lineW ms x) 1) = some x.2.1 := by
  obtain ⟨s, l, us⟩ := x
  obtain ⟨hl, -, -⟩ := M.mix_strip h hk
  rw [M.lineW_1]
  exact M.num_itoa (by simp only; omega)
theorem M.line_gain {ms : List Strip} (h : M.mixOk ms = true) {k : Nat} {x : Strip} (hk : ms[k]? = some x) {j : Nat} {u : Int × Int} (hu : x.2.2[j]? = some u) : M.num (M.wd (M.lineW ms x) (2 + 3 * j + 2)) = some u.2 := by
  have hb := M.mix_send h hk hu
  rw [M.lineW_at hu (by omega)]
  exact M.num_itoa (n := u.2) (by omega)
theorem M.line_head {ms : List Strip} {x : Strip} : (M.headR (M.lineW ms x)).1 = x.1 := by
  show (⟨(M.wd (M.lineW ms x) 0).toArray⟩ : ByteArray) = x.1
  rw [M.lineW_0, M.bs_mk]
theorem M.line_full {ms hs : List Strip} (h : M.mixOk ms = true) (hh : hs.map (·.1) = ms.map (·.1)) {k : Nat} {x : Strip} (hk : ms[k]? = some x) : M.fullR hs (M.lineW ms x) = x := by
  unfold M.fullR
  rw [M.lineW_0, M.bs_mk, M.line_lat h hk, Option.getD_some, M.lineW_cnt]
  have e : M.sndsR hs (M.lineW ms x) x.2.2.length = x.2.2 := by
    apply List.ext_getElem?
    intro j
    by_cases hj : j < x.2.2.length
    · have hu : x.2.2[j]? = some x.2.2[j] := List.getElem?_eq_getElem hj
      have hb := M.mix_send h hk hu
      have hq : x.2.2[j].1.toNat < ms.length := by omega
      rw [M.sndsR, List.getElem?_map, List.getElem?_range hj, hu, Option.map_some, M.sndR, M.line_gain h hk hu, Option.getD_some]
      rw [M.lineW_at hu (by omega)]
      show some (M.named hs ⟨(M.nmAt ms x.2.2[j].1.toNat).toArray⟩, x.2.2[j].2) = _
      rw [M.nmAt_in hq, M.bs_mk, M.named_names hh, M.named_self h (List.getElem?_eq_getElem hq)]
      congr 1
      apply Prod.ext
      · show ((x.2.2[j].1.toNat : Nat) : Int) = _; omega
      · rfl
    · rw [List.getElem?_eq_none (by rw [M.sndsR_len]; omega), List.getElem?_eq_none (by omega)]
  rw [e]
theorem M.heads {ms : List Strip} : ((ms.map (M.lineW ms)).map M.headR).map (·.1) = ms.map (·.1) := by
  rw [List.map_map, List.map_map]
  exact List.map_congr_left fun x _ => M.line_head
theorem M.build_text {ms : List Strip} (h : M.mixOk ms = true) {ok : List (List UInt8) → Bool} (hok : ∀ (k : Nat) (x : Strip), ms[k]? = some x → ok (M.lineW ms x) = true) : M.build ok (ms.map (M.lineW ms)) = some ms := by
  unfold M.build
  rw [if_pos]
  · congr 1
    rw [List.map_map]
    have : ms.map (M.fullR ((ms.map (M.lineW ms)).map M.headR) ∘ M.lineW ms) = ms.map id := by
      refine List.map_congr_left fun x hx => ?_
      obtain ⟨k, hk⟩ := List.getElem?_of_mem hx
      exact M.line_full h M.heads hk
    rw [this, List.map_id]
  · rw [List.all_eq_true]
    intro w hw
    obtain ⟨x, hx, rfl⟩ := List.mem_map.1 hw
    obtain ⟨k, hk⟩ := List.getElem?_of_mem hx
    exact hok k x hk
theorem M.okI_line {ms : List Strip} (h : M.mixOk ms = true) (k : Nat) (x : Strip) (hk : ms[k]? = some x) : M.okI (M.lineW ms x) = true := by
  rw [M.okI, M.headOk, Bool.and_eq_true, Bool.and_eq_true, Bool.and_eq_true, decide_eq_true_eq, decide_eq_true_eq, M.lineW_len, M.line_lat h hk, List.all_eq_true]
  refine ⟨⟨⟨by omega, by omega⟩, rfl⟩, fun j hj => ?_⟩
  rw [List.mem_range, M.lineW_cnt] at hj
  rw [M.gOk, M.line_gain h hk (List.getElem?_eq_getElem hj)]; rfl
theorem M.okS_line {ms : List Strip} (h : M.mixOk ms = true) (k : Nat) (x : Strip) (hk : ms[k]? = some x) : M.okS (M.lineW ms x) = true := by
  have hu : x.2.2.length ≤ 4 := by
    obtain ⟨s, l, us⟩ := x
    exact (M.mix_strip h hk).2.1
  rw [M.okS, Bool.and_eq_true, Bool.and_eq_true, Bool.and_eq_true, decide_eq_true_eq, decide_eq_true_eq, M.lineW_len, M.line_lat h hk, List.all_eq_true]
  refine ⟨⟨⟨by omega, by omega⟩, rfl⟩, fun j hj => ?_⟩
  rw [List.mem_range, M.lineW_cnt] at hj
  have hx := List.getElem?_eq_getElem hj
  have h0 := M.lineW_at (ms := ms) hx (i := 0) (by omega)
  rw [M.gOk, M.line_gain h hk hx, Bool.and_eq_true, decide_eq_true_eq]
  exact ⟨rfl, h0⟩
/-- A mixer's text is read back, by both readers. -/
theorem M.mixI_text {ms : List Strip} (h : M.mixOk ms = true) : M.mixI (M.mxT ms ms.length) = some ms := by
  rw [M.mixI, M.linesI, M.text_trim h, M.map_words h, M.build_text h (M.okI_line h), M.kept, Option.bind_some, if_pos ⟨h, rfl⟩]
theorem M.mixS_text {ms : List Strip} (h : M.mixOk ms = true) : M.mixS (M.mxT ms ms.length) = some ms := by
  have hl := M.mixOk_len h
  have e : (M.splitBy 10 (M.mxT ms ms.length)).length = ms.length + 1 := by rw [M.text_split h]; simp
  rw [M.mixS, e, if_pos (by omega), M.linesS, e, M.text_split h, show ms.length + 1 - 1 = (ms.map (M.lineT ms)).length by simp, List.take_left, M.map_split h, M.build_text h (M.okS_line h), M.kept, Option.bind_some, if_pos ⟨h, rfl⟩]
theorem M.kept_some {s : List UInt8} {r : Option (List Strip)} {ms : List Strip} (h : M.kept s r = some ms) : M.mixOk ms = true ∧ M.mxT ms ms.length = s := by
  unfold M.kept at h
  obtain ⟨a, -, h2⟩ := Option.bind_eq_some_iff.1 h
  split at h2
  · rename_i hc
    rw [← Option.some.inj h2]
    exact hc
  · cases h2
theorem M.mixI_some {s : List UInt8} {ms : List Strip} (h : M.mixI s = some ms) : M.mixOk ms = true ∧ M.mxT ms ms.length = s := M.kept_some h
theorem M.mixS_some {s : List UInt8} {ms : List Strip} (h : M.mixS s = some ms) : M.mixOk ms = true ∧ M.mxT ms ms.length = s := by
  unfold M.mixS at h
  split at h
  · exact M.kept_some h
  · cases h
/-- Both readers read alike. -/
theorem M.mixI_eq (s : List UInt8) : M.mixI s = M.mixS s := by
  cases hI : M.mixI s with
  | some ms =>
    obtain ⟨h1, h2⟩ := M.mixI_some hI
    rw [← h2, M.mixS_text h1]
  | none =>
    cases hS : M.mixS s with
    | none => rfl
    | some ms =>
      obtain ⟨h1, h2⟩ := M.mixS_some hS
      rw [← h2, M.mixI_text h1] at hI
      cases hI
end Go.Proofs.YtecdendjlgohjaaGreatDoor
namespace Go.Proofs.YtecdendjlgohjaaGreatDoor
open Go.RowKit Go.Sort
set_option maxHeartbeats 2000000
set_option maxRecDepth 100000
theorem M.extract_list (s : ByteArray) (a b : Nat) : s.extract a b = ⟨((s.data.toList.drop a).take (b - a)).toArray⟩ := by
  have h := Lib.extract_toList s a b
  rw [ByteArray.toList_eq] at h
  rw [← h]
/-- What spec.l01Split's rounds keep: a piece ends at place k. -/
theorem M.split_step {c : UInt8} {L : List UInt8} {fr k : Nat} {ls : List (List UInt8)} (H : M.splitBy c L = ls ++ M.splitBy c (L.drop fr)) (hfk : fr ≤ k) (hno : ∀ j, fr ≤ j → j < k → L[j]? ≠ some c) (hk : L[k]? = some c) :
    M.splitBy c L = (ls ++ [(L.drop fr).take (k - fr)]) ++ M.splitBy c (L.drop (k + 1)) := by
  have hlt := (List.getElem?_eq_some_iff.1 hk).1
  have e : L.drop fr = (L.drop fr).take (k - fr) ++ c :: L.drop (k + 1) := by
    have h1 : (L.drop fr).drop (k - fr) = c :: L.drop (k + 1) := by
      rw [List.drop_drop, show fr + (k - fr) = k by omega, ← List.getElem_cons_drop (h := hlt), (List.getElem?_eq_some_iff.1 hk).2]
    rw [← h1, List.take_append_drop]
  have hn : c ∉ (L.drop fr).take (k - fr) := by
    intro hm
    obtain ⟨j, hj, hjc⟩ := List.mem_iff_getElem.1 hm
    rw [List.length_take, List.length_drop] at hj
    rw [List.getElem_take, List.getElem_drop] at hjc
    exact hno (fr + j) (by omega) (by omega) (by rw [List.getElem?_eq_getElem (by omega), hjc])
  have h2 : M.splitBy c (L.drop fr) = (L.drop fr).take (k - fr) :: M.splitBy c (L.drop (k + 1)) := (congrArg (M.splitBy c) e).trans (M.splitBy_at hn)
  rw [H, h2]
  simp
theorem M.split_last {c : UInt8} {L : List UInt8} {fr : Nat} {ls : List (List UInt8)} (H : M.splitBy c L = ls ++ M.splitBy c (L.drop fr)) (hno : ∀ j, fr ≤ j → j < L.length → L[j]? ≠ some c) :
    M.splitBy c L = ls ++ [L.drop fr] := by
  have hn : c ∉ L.drop fr := by
    intro hm
    obtain ⟨j, hj, hjc⟩ := List.mem_iff_getElem.1 hm
    rw [List.length_drop] at hj
    rw [List.getElem_drop] at hjc
    exact hno (fr + j) (by omega) (by omega) (by rw [List.getElem?_eq_getElem (by omega), hjc])
  rw [H, M.splitBy_none hn]
theorem M.strs_push (ls : List (List UInt8)) (x : List UInt8) : M.strs ls ++ [.string ⟨x.toArray⟩] = M.strs (ls ++ [x]) := by simp [M.strs]
theorem M.data_at {s : ByteArray} {k : Nat} (hk : k < s.size) : s.data.toList[k]? = some s[k] := by
  rw [List.getElem?_eq_getElem (by simpa using hk)]
  rfl
theorem spec_l01Split (s : ByteArray) (c : UInt8) (w : World) (hs : s.size ≤ 1000000000) :
    Calls Tryz.prog 18 #[.string s, .int .u8 c.toNat] w fun e w' => ∃ v, e = .returned v ∧ w'.ownsRow w.heap.size 9 1 v (M.splitBy c s.data.toList).length (M.strs (M.splitBy c s.data.toList)) ∧ Below w.heap.size w w' := by
  obtain ⟨L, hL⟩ : ∃ L, L = s.data.toList := ⟨_, rfl⟩
  have hLl : L.length = s.size := by rw [hL, ← Lib.size_eq]
  have HL := Lib.hid hL
  have HLL := Lib.hid hLl
  rw [← hL]
  clear hL hLl
  go_enter Tryz.func18, Tryz.ntmps18
  go_wp2
  go_loopw [5, 6, 7] (fun v f i wr => ∃ (k fr : Nat) (ls : List (List UInt8)), i = .int .i64 k ∧ f = .int .i64 fr ∧ k ≤ s.size ∧ fr ≤ k ∧ wr.ownsRow w.heap.size 9 1 v ls.length (M.strs ls) ∧ ls.length ≤ k ∧ Hid (M.splitBy c L = ls ++ M.splitBy c (L.drop fr)) ∧ Hid (∀ j, fr ≤ j → j < k → L[j]? ≠ some c) ∧ Below w.heap.size w wr)
    (fun _ _ i _ => s.size - (intOf i).toNat)
  case atStart => exact ⟨0, 0, [], rfl, rfl, by omega, by omega, World.ownsRow_made _ _ _ (Nat.le_refl _) (by simp [maxLen]) rfl, by simp, Lib.hid (by simp), Lib.hid (by omega), (Below.refl _ _).alloc (Nat.le_refl _) _⟩
  case round =>
    obtain ⟨k, fr, ls, rfl, rfl, hk, hfr, own, hll, H, HN, hb⟩ := hrel
    by_cases hlt : k < s.size
    · have hat := Lib.hid (show L[k]? = some s[k] by rw [HL.out]; exact M.data_at hlt)
      by_cases hc : s[k] = c
      · have e1 : ((s[k].toNat : Int) == (c.toNat : Int)) = true := by rw [hc]; exact beq_self_eq_true _
        have HC := Lib.hid hc
        clear hc
        go_wp2_with (at_builtin; refine wpList_push1 ei_str rfl _ _ rfl own rfl rfl rfl (by unfold maxLen; omega) (by omega) hb.size ?_; intro v1 w1 own1 gr1 bel1)
        go_roundw
        case rel =>
          refine ⟨k + 1, k + 1, ls ++ [(L.drop fr).take (k - fr)], by go_num, by go_num, by omega, by omega, ?_, by simp; omega, Lib.hid (M.split_step H.out hfr HN.out (by rw [hat.out, HC.out])), Lib.hid (by omega), hb.trans bel1⟩
          rw [M.extract_list, ← HL.out, M.strs_push] at own1
          rw [List.length_append]
          exact own1
        case measure => simp [intOf]; omega
      · have e1 : ((s[k].toNat : Int) == (c.toNat : Int)) = false := by
          rw [beq_eq_false_iff_ne]
          intro e
          exact hc (UInt8.toNat_inj.1 (by omega))
        have HC := Lib.hid hc
        clear hc
        go_wp2
        go_roundw
        case rel =>
          refine ⟨k + 1, fr, ls, by go_num, rfl, by omega, by omega, own, by omega, H, Lib.hid (fun j h1 h2 => ?_), hb⟩
          rcases Nat.lt_or_ge j k with h3 | h3
          · exact HN.out j h1 h3
          · obtain rfl : j = k := by omega
            rw [hat.out]
            intro e
            exact HC.out (Option.some.inj e)
        case measure => simp [intOf]; omega
    · obtain rfl : k = s.size := by omega
      go_wp2_with (at_builtin; refine wpList_push1 ei_str rfl _ _ rfl own rfl rfl rfl (by unfold maxLen; omega) (by omega) hb.size ?_; intro v1 w1 own1 gr1 bel1)
      go_ret
      have hF := M.split_last H.out (by rw [HLL.out]; exact HN.out)
      refine ⟨_, rfl, ?_, hb.trans bel1⟩
      rw [hF, List.length_append]
      rw [M.extract_list, ← HL.out, M.strs_push, ← HLL.out, List.take_of_length_le (by rw [List.length_drop]; exact Nat.le_refl _)] at own1
      exact own1
end Go.Proofs.YtecdendjlgohjaaGreatDoor
