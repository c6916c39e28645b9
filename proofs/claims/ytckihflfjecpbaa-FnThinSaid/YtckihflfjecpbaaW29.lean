import Derived.Test.YtckihflfjecpbaaW28
namespace Go.Proofs.Ytckihflfjecpbaa
open Go.RowKit Go.Sort
set_option maxHeartbeats 400000
set_option maxRecDepth 100000
def M.rend (xs : List (Int × Int)) (m : Nat) : List Int := (List.range m).map fun (i : Nat) => M.atC xs (i : Int)
theorem M.rend_len (xs : List (Int × Int)) (m : Nat) : (M.rend xs m).length = m := by simp [M.rend]
theorem M.rend_at {xs : List (Int × Int)} {m k : Nat} (h : k < m) : (M.rend xs m)[k]? = some (M.atC xs (k : Int)) := by simp [M.rend, h]
def M.rendR (xs : List (Int × Int)) (t : Int) : List Int × Int := if M.curveOk xs then (if M.inn t 0 4000 then (M.rend xs t.toNat, 0) else ([], 2)) else ([], 1)
theorem impl_renderCurve (A : Option Addr) (n c m : Nat) (xs : List (Int × Int)) (w : World) (hx : RA pt 2 w w.heap.size A n xs) (hok : M.curveOk xs = true) (hm : m ≤ 1000000) :
    Calls Try.prog 86 #[.agg #[.slice A n c], .int .i64 m] w (Ret1 2 w (M.rend xs m)) := by
  have hok' := Lib.hid hok
  clear hok
  have hself := lay_cell w (.slice A n c) 30
  have hsize : (w.alloc (.cells #[.slice A n c] 30)).heap.size = w.heap.size + 1 := by simp
  have hbw : Below w.heap.size w (w.alloc (.cells #[.slice A n c] 30)) := (Below.refl _ _).alloc (Nat.le_refl _) _
  go_enter Try.func86, Try.ntmps86
  go_wp2_with (go_at_call 92; refine (impl_zeros _ _ (by omega) (by omega)).mono ?_; rintro e w1 ⟨v1, rfl, own1, bel1⟩; rw [Int.toNat_natCast] at own1; obtain ⟨A1, c1, rfl, _⟩ := own1.shape; rw [List.length_replicate] at *)
  rw [hsize] at own1 bel1
  go_loopw [6, 11] (fun _ i wr => ∃ k : Nat, i = .int .i64 k ∧ k ≤ m ∧ OI 2 (w.heap.size + 1) wr (.slice A1 m c1) ((M.rend xs m).take k ++ (List.replicate m 0).drop k) ∧ Below (w.heap.size + 1) (w.alloc (.cells #[.slice A n c] 30)) wr)
    (fun _ i _ => m - (intOf i).toNat)
  case atStart => exact ⟨0, rfl, by omega, by simpa using own1, bel1⟩
  case round =>
    obtain ⟨k, rfl, hk, own, hb⟩ := hrel
    have hbb : Below w.heap.size w wr := hbw.trans (hb.mono (by omega))
    have hv : wr.cell? ⟨w.heap.size, 0, none⟩ = some (.slice A n c) := by rw [hb.cell (by simp)]; exact hself
    by_cases hlt : k < m
    · obtain ⟨g, rfl, hB, hgl⟩ := own.form' (by omega)
      have hxr := hx.later hbb
      go_wp2_with (go_at_call 96; refine (impl_valueAt _ _ _ _ _ _ hxr hok'.out (by omega)).mono ?_; rintro e w2 ⟨rfl, bel2⟩; have own2 := own.below bel2; obtain ⟨z, Z, hc2, hf2, _, _⟩ := own2.at' hlt)
      go_roundw
      case rel =>
        refine ⟨k + 1, by go_num, by omega, ?_, (hb.trans (bel2.mono (by rw [← hsize]; exact hb.size))).setCell hB _⟩
        have h3 := own2.stored' k (M.atC xs (k : Int))
        rw [M.set_mid (by rw [M.rend_len, List.length_replicate]) (M.rend_at hlt)] at h3
        exact h3
      case measure => simp [intOf]; omega
    · go_wp2
      go_ret
      rw [List.take_of_length_le (by rw [M.rend_len]; omega), List.drop_eq_nil_of_le (by simp; omega), List.append_nil] at own
      exact ⟨_, rfl, own.base (by omega), hbb⟩
theorem impl_RenderCurve (A : Option Addr) (n c : Nat) (xs : List (Int × Int)) (t : Int) (w : World) (hx : RA pt 2 w w.heap.size A n xs) (hn : n ≤ 1000000000) :
    Calls Try.prog 28 #[.agg #[.slice A n c], .int .i64 t] w (Ret2 2 w (M.rendR xs t)) := by
  have hbw : Below w.heap.size w (w.alloc (.cells #[.slice A n c] 30)) := (Below.refl _ _).alloc (Nat.le_refl _) _
  have hself := lay_cell w (.slice A n c) 30
  have hx1 := hx.later hbw
  cases hok : M.curveOk xs
  · have hr := Lib.hid (show M.rendR xs t = ([], 1) by rw [M.rendR, hok]; rfl)
    go_enter Try.func28, Try.ntmps28
    go_wp2_with (go_at_call 74; refine (impl_isCurve _ _ _ _ _ hx1 hn).mono ?_; rw [hok]; rintro e w2 ⟨rfl, bel2⟩)
    go_ret2
    rw [hr.out]; exact ⟨_, rfl, OI.nil _ _ _, hbw.trans (bel2.mono hbw.size)⟩
  · cases hin : M.inn t 0 4000
    · have hr := Lib.hid (show M.rendR xs t = ([], 2) by rw [M.rendR, hok, hin]; rfl)
      go_enter Try.func28, Try.ntmps28
      go_wp2_with (first | (go_at_call 85; refine (impl_isCount _ _).mono ?_; rintro e w' ⟨rfl, rfl⟩) | (go_at_call 74; refine (impl_isCurve _ _ _ _ _ hx1 hn).mono ?_; rw [hok]; rintro e w2 ⟨rfl, bel2⟩))
      go_ret2
      rw [hr.out]; exact ⟨_, rfl, OI.nil _ _ _, hbw.trans (bel2.mono hbw.size)⟩
    · obtain ⟨m, rfl⟩ : ∃ m : Nat, t = m := ⟨t.toNat, by have := M.inn_iff.1 hin; omega⟩
      have hm := Lib.hid (M.inn_iff.1 hin)
      have hm4 : m ≤ 1000000 := by have := hm.out; omega
      have hr := Lib.hid (show M.rendR xs m = (M.rend xs m, 0) by rw [M.rendR, hok, hin]; rfl)
      go_enter Try.func28, Try.ntmps28
      go_wp2_with (first | (go_at_call 85; refine (impl_isCount _ _).mono ?_; rintro e w' ⟨rfl, rfl⟩) | (go_at_call 74; refine (impl_isCurve _ _ _ _ _ hx1 hn).mono ?_; rw [hok]; rintro e w2 ⟨rfl, bel2⟩; have hv : w2.cell? ⟨w.heap.size, 0, none⟩ = some (.slice A n c) := (by rw [bel2.cell (by simp)]; exact hself)) | (go_at_call 86; refine (impl_renderCurve _ _ _ _ _ _ (hx1.later bel2) hok hm4).mono ?_; rintro e w3 ⟨v3, rfl, own3, bel3⟩))
      go_ret2
      have hb2 := hbw.trans (bel2.mono hbw.size)
      rw [hr.out]; exact ⟨_, rfl, own3.base hb2.size, hb2.trans (bel3.mono hb2.size)⟩
theorem spec_RenderCurve (A : Option Addr) (n c : Nat) (xs : List (Int × Int)) (t : Int) (w : World) (hx : RA pt 2 w w.heap.size A n xs) (hn : n ≤ 1000000000) :
    Calls Try.prog 27 #[.agg #[.slice A n c], .int .i64 t] w (Ret2 2 w (M.rendR xs t)) := by
  have hbw : Below w.heap.size w (w.alloc (.cells #[.slice A n c] 30)) := (Below.refl _ _).alloc (Nat.le_refl _) _
  have hself := lay_cell w (.slice A n c) 30
  have hsize : (w.alloc (.cells #[.slice A n c] 30)).heap.size = w.heap.size + 1 := by simp
  have hx1 := hx.later hbw
  cases hok : M.curveOk xs
  · have hr := Lib.hid (show M.rendR xs t = ([], 1) by rw [M.rendR, hok]; rfl)
    go_enter Try.func27, Try.ntmps27
    go_wp2_with (go_at_call 71; refine (spec_l25Ok _ _ _ _ _ _ hself hx1 hn).mono ?_; rw [hok]; rintro e w2 ⟨rfl, bel2⟩)
    go_ret2
    rw [hr.out]; exact ⟨_, rfl, OI.nil _ _ _, hbw.trans (bel2.mono hbw.size)⟩
  · cases hin : M.inn t 0 4000
    · have hr := Lib.hid (show M.rendR xs t = ([], 2) by rw [M.rendR, hok, hin]; rfl)
      go_enter Try.func27, Try.ntmps27
      go_wp2_with (first | (go_at_call 79; refine (spec_l00In _ _ _ _).mono ?_; rintro e w' ⟨rfl, rfl⟩) | (go_at_call 71; refine (spec_l25Ok _ _ _ _ _ _ hself hx1 hn).mono ?_; rw [hok]; rintro e w2 ⟨rfl, bel2⟩))
      go_ret2
      rw [hr.out]; exact ⟨_, rfl, OI.nil _ _ _, hbw.trans (bel2.mono hbw.size)⟩
    · obtain ⟨m, rfl⟩ : ∃ m : Nat, t = m := ⟨t.toNat, by have := M.inn_iff.1 hin; omega⟩
      have hm := Lib.hid (M.inn_iff.1 hin)
      have hm4 : m ≤ 4000 := by have := hm.out; omega
      have hr := Lib.hid (show M.rendR xs m = (M.rend xs m, 0) by rw [M.rendR, hok, hin]; rfl)
      have hok' := Lib.hid hok
      go_enter Try.func27, Try.ntmps27
      go_wp2_with (first | (go_at_call 79; refine (spec_l00In _ _ _ _).mono ?_; rintro e w' ⟨rfl, rfl⟩) | (go_at_call 71; refine (spec_l25Ok _ _ _ _ _ _ hself hx1 hn).mono ?_; rw [hok]; rintro e w2 ⟨rfl, bel2⟩))
      rw [hsize] at bel2
      have hs2 : w.heap.size + 1 ≤ w2.heap.size := by rw [← hsize]; exact bel2.size
      clear hok hin
      go_loopw [6, 7] (fun v i wr => ∃ k : Nat, i = .int .i64 k ∧ k ≤ m ∧ OI 2 (w.heap.size + 1) wr v ((M.rend xs m).take k) ∧ Below (w.heap.size + 1) (w.alloc (.cells #[.slice A n c] 30)) wr) (fun _ i _ => m - (intOf i).toNat)
      case atStart => exact ⟨0, rfl, by omega, (OI.made _ _).base hs2, bel2.alloc hs2 _⟩
      case round =>
        obtain ⟨k, rfl, hk, own, hb⟩ := hrel
        have hbb : Below w.heap.size w wr := hbw.trans (hb.mono (by omega))
        have hv : wr.cell? ⟨w.heap.size, 0, none⟩ = some (.slice A n c) := by rw [hb.cell (by simp)]; exact hself
        have hsz : w.heap.size + 1 ≤ wr.heap.size := by rw [← hsize]; exact hb.size
        by_cases hlt : k < m
        · have hxr := hx.later hbb
          have hk1 : ((M.rend xs m).take k).length ≤ 1000000000 := by rw [List.length_take]; omega
          go_wp2_with (first | (go_at_call 84; refine (spec_l25At _ _ _ _ _ _ hxr hok'.out (by omega)).mono ?_; rintro e w3 ⟨rfl, bel3⟩; have own3 := own.below bel3; have hs3 := Nat.le_trans hsz bel3.size) | (at_builtin; refine wpList_push1 ei_i64 rfl _ _ rfl own3 rfl rfl rfl (by unfold maxLen; omega) (by omega) hs3 ?_; intro v1 w1 own1 gr1 bel1))
          go_roundw
          case rel => exact ⟨k + 1, by go_num, by omega, by rw [M.take_at (M.rend_at hlt)]; exact OI.push own1, (hb.trans (bel3.mono hsz)).trans bel1⟩
          case measure => simp [intOf]; omega
        · go_wp2
          go_ret2
          rw [List.take_of_length_le (by rw [M.rend_len]; omega)] at own
          rw [hr.out]; exact ⟨_, rfl, own.base (by omega), hbb⟩
end Go.Proofs.Ytckihflfjecpbaa
