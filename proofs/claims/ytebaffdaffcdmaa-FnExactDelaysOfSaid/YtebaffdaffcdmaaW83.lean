import Derived.Test.YtebaffdaffcdmaaW82
namespace Go.Proofs.Ytebaffdaffcdmaa
open Go.RowKit
set_option maxHeartbeats 2000000
set_option maxRecDepth 100000
theorem nf_sz_M (A : Option Addr) (n c : Nat) (xs : List Strip) (l : Int) (w : World) (hx : tM.R w w.heap.size [.slice A n c] xs) (hl : 0 ≤ l ∧ l ≤ 1000000000) :
    Calls Try.prog 11 #[.agg #[.slice A n c], .int .i64 l] w fun e w' => e = .returned (.int .i64 (if (hM.sz xs : Int) ≤ l then l - hM.sz xs else -1)) ∧ Below w.heap.size w w' := by
  have hb : Below w.heap.size w (w.alloc (.cells #[.slice A n c] 24)) := (Below.refl _ _).alloc (Nat.le_refl _) _
  have hx2 := tM.later hx hb
  by_cases h : (hM.sz xs : Int) ≤ l
  · have hi := Lib.hid (show (if (hM.sz xs : Int) ≤ l then l - hM.sz xs else -1) = l - hM.sz xs by rw [if_pos h])
    go_enter Try.func11, Try.ntmps11
    go_wp2_with (go_at_call 37; refine (nf_sz_M_ _ _ _ _ _ _ hx2 hl).mono ?_; rw [hi.out]; rintro e w2 ⟨rfl, bel2⟩)
    go_ret
    exact ⟨hi.out ▸ rfl, hb.trans (bel2.mono hb.size)⟩
  · have hi := Lib.hid (show (if (hM.sz xs : Int) ≤ l then l - hM.sz xs else -1) = -1 by rw [if_neg h])
    go_enter Try.func11, Try.ntmps11
    go_wp2_with (go_at_call 37; refine (nf_sz_M_ _ _ _ _ _ _ hx2 hl).mono ?_; rw [hi.out]; rintro e w2 ⟨rfl, bel2⟩)
    go_ret
    exact ⟨hi.out ▸ rfl, hb.trans (bel2.mono hb.size)⟩
theorem nf_to_M (A : Option Addr) (n c : Nat) (xs : List Strip) (w : World) (hx : tM.R w w.heap.size [.slice A n c] xs) (hn : hM.sz xs ≤ 100000000) :
    Calls Try.prog 13 #[.agg #[.slice A n c]] w fun e w' => ∃ A' n' c', e = .returned (.agg #[.slice A' n' c']) ∧ tM.O w' (Iv w.heap.size w'.heap.size) [.slice A' n' c'] xs ∧ Below w.heap.size w w' := by
  have hb : Below w.heap.size w (((w.alloc (.cells #[.slice A n c] 24)).alloc (.cells #[.slice none 0 0] 29)).alloc (.cells #[.slice none 0 0] 29)) := (((Below.refl _ _).alloc (Nat.le_refl _) _).alloc (by simp) _).alloc (by simp; omega) _
  have hx2 := tM.later hx hb
  go_enter Try.func13, Try.ntmps13
  go_wp2_with (go_at_call 39; refine (nf_to_M_ _ _ _ _ _ hx2 hn).mono ?_; rintro e w2 ⟨A2, n2, c2, rfl, own2, bel2⟩; have q1 : w2.cell? ⟨w.heap.size + 1, 0, none⟩ = some (.slice none 0 0) := (by rw [bel2.cell (by first | omega | (simp; done) | (simp; omega))]; simp [go_sem]); have r1 : w2.frozen? ⟨w.heap.size + 1, 0, none⟩ = false := (by rw [bel2.frozen (by first | omega | (simp; done) | (simp; omega))]; simp [go_sem]); have q2 : w2.cell? ⟨w.heap.size + 1 + 1, 0, none⟩ = some (.slice none 0 0) := (by rw [bel2.cell (by simp)]; simp [go_sem]); have r2 : w2.frozen? ⟨w.heap.size + 1 + 1, 0, none⟩ = false := (by rw [bel2.frozen (by simp)]; simp [go_sem]); have hs : w.heap.size + 1 + 1 + 1 ≤ w2.heap.size := (by have := bel2.size; simpa using this))
  have m1 : Mid (w.heap.size + 1) (w.heap.size + 1 + 1 + 1) w2 ((w2.setCell ⟨w.heap.size + 1 + 1, 0, none⟩ (Value.slice A2 n2 c2)).setCell ⟨w.heap.size + 1, 0, none⟩ (Value.slice A2 n2 c2)) :=
    (Mid.of_grown (grown_setCell w2 (w.heap.size + 1 + 1) 0 _) fun k hk => by injection hk with hk; omega).trans (Mid.of_grown (grown_setCell _ (w.heap.size + 1) 0 _) fun k hk => by injection hk with hk; omega)
  refine bodyPost_ret (v := .agg #[.slice A2 n2 c2]) (by simp [results, Try.results13, go_sem, q1, r1, q2, r2]) rfl ?_
  refine ⟨_, _, _, rfl, ?_, ?_⟩
  · exact tM.oiv (tM.omid own2 m1 (.inr (by simp)) (Nat.le_refl _)) (by simp; omega) m1.size
  · exact (hb.trans (bel2.mono hb.size)).trans ((m1.toBelow (by omega)).mono (by omega))
theorem nf_eq_M (A A' : Option Addr) (n c n' c' : Nat) (xs : List Strip) (w : World) (hx : tM.R w w.heap.size [.slice A n c] xs) (hy : tM.R w w.heap.size [.slice A' n' c'] xs) (hn : hM.sz xs ≤ 100000000) :
    Calls Try.prog 15 #[.agg #[.slice A n c], .agg #[.slice A' n' c']] w fun e w' => e = .returned (.bool true) ∧ Below w.heap.size w w' := by
  have hb : Below w.heap.size w ((w.alloc (.cells #[.slice A n c] 29)).alloc (.cells #[.slice A' n' c'] 29)) := ((Below.refl _ _).alloc (Nat.le_refl _) _).alloc (by simp) _
  have hx2 := tM.later hx hb
  have hy2 := tM.later hy hb
  go_enter Try.func15, Try.ntmps15
  go_wp2_with (go_at_call 41; refine (nf_eq_M_ _ _ _ _ _ _ _ _ hx2 hy2 hn).mono ?_; rintro e w2 ⟨rfl, bel2⟩)
  go_ret
  exact ⟨rfl, hb.trans (bel2.mono hb.size)⟩
theorem cl_M (x : List Strip) : hM.cnt x ≤ 10 * hM.sz x + 10 := by
  have key : hSt.cntL x ≤ 2 * (x.length + hSt.szL x) := by
    induction x with
    | nil => simp [Hs.cntL]
    | cons y ys ih =>
      obtain ⟨s, l, zs⟩ := y
      rw [Hs.cntL, Hs.szL, hSt_cnt, hSt_sz, List.length_cons]
      omega
  show hSt.cntL x ≤ 10 * (x.length + hSt.szL x) + 10
  omega
theorem M.digs_step {j : Nat} (h : 0 < j) : M.digs j = M.digs (j / 10) ++ [UInt8.ofNat (48 + j % 10)] := by rw [M.digs, if_neg (by omega)]
theorem conv_one (j : Nat) (wr : World) : (convert 99 9 (.slice (some ⟨wr.heap.size, 0, none⟩) 1 1)).run Try.prog (wr.alloc (.cells #[.int .u8 (48 + (j : Int) % 10)] 5)) = .ok (.string ⟨[UInt8.ofNat (48 + j % 10)].toArray⟩) (wr.alloc (.cells #[.int .u8 (48 + (j : Int) % 10)] 5)) := by
  refine run_convert_bytes_back _ _ _ 5 ⟨wr.heap.size, 0, none⟩ 1 [UInt8.ofNat (48 + j % 10)] Try.underlying99 Try.underlying5 Try.underlying9 ?_
  intro i hi
  obtain rfl : i = 0 := by simpa using hi
  have e0 : (⟨wr.heap.size, 0, none⟩ : Addr).add 0 = ⟨wr.heap.size, 0, none⟩ := rfl
  rw [e0, cell_of_row _ wr.heap.size 0 _ 5 (0, 0) (heap_alloc_new wr _)]
  simp
  omega
theorem bytes_app (a b : ByteArray) : (a ++ b).data.toList = a.data.toList ++ b.data.toList := by simp
theorem M.digs_next {j : Nat} {s : ByteArray} {D : List UInt8} (h : 0 < j) (H : M.digs j ++ s.data.toList = D) : M.digs (j / 10) ++ ((⟨#[48 + UInt8.ofNat (j % 10)]⟩ : ByteArray) ++ s).data.toList = D := by
  rw [M.digs_step h, List.append_assoc] at H
  rw [bytes_app, ← H, UInt8.ofNat_add]
  rfl
theorem M.mark_end {k : Nat} {s : ByteArray} (H : M.digs 0 ++ s.data.toList = M.digs k) : (⟨#[109]⟩ ++ s : ByteArray) = ⟨(109 :: M.digs k).toArray⟩ := by
  rw [← H]
  apply ByteArray.ext
  apply Array.toList_inj.1
  rw [bytes_app, show M.digs 0 = [] by rw [M.digs]; rfl]
  rfl
theorem laws_markText (k : Nat) (w : World) (hk : k ≤ 1000000000) :
    Calls Try.prog 72 #[.int .i64 k] w fun e w' => e = .returned (.string (M.markT k)) ∧ Below w.heap.size w w' := by
  by_cases h0 : k = 0
  · subst h0
    go_enter Try.func72, Try.ntmps72
    go_wp2
    go_ret
    exact ⟨rfl, Below.refl _ _⟩
  have hR := Lib.hid (show M.markT (k : Int) = ⟨(109 :: M.digs k).toArray⟩ by rw [M.markT, if_neg (by omega), Int.toNat_natCast])
  have hL := M.digs_len k
  have HL := Lib.hid (show (M.digs k).length ≤ 1000000000 by omega)
  clear hL
  go_enter Try.func72, Try.ntmps72
  go_wp2
  go_loopw [0, 3] (fun i v wr => ∃ (j : Nat) (s : ByteArray), i = .int .i64 j ∧ j ≤ k ∧ v = .string s ∧ Hid (M.digs j ++ s.data.toList = M.digs k) ∧ s.size ≤ 1000000000 ∧ Below w.heap.size w wr) (fun i _ _ => (intOf i).toNat)
  case atStart => exact ⟨k, ⟨#[]⟩, rfl, by omega, rfl, Lib.hid (by simp), Nat.zero_le _, Below.refl _ _⟩
  case round =>
    obtain ⟨j, s, rfl, hj, rfl, H, hs, hb⟩ := hrel
    by_cases hlt : 0 < j
    · have hconv := conv_one j wr
      go_wp2
      go_roundw
      case rel =>
        have h2 := M.digs_next hlt H.out
        have h3 := congrArg List.length h2
        have h4 := HL.out
        rw [List.length_append] at h3
        exact ⟨j / 10, _, by go_num, by omega, rfl, Lib.hid h2, by show ((⟨#[48 + UInt8.ofNat (j % 10)]⟩ : ByteArray) ++ s).data.size ≤ _; rw [← Array.length_toList]; omega, hb.alloc hb.size _⟩
      case measure => simp [intOf]; omega
    · obtain rfl : j = 0 := by omega
      go_wp2
      go_ret
      exact ⟨by rw [hR.out, ← M.mark_end H.out]; rfl, hb⟩
theorem nf_mark_M_ (A : Option Addr) (n c : Nat) (k : Int) (xs : List Strip) (w : World) (F : Nat → Prop) (hx : tM.O w F [.slice A n c] xs) (hk : 0 ≤ k ∧ k + (hM.cnt xs : Int) ≤ 1000000000) :
    Calls Try.prog 55 #[.slice A n c, .int .i64 k] w fun e w' => e = .returned (.int .i64 (k + hM.cnt xs)) ∧ tM.O w' F [.slice A n c] (hM.mark k xs) ∧ Chg F w w' := by
  have ow := sl_O.1 hx
  have hcap := ow.read.cap
  obtain rfl : xs.length = n := hcap.1
  have hl : xs.length ≤ 9223372036854775807 := by have h1 := hcap.2; unfold maxLen at h1; omega
  clear hcap
  have hcn : k + (hSt.cntL xs : Int) ≤ 1000000000 := hk.2
  obtain ⟨k, rfl⟩ : ∃ q : Nat, k = q := ⟨k.toNat, by omega⟩
  clear hx
  go_enter Try.func55, Try.ntmps55
  go_wp2
  go_loopw [1, 5] (fun q i wr => ∃ j : Nat, i = .int .i64 j ∧ j ≤ xs.length ∧ q = .int .i64 ((k : Int) + (hSt.cntL (xs.take j) : Int)) ∧ OS tSt 57 wr F (.slice A xs.length c) ((hSt.mkL k xs).take j ++ xs.drop j) ∧ Chg F w wr)
    (fun _ i _ => xs.length - (intOf i).toNat)
  case atStart => exact ⟨0, rfl, by omega, by simp [Hs.cntL], by simpa using ow, Chg.refl _ _⟩
  case round =>
    obtain ⟨j, rfl, hj, rfl, own, hg⟩ := hrel
    by_cases hlt : j < xs.length
    · have hml := Lib.hid (hSt.mkL_len k xs)
      have hX := Lib.hid (List.getElem?_eq_getElem hlt)
      have hc1 := hSt.cntL_at hX.out
      have hct2 := Lib.hid (hSt.cntL_take hX.out)
      have hmk := Lib.hid (hSt.mkL_at k hX.out)
      generalize xs[j] = x at hX hc1 hct2 hmk
      obtain ⟨s, l0, ys⟩ := x
      rw [hSt_cnt] at hc1
      have hyj := Lib.hid (show ((hSt.mkL k xs).take j ++ xs.drop j)[j]? = some (s, l0, ys) by rw [M.mid_at hml.out]; exact hX.out)
      have hz := hSdS_cnt ys
      have hmt := laws_markText (k + hSt.cntL (xs.take j)) wr (by omega)
      rw [Int.natCast_add] at hmt
      have hms := Lib.hid (M.markT_size ((k : Int) + (hSt.cntL (xs.take j) : Int)))
      go_wp2_with (first | (go_at_call 72; refine hmt.mono ?_; clear hmt; rintro e w2 ⟨rfl, bel2⟩; have own2 := (own.real.keep (fun b hb => bel2.block b hb.2)).wide (F' := F) (fun b hb => hb.1); obtain ⟨css, Fs, hole, cs, hcs, hE⟩ := own2.openAt hyj.out; obtain ⟨A0, n0, c0, rfl, -, hE⟩ := st_O.1 hE; obtain ⟨g, rfl, hFg, hFn, hgl, -⟩ := hole.form (List.getElem?_eq_some_iff.1 hyj.out).1; have q0 := (hole.cell hcs (j := 0) rfl).1; have r0 := (hole.cell hcs (j := 0) rfl).2; have q1 := (hole.cell hcs (j := 1) rfl).1; have r1 := (hole.cell hcs (j := 1) rfl).2; have q2 := (hole.cell hcs (j := 2) rfl).1; change w2.cell? ⟨g, j * 3 + 0, none⟩ = _ at q0; change w2.frozen? ⟨g, j * 3 + 0, none⟩ = _ at r0; change w2.cell? ⟨g, j * 3 + 1, none⟩ = _ at q1; change w2.frozen? ⟨g, j * 3 + 1, none⟩ = _ at r1; change w2.cell? ⟨g, j * 3 + 2, none⟩ = _ at q2; rw [Nat.add_zero] at q0 r0) | (go_at_call 73; refine (nf_mark_SdS_ _ _ _ _ _ _ (Fs j) (tSdS.okeep (fun b hb => (heap_setCell_other _ ⟨g, j * 3 + 1, none⟩ b _ (fun e => hFn (by simp only at e; rw [← e]; exact hb))).trans (heap_setCell_other w2 ⟨g, j * 3, none⟩ b _ (fun e => hFn (by simp only at e; rw [← e]; exact hb)))) hE) (by omega)).mono ?_; rintro e w3 ⟨rfl, o3, ch3⟩))
      go_roundw
      case rel =>
        have s0 := hole.set hcs 0 (by decide) (.string (M.markT ((k : Int) + (hSt.cntL (xs.take j) : Int))))
        have s1 := s0.1.set s0.2 1 (by decide) (.int .i64 ((k : Int) + (hSt.cntL (xs.take j) : Int) + 1))
        have h3 := (s1.1.chg ch3).fill s1.2 (y := (M.markT ((k : Int) + (hSt.cntL (xs.take j) : Int)), (k : Int) + (hSt.cntL (xs.take j) : Int) + 1, hSdS.mark ((k : Int) + (hSt.cntL (xs.take j) : Int) + 1 + 1) ys)) (st_O.2 ⟨A0, n0, c0, rfl, by have := hms.out; unfold maxLen; omega, o3⟩)
        have hmk2 : (hSt.mkL k xs)[j]? = some (M.markT ((k : Int) + (hSt.cntL (xs.take j) : Int)), (k : Int) + (hSt.cntL (xs.take j) : Int) + 1, hSdS.mark ((k : Int) + (hSt.cntL (xs.take j) : Int) + 1 + 1) ys) := hmk.out
        rw [M.set_mid hml.out hmk2] at h3
        exact ⟨j + 1, by go_num, by omega, by rw [hct2.out, hSt_cnt]; go_num, h3, ((hg.trans (Chg.of_below bel2 F)).trans ((Chg.set w2 g (j * 3) _ hFg).trans (Chg.set _ g (j * 3 + 1) _ hFg))).trans (ch3.wide hole.fits)⟩
      case measure => simp [intOf]; omega
    · obtain rfl : xs.length = j := by omega
      go_wp2
      go_ret
      rw [List.take_of_length_le (by rw [Hs.mkL_len]; omega), List.drop_eq_nil_of_le (by omega), List.append_nil] at own
      exact ⟨by rw [List.take_of_length_le (Nat.le_refl _)]; rfl, sl_O.2 own, hg⟩
theorem nf_mark_M (A : Option Addr) (n c : Nat) (k : Int) (xs : List Strip) (w : World) (F : Nat → Prop) (hx : tM.O w F [.slice A n c] xs) (hF : ∀ b, F b → b < w.heap.size) (hk : 0 ≤ k ∧ k + (hM.cnt xs : Int) ≤ 1000000000) :
    Calls Try.prog 29 #[.agg #[.slice A n c], .int .i64 k] w fun e w' => e = .returned (.int .i64 (k + hM.cnt xs)) ∧ tM.O w' F [.slice A n c] (hM.mark k xs) ∧ Chg F w w' := by
  have hb : Below w.heap.size w (w.alloc (.cells #[.slice A n c] 29)) := (Below.refl _ _).alloc (Nat.le_refl _) _
  have hx2 : tM.O (w.alloc (.cells #[.slice A n c] 29)) F [.slice A n c] xs := tM.okeep (fun b h => hb.block b (hF b h)) hx
  go_enter Try.func29, Try.ntmps29
  go_wp2_with (go_at_call 55; refine (nf_mark_M_ _ _ _ _ _ _ _ hx2 hk).mono ?_; rintro e w2 ⟨rfl, own2, m2⟩)
  go_ret
  exact ⟨rfl, own2, (Chg.of_below hb _).trans m2⟩
end Go.Proofs.Ytebaffdaffcdmaa
