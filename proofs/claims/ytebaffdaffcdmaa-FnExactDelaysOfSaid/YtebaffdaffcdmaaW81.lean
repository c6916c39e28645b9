import Derived.Test.YtebaffdaffcdmaaW80
import Derived.Laws.IdiomStrings
namespace Go.Proofs.Ytebaffdaffcdmaa
open Go.RowKit
set_option maxHeartbeats 2000000
set_option maxRecDepth 100000
/-- A text. -/
def tStr : Ty ByteArray where
  s := 1
  pos := Nat.one_pos
  zero := ⟨#[]⟩
  R _ _ cs x := cs = [.string x] ∧ x.size ≤ maxLen
  O _ _ cs x := cs = [.string x] ∧ x.size ≤ maxLen
  rlen := by rintro w B cs x ⟨rfl, _⟩; rfl
  keep := fun _ h => h
  more := fun _ h => h
  read := fun h => h
  okeep := fun _ h => h
  owide := fun _ h => h
  ocells := by rintro w F cs x ⟨rfl, _⟩ u hu; simp only [List.mem_singleton] at hu; subst hu; rfl
  oreal := fun h => h
def M.digs (k : Nat) : List UInt8 := if k = 0 then [] else M.digs (k / 10) ++ [UInt8.ofNat (48 + k % 10)]
theorem M.digs_len (k : Nat) : (M.digs k).length ≤ k := by
  induction k using Nat.strongRecOn with
  | _ k ih =>
    rw [M.digs]
    split
    · simp
    · have := ih (k / 10) (by omega)
      simp only [List.length_append, List.length_singleton]
      omega
/-- The text that a mark writes. -/
def M.markT (k : Int) : ByteArray := if k ≤ 0 then ⟨#[109, 48]⟩ else ⟨(109 :: M.digs k.toNat).toArray⟩
theorem M.markT_size (k : Int) : (M.markT k).size ≤ k.toNat + 2 := by
  unfold M.markT
  split
  · show 2 ≤ _; omega
  · have := M.digs_len k.toNat
    show ((109 :: M.digs k.toNat).toArray).size ≤ _
    simp only [List.size_toArray, List.length_cons]
    omega
def hStr : Hs ByteArray := ⟨fun s => s.size, fun k _ => M.markT k, fun _ => 1⟩
abbrev Strip := ByteArray × Int × List (Int × Int)
abbrev tSt : Ty Strip := tStr.prod (tI.prod tSdS)
abbrev hSt : Hs Strip := hStr.prod (hI.prod hSdS)
abbrev tM : Ty (List Strip) := tSt.sl 57
abbrev hM : Hs (List Strip) := hSt.sl
section
variable {w : World} {B : Nat} {F : Nat → Prop} {cs : List Value} {s : ByteArray} {l : Int} {xs : List (Int × Int)}
theorem open_Sd {cs : List Value} (h : tSdS.R w B cs xs) : ∃ A n c, cs = [.slice A n c] := by
  obtain ⟨v, rfl, hr⟩ := h
  obtain ⟨A, c, rfl⟩ := hr.shape
  exact ⟨_, _, _, rfl⟩
theorem st_R : tSt.R w B cs (s, l, xs) ↔ ∃ A n c, cs = [.string s, .int .i64 l, .slice A n c] ∧ s.size ≤ maxLen ∧ tSdS.R w B [.slice A n c] xs := by
  constructor
  · rintro ⟨c1, c2, rfl, ⟨rfl, h1⟩, c3, c4, rfl, h2, h3⟩
    obtain rfl : c3 = [.int .i64 l] := h2
    obtain ⟨A, n, c, rfl⟩ := open_Sd h3
    exact ⟨A, n, c, rfl, h1, h3⟩
  · rintro ⟨A, n, c, rfl, h1, h3⟩
    exact ⟨[.string s], _, rfl, ⟨rfl, h1⟩, [.int .i64 l], _, rfl, rfl, h3⟩
theorem st_O : tSt.O w F cs (s, l, xs) ↔ ∃ A n c, cs = [.string s, .int .i64 l, .slice A n c] ∧ s.size ≤ maxLen ∧ tSdS.O w F [.slice A n c] xs := by
  constructor
  · rintro ⟨c1, c2, F1, F2, rfl, ⟨rfl, h1⟩, ⟨c3, c4, F3, F4, rfl, h2, h3, f3, f4, _⟩, f1, f2, _⟩
    obtain rfl : c3 = [.int .i64 l] := h2
    obtain ⟨A, n, c, rfl⟩ := open_Sd (tSdS.read h3)
    exact ⟨A, n, c, rfl, h1, tSdS.owide (fun b hb => f2 b (f4 b hb)) h3⟩
  · rintro ⟨A, n, c, rfl, h1, h3⟩
    exact ⟨[.string s], _, fun _ => False, F, rfl, ⟨rfl, h1⟩, ⟨[.int .i64 l], _, fun _ => False, F, rfl, rfl, h3, fun _ h => h.elim, fun _ h => h, fun _ h => h.elim⟩, fun _ h => h.elim, fun _ h => h, fun _ h => h.elim⟩
theorem hSt_sz (s : ByteArray) (l : Int) (xs : List (Int × Int)) : hSt.sz (s, l, xs) = s.size + xs.length := by
  show s.size + (0 + hSdS.sz xs) = _
  rw [hSdS_sz, Nat.zero_add]
theorem hSt_cnt (s : ByteArray) (l : Int) (xs : List (Int × Int)) : hSt.cnt (s, l, xs) = 2 + 2 * xs.length := by
  show 1 + (1 + hSdS.cnt xs) = _
  rw [hSdS_cnt]
  omega
end
theorem nf_sz_St (s : ByteArray) (l0 : Int) (A : Option Addr) (n c : Nat) (xs : List (Int × Int)) (l : Int) (w : World) (hs : s.size ≤ maxLen) (hx : tSdS.R w w.heap.size [.slice A n c] xs) (hl : 0 ≤ l ∧ l ≤ 1000000000) :
    Calls Try.prog 58 #[.agg #[.string s, .int .i64 l0, .slice A n c], .int .i64 l] w fun e w' => e = .returned (.int .i64 (if (hSt.sz (s, l0, xs) : Int) ≤ l then l - hSt.sz (s, l0, xs) else -1)) ∧ Below w.heap.size w w' := by
  have hb : Below w.heap.size w (w.alloc (.cells #[.string s, .int .i64 l0, .slice A n c] 81)) := (Below.refl _ _).alloc (Nat.le_refl _) _
  have hx2 := tSdS.later hx hb
  unfold maxLen at hs
  rw [hSt_sz]
  have hz := hSdS_sz xs
  by_cases h1 : (s.size : Int) ≤ l
  · by_cases h2 : (xs.length : Int) ≤ l - s.size
    · have hi := Lib.hid (show (if (hSdS.sz xs : Int) ≤ l - s.size then l - s.size - hSdS.sz xs else -1) = l - s.size - xs.length by rw [hz, if_pos h2])
      have hj := Lib.hid (show (if ((s.size + xs.length : Nat) : Int) ≤ l then l - ((s.size + xs.length : Nat) : Int) else -1) = l - s.size - xs.length by rw [if_pos (by omega)]; omega)
      rw [hj.out]
      clear hz
      go_enter Try.func58, Try.ntmps58
      go_wp2_with (go_at_call 74; refine (nf_sz_SdS_ _ _ _ _ _ _ hx2 (by omega)).mono ?_; rw [hi.out]; rintro e w2 ⟨rfl, bel2⟩)
      go_ret
      exact ⟨rfl, hb.trans (bel2.mono hb.size)⟩
    · have hi := Lib.hid (show (if (hSdS.sz xs : Int) ≤ l - s.size then l - s.size - hSdS.sz xs else -1) = -1 by rw [hz, if_neg h2])
      have hj := Lib.hid (show (if ((s.size + xs.length : Nat) : Int) ≤ l then l - ((s.size + xs.length : Nat) : Int) else -1) = -1 by rw [if_neg (by omega)])
      rw [hj.out]
      clear hz
      go_enter Try.func58, Try.ntmps58
      go_wp2_with (go_at_call 74; refine (nf_sz_SdS_ _ _ _ _ _ _ hx2 (by omega)).mono ?_; rw [hi.out]; rintro e w2 ⟨rfl, bel2⟩)
      go_ret
      exact ⟨rfl, hb.trans (bel2.mono hb.size)⟩
  · have hj := Lib.hid (show (if ((s.size + xs.length : Nat) : Int) ≤ l then l - ((s.size + xs.length : Nat) : Int) else -1) = -1 by rw [if_neg (by omega)])
    rw [hj.out]
    clear hz
    go_enter Try.func58, Try.ntmps58
    go_wp2
    go_ret
    exact ⟨rfl, hb⟩
theorem nf_sz_M_ (A : Option Addr) (n c : Nat) (xs : List Strip) (l : Int) (w : World) (hx : tM.R w w.heap.size [.slice A n c] xs) (hl : 0 ≤ l ∧ l ≤ 1000000000) :
    Calls Try.prog 37 #[.slice A n c, .int .i64 l] w fun e w' => e = .returned (.int .i64 (if (hM.sz xs : Int) ≤ l then l - hM.sz xs else -1)) ∧ Below w.heap.size w w' := by
  have hr := sl_R.1 hx
  obtain ⟨h1, h2, h3⟩ := hr.cap
  have hn : n ≤ 9223372036854775807 := by unfold maxLen at h3; omega
  obtain rfl : xs.length = n := h1
  have hzz : hM.sz xs = xs.length + hSt.szL xs := rfl
  have HZ := Lib.hid hzz
  clear h2 h3 hx hzz
  generalize hR : (if (hM.sz xs : Int) ≤ l then l - (hM.sz xs : Int) else -1) = R
  have HR := Lib.hid hR
  clear hR
  by_cases h : (xs.length : Int) ≤ l
  · go_enter Try.func37, Try.ntmps37
    go_wp2
    go_loopw [1, 5] (fun q i wr => ∃ k : Nat, i = .int .i64 k ∧ k ≤ xs.length ∧ (hSt.szL (xs.take k) : Int) ≤ l - xs.length ∧ q = .int .i64 (l - xs.length - hSt.szL (xs.take k)) ∧ Below w.heap.size w wr) (fun _ i _ => xs.length - (intOf i).toNat)
    case atStart => exact ⟨0, rfl, by omega, by simp [Hs.szL]; omega, by simp [Hs.szL], Below.refl _ _⟩
    case round =>
      obtain ⟨k, rfl, hk, hz, rfl, hb⟩ := hrel
      by_cases hlt : k < xs.length
      · have hX := Lib.hid (List.getElem?_eq_getElem hlt)
        obtain ⟨b, o, c1, cs, hv, hab, -, hE, hc⟩ := (hr.below hb).atX hX.out
        simp only [Value.slice.injEq] at hv
        obtain ⟨rfl, -, rfl⟩ := hv
        have hT := Lib.hid (hSt.szL_take hX.out)
        have hU := hSt.szL_at hX.out
        generalize xs[k] = x at hX hE hT hU
        obtain ⟨s, l0, ys⟩ := x
        obtain ⟨A1, n1, c1, rfl, hs, hE⟩ := st_R.1 hE
        have hc0 : wr.cell? ⟨b, o + k * 3, none⟩ = some (.string s) := hc 0 _ rfl
        have hc1 : wr.cell? ⟨b, o + k * 3 + 1, none⟩ = some (.int .i64 l0) := hc 1 _ rfl
        have hc2 : wr.cell? ⟨b, o + k * 3 + 2, none⟩ = some (.slice A1 n1 c1) := hc 2 _ rfl
        have hF := tSdS.more hb.size hE
        clear hc
        by_cases hle : (hSt.sz (s, l0, ys) : Int) ≤ l - xs.length - hSt.szL (xs.take k)
        · have hi := Lib.hid (show (if (hSt.sz (s, l0, ys) : Int) ≤ l - xs.length - hSt.szL (xs.take k) then l - xs.length - hSt.szL (xs.take k) - hSt.sz (s, l0, ys) else -1) = l - xs.length - hSt.szL (xs.take k) - hSt.sz (s, l0, ys) by rw [if_pos hle])
          go_wp2_with (go_at_call 58; refine (nf_sz_St _ _ _ _ _ _ _ _ hs hF (by omega)).mono ?_; rw [hi.out]; rintro e w2 ⟨rfl, bel2⟩)
          go_roundw
          case rel => exact ⟨k + 1, by go_num, by omega, by rw [hT.out]; omega, by rw [hT.out]; go_num, hb.trans (bel2.mono hb.size)⟩
          case measure => simp [intOf]; omega
        · have hi := Lib.hid (show (if (hSt.sz (s, l0, ys) : Int) ≤ l - xs.length - hSt.szL (xs.take k) then l - xs.length - hSt.szL (xs.take k) - hSt.sz (s, l0, ys) else -1) = -1 by rw [if_neg hle])
          have hj := Lib.hid (show (if (hM.sz xs : Int) ≤ l then l - hM.sz xs else -1) = -1 by rw [HZ.out, if_neg (by omega)])
          go_wp2_with (go_at_call 58; refine (nf_sz_St _ _ _ _ _ _ _ _ hs hF (by omega)).mono ?_; rw [hi.out]; rintro e w2 ⟨rfl, bel2⟩)
          go_ret
          exact ⟨ret_int (hj.out.symm.trans HR.out), hb.trans (bel2.mono hb.size)⟩
      · obtain rfl : xs.length = k := by omega
        rw [List.take_of_length_le (Nat.le_refl _)] at hz ⊢
        have hj := Lib.hid (show (if (hM.sz xs : Int) ≤ l then l - hM.sz xs else -1) = l - xs.length - hSt.szL xs by rw [HZ.out, if_pos (by omega)]; omega)
        go_wp2
        go_ret
        exact ⟨ret_int (hj.out.symm.trans HR.out), hb⟩
  · have hj := Lib.hid (show (if (hM.sz xs : Int) ≤ l then l - hM.sz xs else -1) = -1 by rw [HZ.out, if_neg (by omega)])
    go_enter Try.func37, Try.ntmps37
    go_wp2
    go_ret
    exact ⟨ret_int (hj.out.symm.trans HR.out), Below.refl _ _⟩
end Go.Proofs.Ytebaffdaffcdmaa
