import Derived.Test.YtecdendjlgohjaaDoorFnExactReadCurveG2
import Derived.Maps.AppendAt
import Derived.Deep.RegionLaw
import Derived.Lib.SliceRun
set_option linter.unusedVariables false
set_option linter.unusedSimpArgs false
namespace Go.Proofs.YtecdendjlgohjaaDoor
open Go.RowKit Go.Sort
set_option maxHeartbeats 2000000
set_option maxRecDepth 100000
theorem spec_l01Digit (c : UInt8) (w : World) : Calls Tryd.prog 76 #[.int .u8 c.toNat] w fun e w' => e = .returned (.bool (decide (48 ≤ c.toNat ∧ c.toNat ≤ 57))) ∧ w = w' := by
  by_cases h1 : 48 ≤ c.toNat
  · have g1 : (48 : Int) ≤ (c.toNat : Int) := by omega
    by_cases h2 : c.toNat ≤ 57
    · have g2 : (c.toNat : Int) ≤ 57 := by omega
      have e := Lib.hid (show decide (48 ≤ c.toNat ∧ c.toNat ≤ 57) = true by simp [h1, h2])
      clear h1 h2
      go_enter Tryd.func76, Tryd.ntmps76
      go_wp2
      go_ret
      exact ⟨ret_bool (by have := e.out; simp only [Bool.decide_and] at this ⊢; rw [this]), rfl⟩
    · have g2 : ¬ (c.toNat : Int) ≤ 57 := by omega
      have e := Lib.hid (show decide (48 ≤ c.toNat ∧ c.toNat ≤ 57) = false by simp [h2])
      clear h1 h2
      go_enter Tryd.func76, Tryd.ntmps76
      go_wp2
      go_ret
      exact ⟨ret_bool (by have := e.out; simp only [Bool.decide_and] at this ⊢; rw [this]), rfl⟩
  · have g1 : ¬ (48 : Int) ≤ (c.toNat : Int) := by omega
    have e := Lib.hid (show decide (48 ≤ c.toNat ∧ c.toNat ≤ 57) = false by simp [h1])
    clear h1
    go_enter Tryd.func76, Tryd.ntmps76
    go_wp2
    go_ret
    exact ⟨ret_bool (by have := e.out; simp only [Bool.decide_and] at this ⊢; rw [this]), rfl⟩
theorem M.decFrom_bad : ∀ {l : List UInt8} {acc : Nat} {b : UInt8}, b ∈ l → Lib.digitVal b = none → Lib.decFrom acc l = none
  | a :: l, acc, b, hm, hb => by
    rw [Lib.decFrom]
    rcases List.mem_cons.1 hm with rfl | h
    · rw [hb]
    · cases Lib.digitVal a with
      | none => rfl
      | some d => exact M.decFrom_bad h hb
theorem M.num_bad {L T : List UInt8} (hT : Lib.trimPrefix L [45] = T) {b : UInt8} (hm : b ∈ T) (hb : ¬ (48 ≤ b.toNat ∧ b.toNat ≤ 57)) : M.num L = none := by
  unfold M.num
  rw [hT]
  split
  · have : Lib.decNat T = none := by
      unfold Lib.decNat
      split
      · rfl
      · exact M.decFrom_bad hm (by unfold Lib.digitVal; rw [if_neg hb])
    rw [this]; rfl
  · rfl
theorem M.num_long {L T : List UInt8} (hT : Lib.trimPrefix L [45] = T) (h : ¬ (1 ≤ T.length ∧ T.length ≤ 18)) : M.num L = none := by
  unfold M.num
  rw [hT, if_neg h]
theorem M.num_good {L T : List UInt8} {m : Nat} (hT : Lib.trimPrefix L [45] = T) (h : 1 ≤ T.length ∧ T.length ≤ 18) (hm : Lib.decFrom 0 T = some m) :
    M.num L = if Lib.itoa (if T.length < L.length then -(m : Int) else m) = L then some (if T.length < L.length then -(m : Int) else m) else none := by
  have hd : Lib.decNat T = some m := by
    unfold Lib.decNat
    rw [if_neg (by intro e; rw [List.isEmpty_iff] at e; rw [e] at h; simp at h), hm]
  unfold M.num
  rw [hT, if_pos h, hd]
  rfl
theorem spec_l01Number (s : ByteArray) (w : World) (hs : s.size ≤ 1000000000) :
    Calls Tryd.prog 45 #[.string s] w fun e w' => e = .returned (.tuple #[.int .i64 ((M.numB s).getD 0), .bool (M.numB s).isSome]) ∧ Below w.heap.size w w' := by
  by_cases h0 : s.size = 0
  · have hs0 : s = ⟨#[]⟩ := by
      apply ByteArray.ext
      exact Array.eq_empty_of_size_eq_zero h0
    have HN := Lib.hid (show M.numB s = none by rw [hs0]; rfl)
    subst hs0
    go_enter Tryd.func45, Tryd.ntmps45
    go_wp2
    go_ret2
    exact ⟨by rw [HN.out]; rfl, Below.refl _ _⟩
  · have hpos : 0 < s.size := by omega
    have hne : (s.toList == []) = false := by
      rw [ByteArray.toList_eq, beq_eq_false_iff_ne]
      intro e
      have := Lib.size_eq s
      rw [e] at this
      exact h0 this
    have hne2 : ¬ s.toList = [] := by simpa using hne
    by_cases hm : s[0] = 45
    · have e1 : ((s[0].toNat : Int) == 45) = true := by rw [hm]; rfl
      obtain ⟨tb, htb⟩ : ∃ tb, tb = s.extract 1 s.size := ⟨_, rfl⟩
      have hts : tb.size = s.size - 1 := by rw [htb]; simp
      have HTB := Lib.hid htb
      have hcons : ∃ r, s.data.toList = 45 :: r := by
        have h1 := M.data_at hpos
        rw [hm] at h1
        cases hs : s.data.toList with
        | nil => rw [hs] at h1; simp at h1
        | cons a r => rw [hs] at h1; simp at h1; exact ⟨r, by rw [h1]⟩
      have HC := Lib.hid hcons
      clear hcons hm
      by_cases hl : 1 ≤ tb.size ∧ tb.size ≤ 18
      · go_enter Tryd.func45, Tryd.ntmps45
        go_wp2_with fail
        rw [← htb]
        clear htb
        obtain ⟨T, hT⟩ : ∃ T, T = tb.data.toList := ⟨_, rfl⟩
        have hTl : T.length = tb.size := by rw [hT, ← Lib.size_eq]
        have HT := Lib.hid hT
        have HTL := Lib.hid hTl
        have HTR := Lib.hid (show Lib.trimPrefix s.data.toList [45] = T by rw [hT]; obtain ⟨r, hr⟩ := HC.out; have hz := Lib.size_eq s; rw [hr, List.length_cons] at hz; rw [HTB.out, M.extract_list, hr, M.trim_minus, hz]; simp)
        clear hT hTl
        go_loop [5, 6] (fun m i => ∃ k q : Nat, i = .int .i64 k ∧ m = .int .i64 q ∧ k ≤ tb.size ∧ Hid (Lib.decFrom 0 (T.take k) = some q) ∧ q < 10 ^ k) (fun _ i => tb.size - (intOf i).toNat)
        case atStart => exact ⟨0, 0, rfl, rfl, by omega, Lib.hid rfl, by decide⟩
        case round =>
          obtain ⟨k, q, rfl, rfl, hk, H, hq⟩ := hrel
          have hp18 : 10 ^ k ≤ 10 ^ 18 := Nat.pow_le_pow_right (by decide) (by omega)
          by_cases hlt : k < tb.size
          · have hat := Lib.hid (show T[k]? = some tb[k] by rw [HT.out]; exact M.data_at hlt)
            have hq17 : q < 10 ^ 17 := Nat.lt_of_lt_of_le hq (Nat.pow_le_pow_right (by decide) (by omega))
            by_cases hd : 48 ≤ tb[k].toNat ∧ tb[k].toNat ≤ 57
            · have hdd := Lib.hid (show decide (48 ≤ tb[k].toNat ∧ tb[k].toNat ≤ 57) = true by simpa using hd)
              have HD := Lib.hid hd
              clear hd
              go_wp2_with (go_at_call 76; refine (spec_l01Digit _ _).mono ?_; rw [hdd.out]; rintro e w' ⟨rfl, rfl⟩)
              go_round
              case rel =>
                have hdv : Lib.digitVal tb[k] = some (tb[k].toNat - 48) := by unfold Lib.digitVal; rw [if_pos HD.out]
                have hdb := HD.out
                have hpk : 10 ^ (k + 1) = 10 ^ k * 10 := Nat.pow_succ 10 k
                exact ⟨k + 1, q * 10 + (tb[k].toNat - 48), by go_num, congrArg _ (by omega), by omega, Lib.hid (Lib.decFrom_take T k 0 q tb[k] _ H.out hat.out hdv), by omega⟩
              case measure => simp [intOf]; omega
            · have hdd := Lib.hid (show decide (48 ≤ tb[k].toNat ∧ tb[k].toNat ≤ 57) = false by simpa using hd)
              have HN := Lib.hid (show M.numB s = none from M.num_bad HTR.out (List.mem_of_getElem? hat.out) hd)
              clear hd
              go_wp2_with (go_at_call 76; refine (spec_l01Digit _ _).mono ?_; rw [hdd.out]; rintro e w' ⟨rfl, rfl⟩)
              go_ret2
              exact ⟨by rw [HN.out]; rfl, Below.refl _ _⟩
          · obtain rfl : k = tb.size := by omega
            have hm := H.out
            rw [List.take_of_length_le (by rw [HTL.out]; exact Nat.le_refl _)] at hm
            have hG := M.num_good HTR.out (by rw [HTL.out]; omega) hm
            rw [HTL.out, ← Lib.size_eq, if_pos (show tb.size < s.size by omega)] at hG
            have HG := Lib.hid (show M.numB s = if Lib.itoa (-(q : Int)) = s.data.toList then some (-(q : Int)) else none from hG)
            have hqb : (q : Int) < 1000000000000000000 := by omega
            have hlt3 : (tb.size : Int) < (s.size : Int) := by omega
            have w1' : wrap64 (-(q : Int)) = -(q : Int) := by unfold wrap64; omega
            have n0 : -9223372036854775808 ≤ -(q : Int) := by omega
            have n1 : -(q : Int) ≤ 9223372036854775807 := by omega
            clear hm hG hp18 hts hlt hl
            by_cases he : Lib.itoa (-(q : Int)) = s.data.toList
            · have HE := Lib.hid he
              have e3 : (Lib.itoa (-(q : Int)) == s.toList) = true := by rw [ByteArray.toList_eq, HE.out]; exact beq_self_eq_true _
              clear he
              go_wp2_with (go_at_call 60; refine (spec_l01Dec (-(q : Int)) n0 n1 _).mono ?_; rintro e w1 ⟨rfl, b1⟩)
              go_ret2
              exact ⟨by rw [HG.out, if_pos HE.out]; rfl, b1⟩
            · have HE := Lib.hid he
              have e3 : (Lib.itoa (-(q : Int)) == s.toList) = false := by rw [ByteArray.toList_eq, beq_eq_false_iff_ne]; exact HE.out
              clear he
              go_wp2_with (go_at_call 60; refine (spec_l01Dec (-(q : Int)) n0 n1 _).mono ?_; rintro e w1 ⟨rfl, b1⟩)
              go_ret2
              exact ⟨by rw [HG.out, if_neg HE.out]; rfl, b1⟩
      · have HN := Lib.hid (show M.numB s = none from M.num_long rfl (by obtain ⟨r, hr⟩ := HC.out; have hz := Lib.size_eq s; rw [hr, List.length_cons] at hz; rw [hr, M.trim_minus]; omega))
        go_enter Tryd.func45, Tryd.ntmps45
        go_wp2_with fail
        all_goals (go_ret2; exact ⟨by rw [HN.out]; rfl, Below.refl _ _⟩)
    · have e1 : ((s[0].toNat : Int) == 45) = false := by
        rw [beq_eq_false_iff_ne]
        intro e
        exact hm (UInt8.toNat_inj.1 (by have : (45 : UInt8).toNat = 45 := rfl; omega))
      have hcons : ∃ c r, s.data.toList = c :: r ∧ c ≠ 45 := by
        have h1 := M.data_at hpos
        cases hs : s.data.toList with
        | nil => rw [hs] at h1; simp at h1
        | cons a r => rw [hs] at h1; simp at h1; exact ⟨a, r, rfl, by rw [h1]; exact hm⟩
      have HC := Lib.hid hcons
      clear hcons hm
      by_cases hl : 1 ≤ s.size ∧ s.size ≤ 18
      · go_enter Tryd.func45, Tryd.ntmps45
        go_wp2_with fail
        obtain ⟨T, hT⟩ : ∃ T, T = s.data.toList := ⟨_, rfl⟩
        have hTl : T.length = s.size := by rw [hT, ← Lib.size_eq]
        have HT := Lib.hid hT
        have HTL := Lib.hid hTl
        have HTR := Lib.hid (show Lib.trimPrefix s.data.toList [45] = T by rw [hT]; obtain ⟨c, r, hr, hc⟩ := HC.out; rw [hr]; exact M.trim_other hc r)
        clear hT hTl
        go_loop [5, 6] (fun m i => ∃ k q : Nat, i = .int .i64 k ∧ m = .int .i64 q ∧ k ≤ s.size ∧ Hid (Lib.decFrom 0 (T.take k) = some q) ∧ q < 10 ^ k) (fun _ i => s.size - (intOf i).toNat)
        case atStart => exact ⟨0, 0, rfl, rfl, by omega, Lib.hid rfl, by decide⟩
        case round =>
          obtain ⟨k, q, rfl, rfl, hk, H, hq⟩ := hrel
          have hp18 : 10 ^ k ≤ 10 ^ 18 := Nat.pow_le_pow_right (by decide) (by omega)
          by_cases hlt : k < s.size
          · have hat := Lib.hid (show T[k]? = some s[k] by rw [HT.out]; exact M.data_at hlt)
            have hq17 : q < 10 ^ 17 := Nat.lt_of_lt_of_le hq (Nat.pow_le_pow_right (by decide) (by omega))
            by_cases hd : 48 ≤ s[k].toNat ∧ s[k].toNat ≤ 57
            · have hdd := Lib.hid (show decide (48 ≤ s[k].toNat ∧ s[k].toNat ≤ 57) = true by simpa using hd)
              have HD := Lib.hid hd
              clear hd
              go_wp2_with (go_at_call 76; refine (spec_l01Digit _ _).mono ?_; rw [hdd.out]; rintro e w' ⟨rfl, rfl⟩)
              go_round
              case rel =>
                have hdv : Lib.digitVal s[k] = some (s[k].toNat - 48) := by unfold Lib.digitVal; rw [if_pos HD.out]
                have hdb := HD.out
                have hpk : 10 ^ (k + 1) = 10 ^ k * 10 := Nat.pow_succ 10 k
                exact ⟨k + 1, q * 10 + (s[k].toNat - 48), by go_num, congrArg _ (by omega), by omega, Lib.hid (Lib.decFrom_take T k 0 q s[k] _ H.out hat.out hdv), by omega⟩
              case measure => simp [intOf]; omega
            · have hdd := Lib.hid (show decide (48 ≤ s[k].toNat ∧ s[k].toNat ≤ 57) = false by simpa using hd)
              have HN := Lib.hid (show M.numB s = none from M.num_bad HTR.out (List.mem_of_getElem? hat.out) hd)
              clear hd
              go_wp2_with (go_at_call 76; refine (spec_l01Digit _ _).mono ?_; rw [hdd.out]; rintro e w' ⟨rfl, rfl⟩)
              go_ret2
              exact ⟨by rw [HN.out]; rfl, Below.refl _ _⟩
          · obtain rfl : k = s.size := by omega
            have hm := H.out
            rw [List.take_of_length_le (by rw [HTL.out]; exact Nat.le_refl _)] at hm
            have hG := M.num_good HTR.out (by rw [HTL.out]; omega) hm
            rw [HTL.out, ← Lib.size_eq, if_neg (Nat.lt_irrefl s.size)] at hG
            have HG := Lib.hid (show M.numB s = if Lib.itoa ((q : Int)) = s.data.toList then some ((q : Int)) else none from hG)
            have hqb : (q : Int) < 1000000000000000000 := by omega
            clear hm hG hp18
            by_cases he : Lib.itoa ((q : Int)) = s.data.toList
            · have HE := Lib.hid he
              have e3 : (Lib.itoa ((q : Int)) == s.toList) = true := by rw [ByteArray.toList_eq, HE.out]; exact beq_self_eq_true _
              clear he
              go_wp2_with (go_at_call 60; refine (spec_l01Dec ((q : Int)) (by omega) (by omega) _).mono ?_; rintro e w1 ⟨rfl, b1⟩)
              go_ret2
              exact ⟨by rw [HG.out, if_pos HE.out]; rfl, b1⟩
            · have HE := Lib.hid he
              have e3 : (Lib.itoa ((q : Int)) == s.toList) = false := by rw [ByteArray.toList_eq, beq_eq_false_iff_ne]; exact HE.out
              clear he
              go_wp2_with (go_at_call 60; refine (spec_l01Dec ((q : Int)) (by omega) (by omega) _).mono ?_; rintro e w1 ⟨rfl, b1⟩)
              go_ret2
              exact ⟨by rw [HG.out, if_neg HE.out]; rfl, b1⟩
      · have HN := Lib.hid (show M.numB s = none from M.num_long rfl (by obtain ⟨c, r, hr, hc⟩ := HC.out; have hz := Lib.size_eq s; rw [hr, M.trim_other hc r, ← hr, ← hz]; exact hl))
        go_enter Tryd.func45, Tryd.ntmps45
        go_wp2_with fail
        all_goals (go_ret2; exact ⟨by rw [HN.out]; rfl, Below.refl _ _⟩)
end Go.Proofs.YtecdendjlgohjaaDoor
namespace Go.Proofs.YtecdendjlgohjaaDoor
open Go.RowKit Go.Sort
set_option maxHeartbeats 2000000
set_option maxRecDepth 100000
set_option linter.unusedVariables false
set_option linter.unusedSimpArgs false
section
variable {P : Program} {t e : TypeId} {z : Value} {bytes : Nat}
/-- 'out = append(out, x)', and where the row lies then. -/
theorem wpList_push1c (hE : EI P t e z 1 bytes) {w : World} {ops : Array Oper} {rest : List Oper} {o : Oper} {a : Act} {Q : Exit → Act → World → Prop} {u : Value}
    (hgd : o.guard = none) (s x : Operand)
    (ho : o.op = .call { callee := .builtin .append, args := #[s, x], argTypes := #[t, t] })
    {B : Nat} {v : Value} {n : Nat} {xs : List Value} (hown : w.ownsRow B e 1 v n xs) (hs : a.eval s = v)
    (hx : a.eval x = .slice (some ⟨w.heap.size, 0, none⟩) 1 1) (h1 : u.oneCell' = true)
    (hn : n + 1 ≤ maxLen) (hbytes : (n + 1) * bytes ≤ 140737488355328) (hbase : B ≤ w.heap.size)
    (K : ∀ v' w', w'.ownsRow B e 1 v' (n + 1) (xs ++ [u]) → w.grownBy w' v.ownBlock → Below B w w' → (v'.ownBlock = v.ownBlock ∨ ∀ k, v'.ownBlock = some k → w.heap.size ≤ k) → wpList P ops Q rest (a.put o.dst v') w') :
    wpList P ops Q (o :: rest) a (w.alloc (.cells #[u] e)) := by
  obtain ⟨ht, hinfo, hzs, hsz⟩ := hE
  obtain ⟨i0, hi, hz0, hz1, hz2⟩ := info_parts hinfo
  refine wpList_append_own_at _ hgd s x t ho B e i0 z 1 bytes ht hi hz0 hz1 hz2 hzs hsz v n xs hs (hown.alloc _) ⟨w.heap.size, 0, none⟩ 1 1 [u] hx rfl ?_ (by simpa using h1) hn hbytes (by simp; omega) ?_
  · intro j u2 hj
    have hadd : (⟨w.heap.size, 0, none⟩ : Addr).add j = ⟨w.heap.size, j, none⟩ := by unfold Addr.add; split <;> simp_all
    rw [hadd, cell_of_row _ w.heap.size j #[u] e (0, 0) (heap_alloc_new w _)]
    simpa using hj
  · intro v' w' h2 h3 _ g4
    have h4 : w.grownBy w' v.ownBlock := by
      have := World.grownBy_alloc w (.cells #[u] e) none
      exact ⟨h3.os.trans this.os, h3.tape.trans this.tape, h3.output.trans this.output, Nat.le_trans this.size h3.size, fun k hk hne => by
        rw [h3.block k (by simp; omega) hne]; exact this.block k hk (by simp)⟩
    refine K v' w' h2 h4 ((Below.refl _ _).grown h4 hbase fun k hk => (hown.lt k hk).1) ?_
    rcases g4 with h | h
    · exact .inl h
    · refine .inr fun k hk => ?_
      rw [h] at hk
      have hsz' : (w.alloc (.cells #[u] e)).heap.size = w.heap.size + 1 := by simp
      rw [hsz', Option.some.injEq] at hk
      omega
end
theorem M.pieces (c : UInt8) (s : ByteArray) : (Lib.splitB ⟨#[c]⟩ 0 (Lib.countB s ⟨#[c]⟩) s).map (fun x => x.data.toList) = M.splitBy c s.data.toList := by
  have h := Lib.splitB_data ⟨#[c]⟩ 0 (Lib.countB s ⟨#[c]⟩) s
  rw [show (fun x : ByteArray => x.data.toList) = (·.data.toList) from rfl, h]
  exact M.splitK_eq c _ _ (Lib.count_one c s.data.toList).symm
theorem M.strs_of (ps : List ByteArray) : ps.map Value.string = M.strs (ps.map fun x => x.data.toList) := by
  rw [M.strs, List.map_map]
  refine List.map_congr_left fun x _ => ?_
  show Value.string x = Value.string ⟨x.data.toList.toArray⟩
  rw [M.bs_mk']
theorem impl_Split (s : ByteArray) (c : UInt8) (w : World) (hs : s.size ≤ 1000000000) (hL : LAD w) :
    Calls Tryd.prog 77 #[.string s, .string ⟨#[c]⟩] w fun e w' => e = .returned (.slice (some ⟨w.heap.size, 0, none⟩) (M.splitBy c s.data.toList).length (M.splitBy c s.data.toList).length) ∧
      w'.ownsRow w.heap.size 9 1 (.slice (some ⟨w.heap.size, 0, none⟩) (M.splitBy c s.data.toList).length (M.splitBy c s.data.toList).length) (M.splitBy c s.data.toList).length (M.strs (M.splitBy c s.data.toList)) ∧ Below w.heap.size w w' ∧ w.heap.size < w'.heap.size := by
  obtain ⟨m, hm⟩ := hL.2.1
  have hlen : (M.splitBy c s.data.toList).length = Lib.countB s ⟨#[c]⟩ + 1 := by
    rw [← M.pieces, List.length_map]
    exact Lib.splitB_all ⟨#[c]⟩ (Nat.le_refl 1) 0 _ s rfl
  have hc : Lib.countB s ⟨#[c]⟩ ≤ s.size := Lib.countB_le ⟨#[c]⟩ (Nat.le_refl 1) s.size s (Nat.le_refl _)
  refine (Tryd.strings_Split s ⟨#[c]⟩ m w (by omega) hm (Nat.le_refl 1)).mono fun e w' h => ?_
  obtain ⟨rfl, rfl⟩ := h
  rw [hlen]
  refine ⟨rfl, ?_, (Below.refl _ _).alloc (Nat.le_refl _) _, by simp⟩
  rw [M.strs_of, M.pieces]
  refine ⟨by rw [M.strs_len, hlen, Nat.mul_one], .inr ⟨w.heap.size, Lib.countB s ⟨#[c]⟩ + 1, (M.strs (M.splitBy c s.data.toList)).toArray, rfl, Nat.le_refl _, heap_alloc_new w _, Nat.le_refl _, by unfold maxLen; omega, by simp [M.strs_len, hlen], ?_⟩⟩
  simp only [Nat.mul_one]
  exact (List.take_of_length_le (by rw [M.strs_len, hlen]; exact Nat.le_refl _))
theorem M.words_take {ps : List (List UInt8)} {k : Nat} {x : List UInt8} (h : ps[k]? = some x) : (ps.take (k + 1)).filter (fun w => !w.isEmpty) = (ps.take k).filter (fun w => !w.isEmpty) ++ (if x = [] then [] else [x]) := by
  rw [M.take_at h, List.filter_append]
  cases x <;> simp
theorem impl_SplitWords (s : ByteArray) (w : World) (hs : s.size ≤ 1000000000) (hL : LAD w) :
    Calls Tryd.prog 46 #[.string s] w fun e w' => ∃ v, e = .returned v ∧ w'.ownsRow w.heap.size 9 1 v (M.wordsOf s.data.toList).length (M.strs (M.wordsOf s.data.toList)) ∧ Below w.heap.size w w' := by
  have B0 : Below w.heap.size w (w.alloc (.cells #[] 9)) := (Below.refl _ _).alloc (Nat.le_refl _) _
  have sz0 : (w.alloc (.cells #[] 9)).heap.size = w.heap.size + 1 := by simp
  have hS := impl_Split s 32 _ hs (hL.on B0)
  have own0 : (w.alloc (.cells #[] 9)).ownsRow w.heap.size 9 1 (.slice (some ⟨w.heap.size, 0, none⟩) 0 0) 0 [] := World.ownsRow_made _ _ _ (Nat.le_refl _) (by simp [maxLen]) rfl
  obtain ⟨ps, hps⟩ : ∃ ps, ps = M.splitBy 32 s.data.toList := ⟨_, rfl⟩
  have hpl : ps.length ≤ s.size + 1 := by
    have h1 : ps.length = Lib.countB s ⟨#[32]⟩ + 1 := by
      rw [hps, ← M.pieces, List.length_map]
      exact Lib.splitB_all ⟨#[32]⟩ (Nat.le_refl 1) 0 _ s rfl
    have := Lib.countB_le ⟨#[32]⟩ (Nat.le_refl 1) s.size s (Nat.le_refl _)
    omega
  rw [← hps] at hS
  have HPS := Lib.hid hps
  have HS := Lib.hid hS
  have SZ0 := Lib.hid sz0
  clear hps hS sz0 hL
  go_enter Tryd.func46, Tryd.ntmps46
  go_wp2_with (go_at_call 77; refine HS.out.mono ?_; rintro e w2 ⟨rfl, ownp, b2, hlt2⟩)
  rw [SZ0.out] at ownp hlt2
  have own2 := own_below own0 b2
  have B2 := bel_trans B0 b2
  clear own0 b2 B0
  go_loopw [3, 10] (fun v i wr => ∃ k : Nat, i = .int .i64 k ∧ k ≤ ps.length ∧ wr.ownsRow w.heap.size 9 1 v ((ps.take k).filter (fun w => !w.isEmpty)).length (M.strs ((ps.take k).filter (fun w => !w.isEmpty))) ∧ Hid (v.ownBlock ≠ some (w.heap.size + 1)) ∧
      wr.ownsRow (w.heap.size + 1) 9 1 (.slice (some ⟨w.heap.size + 1, 0, none⟩) ps.length ps.length) ps.length (M.strs ps) ∧ w.heap.size + 1 < wr.heap.size ∧ Below w.heap.size w wr) (fun _ i _ => ps.length - (intOf i).toNat)
  case atStart => exact ⟨0, rfl, by omega, own2, Lib.hid (by simp [Value.ownBlock]), ownp, hlt2, B2⟩
  case round =>
    clear own2 ownp hlt2 B2
    obtain ⟨k, rfl, hk, own, HO, ownp, hsz, hb⟩ := hrel
    by_cases hlt : k < ps.length
    · have X := Lib.hid (List.getElem?_eq_getElem (l := ps) (i := k) hlt)
      generalize ps[k] = x at X
      have hcell : wr.cell? ⟨w.heap.size + 1, k, none⟩ = some (.string ⟨x.toArray⟩) := by
        have hadd : (⟨w.heap.size + 1, 0, none⟩ : Addr).add k = ⟨w.heap.size + 1, k, none⟩ := by unfold Addr.add; split <;> simp_all
        rw [← hadd]
        exact World.ownsRow.cells ownp (g := w.heap.size + 1) rfl k _ (by simp [M.strs, X.out])
      have HW := Lib.hid (M.words_take X.out)
      have hfl : ((ps.take k).filter (fun w => !w.isEmpty)).length ≤ k := by
        have := List.length_filter_le (fun w : List UInt8 => !w.isEmpty) (ps.take k)
        rw [List.length_take] at this
        omega
      by_cases hx : x = []
      · subst hx
        go_wp2
        go_roundw
        case rel =>
          refine ⟨k + 1, by go_num, by omega, ?_, HO, ownp, hsz, hb⟩
          rw [HW.out, if_pos rfl, List.append_nil]
          exact own
        case measure => simp [intOf]; omega
      · have e1 : (x == []) = false := by simpa using hx
        have HX := Lib.hid hx
        go_wp2_with (at_builtin; refine wpList_push1c ei_str rfl _ _ rfl own rfl rfl rfl (by unfold maxLen; omega) (by omega) hb.size ?_; intro v1 w1 own1 gr1 bel1 pl1)
        go_roundw
        case rel =>
          refine ⟨k + 1, by go_num, by omega, ?_, ?_, ?_, ?_, hb.trans bel1⟩
          · rw [HW.out, if_neg HX.out, List.length_append]
            rw [M.strs_push] at own1
            exact own1
          · refine Lib.hid fun e => ?_
            rcases pl1 with h | h
            · exact HO.out (h ▸ e)
            · have := h _ e; omega
          · exact World.ownsRow.kept ownp gr1 (Or.inr (fun e => HO.out (by rw [← e]; rfl)))
          · have := bel1.size; omega
        case measure => simp [intOf]; omega
    · obtain rfl : k = ps.length := by omega
      go_wp2
      go_ret
      rw [List.take_of_length_le (Nat.le_refl _)] at own
      refine ⟨_, rfl, ?_, hb⟩
      have e : M.wordsOf s.data.toList = ps.filter (fun w => !w.isEmpty) := by rw [M.wordsOf, ← HPS.out]
      rw [e]
      exact own
end Go.Proofs.YtecdendjlgohjaaDoor
namespace Go.Proofs.YtecdendjlgohjaaDoor
open Go.RowKit Go.Sort
set_option maxHeartbeats 400000
set_option maxRecDepth 100000
end Go.Proofs.YtecdendjlgohjaaDoor
namespace Go.Proofs.YtecdendjlgohjaaDoor
open Go.RowKit Go.Sort
set_option maxHeartbeats 400000
set_option maxRecDepth 100000
end Go.Proofs.YtecdendjlgohjaaDoor
namespace Go.Proofs.YtecdendjlgohjaaDoor
open Go.RowKit Go.Sort
set_option maxHeartbeats 400000
set_option maxRecDepth 100000
end Go.Proofs.YtecdendjlgohjaaDoor
namespace Go.Proofs.YtecdendjlgohjaaDoor
open Go.RowKit Go.Sort
set_option maxHeartbeats 400000
set_option maxRecDepth 100000
end Go.Proofs.YtecdendjlgohjaaDoor
namespace Go.Proofs.YtecdendjlgohjaaDoor
open Go.RowKit Go.Sort
set_option maxHeartbeats 400000
set_option maxRecDepth 100000
end Go.Proofs.YtecdendjlgohjaaDoor
namespace Go.Proofs.YtecdendjlgohjaaDoor
open Go.RowKit
set_option maxHeartbeats 400000
set_option maxRecDepth 100000
section
variable {base s n cap g : Nat} {e : TypeId} {cs : List Value} {w : World}
end
section
variable {α : Type} {enc : α → List Value} {s : Nat}
theorem flat_take (henc : ∀ x, (enc x).length = s) (xs : List α) (k : Nat) : (xs.flatMap enc).take (k * s) = (xs.take k).flatMap enc := by
  induction xs generalizing k with
  | nil => simp
  | cons y ys ih =>
    cases k with
    | zero => simp
    | succ k => rw [List.take_succ_cons, List.flatMap_cons, List.flatMap_cons, ← ih, Nat.succ_mul, Nat.add_comm, List.take_append, henc, List.take_of_length_le (by rw [henc]; omega)]; congr 2; omega
theorem flat_drop (henc : ∀ x, (enc x).length = s) (xs : List α) (k : Nat) : (xs.flatMap enc).drop (k * s) = (xs.drop k).flatMap enc := by
  induction xs generalizing k with
  | nil => simp
  | cons y ys ih =>
    cases k with
    | zero => simp
    | succ k => rw [List.drop_succ_cons, List.flatMap_cons, ← ih, Nat.succ_mul, Nat.add_comm, List.drop_append, henc, List.drop_of_length_le (by rw [henc]; omega), List.nil_append]; congr 1; omega
end
end Go.Proofs.YtecdendjlgohjaaDoor
namespace Go.Proofs.YtecdendjlgohjaaDoor
open Go.RowKit
set_option maxHeartbeats 400000
set_option maxRecDepth 100000
theorem RA.cut {α : Type} {enc : α → List Value} {s B n c k : Nat} {w : World} {A : Option Addr} {xs : List α} (henc : ∀ x, (enc x).length = s) (h : RA enc s w B A n xs) (hk : k ≤ n) (hc : n ≤ c) :
    RA enc s w B (if c = k then A else A.map (·.add (k * s))) (n - k) (xs.drop k) := by
  refine ⟨by rw [List.length_drop, h.1], ?_⟩
  rw [← flat_drop henc]
  exact Reads.cut h.2 hk hc
theorem RA.head {α : Type} {enc : α → List Value} {s B n k : Nat} {w : World} {A : Option Addr} {xs : List α} (henc : ∀ x, (enc x).length = s) (h : RA enc s w B A n xs) (hk : k ≤ n) : RA enc s w B A k (xs.take k) := by
  refine ⟨by rw [List.length_take, h.1]; omega, by rw [flat_len henc, List.length_take, h.1, Nat.min_eq_left hk], fun h0 => ?_⟩
  obtain ⟨ad, e, hb, hc⟩ := h.2.2 (by omega)
  refine ⟨ad, e, hb, fun j u hu => hc j u ?_⟩
  rw [← flat_take henc, List.getElem?_take] at hu
  split at hu
  · exact hu
  · simp at hu
end Go.Proofs.YtecdendjlgohjaaDoor
namespace Go.Proofs.YtecdendjlgohjaaDoor
open Go.RowKit
set_option maxHeartbeats 400000
set_option maxRecDepth 100000
end Go.Proofs.YtecdendjlgohjaaDoor
namespace Go.Proofs.YtecdendjlgohjaaDoor
open Go.RowKit Go.Sort
set_option maxHeartbeats 4000000
set_option maxRecDepth 100000
/-- The points that a list of words spells. -/
def M.ptsOf (ws : List (List UInt8)) : List (Int × Int) := ws.filterMap M.ptS
theorem M.pts_next {ws : List (List UInt8)} {k : Nat} {x : List UInt8} {p : Int × Int} (h : ws[k]? = some x) (hp : M.ptS x = some p) : M.ptsOf (ws.take (k + 1)) = M.ptsOf (ws.take k) ++ [p] := by
  rw [M.ptsOf, M.take_at h, List.filterMap_append]
  simp [M.ptsOf, hp]
theorem M.pts_le (ws : List (List UInt8)) (k : Nat) : (M.ptsOf (ws.take k)).length ≤ k := by
  have h1 := List.length_filterMap_le M.ptS (ws.take k)
  rw [List.length_take] at h1
  have : (M.ptsOf (ws.take k)).length = ((ws.take k).filterMap M.ptS).length := rfl
  omega
theorem M.splitBy_le (c : UInt8) : ∀ (l x : List UInt8), x ∈ M.splitBy c l → x.length ≤ l.length
  | [], x, h => by
    rw [M.splitBy, List.mem_singleton] at h
    rw [h]; exact Nat.le_refl _
  | b :: l, x, h => by
    have hne := M.splitBy_ne c l
    rw [M.splitBy] at h
    have ih := M.splitBy_le c l
    cases hx : M.splitBy c l with
    | nil => exact absurd hx hne
    | cons a r =>
      rw [hx] at h ih
      split at h
      · rcases List.mem_cons.1 h with rfl | h
        · simp
        · have := ih x h; rw [List.length_cons]; omega
      · rcases List.mem_cons.1 h with rfl | h
        · have := ih a (by simp); simp only [List.headD_cons, List.length_cons]; omega
        · have := ih x (List.mem_cons_of_mem _ h); rw [List.length_cons]; omega
theorem M.words_len {L x : List UInt8} (h : x ∈ M.wordsOf L) : x.length ≤ L.length := M.splitBy_le 32 L x (List.mem_filter.1 h).1
theorem M.cut_le (x : List UInt8) : (Lib.cut x [61]).1.length ≤ x.length ∧ (Lib.cut x [61]).2.1.length ≤ x.length := by
  unfold Lib.cut
  split
  · simp only [List.length_take, List.length_drop]; omega
  · simp
theorem M.numB_mk (l : List UInt8) : M.numB ⟨l.toArray⟩ = M.num l := by simp [M.numB]
theorem M.readI_no {L x : List UInt8} (V : List (Int × Int) → Bool) (h : x ∈ M.wordsOf L) (hx : M.ptS x = none) : M.readI V L = none := by
  unfold M.readI
  rw [if_neg]
  intro hc
  have := List.all_eq_true.1 hc.1 x h
  rw [hx] at this
  cases this
/-- What impl.ReadCurve hands back. -/
def RetRC (w : World) (r : Option (List (Int × Int))) (en : Ending) (w' : World) : Prop :=
  ∃ v, en = .returned (.tuple #[.agg #[v], .bool r.isSome]) ∧ OA pt 52 2 w.heap.size w'.heap.size w' v (r.getD []) ∧ Below w.heap.size w w'
theorem impl_ReadCurve (s : ByteArray) (w : World) (hs : s.size ≤ 100000000) (hL : LAD w) :
    Calls Tryd.prog 18 #[.string s] w (RetRC w (M.readI M.curveOk s.data.toList)) := by
  obtain ⟨W1, hW1⟩ : ∃ W1, W1 = (w.alloc (.cells #[.slice none 0 0] 29)).alloc (.cells #[.slice none 0 0] 29) := ⟨_, rfl⟩
  have B1 : Below w.heap.size w W1 := by rw [hW1]; exact ((Below.refl _ _).alloc (Nat.le_refl _) _).alloc (by simp) _
  have z1 : W1.heap.size = w.heap.size + 2 := by rw [hW1]; simp
  have r0 : W1.cell? ⟨w.heap.size, 0, none⟩ = some (.slice none 0 0) := by rw [hW1]; simp [go_sem]
  have r1 : W1.cell? ⟨w.heap.size + 1, 0, none⟩ = some (.slice none 0 0) := by rw [hW1]; simp [go_sem]
  have f0 : W1.frozen? ⟨w.heap.size, 0, none⟩ = false := by rw [hW1]; simp [go_sem]
  have f1 : W1.frozen? ⟨w.heap.size + 1, 0, none⟩ = false := by rw [hW1]; simp [go_sem]
  have HW1 := Lib.hid hW1
  have Z1 := Lib.hid z1
  have hS := Lib.hid (impl_SplitWords s W1 (by omega) (hL.on B1))
  clear hW1 z1
  go_enter Tryd.func18, Tryd.ntmps18
  go_wp2_with fail
  rw [← HW1.out]
  refine hS.out.mono ?_
  rintro e W3 ⟨vw, rfl, ownw, b3⟩
  obtain ⟨ws, hws⟩ : ∃ ws, ws = M.wordsOf s.data.toList := ⟨_, rfl⟩
  rw [← hws] at ownw
  have HWS := Lib.hid hws
  obtain ⟨A, c, rfl, -, -, hrd⟩ := own_shape ownw
  have B3 := bel_trans B1 b3
  have s3 : w.heap.size + 2 ≤ W3.heap.size := by have := b3.size; have := Z1.out; omega
  have R0 : W3.cell? ⟨w.heap.size, 0, none⟩ = some (.slice none 0 0) := by rw [b3.cell (by simp [Z1.out])]; exact r0
  have R1 : W3.cell? ⟨w.heap.size + 1, 0, none⟩ = some (.slice none 0 0) := by rw [b3.cell (by simp [Z1.out])]; exact r1
  have F0 : W3.frozen? ⟨w.heap.size, 0, none⟩ = false := by rw [b3.frozen (by simp [Z1.out])]; exact f0
  have F1 : W3.frozen? ⟨w.heap.size + 1, 0, none⟩ = false := by rw [b3.frozen (by simp [Z1.out])]; exact f1
  have hwl : ws.length ≤ s.size + 1 := by
    have h1 := List.length_filter_le (fun w : List UInt8 => !w.isEmpty) (M.splitBy 32 s.data.toList)
    have h2 : (M.splitBy 32 s.data.toList).length = Lib.countB s ⟨#[32]⟩ + 1 := by
      rw [← M.pieces, List.length_map]
      exact Lib.splitB_all ⟨#[32]⟩ (Nat.le_refl 1) 0 _ s rfl
    have h3 := Lib.countB_le ⟨#[32]⟩ (Nat.le_refl 1) s.size s (Nat.le_refl _)
    have h4 : ws.length = ((M.splitBy 32 s.data.toList).filter (fun w => !w.isEmpty)).length := by rw [hws]; rfl
    omega
  have HL := Lib.hid hL
  have NB := Lib.hid (show ∀ ad : Addr, A = some ad → ad.block ≠ w.heap.size + 1 from fun ad h => by
    subst h
    have h1 := ownw.lt ad.block
    rcases ownw.2 with ⟨h2, -⟩ | ⟨g, cap, cur, h2, h3, -⟩
    · cases h2
    · simp only [Value.slice.injEq, Option.some.injEq] at h2
      rw [h2.1]
      have := Z1.out
      show g ≠ _
      omega)
  clear hws ownw b3 r0 r1 f0 f1 B1 hS hL
  generalize hN : ws.length = N at hrd hwl ⊢
  go_wp2_with fail
  go_loopw [18] (fun i wr => ∃ (k : Nat) (v : Value), i = .int .i64 k ∧ k ≤ N ∧ wr.cell? ⟨w.heap.size + 1, 0, none⟩ = some v ∧ wr.ownsRow W3.heap.size 52 2 v (M.ptsOf (ws.take k)).length ((M.ptsOf (ws.take k)).flatMap pt) ∧ Hid (∀ j x, j < k → ws[j]? = some x → (M.ptS x).isSome = true) ∧
      Hid (∀ p : Addr, p.block < W3.heap.size → p.block ≠ w.heap.size + 1 → wr.cell? p = W3.cell? p) ∧ Hid (∀ p : Addr, p.block < W3.heap.size → wr.frozen? p = W3.frozen? p) ∧ W3.heap.size ≤ wr.heap.size ∧ Below w.heap.size w wr) (fun i _ => N - (intOf i).toNat)
  case atStart => exact ⟨0, _, rfl, by omega, R1, World.ownsRow_nil _ _ _ _, Lib.hid (by omega), Lib.hid (fun _ _ _ => rfl), Lib.hid (fun _ _ => rfl), Nat.le_refl _, B3⟩
  case round =>
    obtain ⟨k, v, rfl, hk, hv, own, HP, KC, KF, hsz, hb⟩ := hrel
    by_cases hlt : k < N
    · have X := Lib.hid (List.getElem?_eq_getElem (l := ws) (i := k) (by omega))
      generalize ws[k]'(by omega) = x at X
      obtain ⟨ad, rfl, hab, hcell⟩ := hrd.2 (by omega)
      have hcx : wr.cell? (ad.add k) = some (.string ⟨x.toArray⟩) := by
        rw [KC.out (ad.add k) (by rw [block_of_add]; exact hab) (by rw [block_of_add]; exact NB.out ad rfl)]
        exact hcell k _ (by simp [M.strs, X.out])
      have hLr : LAD wr := HL.out.on hb
      obtain ⟨m, hm⟩ := hLr.2.1
      have hxs : x.length ≤ s.size := by
        have h1 := M.words_len (L := s.data.toList) (x := x) (by rw [← HWS.out]; exact List.mem_of_getElem? X.out)
        rw [← Lib.size_eq] at h1
        exact h1
      have hcl := M.cut_le x
      have hpt := M.ptI_eq x
      have hC := Tryd.strings_Cut ⟨x.toArray⟩ ⟨#[61]⟩ m wr (by rw [show (⟨x.toArray⟩ : ByteArray).size = x.length by simp [ByteArray.size]]; omega) hm
      rw [show (⟨x.toArray⟩ : ByteArray).data.toList = x by simp, show (⟨#[61]⟩ : ByteArray).data.toList = [61] from rfl] at hC
      unfold M.ptI at hpt
      obtain ⟨⟨a, b, t⟩, hcut⟩ : ∃ r, Lib.cut x [61] = r := ⟨_, rfl⟩
      rw [hcut] at hcl hpt hC
      have HCU := Lib.hid hC
      have HPT := Lib.hid hpt
      have da : ∀ u, Below w.heap.size w u → Calls Tryd.prog 48 #[.string ⟨a.toArray⟩] u fun e w' => e = .returned (.tuple #[.int .i64 ((M.num a).getD 0), .bool (M.num a).isSome]) ∧ Below u.heap.size u w' := fun u hu => by
        have := impl_ReadDecimal ⟨a.toArray⟩ (by rw [show (⟨a.toArray⟩ : ByteArray).size = a.length by simp [ByteArray.size]]; have := hcl.1; simp at this; omega) u (HL.out.on hu)
        rwa [M.numB_mk] at this
      have db : ∀ u, Below w.heap.size w u → Calls Tryd.prog 48 #[.string ⟨b.toArray⟩] u fun e w' => e = .returned (.tuple #[.int .i64 ((M.num b).getD 0), .bool (M.num b).isSome]) ∧ Below u.heap.size u w' := fun u hu => by
        have := impl_ReadDecimal ⟨b.toArray⟩ (by rw [show (⟨b.toArray⟩ : ByteArray).size = b.length by simp [ByteArray.size]]; have := hcl.2; simp at this; omega) u (HL.out.on hu)
        rwa [M.numB_mk] at this
      have DA := Lib.hid da
      have DB := Lib.hid db
      clear da db hC hpt hcl hm hcut hLr hcell
      have R0r : wr.cell? ⟨w.heap.size, 0, none⟩ = some (.slice none 0 0) := by rw [KC.out _ (by show w.heap.size < _; omega) (by show w.heap.size ≠ _; omega)]; exact R0
      have F0r : wr.frozen? ⟨w.heap.size, 0, none⟩ = false := by rw [KF.out _ (by show w.heap.size < _; omega)]; exact F0
      have F1r : wr.frozen? ⟨w.heap.size + 1, 0, none⟩ = false := by rw [KF.out _ (by show w.heap.size + 1 < _; omega)]; exact F1
      cases ha : M.num a with
      | none =>
        cases hbn : M.num b with
        | none =>
          rw [ha] at DA; rw [hbn] at DB
          have NO := Lib.hid (M.readI_no M.curveOk (by rw [← HWS.out]; exact List.mem_of_getElem? X.out) (show M.ptS x = none by rw [← HPT.out, ha, hbn]; rfl))
          clear ha hbn
          go_wp2_with (first | (go_at_call 47; refine HCU.out.mono ?_; rintro e w4 ⟨rfl, nn, rfl⟩; have B4 : Below w.heap.size w (wr.drewN nn) := below_drewN hb nn; have D4 : Below wr.heap.size wr (wr.drewN nn) := below_drewN (Below.refl _ _) nn) | (go_at_call 48; with_reducible refine (DA.out _ B4).mono ?_; rintro e u1 ⟨rfl, d1⟩; have B5 := bel_trans B4 d1; have D5 := bel_trans D4 d1) | (go_at_call 48; with_reducible refine (DB.out _ B5).mono ?_; rintro e u2 ⟨rfl, d2⟩; have B6 := bel_trans B5 d2; have D6 := bel_trans D5 d2; have rR : u2.cell? ⟨w.heap.size, 0, none⟩ = some (.slice none 0 0) := (by rw [D6.cell (by show w.heap.size < _; omega)]; exact R0r); have fR : u2.frozen? ⟨w.heap.size, 0, none⟩ = false := (by rw [D6.frozen (by show w.heap.size < _; omega)]; exact F0r)))
          refine bodyPost_ret (v := .tuple #[.agg #[.slice none 0 0], .bool false]) (by simp [results, Tryd.results18, go_sem, rR, fR]) rfl ?_
          rw [NO.out]
          exact ⟨_, rfl, OA.nil _, B6.setCell (Nat.le_refl _) _⟩
        | some yb =>
          rw [ha] at DA; rw [hbn] at DB
          have NO := Lib.hid (M.readI_no M.curveOk (by rw [← HWS.out]; exact List.mem_of_getElem? X.out) (show M.ptS x = none by rw [← HPT.out, ha, hbn]; rfl))
          clear ha hbn
          go_wp2_with (first | (go_at_call 47; refine HCU.out.mono ?_; rintro e w4 ⟨rfl, nn, rfl⟩; have B4 : Below w.heap.size w (wr.drewN nn) := below_drewN hb nn; have D4 : Below wr.heap.size wr (wr.drewN nn) := below_drewN (Below.refl _ _) nn) | (go_at_call 48; with_reducible refine (DA.out _ B4).mono ?_; rintro e u1 ⟨rfl, d1⟩; have B5 := bel_trans B4 d1; have D5 := bel_trans D4 d1) | (go_at_call 48; with_reducible refine (DB.out _ B5).mono ?_; rintro e u2 ⟨rfl, d2⟩; have B6 := bel_trans B5 d2; have D6 := bel_trans D5 d2; have rR : u2.cell? ⟨w.heap.size, 0, none⟩ = some (.slice none 0 0) := (by rw [D6.cell (by show w.heap.size < _; omega)]; exact R0r); have fR : u2.frozen? ⟨w.heap.size, 0, none⟩ = false := (by rw [D6.frozen (by show w.heap.size < _; omega)]; exact F0r)))
          refine bodyPost_ret (v := .tuple #[.agg #[.slice none 0 0], .bool false]) (by simp [results, Tryd.results18, go_sem, rR, fR]) rfl ?_
          rw [NO.out]
          exact ⟨_, rfl, OA.nil _, B6.setCell (Nat.le_refl _) _⟩
      | some xa =>
        cases hbn : M.num b with
        | none =>
          rw [ha] at DA; rw [hbn] at DB
          have NO := Lib.hid (M.readI_no M.curveOk (by rw [← HWS.out]; exact List.mem_of_getElem? X.out) (show M.ptS x = none by rw [← HPT.out, ha, hbn]; rfl))
          clear ha hbn
          go_wp2_with (first | (go_at_call 47; refine HCU.out.mono ?_; rintro e w4 ⟨rfl, nn, rfl⟩; have B4 : Below w.heap.size w (wr.drewN nn) := below_drewN hb nn; have D4 : Below wr.heap.size wr (wr.drewN nn) := below_drewN (Below.refl _ _) nn) | (go_at_call 48; with_reducible refine (DA.out _ B4).mono ?_; rintro e u1 ⟨rfl, d1⟩; have B5 := bel_trans B4 d1; have D5 := bel_trans D4 d1) | (go_at_call 48; with_reducible refine (DB.out _ B5).mono ?_; rintro e u2 ⟨rfl, d2⟩; have B6 := bel_trans B5 d2; have D6 := bel_trans D5 d2; have rR : u2.cell? ⟨w.heap.size, 0, none⟩ = some (.slice none 0 0) := (by rw [D6.cell (by show w.heap.size < _; omega)]; exact R0r); have fR : u2.frozen? ⟨w.heap.size, 0, none⟩ = false := (by rw [D6.frozen (by show w.heap.size < _; omega)]; exact F0r)))
          refine bodyPost_ret (v := .tuple #[.agg #[.slice none 0 0], .bool false]) (by simp [results, Tryd.results18, go_sem, rR, fR]) rfl ?_
          rw [NO.out]
          exact ⟨_, rfl, OA.nil _, B6.setCell (Nat.le_refl _) _⟩
        | some yb =>
          rw [ha] at DA; rw [hbn] at DB
          have HS := Lib.hid (show M.ptS x = some (xa, yb) by rw [← HPT.out, ha, hbn]; rfl)
          have HP2 := Lib.hid (M.pts_next X.out HS.out)
          have hpl := M.pts_le ws k
          obtain ⟨A4, c4, rfl, -, -, -⟩ := own_shape own
          clear ha hbn
          go_wp2_with (first | (go_at_call 47; refine HCU.out.mono ?_; rintro e w4 ⟨rfl, nn, rfl⟩; have B4 : Below w.heap.size w (wr.drewN nn) := below_drewN hb nn; have D4 : Below wr.heap.size wr (wr.drewN nn) := below_drewN (Below.refl _ _) nn) | (go_at_call 48; with_reducible refine (DA.out _ B4).mono ?_; rintro e u1 ⟨rfl, d1⟩; have B5 := bel_trans B4 d1; have D5 := bel_trans D4 d1) | (go_at_call 48; with_reducible refine (DB.out _ B5).mono ?_; rintro e u2 ⟨rfl, d2⟩; have B6 := bel_trans B5 d2; have D6 := bel_trans D5 d2; have rR : u2.cell? ⟨w.heap.size, 0, none⟩ = some (.slice none 0 0) := (by rw [D6.cell (by show w.heap.size < _; omega)]; exact R0r); have fR : u2.frozen? ⟨w.heap.size, 0, none⟩ = false := (by rw [D6.frozen (by show w.heap.size < _; omega)]; exact F0r); have own4 := own_below own D6; have hv4 : u2.cell? ⟨w.heap.size + 1, 0, none⟩ = some (.slice A4 (M.ptsOf (ws.take k)).length c4) := (by rw [D6.cell (by show w.heap.size + 1 < _; omega)]; exact hv); have f14 : u2.frozen? ⟨w.heap.size + 1, 0, none⟩ = false := (by rw [D6.frozen (by show w.heap.size + 1 < _; omega)]; exact F1r)) | (at_builtin; refine wpList_push ei_pt _ rfl _ _ rfl own4 rfl rfl rfl (by simp [Value.oneCell']) (by unfold maxLen; omega) (by omega) (by have := D6.size; omega) ?_; intro v1 w1 own1 gr1 bel1; obtain ⟨A5, c5, rfl, -⟩ := own_shape own1; have e0 : w1.cell? ⟨w.heap.size + 1, 0, none⟩ = some (.slice A4 (M.ptsOf (ws.take k)).length c4) := (by rw [bel1.cell (by show w.heap.size + 1 < _; omega)]; exact hv4); have e1 : w1.frozen? ⟨w.heap.size + 1, 0, none⟩ = false := (by rw [bel1.frozen (by show w.heap.size + 1 < _; omega)]; exact f14)))
          go_roundw
          case rel =>
            have s6 := D6.size
            have s7 := bel1.size
            refine ⟨k + 1, .slice A5 ((M.ptsOf (ws.take k)).length + 1) c5, by go_num, by omega, by simp [go_sem, e0, e1], ?_, Lib.hid (fun j x' hj hx' => ?_), Lib.hid (fun p h1 h2 => ?_), Lib.hid (fun p h1 => ?_), by simp; omega, ?_⟩
            · rw [HP2.out, List.length_append, List.flatMap_append]
              exact World.ownsRow.kept own1 (grown_setCell w1 (w.heap.size + 1) 0 _) (.inr (fun e => by have := (own1.lt _ e).1; omega))
            · rcases Nat.lt_or_ge j k with h3 | h3
              · exact HP.out j x' h3 hx'
              · obtain rfl : j = k := by omega
                rw [X.out] at hx'
                rw [← Option.some.inj hx', HS.out]; rfl
            · rw [World.cell?_setCell_far _ _ _ _ (fun e => h2 e.symm), bel1.cell h1, D6.cell (by omega), KC.out p h1 h2]
            · rw [World.frozen?_setCell, bel1.frozen h1, D6.frozen (by omega), KF.out p h1]
            · exact (B6.trans (bel1.mono (by omega))).setCell (by simp) _
          case measure => simp [intOf]; omega
    · have hkN : k = N := by omega
      have htk : ws.take k = ws := List.take_of_length_le (by omega)
      rw [htk] at own
      have hall : ws.all (fun w => (M.ptS w).isSome) = true := by
        rw [List.all_eq_true]
        intro x hx
        obtain ⟨j, hj, rfl⟩ := List.mem_iff_getElem.1 hx
        exact HP.out j _ (by omega) (List.getElem?_eq_getElem hj)
      have hpl : (M.ptsOf ws).length ≤ N := by have := M.pts_le ws k; rw [htk] at this; omega
      obtain ⟨pts, hpts⟩ : ∃ pts, pts = M.ptsOf ws := ⟨_, rfl⟩
      rw [← hpts] at own hpl
      have hRI : M.readI M.curveOk s.data.toList = if M.curveOk pts = true ∧ M.cvText pts = s.data.toList then some pts else none := by
        unfold M.readI
        rw [← HWS.out, hpts]
        show (if _ ∧ M.curveOk (M.ptsOf ws) = true ∧ M.cvText (M.ptsOf ws) = _ then some (M.ptsOf ws) else none) = _
        rw [hall]
        simp
      have HRI := Lib.hid hRI
      obtain ⟨A4, c4, rfl, -, -, hrd4⟩ := own_shape own
      have ra : RA pt 2 wr wr.heap.size A4 pts.length pts := ⟨rfl, hrd4⟩
      have R0r : wr.cell? ⟨w.heap.size, 0, none⟩ = some (.slice none 0 0) := by rw [KC.out _ (by show w.heap.size < _; omega) (by show w.heap.size ≠ _; omega)]; exact R0
      have F0r : wr.frozen? ⟨w.heap.size, 0, none⟩ = false := by rw [KF.out _ (by show w.heap.size < _; omega)]; exact F0
      have hI := impl_isCurve A4 pts.length c4 pts wr ra (by omega)
      have hT : ∀ u, Below wr.heap.size wr u → Calls Tryd.prog 10 #[.agg #[.slice A4 pts.length c4]] u fun e w' => e = .returned (.string ⟨(M.curveText pts).toArray⟩) ∧ Below u.heap.size u w' := fun u hu => impl_CurveText A4 pts.length c4 pts u (ra.later hu) (by omega) (HL.out.on (bel_trans hb hu)).1
      have HT := Lib.hid hT
      clear hT hrd4 ra hRI hall htk hpts hkN
      cases hok : M.curveOk pts with
      | false =>
        have NO := Lib.hid (show M.readI M.curveOk s.data.toList = none by rw [HRI.out, hok, if_neg (by simp)])
        rw [hok] at hI
        have HI := Lib.hid hI
        clear hok hI
        go_wp2_with (go_at_call 34; refine HI.out.mono ?_; rintro e u1 ⟨rfl, d1⟩; have B5 := bel_trans hb d1; have rR : u1.cell? ⟨w.heap.size, 0, none⟩ = some (.slice none 0 0) := (by rw [d1.cell (by show w.heap.size < _; omega)]; exact R0r); have fR : u1.frozen? ⟨w.heap.size, 0, none⟩ = false := (by rw [d1.frozen (by show w.heap.size < _; omega)]; exact F0r))
        refine bodyPost_ret (v := .tuple #[.agg #[.slice none 0 0], .bool false]) (by simp [results, Tryd.results18, go_sem, rR, fR]) rfl ?_
        rw [NO.out]
        exact ⟨_, rfl, OA.nil _, B5.setCell (Nat.le_refl _) _⟩
      | true =>
        rw [hok] at hI
        have HI := Lib.hid hI
        have HTX := Lib.hid (show M.curveText pts = M.cvText pts by rw [M.curveText, if_pos hok])
        by_cases ht : M.cvText pts = s.data.toList
        · have YES := Lib.hid (show M.readI M.curveOk s.data.toList = some pts by rw [HRI.out, if_pos ⟨hok, ht⟩])
          have e1 : (M.cvText pts == s.toList) = true := by rw [ByteArray.toList_eq, ht]; exact beq_self_eq_true _
          have e2 : M.cvText pts = s.toList := by rw [ByteArray.toList_eq, ht]
          clear hok hI ht
          go_wp2_with (first | (go_at_call 34; refine HI.out.mono ?_; rintro e u1 ⟨rfl, d1⟩; have B5 := bel_trans hb d1; have v5 : u1.cell? ⟨w.heap.size + 1, 0, none⟩ = some (.slice A4 pts.length c4) := (by rw [d1.cell (by show w.heap.size + 1 < _; omega)]; exact hv)) | (go_at_call 10; refine (HT.out _ d1).mono ?_; rw [HTX.out]; rintro e u2 ⟨rfl, d2⟩; have D6 := bel_trans d1 d2; have B6 := bel_trans B5 d2; have v6 : u2.cell? ⟨w.heap.size + 1, 0, none⟩ = some (.slice A4 pts.length c4) := (by rw [D6.cell (by show w.heap.size + 1 < _; omega)]; exact hv); have rR : u2.cell? ⟨w.heap.size, 0, none⟩ = some (.slice none 0 0) := (by rw [D6.cell (by show w.heap.size < _; omega)]; exact R0r); have fR : u2.frozen? ⟨w.heap.size, 0, none⟩ = false := (by rw [D6.frozen (by show w.heap.size < _; omega)]; exact F0r)))
          refine bodyPost_ret (v := .tuple #[.agg #[.slice A4 pts.length c4], .bool true]) (by simp [results, Tryd.results18, go_sem, rR, fR]) rfl ?_
          rw [YES.out]
          have own6 := own_below own D6
          refine ⟨_, rfl, ?_, B6.setCell (Nat.le_refl _) _⟩
          have own7 := World.ownsRow.kept own6 (grown_setCell u2 w.heap.size 0 (.slice A4 pts.length c4)) (.inr (fun e => by have := (own6.lt _ e).1; omega))
          exact (OX.of_own own7).wide (by omega) (Nat.le_refl _)
        · have NO := Lib.hid (show M.readI M.curveOk s.data.toList = none by rw [HRI.out, if_neg (fun h => ht h.2)])
          have e1 : (M.cvText pts == s.toList) = false := by rw [ByteArray.toList_eq, beq_eq_false_iff_ne]; exact ht
          have e2 : ¬ M.cvText pts = s.toList := by rw [ByteArray.toList_eq]; exact ht
          clear hok hI ht
          go_wp2_with (first | (go_at_call 34; refine HI.out.mono ?_; rintro e u1 ⟨rfl, d1⟩; have B5 := bel_trans hb d1; have v5 : u1.cell? ⟨w.heap.size + 1, 0, none⟩ = some (.slice A4 pts.length c4) := (by rw [d1.cell (by show w.heap.size + 1 < _; omega)]; exact hv)) | (go_at_call 10; refine (HT.out _ d1).mono ?_; rw [HTX.out]; rintro e u2 ⟨rfl, d2⟩; have D6 := bel_trans d1 d2; have B6 := bel_trans B5 d2; have rR : u2.cell? ⟨w.heap.size, 0, none⟩ = some (.slice none 0 0) := (by rw [D6.cell (by show w.heap.size < _; omega)]; exact R0r); have fR : u2.frozen? ⟨w.heap.size, 0, none⟩ = false := (by rw [D6.frozen (by show w.heap.size < _; omega)]; exact F0r)))
          refine bodyPost_ret (v := .tuple #[.agg #[.slice none 0 0], .bool false]) (by simp [results, Tryd.results18, go_sem, rR, fR]) rfl ?_
          rw [NO.out]
          exact ⟨_, rfl, OA.nil _, B6.setCell (Nat.le_refl _) _⟩
end Go.Proofs.YtecdendjlgohjaaDoor
namespace Go.Proofs.YtecdendjlgohjaaDoor
open Go.RowKit Go.Sort
set_option maxHeartbeats 4000000
set_option maxRecDepth 100000
theorem M.readS_no {L x : List UInt8} (V : List (Int × Int) → Bool) (h : x ∈ M.splitBy 32 L) (hx : M.ptS x = none) : M.readS V L = none := by
  unfold M.readS
  rw [if_neg]
  intro hc
  have := List.all_eq_true.1 hc.1 x h
  rw [hx] at this
  cases this
theorem M.ptS_two {x a b : List UInt8} (h : M.splitBy 61 x = [a, b]) : M.ptS x = (M.num a).bind fun y => (M.num b).map fun z => (y, z) := by
  unfold M.ptS; rw [h]
theorem M.ptS_not {x : List UInt8} (h : (M.splitBy 61 x).length ≠ 2) : M.ptS x = none := by
  unfold M.ptS
  split
  · rename_i a b hab; rw [hab] at h; exact absurd rfl h
  · rfl
theorem M.two_of {α : Type} : ∀ {l : List α}, l.length = 2 → ∃ a b, l = [a, b]
  | [a, b], _ => ⟨a, b, rfl⟩
theorem M.split_len (c : UInt8) (s : ByteArray) : (M.splitBy c s.data.toList).length ≤ s.size + 1 := by
  have h1 : (M.splitBy c s.data.toList).length = Lib.countB s ⟨#[c]⟩ + 1 := by
    rw [← M.pieces, List.length_map]
    exact Lib.splitB_all ⟨#[c]⟩ (Nat.le_refl 1) 0 _ s rfl
  have h3 := Lib.countB_le ⟨#[c]⟩ (Nat.le_refl 1) s.size s (Nat.le_refl _)
  omega
theorem M.size_mk (l : List UInt8) : (⟨l.toArray⟩ : ByteArray).size = l.length := by simp [ByteArray.size]
theorem World.ownsRow.form2 {w : World} {B n : Nat} {e : TypeId} {A : Option Addr} {m c : Nat} {cs : List Value} (h : w.ownsRow B e 1 (.slice A m c) n cs) (hn : 0 < n) : ∃ g, A = some ⟨g, 0, none⟩ ∧ B ≤ g ∧ g < w.heap.size := by
  obtain ⟨g, cap, h1, h2, h3⟩ := World.ownsRow.form h hn
  simp only [Value.slice.injEq] at h1
  exact ⟨g, h1.1, h2, h3⟩
theorem spec_num (a : List UInt8) (h : a.length ≤ 1000000000) (u : World) : Calls Tryd.prog 45 #[.string ⟨a.toArray⟩] u fun e w' => e = .returned (.tuple #[.int .i64 ((M.num a).getD 0), .bool (M.num a).isSome]) ∧ Below u.heap.size u w' := by
  have := spec_l01Number ⟨a.toArray⟩ u (by rw [M.size_mk]; exact h)
  rwa [M.numB_mk] at this
theorem spec_ReadCurve (s : ByteArray) (w : World) (hs : s.size ≤ 100000000) :
    Calls Tryd.prog 17 #[.string s] w (RetRC w (M.readS M.curveOk s.data.toList)) := by
  obtain ⟨W1, hW1⟩ : ∃ W1, W1 = (w.alloc (.cells #[.slice none 0 0] 29)).alloc (.cells #[.slice none 0 0] 29) := ⟨_, rfl⟩
  have B1 : Below w.heap.size w W1 := by rw [hW1]; exact ((Below.refl _ _).alloc (Nat.le_refl _) _).alloc (by simp) _
  have z1 : W1.heap.size = w.heap.size + 2 := by rw [hW1]; simp
  have r0 : W1.cell? ⟨w.heap.size, 0, none⟩ = some (.slice none 0 0) := by rw [hW1]; simp [go_sem]
  have r1 : W1.cell? ⟨w.heap.size + 1, 0, none⟩ = some (.slice none 0 0) := by rw [hW1]; simp [go_sem]
  have f0 : W1.frozen? ⟨w.heap.size, 0, none⟩ = false := by rw [hW1]; simp [go_sem]
  have f1 : W1.frozen? ⟨w.heap.size + 1, 0, none⟩ = false := by rw [hW1]; simp [go_sem]
  have HW1 := Lib.hid hW1
  have Z1 := Lib.hid z1
  have hS : Calls Tryd.prog 44 #[.string s, .int .u8 32] W1 _ := spec_l01Split s 32 W1 (by omega)
  have HSP := Lib.hid hS
  clear hW1 z1 hS
  go_enter Tryd.func17, Tryd.ntmps17
  go_wp2_with fail
  rw [← HW1.out]
  refine HSP.out.mono ?_
  rintro e W3 ⟨vw, rfl, ownw, b3⟩
  obtain ⟨ws, hws⟩ : ∃ ws, ws = M.splitBy 32 s.data.toList := ⟨_, rfl⟩
  rw [← hws] at ownw
  have HWS := Lib.hid hws
  obtain ⟨A, c, rfl, -, -, hrd⟩ := own_shape ownw
  have B3 := bel_trans B1 b3
  have s3 : w.heap.size + 2 ≤ W3.heap.size := by have := b3.size; have := Z1.out; omega
  have R0 : W3.cell? ⟨w.heap.size, 0, none⟩ = some (.slice none 0 0) := by rw [b3.cell (by simp [Z1.out])]; exact r0
  have R1 : W3.cell? ⟨w.heap.size + 1, 0, none⟩ = some (.slice none 0 0) := by rw [b3.cell (by simp [Z1.out])]; exact r1
  have F0 : W3.frozen? ⟨w.heap.size, 0, none⟩ = false := by rw [b3.frozen (by simp [Z1.out])]; exact f0
  have F1 : W3.frozen? ⟨w.heap.size + 1, 0, none⟩ = false := by rw [b3.frozen (by simp [Z1.out])]; exact f1
  have hwl : ws.length ≤ s.size + 1 := by rw [hws]; exact M.split_len 32 s
  have NB := Lib.hid (show ∀ ad : Addr, A = some ad → ad.block ≠ w.heap.size + 1 from fun ad h => by
    subst h
    rcases ownw.2 with ⟨h2, -⟩ | ⟨g, cap, cur, h2, h3, -⟩
    · cases h2
    · simp only [Value.slice.injEq, Option.some.injEq] at h2
      rw [h2.1]
      have := Z1.out
      show g ≠ _
      omega)
  clear hws ownw b3 r0 r1 f0 f1 B1
  generalize hN : ws.length = N at hrd hwl ⊢
  go_wp2_with fail
  go_loopw [6] (fun i wr => ∃ (k : Nat) (v : Value), i = .int .i64 k ∧ k ≤ N ∧ wr.cell? ⟨w.heap.size + 1, 0, none⟩ = some v ∧ wr.ownsRow W3.heap.size 52 2 v (M.ptsOf (ws.take k)).length ((M.ptsOf (ws.take k)).flatMap pt) ∧ Hid (∀ j x, j < k → ws[j]? = some x → (M.ptS x).isSome = true) ∧
      Hid (∀ p : Addr, p.block < W3.heap.size → p.block ≠ w.heap.size + 1 → wr.cell? p = W3.cell? p) ∧ Hid (∀ p : Addr, p.block < W3.heap.size → wr.frozen? p = W3.frozen? p) ∧ W3.heap.size ≤ wr.heap.size ∧ Below w.heap.size w wr) (fun i _ => N - (intOf i).toNat)
  case atStart => exact ⟨0, _, rfl, by omega, R1, World.ownsRow_nil _ _ _ _, Lib.hid (by omega), Lib.hid (fun _ _ _ => rfl), Lib.hid (fun _ _ => rfl), Nat.le_refl _, B3⟩
  case round =>
    obtain ⟨k, v, rfl, hk, hv, own, HP, KC, KF, hsz, hb⟩ := hrel
    have R0r : wr.cell? ⟨w.heap.size, 0, none⟩ = some (.slice none 0 0) := by rw [KC.out _ (by show w.heap.size < _; omega) (by show w.heap.size ≠ _; omega)]; exact R0
    have F0r : wr.frozen? ⟨w.heap.size, 0, none⟩ = false := by rw [KF.out _ (by show w.heap.size < _; omega)]; exact F0
    have F1r : wr.frozen? ⟨w.heap.size + 1, 0, none⟩ = false := by rw [KF.out _ (by show w.heap.size + 1 < _; omega)]; exact F1
    by_cases hlt : k < N
    · have X := Lib.hid (List.getElem?_eq_getElem (l := ws) (i := k) (by omega))
      generalize ws[k]'(by omega) = x at X
      obtain ⟨ad, rfl, hab, hcell⟩ := hrd.2 (by omega)
      have hcx : wr.cell? (ad.add k) = some (.string ⟨x.toArray⟩) := by
        rw [KC.out (ad.add k) (by rw [block_of_add]; exact hab) (by rw [block_of_add]; exact NB.out ad rfl)]
        exact hcell k _ (by simp [M.strs, X.out])
      have hmem : x ∈ M.splitBy 32 s.data.toList := by rw [← HWS.out]; exact List.mem_of_getElem? X.out
      have hxs : x.length ≤ s.size := by
        have h1 := M.splitBy_le 32 _ x hmem
        rw [← Lib.size_eq] at h1
        exact h1
      have hS2 : Calls Tryd.prog 44 #[.string ⟨x.toArray⟩, .int .u8 61] wr _ := spec_l01Split ⟨x.toArray⟩ 61 wr (by rw [M.size_mk]; omega)
      rw [show (⟨x.toArray⟩ : ByteArray).data.toList = x by simp] at hS2
      have H2 := Lib.hid hS2
      have HM := Lib.hid (fun h : M.ptS x = none => M.readS_no M.curveOk hmem h)
      clear hS2 hcell hmem
      by_cases hl2 : (M.splitBy 61 x).length = 2
      · obtain ⟨a, b, hab2⟩ := M.two_of hl2
        have hpt := M.ptS_two hab2
        have ha := M.splitBy_le 61 x a (by rw [hab2]; simp)
        have hbl := M.splitBy_le 61 x b (by rw [hab2]; simp)
        have DA := Lib.hid (spec_num a (by omega))
        have DB := Lib.hid (spec_num b (by omega))
        rw [hab2] at H2
        have HPT := Lib.hid hpt
        clear hab2 hl2 hpt
        cases hna : M.num a with
        | none =>
          cases hnb : M.num b with
          | none =>
            rw [hna] at DA; rw [hnb] at DB
            have NO := Lib.hid (HM.out (by rw [HPT.out, hna, hnb]; rfl))
            clear hna hnb
            go_wp2_with (first | (go_at_call 44; refine H2.out.mono ?_; rintro e u0 ⟨vx, rfl, ox, d0⟩; obtain ⟨Ax, cx, rfl, -, -, -⟩ := own_shape ox; obtain ⟨gx, rfl, hgx0, hgx1⟩ := World.ownsRow.form2 ox (by simp); have cx0 : u0.cell? ⟨gx, 0, none⟩ = some (.string ⟨a.toArray⟩) := World.ownsRow.cells ox (g := gx) rfl 0 _ rfl; have cx1 : u0.cell? ⟨gx, 1, none⟩ = some (.string ⟨b.toArray⟩) := World.ownsRow.cells ox (g := gx) rfl 1 _ rfl; have B4 := bel_trans hb d0) | (go_at_call 45; with_reducible refine (DA.out _).mono ?_; rintro e u1 ⟨rfl, d1⟩; have B5 := bel_trans B4 d1; have D5 := bel_trans d0 d1; have cy1 : u1.cell? ⟨gx, 1, none⟩ = some (.string ⟨b.toArray⟩) := (by rw [d1.cell hgx1]; exact cx1)) | (go_at_call 45; with_reducible refine (DB.out _).mono ?_; rintro e u2 ⟨rfl, d2⟩; have B6 := bel_trans B5 d2; have D6 := bel_trans D5 d2; have rR : u2.cell? ⟨w.heap.size, 0, none⟩ = some (.slice none 0 0) := (by rw [D6.cell (by show w.heap.size < _; omega)]; exact R0r); have fR : u2.frozen? ⟨w.heap.size, 0, none⟩ = false := (by rw [D6.frozen (by show w.heap.size < _; omega)]; exact F0r)))
            refine bodyPost_ret (v := .tuple #[.agg #[.slice none 0 0], .bool false]) (by simp [results, Tryd.results17, go_sem, rR, fR]) rfl ?_
            rw [NO.out]
            exact ⟨_, rfl, OA.nil _, B6.setCell (Nat.le_refl _) _⟩
          | some yb =>
            rw [hna] at DA; rw [hnb] at DB
            have NO := Lib.hid (HM.out (by rw [HPT.out, hna, hnb]; rfl))
            clear hna hnb
            go_wp2_with (first | (go_at_call 44; refine H2.out.mono ?_; rintro e u0 ⟨vx, rfl, ox, d0⟩; obtain ⟨Ax, cx, rfl, -, -, -⟩ := own_shape ox; obtain ⟨gx, rfl, hgx0, hgx1⟩ := World.ownsRow.form2 ox (by simp); have cx0 : u0.cell? ⟨gx, 0, none⟩ = some (.string ⟨a.toArray⟩) := World.ownsRow.cells ox (g := gx) rfl 0 _ rfl; have cx1 : u0.cell? ⟨gx, 1, none⟩ = some (.string ⟨b.toArray⟩) := World.ownsRow.cells ox (g := gx) rfl 1 _ rfl; have B4 := bel_trans hb d0) | (go_at_call 45; with_reducible refine (DA.out _).mono ?_; rintro e u1 ⟨rfl, d1⟩; have B5 := bel_trans B4 d1; have D5 := bel_trans d0 d1; have cy1 : u1.cell? ⟨gx, 1, none⟩ = some (.string ⟨b.toArray⟩) := (by rw [d1.cell hgx1]; exact cx1)) | (go_at_call 45; with_reducible refine (DB.out _).mono ?_; rintro e u2 ⟨rfl, d2⟩; have B6 := bel_trans B5 d2; have D6 := bel_trans D5 d2; have rR : u2.cell? ⟨w.heap.size, 0, none⟩ = some (.slice none 0 0) := (by rw [D6.cell (by show w.heap.size < _; omega)]; exact R0r); have fR : u2.frozen? ⟨w.heap.size, 0, none⟩ = false := (by rw [D6.frozen (by show w.heap.size < _; omega)]; exact F0r)))
            refine bodyPost_ret (v := .tuple #[.agg #[.slice none 0 0], .bool false]) (by simp [results, Tryd.results17, go_sem, rR, fR]) rfl ?_
            rw [NO.out]
            exact ⟨_, rfl, OA.nil _, B6.setCell (Nat.le_refl _) _⟩
        | some xa =>
          cases hnb : M.num b with
          | none =>
            rw [hna] at DA; rw [hnb] at DB
            have NO := Lib.hid (HM.out (by rw [HPT.out, hna, hnb]; rfl))
            clear hna hnb
            go_wp2_with (first | (go_at_call 44; refine H2.out.mono ?_; rintro e u0 ⟨vx, rfl, ox, d0⟩; obtain ⟨Ax, cx, rfl, -, -, -⟩ := own_shape ox; obtain ⟨gx, rfl, hgx0, hgx1⟩ := World.ownsRow.form2 ox (by simp); have cx0 : u0.cell? ⟨gx, 0, none⟩ = some (.string ⟨a.toArray⟩) := World.ownsRow.cells ox (g := gx) rfl 0 _ rfl; have cx1 : u0.cell? ⟨gx, 1, none⟩ = some (.string ⟨b.toArray⟩) := World.ownsRow.cells ox (g := gx) rfl 1 _ rfl; have B4 := bel_trans hb d0) | (go_at_call 45; with_reducible refine (DA.out _).mono ?_; rintro e u1 ⟨rfl, d1⟩; have B5 := bel_trans B4 d1; have D5 := bel_trans d0 d1; have cy1 : u1.cell? ⟨gx, 1, none⟩ = some (.string ⟨b.toArray⟩) := (by rw [d1.cell hgx1]; exact cx1)) | (go_at_call 45; with_reducible refine (DB.out _).mono ?_; rintro e u2 ⟨rfl, d2⟩; have B6 := bel_trans B5 d2; have D6 := bel_trans D5 d2; have rR : u2.cell? ⟨w.heap.size, 0, none⟩ = some (.slice none 0 0) := (by rw [D6.cell (by show w.heap.size < _; omega)]; exact R0r); have fR : u2.frozen? ⟨w.heap.size, 0, none⟩ = false := (by rw [D6.frozen (by show w.heap.size < _; omega)]; exact F0r)))
            refine bodyPost_ret (v := .tuple #[.agg #[.slice none 0 0], .bool false]) (by simp [results, Tryd.results17, go_sem, rR, fR]) rfl ?_
            rw [NO.out]
            exact ⟨_, rfl, OA.nil _, B6.setCell (Nat.le_refl _) _⟩
          | some yb =>
            rw [hna] at DA; rw [hnb] at DB
            have HS := Lib.hid (show M.ptS x = some (xa, yb) by rw [HPT.out, hna, hnb]; rfl)
            have HP2 := Lib.hid (M.pts_next X.out HS.out)
            have hpl := M.pts_le ws k
            obtain ⟨A4, c4, rfl, -, -, -⟩ := own_shape own
            clear hna hnb
            go_wp2_with (first | (go_at_call 44; refine H2.out.mono ?_; rintro e u0 ⟨vx, rfl, ox, d0⟩; obtain ⟨Ax, cx, rfl, -, -, -⟩ := own_shape ox; obtain ⟨gx, rfl, hgx0, hgx1⟩ := World.ownsRow.form2 ox (by simp); have cx0 : u0.cell? ⟨gx, 0, none⟩ = some (.string ⟨a.toArray⟩) := World.ownsRow.cells ox (g := gx) rfl 0 _ rfl; have cx1 : u0.cell? ⟨gx, 1, none⟩ = some (.string ⟨b.toArray⟩) := World.ownsRow.cells ox (g := gx) rfl 1 _ rfl; have B4 := bel_trans hb d0) | (go_at_call 45; with_reducible refine (DA.out _).mono ?_; rintro e u1 ⟨rfl, d1⟩; have B5 := bel_trans B4 d1; have D5 := bel_trans d0 d1; have cy1 : u1.cell? ⟨gx, 1, none⟩ = some (.string ⟨b.toArray⟩) := (by rw [d1.cell hgx1]; exact cx1)) | (go_at_call 45; with_reducible refine (DB.out _).mono ?_; rintro e u2 ⟨rfl, d2⟩; have B6 := bel_trans B5 d2; have D6 := bel_trans D5 d2; have rR : u2.cell? ⟨w.heap.size, 0, none⟩ = some (.slice none 0 0) := (by rw [D6.cell (by show w.heap.size < _; omega)]; exact R0r); have fR : u2.frozen? ⟨w.heap.size, 0, none⟩ = false := (by rw [D6.frozen (by show w.heap.size < _; omega)]; exact F0r); have own4 := own_below own D6; have hv4 : u2.cell? ⟨w.heap.size + 1, 0, none⟩ = some (.slice A4 (M.ptsOf (ws.take k)).length c4) := (by rw [D6.cell (by show w.heap.size + 1 < _; omega)]; exact hv); have f14 : u2.frozen? ⟨w.heap.size + 1, 0, none⟩ = false := (by rw [D6.frozen (by show w.heap.size + 1 < _; omega)]; exact F1r)) | (at_builtin; refine wpList_push ei_pt _ rfl _ _ rfl own4 rfl rfl rfl (by simp [Value.oneCell']) (by unfold maxLen; omega) (by omega) (by have := D6.size; omega) ?_; intro v1 w1 own1 gr1 bel1; obtain ⟨A5, c5, rfl, -⟩ := own_shape own1; have e0 : w1.cell? ⟨w.heap.size + 1, 0, none⟩ = some (.slice A4 (M.ptsOf (ws.take k)).length c4) := (by rw [bel1.cell (by show w.heap.size + 1 < _; omega)]; exact hv4); have e1 : w1.frozen? ⟨w.heap.size + 1, 0, none⟩ = false := (by rw [bel1.frozen (by show w.heap.size + 1 < _; omega)]; exact f14)))
            go_roundw
            case rel =>
              have s6 := D6.size
              have s7 := bel1.size
              refine ⟨k + 1, .slice A5 ((M.ptsOf (ws.take k)).length + 1) c5, by go_num, by omega, by simp [go_sem, e0, e1], ?_, Lib.hid (fun j x' hj hx' => ?_), Lib.hid (fun p h1 h2 => ?_), Lib.hid (fun p h1 => ?_), by simp; omega, ?_⟩
              · rw [HP2.out, List.length_append, List.flatMap_append]
                exact World.ownsRow.kept own1 (grown_setCell w1 (w.heap.size + 1) 0 _) (.inr (fun e => by have := (own1.lt _ e).1; omega))
              · rcases Nat.lt_or_ge j k with h3 | h3
                · exact HP.out j x' h3 hx'
                · obtain rfl : j = k := by omega
                  rw [X.out] at hx'
                  rw [← Option.some.inj hx', HS.out]; rfl
              · rw [World.cell?_setCell_far _ _ _ _ (fun e => h2 e.symm), bel1.cell h1, D6.cell (by omega), KC.out p h1 h2]
              · rw [World.frozen?_setCell, bel1.frozen h1, D6.frozen (by omega), KF.out p h1]
              · exact (B6.trans (bel1.mono (by omega))).setCell (by simp) _
            case measure => simp [intOf]; omega
      · have NO := Lib.hid (HM.out (M.ptS_not hl2))
        generalize M.splitBy 61 x = ps at hl2 H2
        generalize hpl : ps.length = q at hl2 H2
        go_wp2_with (go_at_call 44; refine H2.out.mono ?_; rintro e u0 ⟨vx, rfl, ox, d0⟩; obtain ⟨Ax, cx, rfl, -⟩ := own_shape ox; have B4 := bel_trans hb d0; have rR : u0.cell? ⟨w.heap.size, 0, none⟩ = some (.slice none 0 0) := (by rw [d0.cell (by show w.heap.size < _; omega)]; exact R0r); have fR : u0.frozen? ⟨w.heap.size, 0, none⟩ = false := (by rw [d0.frozen (by show w.heap.size < _; omega)]; exact F0r))
        refine bodyPost_ret (v := .tuple #[.agg #[.slice none 0 0], .bool false]) (by simp [results, Tryd.results17, go_sem, rR, fR]) rfl ?_
        rw [NO.out]
        exact ⟨_, rfl, OA.nil _, B4.setCell (Nat.le_refl _) _⟩
    · have hkN : k = N := by omega
      have htk : ws.take k = ws := List.take_of_length_le (by omega)
      rw [htk] at own
      have hall : ws.all (fun w => (M.ptS w).isSome) = true := by
        rw [List.all_eq_true]
        intro x hx
        obtain ⟨j, hj, rfl⟩ := List.mem_iff_getElem.1 hx
        exact HP.out j _ (by omega) (List.getElem?_eq_getElem hj)
      have hpl : (M.ptsOf ws).length ≤ N := by have := M.pts_le ws k; rw [htk] at this; omega
      obtain ⟨pts, hpts⟩ : ∃ pts, pts = M.ptsOf ws := ⟨_, rfl⟩
      rw [← hpts] at own hpl
      have hRI : M.readS M.curveOk s.data.toList = if M.curveOk pts = true then some pts else none := by
        unfold M.readS
        rw [← HWS.out, hpts]
        show (if _ ∧ M.curveOk (M.ptsOf ws) = true then some (M.ptsOf ws) else none) = _
        rw [hall]
        simp
      have HRI := Lib.hid hRI
      obtain ⟨A4, c4, rfl, -, -, hrd4⟩ := own_shape own
      have ra : RA pt 2 wr wr.heap.size A4 pts.length pts := ⟨rfl, hrd4⟩
      have hI := spec_l25Ok (w.heap.size + 1) A4 pts.length c4 pts wr hv ra (by omega)
      clear hrd4 ra hRI hall htk hpts hkN
      cases hok : M.curveOk pts with
      | false =>
        have NO := Lib.hid (show M.readS M.curveOk s.data.toList = none by rw [HRI.out, hok, if_neg (by simp)])
        rw [hok] at hI
        have HI := Lib.hid hI
        clear hok hI
        go_wp2_with (go_at_call 31; refine HI.out.mono ?_; rintro e u1 ⟨rfl, d1⟩; have B5 := bel_trans hb d1; have rR : u1.cell? ⟨w.heap.size, 0, none⟩ = some (.slice none 0 0) := (by rw [d1.cell (by show w.heap.size < _; omega)]; exact R0r); have fR : u1.frozen? ⟨w.heap.size, 0, none⟩ = false := (by rw [d1.frozen (by show w.heap.size < _; omega)]; exact F0r))
        refine bodyPost_ret (v := .tuple #[.agg #[.slice none 0 0], .bool false]) (by simp [results, Tryd.results17, go_sem, rR, fR]) rfl ?_
        rw [NO.out]
        exact ⟨_, rfl, OA.nil _, B5.setCell (Nat.le_refl _) _⟩
      | true =>
        have YES := Lib.hid (show M.readS M.curveOk s.data.toList = some pts by rw [HRI.out, if_pos hok])
        rw [hok] at hI
        have HI := Lib.hid hI
        clear hok hI
        go_wp2_with (go_at_call 31; refine HI.out.mono ?_; rintro e u1 ⟨rfl, d1⟩; have B5 := bel_trans hb d1; have v6 : u1.cell? ⟨w.heap.size + 1, 0, none⟩ = some (.slice A4 pts.length c4) := (by rw [d1.cell (by show w.heap.size + 1 < _; omega)]; exact hv); have rR : u1.cell? ⟨w.heap.size, 0, none⟩ = some (.slice none 0 0) := (by rw [d1.cell (by show w.heap.size < _; omega)]; exact R0r); have fR : u1.frozen? ⟨w.heap.size, 0, none⟩ = false := (by rw [d1.frozen (by show w.heap.size < _; omega)]; exact F0r))
        refine bodyPost_ret (v := .tuple #[.agg #[.slice A4 pts.length c4], .bool true]) (by simp [results, Tryd.results17, go_sem, rR, fR]) rfl ?_
        rw [YES.out]
        have own6 := own_below own d1
        refine ⟨_, rfl, ?_, B5.setCell (Nat.le_refl _) _⟩
        have own7 := World.ownsRow.kept own6 (grown_setCell u1 w.heap.size 0 (.slice A4 pts.length c4)) (.inr (fun e => by have := (own6.lt _ e).1; omega))
        exact (OX.of_own own7).wide (by omega) (Nat.le_refl _)
end Go.Proofs.YtecdendjlgohjaaDoor
namespace Go.Proofs.YtecdendjlgohjaaDoor
open Go.RowKit
theorem M.curve_nil : M.curveOk [] = false := rfl
theorem M.readS_ok {V : List (Int × Int) → Bool} {s : List UInt8} {ps : List (Int × Int)} (h : M.readS V s = some ps) : V ps = true := by
  unfold M.readS at h
  split at h
  · rename_i hc
    rw [← Option.some.inj h]
    exact hc.2
  · cases h
theorem M.readS_len (s : List UInt8) : ((M.readS M.curveOk s).getD []).length ≤ 24 := by
  cases h : M.readS M.curveOk s with
  | none => simp
  | some ps => exact (M.curve_len (M.readS_ok h)).2
theorem M.readS_small (s : List UInt8) : hC.sz ((M.readS M.curveOk s).getD []) ≤ 100000000 ∧ hC.cnt ((M.readS M.curveOk s).getD []) ≤ 100000000 := by
  have := M.readS_len s
  rw [hC_sz, hC_cnt]
  omega
theorem RetRC.nf {w w' : World} {e : Ending} {r : Option (List (Int × Int))} (h : RetRC w r e w') :
    ∃ A n c, e = .returned (.tuple #[.agg #[.slice A n c], .bool r.isSome]) ∧ tC.O w' (Iv w.heap.size w'.heap.size) [.slice A n c] (r.getD []) ∧ Below w.heap.size w w' := by
  obtain ⟨v, rfl, own, b⟩ := h
  obtain ⟨A, c, rfl, -⟩ := own.shape
  exact ⟨A, _, c, rfl, tC_O.2 (OS.of_flat own), b⟩
end Go.Proofs.YtecdendjlgohjaaDoor
