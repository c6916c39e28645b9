import Derived.Test.YtecdendjlgohjaaGreatDoorFnExactReadMixerG3
import Derived.Maps.AppendAt
import Derived.Test.YtecdendjlgohjaaGreatDoorFnExactReadMixerG2
set_option linter.unusedVariables false
set_option linter.unusedSimpArgs false
namespace Go.Proofs.YtecdendjlgohjaaGreatDoor
open Go.RowKit Go.Sort
set_option maxHeartbeats 2000000
set_option maxRecDepth 100000
theorem spec_l01DigitN (c : UInt8) (w : World) : Calls Tryz.prog 36 #[.int .u8 c.toNat] w fun e w' => e = .returned (.bool (decide (48 ≤ c.toNat ∧ c.toNat ≤ 57))) ∧ w = w' := by
  by_cases h1 : 48 ≤ c.toNat
  · have g1 : (48 : Int) ≤ (c.toNat : Int) := by omega
    by_cases h2 : c.toNat ≤ 57
    · have g2 : (c.toNat : Int) ≤ 57 := by omega
      have e := Lib.hid (show decide (48 ≤ c.toNat ∧ c.toNat ≤ 57) = true by simp [h1, h2])
      clear h1 h2
      go_enter Tryz.func36, Tryz.ntmps36
      go_wp2
      go_ret
      exact ⟨ret_bool (by have := e.out; simp only [Bool.decide_and] at this ⊢; rw [this]), rfl⟩
    · have g2 : ¬ (c.toNat : Int) ≤ 57 := by omega
      have e := Lib.hid (show decide (48 ≤ c.toNat ∧ c.toNat ≤ 57) = false by simp [h2])
      clear h1 h2
      go_enter Tryz.func36, Tryz.ntmps36
      go_wp2
      go_ret
      exact ⟨ret_bool (by have := e.out; simp only [Bool.decide_and] at this ⊢; rw [this]), rfl⟩
  · have g1 : ¬ (48 : Int) ≤ (c.toNat : Int) := by omega
    have e := Lib.hid (show decide (48 ≤ c.toNat ∧ c.toNat ≤ 57) = false by simp [h1])
    clear h1
    go_enter Tryz.func36, Tryz.ntmps36
    go_wp2
    go_ret
    exact ⟨ret_bool (by have := e.out; simp only [Bool.decide_and] at this ⊢; rw [this]), rfl⟩
theorem M.decFrom_bad : ∀ {l : List UInt8} {acc : Nat} {b : UInt8}, b ∈ l → Lib.digitVal b = none → Lib.decFrom acc l = none
  | a :: l, acc, b, hm, hb => by
    rw [Lib.decFrom]
    rcases List.mem_cons.1 hm with rfl | h
    · rw [hb]
    · cases Lib.digitVal a with
      | none => rfl
      | some d => exact M.decFrom_bad h hb
theorem M.num_bad {L T : List UInt8} (hT : Lib.trimPrefix L [45] = T) {b : UInt8} (hm : b ∈ T) (hb : ¬ (48 ≤ b.toNat ∧ b.toNat ≤ 57)) : M.num L = none := by
  unfold M.num
  rw [hT]
  split
  · have : Lib.decNat T = none := by
      unfold Lib.decNat
      split
      · rfl
      · exact M.decFrom_bad hm (by unfold Lib.digitVal; rw [if_neg hb])
    rw [this]; rfl
  · rfl
theorem M.num_long {L T : List UInt8} (hT : Lib.trimPrefix L [45] = T) (h : ¬ (1 ≤ T.length ∧ T.length ≤ 18)) : M.num L = none := by
  unfold M.num
  rw [hT, if_neg h]
theorem M.num_good {L T : List UInt8} {m : Nat} (hT : Lib.trimPrefix L [45] = T) (h : 1 ≤ T.length ∧ T.length ≤ 18) (hm : Lib.decFrom 0 T = some m) :
    M.num L = if Lib.itoa (if T.length < L.length then -(m : Int) else m) = L then some (if T.length < L.length then -(m : Int) else m) else none := by
  have hd : Lib.decNat T = some m := by
    unfold Lib.decNat
    rw [if_neg (by intro e; rw [List.isEmpty_iff] at e; rw [e] at h; simp at h), hm]
  unfold M.num
  rw [hT, if_pos h, hd]
  rfl
theorem spec_l01Number (s : ByteArray) (w : World) (hs : s.size ≤ 1000000000) :
    Calls Tryz.prog 19 #[.string s] w fun e w' => e = .returned (.tuple #[.int .i64 ((M.numB s).getD 0), .bool (M.numB s).isSome]) ∧ Below w.heap.size w w' := by
  by_cases h0 : s.size = 0
  · have hs0 : s = ⟨#[]⟩ := by
      apply ByteArray.ext
      exact Array.eq_empty_of_size_eq_zero h0
    have HN := Lib.hid (show M.numB s = none by rw [hs0]; rfl)
    subst hs0
    go_enter Tryz.func19, Tryz.ntmps19
    go_wp2
    go_ret2
    exact ⟨by rw [HN.out]; rfl, Below.refl _ _⟩
  · have hpos : 0 < s.size := by omega
    have hne : (s.toList == []) = false := by
      rw [ByteArray.toList_eq, beq_eq_false_iff_ne]
      intro e
      have := Lib.size_eq s
      rw [e] at this
      exact h0 this
    have hne2 : ¬ s.toList = [] := by simpa using hne
    by_cases hm : s[0] = 45
    · have e1 : ((s[0].toNat : Int) == 45) = true := by rw [hm]; rfl
      obtain ⟨tb, htb⟩ : ∃ tb, tb = s.extract 1 s.size := ⟨_, rfl⟩
      have hts : tb.size = s.size - 1 := by rw [htb]; simp
      have HTB := Lib.hid htb
      have hcons : ∃ r, s.data.toList = 45 :: r := by
        have h1 := M.data_at hpos
        rw [hm] at h1
        cases hs : s.data.toList with
        | nil => rw [hs] at h1; simp at h1
        | cons a r => rw [hs] at h1; simp at h1; exact ⟨r, by rw [h1]⟩
      have HC := Lib.hid hcons
      clear hcons hm
      by_cases hl : 1 ≤ tb.size ∧ tb.size ≤ 18
      · go_enter Tryz.func19, Tryz.ntmps19
        go_wp2_with fail
        rw [← htb]
        clear htb
        obtain ⟨T, hT⟩ : ∃ T, T = tb.data.toList := ⟨_, rfl⟩
        have hTl : T.length = tb.size := by rw [hT, ← Lib.size_eq]
        have HT := Lib.hid hT
        have HTL := Lib.hid hTl
        have HTR := Lib.hid (show Lib.trimPrefix s.data.toList [45] = T by rw [hT]; obtain ⟨r, hr⟩ := HC.out; have hz := Lib.size_eq s; rw [hr, List.length_cons] at hz; rw [HTB.out, M.extract_list, hr, M.trim_minus, hz]; simp)
        clear hT hTl
        go_loop [5, 6] (fun m i => ∃ k q : Nat, i = .int .i64 k ∧ m = .int .i64 q ∧ k ≤ tb.size ∧ Hid (Lib.decFrom 0 (T.take k) = some q) ∧ q < 10 ^ k) (fun _ i => tb.size - (intOf i).toNat)
        case atStart => exact ⟨0, 0, rfl, rfl, by omega, Lib.hid rfl, by decide⟩
        case round =>
          obtain ⟨k, q, rfl, rfl, hk, H, hq⟩ := hrel
          have hp18 : 10 ^ k ≤ 10 ^ 18 := Nat.pow_le_pow_right (by decide) (by omega)
          by_cases hlt : k < tb.size
          · have hat := Lib.hid (show T[k]? = some tb[k] by rw [HT.out]; exact M.data_at hlt)
            have hq17 : q < 10 ^ 17 := Nat.lt_of_lt_of_le hq (Nat.pow_le_pow_right (by decide) (by omega))
            by_cases hd : 48 ≤ tb[k].toNat ∧ tb[k].toNat ≤ 57
            · have hdd := Lib.hid (show decide (48 ≤ tb[k].toNat ∧ tb[k].toNat ≤ 57) = true by simpa using hd)
              have HD := Lib.hid hd
              clear hd
              go_wp2_with (go_at_call 36; refine (spec_l01DigitN _ _).mono ?_; rw [hdd.out]; rintro e w' ⟨rfl, rfl⟩)
              go_round
              case rel =>
                have hdv : Lib.digitVal tb[k] = some (tb[k].toNat - 48) := by unfold Lib.digitVal; rw [if_pos HD.out]
                have hdb := HD.out
                have hpk : 10 ^ (k + 1) = 10 ^ k * 10 := Nat.pow_succ 10 k
                exact ⟨k + 1, q * 10 + (tb[k].toNat - 48), by go_num, congrArg _ (by omega), by omega, Lib.hid (Lib.decFrom_take T k 0 q tb[k] _ H.out hat.out hdv), by omega⟩
              case measure => simp [intOf]; omega
            · have hdd := Lib.hid (show decide (48 ≤ tb[k].toNat ∧ tb[k].toNat ≤ 57) = false by simpa using hd)
              have HN := Lib.hid (show M.numB s = none from M.num_bad HTR.out (List.mem_of_getElem? hat.out) hd)
              clear hd
              go_wp2_with (go_at_call 36; refine (spec_l01DigitN _ _).mono ?_; rw [hdd.out]; rintro e w' ⟨rfl, rfl⟩)
              go_ret2
              exact ⟨by rw [HN.out]; rfl, Below.refl _ _⟩
          · obtain rfl : k = tb.size := by omega
            have hm := H.out
            rw [List.take_of_length_le (by rw [HTL.out]; exact Nat.le_refl _)] at hm
            have hG := M.num_good HTR.out (by rw [HTL.out]; omega) hm
            rw [HTL.out, ← Lib.size_eq, if_pos (show tb.size < s.size by omega)] at hG
            have HG := Lib.hid (show M.numB s = if Lib.itoa (-(q : Int)) = s.data.toList then some (-(q : Int)) else none from hG)
            have hqb : (q : Int) < 1000000000000000000 := by omega
            have hlt3 : (tb.size : Int) < (s.size : Int) := by omega
            have w1' : wrap64 (-(q : Int)) = -(q : Int) := by unfold wrap64; omega
            have n0 : -9223372036854775808 ≤ -(q : Int) := by omega
            have n1 : -(q : Int) ≤ 9223372036854775807 := by omega
            clear hm hG hp18 hts hlt hl
            by_cases he : Lib.itoa (-(q : Int)) = s.data.toList
            · have HE := Lib.hid he
              have e3 : (Lib.itoa (-(q : Int)) == s.toList) = true := by rw [ByteArray.toList_eq, HE.out]; exact beq_self_eq_true _
              clear he
              go_wp2_with (go_at_call 37; refine (spec_l01Dec (-(q : Int)) n0 n1 _).mono ?_; rintro e w1 ⟨rfl, b1⟩)
              go_ret2
              exact ⟨by rw [HG.out, if_pos HE.out]; rfl, b1⟩
            · have HE := Lib.hid he
              have e3 : (Lib.itoa (-(q : Int)) == s.toList) = false := by rw [ByteArray.toList_eq, beq_eq_false_iff_ne]; exact HE.out
              clear he
              go_wp2_with (go_at_call 37; refine (spec_l01Dec (-(q : Int)) n0 n1 _).mono ?_; rintro e w1 ⟨rfl, b1⟩)
              go_ret2
              exact ⟨by rw [HG.out, if_neg HE.out]; rfl, b1⟩
      · have HN := Lib.hid (show M.numB s = none from M.num_long rfl (by obtain ⟨r, hr⟩ := HC.out; have hz := Lib.size_eq s; rw [hr, List.length_cons] at hz; rw [hr, M.trim_minus]; omega))
        go_enter Tryz.func19, Tryz.ntmps19
        go_wp2_with fail
        all_goals (go_ret2; exact ⟨by rw [HN.out]; rfl, Below.refl _ _⟩)
    · have e1 : ((s[0].toNat : Int) == 45) = false := by
        rw [beq_eq_false_iff_ne]
        intro e
        exact hm (UInt8.toNat_inj.1 (by have : (45 : UInt8).toNat = 45 := rfl; omega))
      have hcons : ∃ c r, s.data.toList = c :: r ∧ c ≠ 45 := by
        have h1 := M.data_at hpos
        cases hs : s.data.toList with
        | nil => rw [hs] at h1; simp at h1
        | cons a r => rw [hs] at h1; simp at h1; exact ⟨a, r, rfl, by rw [h1]; exact hm⟩
      have HC := Lib.hid hcons
      clear hcons hm
      by_cases hl : 1 ≤ s.size ∧ s.size ≤ 18
      · go_enter Tryz.func19, Tryz.ntmps19
        go_wp2_with fail
        obtain ⟨T, hT⟩ : ∃ T, T = s.data.toList := ⟨_, rfl⟩
        have hTl : T.length = s.size := by rw [hT, ← Lib.size_eq]
        have HT := Lib.hid hT
        have HTL := Lib.hid hTl
        have HTR := Lib.hid (show Lib.trimPrefix s.data.toList [45] = T by rw [hT]; obtain ⟨c, r, hr, hc⟩ := HC.out; rw [hr]; exact M.trim_other hc r)
        clear hT hTl
        go_loop [5, 6] (fun m i => ∃ k q : Nat, i = .int .i64 k ∧ m = .int .i64 q ∧ k ≤ s.size ∧ Hid (Lib.decFrom 0 (T.take k) = some q) ∧ q < 10 ^ k) (fun _ i => s.size - (intOf i).toNat)
        case atStart => exact ⟨0, 0, rfl, rfl, by omega, Lib.hid rfl, by decide⟩
        case round =>
          obtain ⟨k, q, rfl, rfl, hk, H, hq⟩ := hrel
          have hp18 : 10 ^ k ≤ 10 ^ 18 := Nat.pow_le_pow_right (by decide) (by omega)
          by_cases hlt : k < s.size
          · have hat := Lib.hid (show T[k]? = some s[k] by rw [HT.out]; exact M.data_at hlt)
            have hq17 : q < 10 ^ 17 := Nat.lt_of_lt_of_le hq (Nat.pow_le_pow_right (by decide) (by omega))
            by_cases hd : 48 ≤ s[k].toNat ∧ s[k].toNat ≤ 57
            · have hdd := Lib.hid (show decide (48 ≤ s[k].toNat ∧ s[k].toNat ≤ 57) = true by simpa using hd)
              have HD := Lib.hid hd
              clear hd
              go_wp2_with (go_at_call 36; refine (spec_l01DigitN _ _).mono ?_; rw [hdd.out]; rintro e w' ⟨rfl, rfl⟩)
              go_round
              case rel =>
                have hdv : Lib.digitVal s[k] = some (s[k].toNat - 48) := by unfold Lib.digitVal; rw [if_pos HD.out]
                have hdb := HD.out
                have hpk : 10 ^ (k + 1) = 10 ^ k * 10 := Nat.pow_succ 10 k
                exact ⟨k + 1, q * 10 + (s[k].toNat - 48), by go_num, congrArg _ (by omega), by omega, Lib.hid (Lib.decFrom_take T k 0 q s[k] _ H.out hat.out hdv), by omega⟩
              case measure => simp [intOf]; omega
            · have hdd := Lib.hid (show decide (48 ≤ s[k].toNat ∧ s[k].toNat ≤ 57) = false by simpa using hd)
              have HN := Lib.hid (show M.numB s = none from M.num_bad HTR.out (List.mem_of_getElem? hat.out) hd)
              clear hd
              go_wp2_with (go_at_call 36; refine (spec_l01DigitN _ _).mono ?_; rw [hdd.out]; rintro e w' ⟨rfl, rfl⟩)
              go_ret2
              exact ⟨by rw [HN.out]; rfl, Below.refl _ _⟩
          · obtain rfl : k = s.size := by omega
            have hm := H.out
            rw [List.take_of_length_le (by rw [HTL.out]; exact Nat.le_refl _)] at hm
            have hG := M.num_good HTR.out (by rw [HTL.out]; omega) hm
            rw [HTL.out, ← Lib.size_eq, if_neg (Nat.lt_irrefl s.size)] at hG
            have HG := Lib.hid (show M.numB s = if Lib.itoa ((q : Int)) = s.data.toList then some ((q : Int)) else none from hG)
            have hqb : (q : Int) < 1000000000000000000 := by omega
            clear hm hG hp18
            by_cases he : Lib.itoa ((q : Int)) = s.data.toList
            · have HE := Lib.hid he
              have e3 : (Lib.itoa ((q : Int)) == s.toList) = true := by rw [ByteArray.toList_eq, HE.out]; exact beq_self_eq_true _
              clear he
              go_wp2_with (go_at_call 37; refine (spec_l01Dec ((q : Int)) (by omega) (by omega) _).mono ?_; rintro e w1 ⟨rfl, b1⟩)
              go_ret2
              exact ⟨by rw [HG.out, if_pos HE.out]; rfl, b1⟩
            · have HE := Lib.hid he
              have e3 : (Lib.itoa ((q : Int)) == s.toList) = false := by rw [ByteArray.toList_eq, beq_eq_false_iff_ne]; exact HE.out
              clear he
              go_wp2_with (go_at_call 37; refine (spec_l01Dec ((q : Int)) (by omega) (by omega) _).mono ?_; rintro e w1 ⟨rfl, b1⟩)
              go_ret2
              exact ⟨by rw [HG.out, if_neg HE.out]; rfl, b1⟩
      · have HN := Lib.hid (show M.numB s = none from M.num_long rfl (by obtain ⟨c, r, hr, hc⟩ := HC.out; have hz := Lib.size_eq s; rw [hr, M.trim_other hc r, ← hr, ← hz]; exact hl))
        go_enter Tryz.func19, Tryz.ntmps19
        go_wp2_with fail
        all_goals (go_ret2; exact ⟨by rw [HN.out]; rfl, Below.refl _ _⟩)
end Go.Proofs.YtecdendjlgohjaaGreatDoor
namespace Go.Proofs.YtecdendjlgohjaaGreatDoor
open Go.RowKit Go.Sort
set_option maxHeartbeats 2000000
set_option maxRecDepth 100000
set_option linter.unusedVariables false
set_option linter.unusedSimpArgs false
section
variable {P : Program} {t e : TypeId} {z : Value} {bytes : Nat}
/-- 'out = append(out, x)', and where the row lies then. -/
theorem wpList_push1c (hE : EI P t e z 1 bytes) {w : World} {ops : Array Oper} {rest : List Oper} {o : Oper} {a : Act} {Q : Exit → Act → World → Prop} {u : Value}
    (hgd : o.guard = none) (s x : Operand)
    (ho : o.op = .call { callee := .builtin .append, args := #[s, x], argTypes := #[t, t] })
    {B : Nat} {v : Value} {n : Nat} {xs : List Value} (hown : w.ownsRow B e 1 v n xs) (hs : a.eval s = v)
    (hx : a.eval x = .slice (some ⟨w.heap.size, 0, none⟩) 1 1) (h1 : u.oneCell' = true)
    (hn : n + 1 ≤ maxLen) (hbytes : (n + 1) * bytes ≤ 140737488355328) (hbase : B ≤ w.heap.size)
    (K : ∀ v' w', w'.ownsRow B e 1 v' (n + 1) (xs ++ [u]) → w.grownBy w' v.ownBlock → Below B w w' → (v'.ownBlock = v.ownBlock ∨ ∀ k, v'.ownBlock = some k → w.heap.size ≤ k) → wpList P ops Q rest (a.put o.dst v') w') :
    wpList P ops Q (o :: rest) a (w.alloc (.cells #[u] e)) := by
  obtain ⟨ht, hinfo, hzs, hsz⟩ := hE
  obtain ⟨i0, hi, hz0, hz1, hz2⟩ := info_parts hinfo
  refine wpList_append_own_at _ hgd s x t ho B e i0 z 1 bytes ht hi hz0 hz1 hz2 hzs hsz v n xs hs (hown.alloc _) ⟨w.heap.size, 0, none⟩ 1 1 [u] hx rfl ?_ (by simpa using h1) hn hbytes (by simp; omega) ?_
  · intro j u2 hj
    have hadd : (⟨w.heap.size, 0, none⟩ : Addr).add j = ⟨w.heap.size, j, none⟩ := by unfold Addr.add; split <;> simp_all
    rw [hadd, cell_of_row _ w.heap.size j #[u] e (0, 0) (heap_alloc_new w _)]
    simpa using hj
  · intro v' w' h2 h3 _ g4
    have h4 : w.grownBy w' v.ownBlock := by
      have := World.grownBy_alloc w (.cells #[u] e) none
      exact ⟨h3.os.trans this.os, h3.tape.trans this.tape, h3.output.trans this.output, Nat.le_trans this.size h3.size, fun k hk hne => by
        rw [h3.block k (by simp; omega) hne]; exact this.block k hk (by simp)⟩
    refine K v' w' h2 h4 ((Below.refl _ _).grown h4 hbase fun k hk => (hown.lt k hk).1) ?_
    rcases g4 with h | h
    · exact .inl h
    · refine .inr fun k hk => ?_
      rw [h] at hk
      have hsz' : (w.alloc (.cells #[u] e)).heap.size = w.heap.size + 1 := by simp
      rw [hsz', Option.some.injEq] at hk
      omega
end
theorem M.pieces (c : UInt8) (s : ByteArray) : (Lib.splitB ⟨#[c]⟩ 0 (Lib.countB s ⟨#[c]⟩) s).map (fun x => x.data.toList) = M.splitBy c s.data.toList := by
  have h := Lib.splitB_data ⟨#[c]⟩ 0 (Lib.countB s ⟨#[c]⟩) s
  rw [show (fun x : ByteArray => x.data.toList) = (·.data.toList) from rfl, h]
  exact M.splitK_eq c _ _ (Lib.count_one c s.data.toList).symm
theorem M.strs_of (ps : List ByteArray) : ps.map Value.string = M.strs (ps.map fun x => x.data.toList) := by
  rw [M.strs, List.map_map]
  refine List.map_congr_left fun x _ => ?_
  show Value.string x = Value.string ⟨x.data.toList.toArray⟩
  rw [M.bs_mk']
theorem impl_Split (s : ByteArray) (c : UInt8) (w : World) (hs : s.size ≤ 1000000000) (hL : LAD w) :
    Calls Tryz.prog 41 #[.string s, .string ⟨#[c]⟩] w fun e w' => e = .returned (.slice (some ⟨w.heap.size, 0, none⟩) (M.splitBy c s.data.toList).length (M.splitBy c s.data.toList).length) ∧
      w'.ownsRow w.heap.size 9 1 (.slice (some ⟨w.heap.size, 0, none⟩) (M.splitBy c s.data.toList).length (M.splitBy c s.data.toList).length) (M.splitBy c s.data.toList).length (M.strs (M.splitBy c s.data.toList)) ∧ Below w.heap.size w w' ∧ w.heap.size < w'.heap.size := by
  obtain ⟨m, hm⟩ := hL.2.1
  have hlen : (M.splitBy c s.data.toList).length = Lib.countB s ⟨#[c]⟩ + 1 := by
    rw [← M.pieces, List.length_map]
    exact Lib.splitB_all ⟨#[c]⟩ (Nat.le_refl 1) 0 _ s rfl
  have hc : Lib.countB s ⟨#[c]⟩ ≤ s.size := Lib.countB_le ⟨#[c]⟩ (Nat.le_refl 1) s.size s (Nat.le_refl _)
  refine (Tryz.strings_Split s ⟨#[c]⟩ m w (by omega) hm (Nat.le_refl 1)).mono fun e w' h => ?_
  obtain ⟨rfl, rfl⟩ := h
  rw [hlen]
  refine ⟨rfl, ?_, (Below.refl _ _).alloc (Nat.le_refl _) _, by simp⟩
  rw [M.strs_of, M.pieces]
  refine ⟨by rw [M.strs_len, hlen, Nat.mul_one], .inr ⟨w.heap.size, Lib.countB s ⟨#[c]⟩ + 1, (M.strs (M.splitBy c s.data.toList)).toArray, rfl, Nat.le_refl _, heap_alloc_new w _, Nat.le_refl _, by unfold maxLen; omega, by simp [M.strs_len, hlen], ?_⟩⟩
  simp only [Nat.mul_one]
  exact (List.take_of_length_le (by rw [M.strs_len, hlen]; exact Nat.le_refl _))
theorem M.words_take {ps : List (List UInt8)} {k : Nat} {x : List UInt8} (h : ps[k]? = some x) : (ps.take (k + 1)).filter (fun w => !w.isEmpty) = (ps.take k).filter (fun w => !w.isEmpty) ++ (if x = [] then [] else [x]) := by
  rw [M.take_at h, List.filter_append]
  cases x <;> simp
theorem impl_SplitWords (s : ByteArray) (w : World) (hs : s.size ≤ 1000000000) (hL : LAD w) :
    Calls Tryz.prog 43 #[.string s] w fun e w' => ∃ v, e = .returned v ∧ w'.ownsRow w.heap.size 9 1 v (M.wordsOf s.data.toList).length (M.strs (M.wordsOf s.data.toList)) ∧ Below w.heap.size w w' := by
  have B0 : Below w.heap.size w (w.alloc (.cells #[] 9)) := (Below.refl _ _).alloc (Nat.le_refl _) _
  have sz0 : (w.alloc (.cells #[] 9)).heap.size = w.heap.size + 1 := by simp
  have hS := impl_Split s 32 _ hs (hL.on B0)
  have own0 : (w.alloc (.cells #[] 9)).ownsRow w.heap.size 9 1 (.slice (some ⟨w.heap.size, 0, none⟩) 0 0) 0 [] := World.ownsRow_made _ _ _ (Nat.le_refl _) (by simp [maxLen]) rfl
  obtain ⟨ps, hps⟩ : ∃ ps, ps = M.splitBy 32 s.data.toList := ⟨_, rfl⟩
  have hpl : ps.length ≤ s.size + 1 := by
    have h1 : ps.length = Lib.countB s ⟨#[32]⟩ + 1 := by
      rw [hps, ← M.pieces, List.length_map]
      exact Lib.splitB_all ⟨#[32]⟩ (Nat.le_refl 1) 0 _ s rfl
    have := Lib.countB_le ⟨#[32]⟩ (Nat.le_refl 1) s.size s (Nat.le_refl _)
    omega
  rw [← hps] at hS
  have HPS := Lib.hid hps
  have HS := Lib.hid hS
  have SZ0 := Lib.hid sz0
  clear hps hS sz0 hL
  go_enter Tryz.func43, Tryz.ntmps43
  go_wp2_with (go_at_call 41; refine HS.out.mono ?_; rintro e w2 ⟨rfl, ownp, b2, hlt2⟩)
  rw [SZ0.out] at ownp hlt2
  have own2 := own_below own0 b2
  have B2 := bel_trans B0 b2
  clear own0 b2 B0
  go_loopw [3, 10] (fun v i wr => ∃ k : Nat, i = .int .i64 k ∧ k ≤ ps.length ∧ wr.ownsRow w.heap.size 9 1 v ((ps.take k).filter (fun w => !w.isEmpty)).length (M.strs ((ps.take k).filter (fun w => !w.isEmpty))) ∧ Hid (v.ownBlock ≠ some (w.heap.size + 1)) ∧
      wr.ownsRow (w.heap.size + 1) 9 1 (.slice (some ⟨w.heap.size + 1, 0, none⟩) ps.length ps.length) ps.length (M.strs ps) ∧ w.heap.size + 1 < wr.heap.size ∧ Below w.heap.size w wr) (fun _ i _ => ps.length - (intOf i).toNat)
  case atStart => exact ⟨0, rfl, by omega, own2, Lib.hid (by simp [Value.ownBlock]), ownp, hlt2, B2⟩
  case round =>
    clear own2 ownp hlt2 B2
    obtain ⟨k, rfl, hk, own, HO, ownp, hsz, hb⟩ := hrel
    by_cases hlt : k < ps.length
    · have X := Lib.hid (List.getElem?_eq_getElem (l := ps) (i := k) hlt)
      generalize ps[k] = x at X
      have hcell : wr.cell? ⟨w.heap.size + 1, k, none⟩ = some (.string ⟨x.toArray⟩) := by
        have hadd : (⟨w.heap.size + 1, 0, none⟩ : Addr).add k = ⟨w.heap.size + 1, k, none⟩ := by unfold Addr.add; split <;> simp_all
        rw [← hadd]
        exact World.ownsRow.cells ownp (g := w.heap.size + 1) rfl k _ (by simp [M.strs, X.out])
      have HW := Lib.hid (M.words_take X.out)
      have hfl : ((ps.take k).filter (fun w => !w.isEmpty)).length ≤ k := by
        have := List.length_filter_le (fun w : List UInt8 => !w.isEmpty) (ps.take k)
        rw [List.length_take] at this
        omega
      by_cases hx : x = []
      · subst hx
        go_wp2
        go_roundw
        case rel =>
          refine ⟨k + 1, by go_num, by omega, ?_, HO, ownp, hsz, hb⟩
          rw [HW.out, if_pos rfl, List.append_nil]
          exact own
        case measure => simp [intOf]; omega
      · have e1 : (x == []) = false := by simpa using hx
        have HX := Lib.hid hx
        go_wp2_with (at_builtin; refine wpList_push1c ei_str rfl _ _ rfl own rfl rfl rfl (by unfold maxLen; omega) (by omega) hb.size ?_; intro v1 w1 own1 gr1 bel1 pl1)
        go_roundw
        case rel =>
          refine ⟨k + 1, by go_num, by omega, ?_, ?_, ?_, ?_, hb.trans bel1⟩
          · rw [HW.out, if_neg HX.out, List.length_append]
            rw [M.strs_push] at own1
            exact own1
          · refine Lib.hid fun e => ?_
            rcases pl1 with h | h
            · exact HO.out (h ▸ e)
            · have := h _ e; omega
          · exact World.ownsRow.kept ownp gr1 (Or.inr (fun e => HO.out (by rw [← e]; rfl)))
          · have := bel1.size; omega
        case measure => simp [intOf]; omega
    · obtain rfl : k = ps.length := by omega
      go_wp2
      go_ret
      rw [List.take_of_length_le (Nat.le_refl _)] at own
      refine ⟨_, rfl, ?_, hb⟩
      have e : M.wordsOf s.data.toList = ps.filter (fun w => !w.isEmpty) := by rw [M.wordsOf, ← HPS.out]
      rw [e]
      exact own
end Go.Proofs.YtecdendjlgohjaaGreatDoor
namespace Go.Proofs.YtecdendjlgohjaaGreatDoor
open Go.RowKit Go.Sort
set_option maxHeartbeats 4000000
set_option maxRecDepth 100000
theorem own_two (u : World) (a b : Value) {B : Nat} (hB : B ≤ u.heap.size) : (u.alloc (.cells #[a, b] 9)).ownsRow B 9 1 (.slice (some ⟨u.heap.size, 0, none⟩) 2 2) 2 [a, b] :=
  ⟨by simp, .inr ⟨u.heap.size, 2, #[a, b], rfl, hB, heap_alloc_new u _, Nat.le_refl _, by simp [maxLen], rfl, by simp⟩⟩
theorem own_three (u : World) (a b c : Value) {B : Nat} (hB : B ≤ u.heap.size) : (u.alloc (.cells #[a, b, c] 9)).ownsRow B 9 1 (.slice (some ⟨u.heap.size, 0, none⟩) 3 3) 3 [a, b, c] :=
  ⟨by simp, .inr ⟨u.heap.size, 3, #[a, b, c], rfl, hB, heap_alloc_new u _, Nat.le_refl _, by simp [maxLen], rfl, by simp⟩⟩
theorem impl_MixerText (A : Option Addr) (n c : Nat) (xs : List Strip) (w : World) (hx : tM.R w w.heap.size [.slice A n c] xs) (hn : hM.sz xs ≤ 100000000) (hT : TAB w) :
    Calls Tryz.prog 16 #[.agg #[.slice A n c]] w fun e w' => e = .returned (.string ⟨(M.mixerText xs).toArray⟩) ∧ Below w.heap.size w w' := by
  have rx := sl_R.1 hx
  have HLX := Lib.hid rx.cap.1
  have B0 : Below w.heap.size w (w.alloc (.cells #[.slice A n c] 24)) := (Below.refl _ _).alloc (Nat.le_refl _) _
  have HT := Lib.hid hT
  have hq : (w.alloc (.cells #[.slice A n c] 24)).cell? ⟨w.heap.size, 0, none⟩ = some (.slice A n c) := by simp [go_sem]
  cases hok : M.mixOk xs
  · have HOK := Lib.hid hok
    go_enter Tryz.func16, Tryz.ntmps16
    go_wp2_with (go_at_call 24; refine (impl_isMixer A n c xs _ (tM.later hx B0) hn).mono ?_; rw [hok]; rintro e w1 ⟨rfl, b1⟩)
    go_ret
    exact ⟨by rw [M.mixerText, HOK.out]; rfl, bel_trans B0 b1⟩
  · have HOK := Lib.hid hok
    have hmn := M.mix_n hok
    have hnb : 1 ≤ n ∧ n ≤ 8 := by have := HLX.out; omega
    go_enter Tryz.func16, Tryz.ntmps16
    go_wp2_with (go_at_call 24; refine (impl_isMixer A n c xs _ (tM.later hx B0) hn).mono ?_; rw [hok]; rintro e w1 ⟨rfl, b1⟩; have q1 : w1.cell? ⟨w.heap.size, 0, none⟩ = some (.slice A n c) := (by rw [b1.cell (by simp)]; exact hq); have s1 : w.heap.size + 1 ≤ w1.heap.size := (by have := b1.size; simpa using this))
    have B1 := bel_trans B0 b1
    clear hx hT hok b1 hq B0 hmn
    go_loopw [3, 15] (fun v i wr => ∃ k : Nat, i = .int .i64 k ∧ k ≤ n ∧ v = .string ⟨(M.mxT xs k).toArray⟩ ∧ wr.cell? ⟨w.heap.size, 0, none⟩ = some (.slice A n c) ∧ w.heap.size + 1 ≤ wr.heap.size ∧ Below w.heap.size w wr) (fun _ i _ => n - (intOf i).toNat)
    case atStart => exact ⟨0, rfl, by omega, rfl, q1, s1, B1⟩
    case round =>
      clear q1 s1 B1
      obtain ⟨k, rfl, hk, rfl, qw, sw, Bw⟩ := hrel
      by_cases hlt : k < n
      · have hX := Lib.hid (List.getElem?_eq_getElem (l := xs) (i := k) (by rw [HLX.out]; exact hlt))
        obtain ⟨b, o1, cc, cs, hv, hab, -, hE, hcc⟩ := (rx.below Bw).atX hX.out
        simp only [Value.slice.injEq] at hv
        obtain ⟨rfl, -, rfl⟩ := hv
        generalize xs[k]'(by rw [HLX.out]; exact hlt) = x at hX hE
        obtain ⟨s, l, us⟩ := x
        obtain ⟨A2, n2, c2, rfl, -, hE⟩ := st_R.1 hE
        have e0 : wr.cell? ⟨b, o1 + k * 3, none⟩ = some (.string s) := hcc 0 _ rfl
        have e1 : wr.cell? ⟨b, o1 + k * 3 + 1, none⟩ = some (.int .i64 l) := hcc 1 _ rfl
        have e2 : wr.cell? ⟨b, o1 + k * 3 + 2, none⟩ = some (.slice A2 n2 c2) := hcc 2 _ rfl
        have rs := (tSdS_ra hE).1
        have hn2 := rs.1
        obtain ⟨hlat, hu4, hsb⟩ := M.mix_strip HOK.out hX.out
        have HN2 := Lib.hid hn2
        have HSB := Lib.hid hsb
        have l0 : -9223372036854775808 ≤ l := by omega
        have l1 : l ≤ 9223372036854775807 := by omega
        have n2b : n2 ≤ 4 := by omega
        have g0 := M.mxT_le HOK.out k (by rw [HLX.out]; omega)
        have g1 := M.stT_le HOK.out hX.out us.length (Nat.le_refl _)
        rw [hn2] at g1
        have G0 := Lib.hid g0
        have G1 := Lib.hid g1
        have BU := bel_trans Bw ((Below.refl wr.heap.size wr).alloc (Nat.le_refl _) (.cells #[.string s, .int .i64 l, .slice A2 n2 c2] 44))
        have b0 : (wr.alloc (.cells #[.string s, .int .i64 l, .slice A2 n2 c2] 44)).cell? ⟨wr.heap.size, 0, none⟩ = some (.string s) := by rw [cell_of_row _ wr.heap.size 0 _ 44 (0, 0) (heap_alloc_new wr _)]; rfl
        have b1 : (wr.alloc (.cells #[.string s, .int .i64 l, .slice A2 n2 c2] 44)).cell? ⟨wr.heap.size, 1, none⟩ = some (.int .i64 l) := by rw [cell_of_row _ wr.heap.size 1 _ 44 (0, 0) (heap_alloc_new wr _)]; rfl
        have b2 : (wr.alloc (.cells #[.string s, .int .i64 l, .slice A2 n2 c2] 44)).cell? ⟨wr.heap.size, 2, none⟩ = some (.slice A2 n2 c2) := by rw [cell_of_row _ wr.heap.size 2 _ 44 (0, 0) (heap_alloc_new wr _)]; rfl
        have bq : (wr.alloc (.cells #[.string s, .int .i64 l, .slice A2 n2 c2] 44)).cell? ⟨w.heap.size, 0, none⟩ = some (.slice (some ⟨b, o1, none⟩) n c) := by rw [World.cell?_alloc_lt _ _ _ (by simp; omega)]; exact qw
        have sz : (wr.alloc (.cells #[.string s, .int .i64 l, .slice A2 n2 c2] 44)).heap.size = wr.heap.size + 1 := by simp
        clear hcc hn2 hu4 hsb hlat g0 g1
        go_wp2_with fail
        have BR : Below wr.heap.size wr (wr.alloc (.cells #[.string s, .int .i64 l, .slice A2 n2 c2] 44)) := (Below.refl _ _).alloc (Nat.le_refl _) _
        generalize hw4 : wr.alloc (.cells #[.string s, .int .i64 l, .slice A2 n2 c2] 44) = w4 at b0 b1 b2 bq sz BU BR ⊢
        have k0' := cell_regrown b0
        have k1' := cell_regrown b1
        clear hw4 e0 e1 e2
        (refine wp_region_fresh2 [0, 2] [1, 3] 1 (.one 4 .rest) [5] [5, 6] (by kernel_rfl) (by kernel_rfl) ?_; simp only [pickOps]; simp only [List.filterMap, List.getElem?_cons_succ, List.getElem?_cons_zero]; (repeat (go_big_quiet_step (fail))); refine wpQuiet_nil ?_; (repeat (go_big_quiet_step (fail))); refine wpQuiet_nil ?_)
        refine seqT_one2 rfl ?_
        have D1 : Below w4.heap.size w4 w4.drew := below_drewN (Below.refl _ _) 1
        go_wp2_with fail
        refine (impl_Decimal l l0 l1 _ (HT.out.on (bel_trans BU D1))).mono ?_
        rintro e u1 ⟨rfl, d1⟩
        have B3 := bel_trans D1 d1
        have s3 := B3.size
        have f2 : u1.cell? ⟨wr.heap.size, 2, none⟩ = some (.slice A2 n2 c2) := by rw [B3.cell (by simp; omega)]; exact b2
        have fq : u1.cell? ⟨w.heap.size, 0, none⟩ = some (.slice (some ⟨b, o1, none⟩) n c) := by rw [B3.cell (by simp; omega)]; exact bq
        clear k0' k1' b0 b1 b2 bq
        go_wp2_with fail
        refine ⟨regrown_of_below B3, ?_⟩
        refine seqT_rest2 ?_
        have B4 := (bel_trans BU B3).alloc (by have := (bel_trans BU B3).size; omega) (.cells #[.string s, .string ⟨(Lib.itoa l).toArray⟩] 9)
        have h2 : (u1.alloc (.cells #[.string s, .string ⟨(Lib.itoa l).toArray⟩] 9)).cell? ⟨wr.heap.size, 2, none⟩ = some (.slice A2 n2 c2) := by rw [World.cell?_alloc_lt _ _ _ (by simp; omega)]; exact f2
        have hq : (u1.alloc (.cells #[.string s, .string ⟨(Lib.itoa l).toArray⟩] 9)).cell? ⟨w.heap.size, 0, none⟩ = some (.slice (some ⟨b, o1, none⟩) n c) := by rw [World.cell?_alloc_lt _ _ _ (by simp; omega)]; exact fq
        have own0 := own_two u1 (.string s) (.string ⟨(Lib.itoa l).toArray⟩) (B := w.heap.size + 1) (by omega)
        go_wp2_with fail
        generalize hV : u1.alloc (.cells #[.string s, .string ⟨(Lib.itoa l).toArray⟩] 9) = V at B4 h2 hq own0 ⊢
        have own0' : V.ownsRow (w.heap.size + 1) 9 1 (.slice (some ⟨u1.heap.size, 0, none⟩) 2 2) (2 + 3 * 0) (M.strs (M.stW xs s l us 0)) := by
          have : M.strs (M.stW xs s l us 0) = [.string s, .string ⟨(Lib.itoa l).toArray⟩] := by rw [M.stW_zero]; simp only [M.strs, List.map_cons, List.map_nil, M.bs_mk]
          rw [this]
          exact own0
        have Bo0 : Below w.heap.size wr V := (((Below.refl w.heap.size wr).trans (BR.mono (by omega))).trans (B3.mono (by omega))).trans (by rw [← hV]; exact (Below.refl _ _).alloc (by omega) _)
        clear own0 hV h2 f2 fq BR
        obtain ⟨wo, rfl⟩ : ∃ wo : World, wo = wr := ⟨_, rfl⟩
        go_loopw [6, 28] (fun v i wr => ∃ j : Nat, i = .int .i64 j ∧ j ≤ n2 ∧ wr.ownsRow (w.heap.size + 1) 9 1 v (2 + 3 * j) (M.strs (M.stW xs s l us j)) ∧ wr.cell? ⟨w.heap.size, 0, none⟩ = some (.slice (some ⟨b, o1, none⟩) n c) ∧ w.heap.size + 1 ≤ wr.heap.size ∧ Below w.heap.size w wr ∧ Below w.heap.size wo wr) (fun _ i _ => n2 - (intOf i).toNat)
        case atStart => exact ⟨0, rfl, by omega, own0', hq, World.block_lt_of_cell? _ _ hq, B4, Bo0⟩
        case round =>
          clear own0' hq B4 Bo0
          obtain ⟨j, rfl, hj, own, vq, sv, Bv, Bo⟩ := hrel
          by_cases hlt2 : j < n2
          · obtain ⟨b2, o2, ⟨p0, p1⟩, rfl, hab2, X2, hdd⟩ := (rs.below Bo).at sd_len (by decide) hlt2
            have f0 : wr.cell? ⟨b2, o2 + j * 2, none⟩ = some (.int .i64 p0) := hdd 0 _ rfl
            have f1 : wr.cell? ⟨b2, o2 + j * 2 + 1, none⟩ = some (.int .i64 p1) := hdd 1 _ rfl
            obtain ⟨hp1, hp2, hp3⟩ := M.sends_at HSB.out X2.out
            have hp4 := M.inn_iffM.1 hp3
            obtain ⟨q, rfl⟩ : ∃ q : Nat, p0 = q := ⟨p0.toNat, by omega⟩
            have hqn : q < n := by have := HLX.out; omega
            have hY := Lib.hid (List.getElem?_eq_getElem (l := xs) (i := q) (by rw [HLX.out]; exact hqn))
            obtain ⟨b', o', cc', cs', hv', -, -, hE', hcc'⟩ := (rx.below Bv).atX hY.out
            simp only [Value.slice.injEq, Option.some.injEq, Addr.mk.injEq] at hv'
            obtain ⟨⟨rfl, rfl, -⟩, -, -⟩ := hv'
            generalize xs[q]'(by rw [HLX.out]; exact hqn) = y at hY hE'
            obtain ⟨s', l', us'⟩ := y
            obtain ⟨A3, n3, c3, rfl, -, -⟩ := st_R.1 hE'
            have g0 : wr.cell? ⟨b, o1 + q * 3, none⟩ = some (.string s') := hcc' 0 _ rfl
            have l2 : -9223372036854775808 ≤ p1 := by omega
            have l3 : p1 ≤ 9223372036854775807 := by omega
            have hW := Lib.hid (M.stW_next (ms := xs) (s := s) (l := l) X2.out)
            have hbb : b < wr.heap.size := World.block_lt_of_cell? _ _ g0
            obtain ⟨W4, hW4⟩ : ∃ W4, W4 = wr.alloc (.cells #[.int .i64 (q : Int), .int .i64 p1] 47) := ⟨_, rfl⟩
            have G2 : Below wr.heap.size wr W4 := by rw [hW4]; exact (Below.refl _ _).alloc (Nat.le_refl _) _
            have BW := bel_trans Bv G2
            have ownW := own_below own G2
            have m0 : W4.cell? ⟨wr.heap.size, 0, none⟩ = some (.int .i64 (q : Int)) := by rw [hW4, cell_of_row _ wr.heap.size 0 _ 47 (0, 0) (heap_alloc_new wr _)]; rfl
            have m1 : W4.cell? ⟨wr.heap.size, 1, none⟩ = some (.int .i64 p1) := by rw [hW4, cell_of_row _ wr.heap.size 1 _ 47 (0, 0) (heap_alloc_new wr _)]; rfl
            have mq : W4.cell? ⟨w.heap.size, 0, none⟩ = some (.slice (some ⟨b, o1, none⟩) n c) := by rw [G2.cell (by simp; omega)]; exact vq
            have mn : W4.cell? ⟨b, o1 + q * 3, none⟩ = some (.string s') := by rw [G2.cell (by simpa using hbb)]; exact g0
            have HW4 := Lib.hid hW4
            have hqn2 : (q : Int) < (n : Int) := by omega
            clear hW4 hdd hp1 hp2 hp3 hp4 hcc'
            go_wp2_with fail
            rw [← HW4.out]
            have k0' := cell_regrown m0
            have k1' := cell_regrown m1
            have k2' := cell_regrown mq
            have k3' := cell_regrown mn
            clear f0 f1 g0 m0 m1 mn
            (refine wp_region_fresh2 [0, 1, 3, 8] [2, 4, 5, 6, 7, 9] 2 (.one 10 (.one 11 .rest)) [12] [12, 13] (by kernel_rfl) (by kernel_rfl) ?_; simp only [pickOps]; simp only [List.filterMap, List.getElem?_cons_succ, List.getElem?_cons_zero]; (repeat (go_big_quiet_step (fail))); refine wpQuiet_nil ?_; (repeat (go_big_quiet_step (fail))); refine wpQuiet_nil ?_)
            refine seqT_one2 rfl ?_
            have D2 : Below W4.heap.size W4 W4.drew := below_drewN (Below.refl _ _) 1
            go_wp2_with fail
            refine (impl_Decimal p1 l2 l3 _ (HT.out.on (bel_trans BW D2))).mono ?_
            rintro e u2 ⟨rfl, d2⟩
            have B5 := bel_trans D2 d2
            have B6 := bel_trans BW B5
            have s6 := B6.size
            have own5 := own_below ownW B5
            clear k0' k1' k2' k3'
            go_wp2_with fail
            refine ⟨regrown_of_below B5, ?_⟩
            refine seqT_one2 rfl ?_
            go_wp2_with fail
            refine ⟨regrown_of_below (B5.alloc (by have := B5.size; omega) _), ?_⟩
            refine seqT_rest2 ?_
            have own6 := World.ownsRow.alloc own5 (.cells #[.string ⟨#[116, 111]⟩, .string s', .string ⟨(Lib.itoa p1).toArray⟩] 9)
            have own7 := Reads.of_own (own_three u2 (.string ⟨#[116, 111]⟩) (.string s') (.string ⟨(Lib.itoa p1).toArray⟩) (B := u2.heap.size) (Nat.le_refl _))
            go_wp2_with (at_builtin; refine wpList_cat ei_str rfl _ _ rfl own6 rfl own7 rfl (by simp [Value.oneCell']) (by unfold maxLen; omega) (by omega) (by simp; omega) ?_; intro v1 u3 own8 gr8 bel8)
            go_roundw
            case rel =>
              have B7 := (B5.alloc (by have := B5.size; omega) (.cells #[.string ⟨#[116, 111]⟩, .string s', .string ⟨(Lib.itoa p1).toArray⟩] 9))
              have B8 : Below (w.heap.size + 1) wr u3 := ((G2.mono sv).trans (B7.mono (by have := G2.size; omega))).trans bel8
              refine ⟨j + 1, by go_num, by omega, ?_, ?_, ?_, Bv.trans (B8.mono (by omega)), Bo.trans (B8.mono (by omega))⟩
              · have e : M.strs (M.stW xs s l us (j + 1)) = M.strs (M.stW xs s l us j) ++ [.string ⟨#[116, 111]⟩, .string s', .string ⟨(Lib.itoa p1).toArray⟩] := by
                  rw [hW.out]
                  simp only [M.strs, List.map_append, List.map_cons, List.map_nil, Int.toNat_natCast, M.nmAt, hY.out, Option.getD_some, M.bs_mk]
                rw [e]
                exact own8
              · rw [B8.cell (by simp)]; exact vq
              · have := B8.size; omega
            case measure => simp [intOf]; omega
          · obtain rfl : j = n2 := by omega
            have hlen : (M.stW xs s l us j).length = 2 + 3 * j := M.stW_len (by rw [HN2.out]; omega)
            rw [← hlen] at own
            have hg1 := G1.out
            have hg0 := G0.out
            have eT : Lib.join (M.stW xs s l us j) [32] = M.stT xs s l us us.length := by rw [HN2.out]; rfl
            obtain ⟨g, cap, rfl, hJ⟩ := join_own own [32] (by omega) (by omega) (by rw [eT, HN2.out]; omega)
            rw [hlen] at hJ ⊢
            rw [eT] at hJ
            have z0 : ¬ 9223372036854775807 < (M.stT xs s l us us.length).length + 1 := by rw [HN2.out]; omega
            have z1 : ¬ 9223372036854775807 < (M.mxT xs k).length + ((M.stT xs s l us us.length).length + 1) := by rw [HN2.out]; omega
            have hM := Lib.hid (M.mxT_next hX.out)
            clear hg0 hg1
            go_wp2_with (go_at_call 34; refine hJ.mono ?_; rintro e u3 ⟨rfl, e3⟩)
            go_roundw
            case rel =>
              refine ⟨k + 1, by go_num, by omega, ?_, ?_, ?_, bel_trans Bv e3⟩
              · rw [hM.out]
                refine congrArg Value.string ?_
                rw [show (⟨#[10]⟩ : ByteArray) = ⟨([10] : List UInt8).toArray⟩ from rfl, M.str_app (M.stT xs s l us us.length) [10], M.str_app]
              · rw [e3.cell (by show w.heap.size < _; omega)]; exact vq
              · have := e3.size; omega
            case measure => simp [intOf]; omega
      · obtain rfl : k = n := by omega
        go_wp2_with fail
        go_ret
        exact ⟨by rw [M.mixerText, if_pos HOK.out, HLX.out]; rfl, Bw⟩
end Go.Proofs.YtecdendjlgohjaaGreatDoor
namespace Go.Proofs.YtecdendjlgohjaaGreatDoor
open Go.RowKit Go.Sort
set_option maxHeartbeats 1000000
set_option maxRecDepth 100000
/-! Memory words for the reading of a mixer. -/
theorem Chg.cell1 {F : Nat → Prop} {a b : World} (h : Chg F a b) {p : Addr} (hk : p.block < a.heap.size) (hn : ¬ F p.block) : b.cell? p = a.cell? p :=
  World.cell?_of_block (h.block p.block hk hn)
theorem Chg.frozen1 {F : Nat → Prop} {a b : World} (h : Chg F a b) {p : Addr} (hk : p.block < a.heap.size) (hn : ¬ F p.block) : b.frozen? p = a.frozen? p :=
  World.frozen?_of_block (h.block p.block hk hn)
/-- A world in which blocks of F alone were written. -/
structure ChgTo (F : Nat → Prop) (u : World) where
  w : World
  h : Chg F u w
instance (F : Nat → Prop) (u : World) : Nonempty (ChgTo F u) := ⟨⟨u, Chg.refl _ _⟩⟩
theorem ChgTo.cell {F : Nat → Prop} {u : World} {a : Addr} {v : Value} (h : u.cell? a = some v) (hn : ¬ F a.block) (p : ChgTo F u) : p.w.cell? a = some v := by
  rw [p.h.cell1 (World.block_lt_of_cell? _ _ h) hn]; exact h
/-- A drawn region (X57's law) at the class 'only blocks of F were written'. -/
theorem wp_region_chg {P : Program} {id : Nat} {Q : Exit → Act → World → Prop} {a : Act} {w : World} {l : List Oper} (G : Nat → Prop) (A F : List Nat) (m : Nat) (t : Tw) (T R : List Nat) (hm : P.follows .mixedOrders = true)
    (hB : (planW .any l.toArray A F m t T R && (A ++ F ++ R).all (fun i => decide (i < l.length)) && (pickOps l A).all plainB && (pickOps l F).all plainB) = true)
    (h : wpQuiet P l.toArray (fun _ => True) (fun a' => wpQuiet P l.toArray (fun w' => ∃ p : ChgTo G w, w' = p.w) (fun a' => seqW P l (fun w' => ∃ p : ChgTo G w, w' = p.w) (fun x a w => x = .normal ∧ Q .normal a w) (pickOps l R) t a' w.drew) (pickOps l F) a') (pickOps l A) a) :
    (Code.region id l.toArray true).wp P Q a w :=
  wp_region_planW (D := fun w' => ∃ p : ChgTo G w, w' = p.w) A F m t T R hm hB ⟨⟨w.drew, Chg.of_below (below_drewN (Below.refl _ _) 1) _⟩, rfl⟩ h
/-- The k-th element is there again, in its own blocks and in new ones. -/
theorem OH.fill2 {α : Type} {t : Ty α} {e : TypeId} {w : World} {F : Nat → Prop} {v : Value} {xs : List α} {css : List (List Value)} {Fs : Nat → Nat → Prop} {k : Nat} (h : OH t e w F v xs css Fs k) {cs : List Value} (hcs : css[k]? = some cs) {y : α} {Fe : Nat → Prop} (hy : t.O w Fe cs y) (hd : ∀ b, Fe b → Fs k b ∨ ¬ F b) :
    OS t e w (fun b => F b ∨ Fe b) v (xs.set k y) := by
  obtain ⟨h1, h2, h3, h4, h5, h6, h7⟩ := h
  refine ⟨css, fun i => if i = k then Fe else Fs i, by rw [List.length_set]; exact h1, by rw [List.length_set]; exact h2, fun g hg => .inl (h4 g hg), fun i b hb => ?_, fun i j b hne hi hj => ?_, fun i hi hi' => ?_⟩
  · change (if i = k then Fe else Fs i) b at hb
    by_cases hik : i = k
    · rw [if_pos hik] at hb
      refine ⟨.inr hb, fun hg => ?_⟩
      rcases hd b hb with h8 | h8
      · exact (h5 k b h8).2 hg
      · exact h8 (h4 b hg)
    · rw [if_neg hik] at hb
      exact ⟨.inl (h5 i b hb).1, (h5 i b hb).2⟩
  · change (if i = k then Fe else Fs i) b at hi
    change (if j = k then Fe else Fs j) b at hj
    by_cases hik : i = k
    · rw [if_pos hik] at hi
      rw [if_neg (fun e => hne (hik.trans e.symm))] at hj
      rcases hd b hi with h8 | h8
      · exact h6 k j b (fun e => hne (hik.trans e)) h8 hj
      · exact h8 (h5 j b hj).1
    · rw [if_neg hik] at hi
      by_cases hjk : j = k
      · rw [if_pos hjk] at hj
        rcases hd b hj with h8 | h8
        · exact h6 k i b (fun e => hik e.symm) h8 hi
        · exact h8 (h5 i b hi).1
      · rw [if_neg hjk] at hj
        exact h6 i j b hne hi hj
  · by_cases hik : i = k
    · subst hik
      rw [List.getElem_set_self]
      rw [List.getElem?_eq_getElem hi', Option.some.injEq] at hcs
      rw [hcs]
      simpa using hy
    · rw [List.getElem_set_ne (fun e => hik e.symm)]
      simpa [hik] using h7 i (by rw [List.length_set] at hi; exact hi) hi' hik
/-- A slice that reads as words: a part of a row of strings. -/
def tLn : Ty (List (List UInt8)) where
  s := 1
  pos := Nat.one_pos
  zero := []
  R w B cs x := ∃ A c, cs = [.slice A x.length c] ∧ x.length ≤ c ∧ c ≤ maxLen ∧ Reads w B 1 A x.length (M.strs x)
  O w F cs x := ∃ A c, cs = [.slice A x.length c] ∧ x.length ≤ c ∧ c ≤ maxLen ∧ Reads w w.heap.size 1 A x.length (M.strs x) ∧ ∀ ad, 0 < x.length → A = some ad → F ad.block
  rlen := by rintro w B cs x ⟨A, c, rfl, _⟩; rfl
  keep := by rintro w w' B cs x hk ⟨A, c, rfl, h1, h2, h3⟩; exact ⟨A, c, rfl, h1, h2, h3.keep hk⟩
  more := by rintro w B B' cs x hk ⟨A, c, rfl, h1, h2, h3⟩; exact ⟨A, c, rfl, h1, h2, h3.more hk⟩
  read := by rintro w F cs x ⟨A, c, rfl, h1, h2, h3, _⟩; exact ⟨A, c, rfl, h1, h2, h3⟩
  okeep := by
    rintro w w' F cs x hk ⟨A, c, rfl, h1, h2, h3, h4⟩
    refine ⟨A, c, rfl, h1, h2, ⟨h3.1, fun hn => ?_⟩, h4⟩
    obtain ⟨ad, rfl, hb, hc⟩ := h3.2 hn
    have hF := hk ad.block (h4 ad hn rfl)
    refine ⟨ad, rfl, ?_, fun j u hj => ?_⟩
    · have : w.heap[ad.block]? = some w.heap[ad.block] := Array.getElem?_eq_getElem hb
      rw [← hF] at this
      exact (Array.getElem?_eq_some_iff.1 this).1
    · rw [World.cell?_of_block (show w'.heap[(ad.add j).block]? = w.heap[(ad.add j).block]? by rw [block_of_add]; exact hF)]
      exact hc j u hj
  owide := by rintro w F F' cs x hk ⟨A, c, rfl, h1, h2, h3, h4⟩; exact ⟨A, c, rfl, h1, h2, h3, fun ad hn e => hk _ (h4 ad hn e)⟩
  ocells := by rintro w F cs x ⟨A, c, rfl, _⟩ u hu; simp only [List.mem_singleton] at hu; subst hu; rfl
  oreal := by
    rintro w F cs x ⟨A, c, rfl, h1, h2, h3, h4⟩
    refine ⟨A, c, rfl, h1, h2, h3, fun ad hn e => ⟨h4 ad hn e, ?_⟩⟩
    obtain ⟨ad', e', hb, _⟩ := h3.2 hn
    rw [e, Option.some.injEq] at e'
    rw [e']; exact hb
/-- The tail of a row of words of the call's own. -/
theorem tLn_tail {w : World} {B : Nat} {g c : Nat} {ls : List (List UInt8)} (h : w.ownsRow B 9 1 (.slice (some ⟨g, 0, none⟩) ls.length c) ls.length (M.strs ls)) (hk : 2 ≤ ls.length) (hc : ls.length ≤ c) (hm : c ≤ maxLen) :
    tLn.O w (fun b => b = g) [.slice (if c = 2 then some ⟨g, 0, none⟩ else some ⟨g, 2, none⟩) (ls.length - 2) (c - 2)] (ls.drop 2) := by
  have hr := Reads.cut (Reads.of_own h) (k := 2) (cap := c) hk hc
  refine ⟨_, c - 2, by rw [List.length_drop], by rw [List.length_drop]; omega, by omega, ?_, fun ad _ e => ?_⟩
  · rw [List.length_drop]
    have e1 : M.strs (ls.drop 2) = (M.strs ls).drop (2 * 1) := by simp [M.strs]
    rw [e1]
    exact hr
  · split at e
    · rw [← Option.some.inj e]
    · rw [← Option.some.inj e]
theorem tLn_cut {w : World} {F : Nat → Prop} {A : Option Addr} {n c : Nat} {x : List (List UInt8)} (h : tLn.O w F [.slice A n c] x) {k : Nat} (hk : k ≤ x.length) :
    tLn.O w F [.slice (if c = k then A else A.map (·.add k)) (n - k) (c - k)] (x.drop k) := by
  obtain ⟨A1, c1, e, h1, h2, h3, h4⟩ := h
  simp only [List.cons.injEq, Value.slice.injEq, and_true] at e
  obtain ⟨rfl, rfl, rfl⟩ := e
  have hr := Reads.cut h3 (k := k) (cap := c) hk h1
  rw [Nat.mul_one] at hr
  refine ⟨_, c - k, by rw [List.length_drop], by rw [List.length_drop]; omega, by omega, ?_, fun ad hn e => ?_⟩
  · rw [List.length_drop, show M.strs (x.drop k) = (M.strs x).drop k by simp [M.strs]]
    exact hr
  · rw [List.length_drop] at hn
    split at e
    · exact h4 ad (by omega) e
    · obtain ⟨a, ha, rfl⟩ := Option.map_eq_some_iff.1 e
      rw [block_of_add]
      exact h4 a (by omega) ha
/-! The stages of the two passes. -/
def M.stage (h f : List (List UInt8) → Strip) (Ws : List (List (List UInt8))) (i : Nat) : List Strip := (Ws.take i).map f ++ (Ws.drop i).map h
section
variable {h f : List (List UInt8) → Strip} {Ws : List (List (List UInt8))} {i : Nat} {W : List (List UInt8)}
theorem M.stage_zero : M.stage h f Ws 0 = Ws.map h := by simp [M.stage]
theorem M.stage_end (hi : Ws.length ≤ i) : M.stage h f Ws i = Ws.map f := by simp [M.stage, List.take_of_length_le hi, List.drop_eq_nil_of_le hi]
theorem M.stage_len : (M.stage h f Ws i).length = Ws.length := by simp [M.stage]; omega
theorem M.stage_at (hW : Ws[i]? = some W) : (M.stage h f Ws i)[i]? = some (h W) := by
  have hi := (List.getElem?_eq_some_iff.1 hW).1
  rw [M.stage, List.getElem?_append_right (by simp; omega), List.length_map, List.length_take, Nat.min_eq_left (by omega), Nat.sub_self, List.getElem?_map, List.getElem?_drop, Nat.add_zero, hW]
  rfl
theorem M.stage_next (hW : Ws[i]? = some W) : (M.stage h f Ws i).set i (f W) = M.stage h f Ws (i + 1) := by
  have hi := (List.getElem?_eq_some_iff.1 hW).1
  rw [M.stage, M.stage, M.take_at hW, List.map_append, List.set_append_right _ _ (by simp; omega), List.length_map, List.length_take, Nat.min_eq_left (by omega), Nat.sub_self]
  have hd : Ws.drop i = W :: Ws.drop (i + 1) := by rw [List.drop_eq_getElem_cons hi, (List.getElem?_eq_some_iff.1 hW).2]
  rw [hd]
  simp
theorem M.stage_names (hn : ∀ W, (f W).1 = (h W).1) : (M.stage h f Ws i).map (·.1) = (Ws.map h).map (·.1) := by
  rw [M.stage, List.map_append, List.map_map, List.map_map, List.map_map]
  have e : ∀ l : List (List (List UInt8)), l.map ((·.1) ∘ f) = l.map ((·.1) ∘ h) := fun l => List.map_congr_left fun W _ => hn W
  rw [e, ← List.map_append, List.take_append_drop]
theorem M.set_names {xs : List Strip} {x y : Strip} (hx : xs[i]? = some x) (hy : y.1 = x.1) : (xs.set i y).map (·.1) = xs.map (·.1) := by
  rw [List.map_set]
  apply List.ext_getElem?
  intro j
  rw [List.getElem?_set]
  split
  · rename_i e
    subst e
    have hi := (List.getElem?_eq_some_iff.1 hx).1
    rw [if_pos (by rw [List.length_map]; exact hi), List.getElem?_map, hx, hy]; rfl
  · rfl
end
/-! Sizes. -/
theorem M.splitBy_sum (c : UInt8) : ∀ l : List UInt8, ((M.splitBy c l).map List.length).sum ≤ l.length
  | [] => by simp [M.splitBy]
  | b :: l => by
    have ih := M.splitBy_sum c l
    have hne := M.splitBy_ne c l
    rw [M.splitBy]
    cases hx : M.splitBy c l with
    | nil => exact absurd hx hne
    | cons a r =>
      rw [hx] at ih
      simp only [List.map_cons, List.sum_cons] at ih
      split
      · simp only [List.map_cons, List.sum_cons, List.length_nil, List.length_cons]; omega
      · simp only [List.headD_cons, List.tail_cons, List.map_cons, List.sum_cons, List.length_cons]; omega
theorem M.size_mk (l : List UInt8) : (⟨l.toArray⟩ : ByteArray).size = l.length := by simp [ByteArray.size]
theorem M.split_len (c : UInt8) (s : ByteArray) : (M.splitBy c s.data.toList).length ≤ s.size + 1 := by
  have h1 : (M.splitBy c s.data.toList).length = Lib.countB s ⟨#[c]⟩ + 1 := by
    rw [← M.pieces, List.length_map]
    exact Lib.splitB_all ⟨#[c]⟩ (Nat.le_refl 1) 0 _ s rfl
  have h3 := Lib.countB_le ⟨#[c]⟩ (Nat.le_refl 1) s.size s (Nat.le_refl _)
  omega
theorem M.splitBy_cnt (c : UInt8) (l : List UInt8) : (M.splitBy c l).length ≤ l.length + 1 := by
  have := M.split_len c ⟨l.toArray⟩
  rwa [show (⟨l.toArray⟩ : ByteArray).data.toList = l by simp, M.size_mk] at this
/-- Strips no greater than their lines. -/
def M.fits (Ls : List (List UInt8)) (X : List Strip) : Prop := X.length = Ls.length ∧ ∀ (i : Nat) (x : Strip) (L : List UInt8), X[i]? = some x → Ls[i]? = some L → x.1.size ≤ L.length ∧ x.2.2.length ≤ L.length
theorem M.fits_sz : ∀ {Ls : List (List UInt8)} {X : List Strip}, M.fits Ls X → hM.sz X ≤ Ls.length + 2 * (Ls.map List.length).sum := by
  have key : ∀ (Ls : List (List UInt8)) (X : List Strip), M.fits Ls X → hSt.szL X ≤ 2 * (Ls.map List.length).sum := by
    intro Ls
    induction Ls with
    | nil =>
      intro X h
      have : X = [] := List.eq_nil_of_length_eq_zero (by rw [h.1]; rfl)
      rw [this]; simp [Hs.szL]
    | cons L Ls ih =>
      intro X h
      cases X with
      | nil => have := h.1; simp at this
      | cons x X =>
        have h0 := h.2 0 x L rfl rfl
        have hr := ih X ⟨by have := h.1; simpa using this, fun i y M hy hM => h.2 (i + 1) y M (by simpa using hy) (by simpa using hM)⟩
        obtain ⟨s, l, us⟩ := x
        rw [Hs.szL, hSt_sz]
        simp only [List.map_cons, List.sum_cons]
        simp only at h0
        omega
  intro Ls X h
  show X.length + hSt.szL X ≤ _
  have := key Ls X h
  have := h.1
  omega
theorem M.fits_set {Ls : List (List UInt8)} {X : List Strip} (h : M.fits Ls X) {k : Nat} {y : Strip} {L : List UInt8} (hL : Ls[k]? = some L) (hy : y.1.size ≤ L.length ∧ y.2.2.length ≤ L.length) : M.fits Ls (X.set k y) := by
  refine ⟨by rw [List.length_set]; exact h.1, fun i x L' hx hL' => ?_⟩
  rw [List.getElem?_set] at hx
  split at hx
  · rename_i e
    subst e
    split at hx
    · rw [hL] at hL'
      rw [← Option.some.inj hx, ← Option.some.inj hL']
      exact hy
    · cases hx
  · exact h.2 i x L' hx hL'
theorem M.wd_len {W : List (List UInt8)} {n : Nat} (h : ∀ x ∈ W, x.length ≤ n) (k : Nat) : (M.wd W k).length ≤ n := by
  rw [M.wd]
  cases hk : W[k]? with
  | none => simp
  | some x => exact h x (List.mem_of_getElem? hk)
theorem M.words_cnt (L : List UInt8) : (M.wordsOf L).length ≤ L.length + 1 := Nat.le_trans (List.length_filter_le _ _) (M.splitBy_cnt 32 L)
theorem M.cntW_le {W : List (List UInt8)} {n : Nat} (h : W.length ≤ n + 1) : M.cntW W ≤ n := by rw [M.cntW]; omega
theorem M.stage_in {h f : List (List UInt8) → Strip} {Ws : List (List (List UInt8))} {i j : Nat} {x : Strip} (hx : (M.stage h f Ws i)[j]? = some x) : ∃ W, Ws[j]? = some W ∧ (x = f W ∨ x = h W) := by
  rw [M.stage] at hx
  rcases Nat.lt_or_ge j ((Ws.take i).map f).length with hj | hj
  · rw [List.getElem?_append_left hj, List.getElem?_map] at hx
    obtain ⟨W, hW, rfl⟩ := Option.map_eq_some_iff.1 hx
    rw [List.length_map, List.length_take] at hj
    rw [List.getElem?_take, if_pos (by omega)] at hW
    exact ⟨W, hW, .inl rfl⟩
  · rw [List.getElem?_append_right hj, List.getElem?_map] at hx
    obtain ⟨W, hW, rfl⟩ := Option.map_eq_some_iff.1 hx
    rw [List.length_map, List.length_take] at hj hW
    rw [List.getElem?_drop] at hW
    refine ⟨W, ?_, .inr rfl⟩
    by_cases hi : i ≤ Ws.length
    · rw [Nat.min_eq_left hi] at hW hj
      rwa [show i + (j - i) = j by omega] at hW
    · rw [Nat.min_eq_right (by omega)] at hW hj
      rw [List.getElem?_eq_none (by omega)] at hW
      cases hW
/-- A strip whose first sends are read. -/
def M.partR (hs : List Strip) (W : List (List UInt8)) (j : Nat) : Strip := (⟨(M.wd W 0).toArray⟩, (M.num (M.wd W 1)).getD 0, M.sndsR hs W j)
theorem M.partR_zero (hs : List Strip) (W : List (List UInt8)) : M.partR hs W 0 = M.headR W := rfl
theorem M.partR_cnt (hs : List Strip) (W : List (List UInt8)) : M.partR hs W (M.cntW W) = M.fullR hs W := rfl
theorem M.partR_fits {hs : List Strip} {W : List (List UInt8)} {j n : Nat} (h : ∀ x ∈ W, x.length ≤ n) (hl : W.length ≤ n + 1) (hj : j ≤ M.cntW W) : (M.partR hs W j).1.size ≤ n ∧ (M.partR hs W j).2.2.length ≤ n := by
  refine ⟨?_, ?_⟩
  · show (⟨(M.wd W 0).toArray⟩ : ByteArray).size ≤ n
    rw [M.size_mk]; exact M.wd_len h 0
  · show (M.sndsR hs W j).length ≤ n
    rw [M.sndsR_len]
    exact Nat.le_trans hj (M.cntW_le hl)
theorem M.stage_fits {Ls : List (List UInt8)} {Ws : List (List (List UInt8))} {h : List (List UInt8) → Strip} {hs : List Strip} {i : Nat} (hl : Ws.length = Ls.length) (hb : ∀ (j : Nat) (W : List (List UInt8)) (L : List UInt8), Ws[j]? = some W → Ls[j]? = some L → (∀ x ∈ W, x.length ≤ L.length) ∧ W.length ≤ L.length + 1)
    (hh : ∀ W, (h W).1 = (⟨(M.wd W 0).toArray⟩ : ByteArray) ∧ (h W).2.2 = []) : M.fits Ls (M.stage h (M.fullR hs) Ws i) := by
  refine ⟨by rw [M.stage_len, hl], fun j x L hx hL => ?_⟩
  obtain ⟨W, hW, hx⟩ := M.stage_in hx
  obtain ⟨h1, h2⟩ := hb j W L hW hL
  rcases hx with rfl | rfl
  · rw [← M.partR_cnt]
    exact M.partR_fits h1 h2 (Nat.le_refl _)
  · rw [(hh W).1, (hh W).2, M.size_mk]
    exact ⟨M.wd_len h1 0, by simp⟩
def slLen : Value → Nat
  | .slice _ n _ => n
  | _ => 0
theorem M.gOk_all {W : List (List UInt8)} (h : ∀ t, t < M.cntW W → M.gOk W t = true) : (List.range (M.cntW W)).all (M.gOk W) = true := by
  rw [List.all_eq_true]
  exact fun t ht => h t (List.mem_range.1 ht)
theorem M.okI_gain {W : List (List UInt8)} {t : Nat} (ht : t < M.cntW W) (h : M.gOk W t = false) : M.okI W = false := by
  rw [M.okI]
  cases hall : (List.range (M.cntW W)).all (M.gOk W) with
  | false => simp
  | true =>
    have := List.all_eq_true.1 hall t (List.mem_range.2 ht)
    rw [h] at this; cases this
end Go.Proofs.YtecdendjlgohjaaGreatDoor
namespace Go.Proofs.YtecdendjlgohjaaGreatDoor
open Go.RowKit Go.Sort
set_option maxHeartbeats 4000000
set_option maxRecDepth 100000
set_option linter.unusedVariables false
set_option linter.unusedSimpArgs false
theorem M.le_sum {a : Nat} : ∀ {l : List Nat}, a ∈ l → a ≤ l.sum
  | b :: l, h => by
    rw [List.sum_cons]
    rcases List.mem_cons.1 h with rfl | h
    · omega
    · have := M.le_sum h; omega
theorem own_form2 {w : World} {B n : Nat} {e : TypeId} {A : Option Addr} {m c : Nat} {cs : List Value} (h : w.ownsRow B e 1 (.slice A m c) n cs) (hn : 0 < n) : ∃ g, A = some ⟨g, 0, none⟩ ∧ B ≤ g ∧ g < w.heap.size := by
  obtain ⟨g, cap, h1, h2, h3⟩ := World.ownsRow.form h hn
  simp only [Value.slice.injEq] at h1
  exact ⟨g, h1.1, h2, h3⟩
def RetMx (w : World) (r : Option (List Strip)) (en : Ending) (w' : World) : Prop :=
  ∃ v, en = .returned (.tuple #[.agg #[v], .bool r.isSome]) ∧ OS tSt 44 w' (Iv w.heap.size w'.heap.size) v (r.getD []) ∧ Below w.heap.size w w'
theorem ei_lns : EI Tryz.prog 74 49 (.slice none 0 0) 1 24 := ⟨Tryz.underlying74, by kernel_rfl, rfl, by decide⟩
theorem impl_TrimSuffix (s : ByteArray) (w : World) (hs : s.size ≤ 1000000000) :
    Calls Tryz.prog 42 #[.string s, .string ⟨#[10]⟩] w fun e w' => e = .returned (.string ⟨(Lib.trimSuffix s.data.toList [10]).toArray⟩) ∧ w' = w :=
  Tryz.strings_TrimSuffix s ⟨#[10]⟩ w (by omega)
theorem M.build_no {ok : List (List UInt8) → Bool} {Ws : List (List (List UInt8))} {W : List (List UInt8)} (h : W ∈ Ws) (hW : ok W = false) : M.build ok Ws = none := by
  unfold M.build
  rw [if_neg]
  intro hc
  have := List.all_eq_true.1 hc W h
  rw [hW] at this
  cases this
theorem M.okI_head {W : List (List UInt8)} (h : M.headOk W = false) : M.okI W = false := by rw [M.okI, h]; rfl
theorem M.wd_at {W : List (List UInt8)} {k : Nat} (h : k < W.length) : W[k]? = some (M.wd W k) := by rw [M.wd, List.getElem?_eq_getElem h]; rfl
theorem impl_num (a : List UInt8) (h : a.length ≤ 1000000000) (u : World) (hu : LAD u) : Calls Tryz.prog 44 #[.string ⟨a.toArray⟩] u fun e w' => e = .returned (.tuple #[.int .i64 ((M.num a).getD 0), .bool (M.num a).isSome]) ∧ Below u.heap.size u w' := by
  have := impl_ReadDecimal ⟨a.toArray⟩ (by rw [M.size_mk]; exact h) u hu
  rwa [show M.numB ⟨a.toArray⟩ = M.num a by simp [M.numB]] at this
theorem M.words_len1 {L x : List UInt8} (h : x ∈ M.wordsOf L) : x.length ≤ L.length := by
  have key : ∀ (l : List UInt8) (y : List UInt8), y ∈ M.splitBy 32 l → y.length ≤ l.length := fun l y hy => by
    have h1 := M.splitBy_sum 32 l
    obtain ⟨i, hi, rfl⟩ := List.mem_iff_getElem.1 hy
    have h2 : (M.splitBy 32 l)[i].length ≤ ((M.splitBy 32 l).map List.length).sum := M.le_sum (List.mem_map.2 ⟨_, List.getElem_mem hi, rfl⟩)
    omega
  exact key L x (List.mem_filter.1 h).1
theorem st_new (w : World) (s : ByteArray) (l : Int) (hs : s.size ≤ maxLen) : tSt.O w (fun _ => False) [.string s, .int .i64 l, .slice none 0 0] (s, l, []) :=
  st_O.2 ⟨none, 0, 0, rfl, hs, sl_O.2 (OS.nil _ _ _ _)⟩
theorem impl_readMixer (s : ByteArray) (w : World) (hs : s.size ≤ 10000000) (hL : LAD w) :
    Calls Tryz.prog 23 #[.string s] w (RetMx w (M.build M.okI (M.linesI s.data.toList))) := by
  obtain ⟨W1, hW1⟩ : ∃ W1, W1 = ((w.alloc (.cells #[.slice none 0 0] 24)).alloc (.cells #[] 49)).alloc (.cells #[.slice none 0 0] 24) := ⟨_, rfl⟩
  have B1 : Below w.heap.size w W1 := by rw [hW1]; exact (((Below.refl _ _).alloc (Nat.le_refl _) _).alloc (by simp) _).alloc (by simp; omega) _
  have z1 : W1.heap.size = w.heap.size + 3 := by rw [hW1]; simp
  have r0 : W1.cell? ⟨w.heap.size, 0, none⟩ = some (.slice none 0 0) := by rw [hW1]; simp [go_sem]
  have r1 : W1.cell? ⟨w.heap.size + 2, 0, none⟩ = some (.slice none 0 0) := by rw [hW1]; simp [go_sem]
  have f0 : W1.frozen? ⟨w.heap.size, 0, none⟩ = false := by rw [hW1]; simp [go_sem]
  have f1 : W1.frozen? ⟨w.heap.size + 2, 0, none⟩ = false := by rw [hW1]; simp [go_sem]
  have ol0 : OS tLn 49 W1 (fun b => b = w.heap.size + 1) (.slice (some ⟨w.heap.size + 1, 0, none⟩) 0 0) [] := by
    have o1 : ((w.alloc (.cells #[.slice none 0 0] 24)).alloc (.cells #[] 49)).ownsRow 0 49 1 (.slice (some ⟨(w.alloc (.cells #[.slice none 0 0] 24)).heap.size, 0, none⟩) 0 0) 0 [] := World.ownsRow_made _ _ _ (Nat.zero_le _) (by simp [maxLen]) rfl
    refine ⟨[], fun _ _ => False, ?_, rfl, fun g hg => ?_, fun _ _ h => h.elim, fun _ _ _ _ h => h.elim, fun k h => by simp at h⟩
    · rw [hW1]
      have o2 := o1.alloc (.cells #[.slice none 0 0] 24)
      show World.ownsRow _ 0 _ 1 _ 0 []
      simpa using o2
    · simp only [Value.ownBlock, Option.some.injEq] at hg
      exact hg.symm
  have HW1 := Lib.hid hW1
  have Z1 := Lib.hid z1
  have HTR := Lib.hid (impl_TrimSuffix s W1 (by omega))
  obtain ⟨T, hT⟩ : ∃ T, T = Lib.trimSuffix s.data.toList [10] := ⟨_, rfl⟩
  have hTs : T.length ≤ s.size := by rw [hT, Lib.size_eq]; exact Lib.trimSuffix_le _ _
  rw [← hT] at HTR
  have HSP := Lib.hid (impl_Split ⟨T.toArray⟩ 10 W1 (by rw [M.size_mk]; omega) (hL.on B1))
  rw [show (⟨T.toArray⟩ : ByteArray).data.toList = T by simp] at HSP
  obtain ⟨Ls, hLs⟩ : ∃ Ls, Ls = M.splitBy 10 T := ⟨_, rfl⟩
  rw [← hLs] at HSP
  have hcnt : Ls.length ≤ s.size + 1 := by have := M.splitBy_cnt 10 T; rw [← hLs] at this; omega
  have hsum : (Ls.map List.length).sum ≤ s.size := by have := M.splitBy_sum 10 T; rw [← hLs] at this; omega
  obtain ⟨Ws, hWs⟩ : ∃ Ws, Ws = M.linesI s.data.toList := ⟨_, rfl⟩
  have hWL : Ws = Ls.map M.wordsOf := by rw [hWs, M.linesI, ← hT, ← hLs]
  rw [← hWs]
  have HWL := Lib.hid hWL
  have hWl : Ws.length = Ls.length := by rw [hWL, List.length_map]
  have HL := Lib.hid hL
  clear hW1 z1 hT hLs hWs hWL hL
  go_enter Tryz.func23, Tryz.ntmps23
  go_wp2_with fail
  rw [← HW1.out]
  refine HTR.out.mono ?_
  rintro e w' ⟨rfl, hw⟩
  rw [hw]
  clear hw
  go_wp2_with fail
  refine HSP.out.mono ?_
  rintro e W3 ⟨rfl, ownp, b3, hlt3⟩
  rw [Z1.out] at ownp hlt3
  have B3 := bel_trans B1 b3
  have R0 : W3.cell? ⟨w.heap.size, 0, none⟩ = some (.slice none 0 0) := by rw [b3.cell (by show w.heap.size < _; have := Z1.out; omega)]; exact r0
  have R1 : W3.cell? ⟨w.heap.size + 2, 0, none⟩ = some (.slice none 0 0) := by rw [b3.cell (by show w.heap.size + 2 < _; have := Z1.out; omega)]; exact r1
  have F0 : W3.frozen? ⟨w.heap.size, 0, none⟩ = false := by rw [b3.frozen (by show w.heap.size < _; have := Z1.out; omega)]; exact f0
  have F1 : W3.frozen? ⟨w.heap.size + 2, 0, none⟩ = false := by rw [b3.frozen (by show w.heap.size + 2 < _; have := Z1.out; omega)]; exact f1
  have ol3 := ol0.chg (Chg.of_below b3 (fun _ => False)) (fun _ _ h => h)
  have PC := Lib.hid (fun (k : Nat) (x : List UInt8) (hx : Ls[k]? = some x) => show W3.cell? ⟨w.heap.size + 3, k, none⟩ = some (.string ⟨x.toArray⟩) by
    have hadd : (⟨w.heap.size + 3, 0, none⟩ : Addr).add k = ⟨w.heap.size + 3, k, none⟩ := by unfold Addr.add; split <;> simp_all
    rw [← hadd]
    exact World.ownsRow.cells ownp (g := w.heap.size + 3) rfl k _ (by simp [M.strs, hx]))
  clear ownp b3 r0 r1 f0 f1 B1 ol0
  rw [Z1.out]
  generalize hN : Ls.length = N at hcnt hWl ⊢
  go_wp2_with fail
  go_loopw [5, 21] (fun vl i wr => ∃ (k : Nat) (v : Value) (FV FL : Nat → Prop), i = .int .i64 k ∧ k ≤ N ∧ wr.cell? ⟨w.heap.size + 2, 0, none⟩ = some v ∧ OS tSt 44 wr FV v ((Ws.take k).map M.headR) ∧ OS tLn 49 wr FL vl ((Ws.take k).map (fun W => W.drop 2)) ∧
      Hid (∀ b, FV b → W3.heap.size ≤ b ∧ b < wr.heap.size) ∧ Hid (∀ b, FL b → (b = w.heap.size + 1 ∨ W3.heap.size ≤ b) ∧ b < wr.heap.size) ∧ Hid (∀ b, FV b → ¬ FL b) ∧ Hid (∀ j W, j < k → Ws[j]? = some W → M.headOk W = true) ∧
      Hid (∀ p : Addr, p.block < W3.heap.size → p.block ≠ w.heap.size + 2 → p.block ≠ w.heap.size + 1 → wr.cell? p = W3.cell? p) ∧ Hid (∀ p : Addr, p.block < W3.heap.size → p.block ≠ w.heap.size + 1 → wr.frozen? p = W3.frozen? p) ∧ W3.heap.size ≤ wr.heap.size ∧ Below w.heap.size w wr) (fun _ i _ => N - (intOf i).toNat)
  case atStart => exact ⟨0, _, fun _ => False, _, rfl, by omega, R1, OS.nil _ _ _ _, ol3, Lib.hid (fun _ h => h.elim), Lib.hid (fun b h => ⟨.inl h, by omega⟩), Lib.hid (fun _ h => h.elim), Lib.hid (by omega), Lib.hid (fun _ _ _ _ => rfl), Lib.hid (fun _ _ _ => rfl), Nat.le_refl _, B3⟩
  case round =>
    obtain ⟨k, v, FV, FL, rfl, hk, hv, oS, oL, HFS, HFL, HD, HH, KC, KF, hsz, hb⟩ := hrel
    have R0r : wr.cell? ⟨w.heap.size, 0, none⟩ = some (.slice none 0 0) := by rw [KC.out _ (by show w.heap.size < _; omega) (by show w.heap.size ≠ _; omega) (by show w.heap.size ≠ _; omega)]; exact R0
    have F0r : wr.frozen? ⟨w.heap.size, 0, none⟩ = false := by rw [KF.out _ (by show w.heap.size < _; omega) (by show w.heap.size ≠ _; omega)]; exact F0
    have F1r : wr.frozen? ⟨w.heap.size + 2, 0, none⟩ = false := by rw [KF.out _ (by show w.heap.size + 2 < _; omega) (by show w.heap.size + 2 ≠ _; omega)]; exact F1
    by_cases hlt : k < N
    · have X := Lib.hid (List.getElem?_eq_getElem (l := Ls) (i := k) (by omega))
      generalize Ls[k]'(by omega) = x at X
      have hcx : wr.cell? ⟨w.heap.size + 3, k, none⟩ = some (.string ⟨x.toArray⟩) := by
        rw [KC.out _ (by show w.heap.size + 3 < _; omega) (by show w.heap.size + 3 ≠ _; omega) (by show w.heap.size + 3 ≠ _; omega)]
        exact PC.out k x X.out
      have XW := Lib.hid (show Ws[k]? = some (M.wordsOf x) by rw [HWL.out, List.getElem?_map, X.out]; rfl)
      have hxs : x.length ≤ s.size := by
        have h2 : x.length ≤ (Ls.map List.length).sum := M.le_sum (List.mem_map.2 ⟨x, List.mem_of_getElem? X.out, rfl⟩)
        omega
      have HSW := Lib.hid (impl_SplitWords ⟨x.toArray⟩ wr (by rw [M.size_mk]; omega) (HL.out.on hb))
      rw [show (⟨x.toArray⟩ : ByteArray).data.toList = x by simp] at HSW
      obtain ⟨W, hW⟩ : ∃ W, W = M.wordsOf x := ⟨_, rfl⟩
      rw [← hW] at XW HSW
      have hwx := Lib.hid (fun y hy => M.words_len1 (L := x) (x := y) hy)
      rw [← hW] at hwx
      have hwc : W.length ≤ x.length + 1 := by rw [hW]; exact M.words_cnt x
      have HWX := Lib.hid hW
      clear hW
      have hmemW : W ∈ Ws := List.mem_of_getElem? XW.out
      have NOW := Lib.hid (fun h : M.headOk W = false => M.build_no hmemW (M.okI_head h))
      have hrem : (W.length : Int).tmod 3 = ((W.length % 3 : Nat) : Int) := by rw [Int.tmod_eq_emod_of_nonneg (by omega)]; omega
      clear hmemW
      by_cases h2 : 2 ≤ W.length
      · by_cases h3 : W.length % 3 = 2
        · have e3 : ((W.length % 3 : Nat) : Int) = 2 := by omega
          rw [e3] at hrem
          have HND := Lib.hid (impl_num (M.wd W 1) (by have := M.wd_len hwx.out 1; omega))
          cases hn1 : M.num (M.wd W 1) with
          | none =>
            have NO := Lib.hid (NOW.out (by rw [M.headOk, hn1]; simp))
            go_wp2_with (first | (go_at_call 43; refine HSW.out.mono ?_; rintro e u1 ⟨v8, rfl, ow, d1⟩; obtain ⟨A8, c8, rfl, hc8, hm8, -⟩ := own_shape ow; have B4 := bel_trans hb d1; obtain ⟨g8, rfl, hg0, hg1⟩ := own_form2 ow (by omega); have cw0 : u1.cell? ⟨g8, 0, none⟩ = some (.string ⟨(M.wd W 0).toArray⟩) := World.ownsRow.cells ow (g := g8) rfl 0 _ (by simp [M.strs, M.wd_at (show 0 < W.length by omega)]); have cw1 : u1.cell? ⟨g8, 1, none⟩ = some (.string ⟨(M.wd W 1).toArray⟩) := World.ownsRow.cells ow (g := g8) rfl 1 _ (by simp [M.strs, M.wd_at (show 1 < W.length by omega)])) | (go_at_call 44; with_reducible refine (HND.out _ (HL.out.on B4)).mono ?_; rw [hn1]; rintro e u2 ⟨rfl, d2⟩; have B5 := bel_trans B4 d2; have D5 := bel_trans d1 d2; have rR : u2.cell? ⟨w.heap.size, 0, none⟩ = some (.slice none 0 0) := (by rw [D5.cell (by show w.heap.size < _; omega)]; exact R0r); have fR : u2.frozen? ⟨w.heap.size, 0, none⟩ = false := (by rw [D5.frozen (by show w.heap.size < _; omega)]; exact F0r)))
            refine bodyPost_ret (v := .tuple #[.agg #[.slice none 0 0], .bool false]) (by simp [results, Tryz.results23, go_sem, rR, fR]) rfl ?_
            rw [NO.out]
            exact ⟨_, rfl, OS.nil _ _ _ _, B5.setCell (Nat.le_refl _) _⟩
          | some q =>
            have HK := Lib.hid (show M.headOk W = true by rw [M.headOk, hn1, decide_eq_true h2, decide_eq_true h3]; rfl)
            have HQ := Lib.hid (show M.headR W = (⟨(M.wd W 0).toArray⟩, q, []) by rw [M.headR, hn1]; rfl)
            have hlk : ((Ws.take k).map M.headR).length = k := by rw [List.length_map, List.length_take]; omega
            obtain ⟨Av, cv, ev⟩ := oS.shape
            rw [hlk] at ev
            subst ev
            have hlk2 : ((Ws.take k).map (fun W => W.drop 2)).length = k := by rw [List.length_map, List.length_take]; omega
            obtain ⟨Al, cl, ev⟩ := oL.shape
            rw [hlk2] at ev
            subst ev
            go_wp2_with (first | (go_at_call 43; refine HSW.out.mono ?_; rintro e u1 ⟨v8, rfl, ow, d1⟩; obtain ⟨A8, c8, rfl, hc8, hm8, -⟩ := own_shape ow; have B4 := bel_trans hb d1; obtain ⟨g8, rfl, hg0, hg1⟩ := own_form2 ow (by omega); have cw0 : u1.cell? ⟨g8, 0, none⟩ = some (.string ⟨(M.wd W 0).toArray⟩) := World.ownsRow.cells ow (g := g8) rfl 0 _ (by simp [M.strs, M.wd_at (show 0 < W.length by omega)]); have cw1 : u1.cell? ⟨g8, 1, none⟩ = some (.string ⟨(M.wd W 1).toArray⟩) := World.ownsRow.cells ow (g := g8) rfl 1 _ (by simp [M.strs, M.wd_at (show 1 < W.length by omega)])) | (go_at_call 44; with_reducible refine (HND.out _ (HL.out.on B4)).mono ?_; rw [hn1]; rintro e u2 ⟨rfl, d2⟩; have B5 := bel_trans B4 d2; have D5 := bel_trans d1 d2))
            have D5w := D5
            have hv2 : u2.cell? ⟨w.heap.size + 2, 0, none⟩ = some (.slice Av k cv) := by rw [D5.cell (by show w.heap.size + 2 < _; omega)]; exact hv
            have cx0 : u2.cell? ⟨g8, 0, none⟩ = some (.string ⟨(M.wd W 0).toArray⟩) := by rw [d2.cell hg1]; exact cw0
            have m0 := cell_regrown hv2
            have m1 := cell_regrown cx0
            have s5 := D5.size
            have s4 := d1.size
            have s6 := d2.size
            have F1u : u2.frozen? ⟨w.heap.size + 2, 0, none⟩ = false := by rw [D5.frozen (by show w.heap.size + 2 < _; omega)]; exact F1r
            have R0u : u2.cell? ⟨w.heap.size, 0, none⟩ = some (.slice none 0 0) := by rw [D5.cell (by show w.heap.size < _; omega)]; exact R0r
            have oS2 := (oS.real.chg (Chg.of_below D5 (fun _ => False)) (fun _ _ h => h)).chg (Chg.of_below (below_drewN (Below.refl u2.heap.size u2) 1) (fun _ => False)) (fun _ _ h => h)
            have oL2 := (oL.real.chg (Chg.of_below D5 (fun _ => False)) (fun _ _ h => h)).chg (Chg.of_below (below_drewN (Below.refl u2.heap.size u2) 1) (fun _ => False)) (fun _ _ h => h)
            have DD : Below u2.heap.size u2 u2.drew := below_drewN (Below.refl _ _) 1
            have hkl : ((Ws.take k).map M.headR).length ≤ 100000000 := by rw [List.length_map, List.length_take]; omega
            have HSZ := Lib.hid (show (⟨(M.wd W 0).toArray⟩ : ByteArray).size ≤ maxLen by rw [M.size_mk]; have := M.wd_len hwx.out 0; unfold maxLen; omega)
            go_wp2_with fail
            (refine wp_region_fresh [0, 2, 3, 5] [1, 4] 2 (.one 6 (.one 7 .rest)) [8, 9, 10] (by kernel_rfl) (by kernel_rfl) ?_; simp only [pickOps]; simp only [List.filterMap, List.getElem?_cons_succ, List.getElem?_cons_zero]; (repeat (go_big_quiet_step (fail))); refine wpQuiet_nil ?_; (repeat (go_big_quiet_step (fail))); refine wpQuiet_nil ?_)
            refine seqT_one rfl ?_
            go_wp2_with fail
            refine ⟨regrown_of_below DD, seqT_one rfl ?_⟩
            go_wp2_with fail
            refine ⟨regrown_of_below (bel_trans DD ((Below.refl _ _).alloc (Nat.le_refl _) _)), seqT_rest ?_⟩
            obtain ⟨FS2, hFS2⟩ : ∃ F : Nat → Prop, F = fun b => FV b ∧ b < wr.heap.size := ⟨_, rfl⟩
            obtain ⟨FL2, hFL2⟩ : ∃ F : Nat → Prop, F = fun b => FL b ∧ b < wr.heap.size := ⟨_, rfl⟩
            rw [← hFS2] at oS2
            rw [← hFL2] at oL2
            have HS2 := Lib.hid (fun b (h : FS2 b) => show W3.heap.size ≤ b ∧ b < wr.heap.size by rw [hFS2] at h; exact ⟨(HFS.out b h.1).1, h.2⟩)
            have HL2 := Lib.hid (fun b (h : FL2 b) => show (b = w.heap.size + 1 ∨ W3.heap.size ≤ b) ∧ b < wr.heap.size by rw [hFL2] at h; exact ⟨(HFL.out b h.1).1, h.2⟩)
            have HD2 := Lib.hid (fun b (h : FS2 b) (h' : FL2 b) => show False by rw [hFS2] at h; rw [hFL2] at h'; exact HD.out b h.1 h'.1)
            clear hFS2 hFL2
            have hdr : u2.drew.heap.size = u2.heap.size := rfl
            go_wp2_with (first | (at_builtin; refine wpList_pushS ei_st #[.string ⟨(M.wd W 0).toArray⟩, .int .i64 q, .slice none 0 0] rfl _ _ rfl oS2 (st_new _ _ _ HSZ.out) (fun _ _ h => h) rfl rfl (by unfold maxLen; omega) (by omega) ?_; intro v3 w4 own4 ch4; obtain ⟨A4, c4, e4⟩ := own4.shape; rw [List.length_append, hlk, List.length_singleton] at e4; subst e4; have hv4 : w4.cell? ⟨w.heap.size + 2, 0, none⟩ = some (.slice Av k cv) := (by rw [ch4.cell1 (by show w.heap.size + 2 < u2.heap.size; omega) (fun h => by have := (HS2.out _ h).1; simp only at this; omega)]; exact hv2); have hf4 : w4.frozen? ⟨w.heap.size + 2, 0, none⟩ = false := (by rw [ch4.frozen1 (by show w.heap.size + 2 < u2.heap.size; omega) (fun h => by have := (HS2.out _ h).1; simp only at this; omega)]; exact F1u)) | (at_builtin; have s7 : u2.heap.size ≤ w4.heap.size := ch4.size; have e9 : (w4.setCell ⟨w.heap.size + 1 + 1, 0, none⟩ (.slice A4 (k + 1) c4)).heap.size = w4.heap.size := (by simp); have CB : Chg (fun b => b = w.heap.size + 2) w4 (w4.setCell ⟨w.heap.size + 1 + 1, 0, none⟩ (.slice A4 (k + 1) c4)) := Chg.set w4 (w.heap.size + 2) 0 _ rfl; have oL5 := (oL2.chg ch4 (fun b h h' => HD2.out b h' h)).chg CB (fun b h (h' : b = w.heap.size + 2) => (by have := (HL2.out b h).1; omega)); have ln5 : tLn.O (w4.setCell ⟨w.heap.size + 1 + 1, 0, none⟩ (.slice A4 (k + 1) c4)) (fun b => b = g8) [.slice (if c8 = 2 then some ⟨g8, 0, none⟩ else some ⟨g8, 2, none⟩) (W.length - 2) (c8 - 2)] (W.drop 2) := tLn.okeep (fun b (hb8 : b = g8) => (by rw [hb8]; exact (CB.block g8 (by omega) (show ¬ g8 = w.heap.size + 2 by omega)).trans ((ch4.block g8 (show g8 < u2.heap.size by omega) (fun h => by have := (HS2.out _ h).2; omega)).trans ((DD.block g8 (by omega)).trans (d2.block g8 hg1))))) (tLn_tail ow h2 hc8 hm8); refine wpList_pushS ei_lns #[.slice (if c8 = 2 then some ⟨g8, 0, none⟩ else some ⟨g8, 2, none⟩) (W.length - 2) (c8 - 2)] rfl _ _ rfl oL5 ln5 (fun b h (h' : b = g8) => (by have := (HL2.out b h).2; omega)) rfl (by rw [e9]; rfl) (by unfold maxLen; omega) (by omega) ?_; intro v5 w6 own6 ch6))
            go_roundw
            case rel =>
              have t4 : u2.heap.size ≤ w4.heap.size := ch4.size
              have t6 : w4.heap.size ≤ w6.heap.size := by have := ch6.size; omega
              obtain ⟨w5, hw5⟩ : ∃ w5, w5 = w4.setCell ⟨w.heap.size + 1 + 1, 0, none⟩ (.slice A4 (k + 1) c4) := ⟨_, rfl⟩
              have c5 : w5.cell? ⟨w.heap.size + 2, 0, none⟩ = some (.slice A4 (k + 1) c4) := by rw [hw5]; exact World.cell?_setCell_same _ _ _ hv4
              have CB5 : Chg (fun b => b = w.heap.size + 2) w4 w5 := by rw [hw5]; exact CB
              have e95 : w5.heap.size = w4.heap.size := by rw [hw5]; exact e9
              rw [← hw5] at ch6
              have S4 := own4.wide (F' := fun b => FS2 b ∨ (u2.heap.size < b ∧ b < w4.heap.size)) (fun b h => by rcases h with h | h | h; exact .inl h; exact h.elim; exact .inr h)
              have S6 := (S4.chg CB5 (fun b h (h' : b = w.heap.size + 2) => by rcases h with h | h; (have := (HS2.out b h).1; omega); omega)).chg ch6 (fun b h h' => by
                have h3 := (HL2.out b h').2
                rcases h with h | h
                · exact HD2.out b h h'
                · omega)
              have L6 := own6.wide (F' := fun b => FL2 b ∨ b = g8 ∨ (w4.heap.size < b ∧ b < w6.heap.size)) (fun b h => by rcases h with h | h | h; exact .inl h; exact .inr (.inl h); exact .inr (.inr (by rw [e9] at h; exact h)))
              have CG : Chg (fun b => FS2 b ∨ b = w.heap.size + 2 ∨ FL2 b) wr w6 := ((((Chg.of_below D5 _).trans (Chg.of_below DD _)).trans (ch4.wide (fun _ h => .inl h))).trans (CB5.wide (fun _ h => .inr (.inl h)))).trans (ch6.wide (fun _ h => .inr (.inr h)))
              have B6 : Below w.heap.size w w6 := hb.trans (CG.toBelow (fun b h => by
                rcases h with h | h | h
                · have := (HS2.out b h).1; omega
                · omega
                · have := (HL2.out b h).1; omega) (by omega))
              refine ⟨k + 1, .slice A4 (k + 1) c4, fun b => FS2 b ∨ (u2.heap.size < b ∧ b < w4.heap.size), fun b => FL2 b ∨ b = g8 ∨ (w4.heap.size < b ∧ b < w6.heap.size), by go_num, by omega, ?_, ?_, ?_, Lib.hid (fun b h => ?_), Lib.hid (fun b h => ?_), Lib.hid (fun b h h' => ?_), Lib.hid (fun j W' hj hW' => ?_), Lib.hid (fun p h1 h2 h3 => ?_), Lib.hid (fun p h1 h2 => ?_), by omega, B6⟩
              rotate_left
              · rw [M.take_at XW.out, List.map_append, List.map_singleton, HQ.out]
                exact S6
              · rw [M.take_at XW.out, List.map_append, List.map_singleton]
                exact L6
              · rcases h with h | h
                · have := HS2.out b h; omega
                · omega
              · rcases h with h | h | h
                · have := HL2.out b h; omega
                · omega
                · omega
              · rcases h with h | h
                · have h3 := HS2.out b h
                  rcases h' with h' | h' | h'
                  · exact HD2.out b h h'
                  · omega
                  · omega
                · rcases h' with h' | h' | h'
                  · have := (HL2.out b h').2; omega
                  · omega
                  · omega
              · rcases Nat.lt_or_ge j k with h3 | h3
                · exact HH.out j W' h3 hW'
                · obtain rfl : j = k := by omega
                  rw [XW.out] at hW'
                  rw [← Option.some.inj hW']; exact HK.out
              · rw [CG.cell1 (by omega) (fun h => by
                  rcases h with h | h | h
                  · have := (HS2.out _ h).1; omega
                  · omega
                  · have := (HL2.out _ h).1; omega), KC.out p h1 h2 h3]
              · have n1 : ¬ FL2 p.block := fun h => by have := (HL2.out _ h).1; omega
                have n2 : ¬ FS2 p.block := fun h => by have := (HS2.out _ h).1; omega
                rw [ch6.frozen1 (by omega) n1, hw5, World.frozen?_setCell, ch4.frozen1 (show p.block < u2.heap.size by omega) n2]
                exact (DD.frozen (by omega)).trans ((D5.frozen (by omega)).trans (KF.out p h1 h2))
              · rw [ch6.cell1 (by show w.heap.size + 2 < _; omega) (fun h => by have := (HL2.out _ h).1; simp only at this; omega)]
                exact c5
            case measure => simp [intOf]; omega
        · have e3 : ¬ ((W.length % 3 : Nat) : Int) = 2 := by omega
          have NO := Lib.hid (NOW.out (by rw [M.headOk, decide_eq_false h3]; simp))
          generalize ((W.length % 3 : Nat) : Int) = z3 at hrem e3
          have e4 : (z3 != 2) = true := by simpa using e3
          have e5 : z3 ≠ 2 := e3
          go_wp2_with (go_at_call 43; refine HSW.out.mono ?_; rintro e u1 ⟨v8, rfl, ow, d1⟩; obtain ⟨A8, c8, rfl, hc8, hm8, -⟩ := own_shape ow; have B4 := bel_trans hb d1; have rR : u1.cell? ⟨w.heap.size, 0, none⟩ = some (.slice none 0 0) := (by rw [d1.cell (by show w.heap.size < _; omega)]; exact R0r); have fR : u1.frozen? ⟨w.heap.size, 0, none⟩ = false := (by rw [d1.frozen (by show w.heap.size < _; omega)]; exact F0r))
          refine bodyPost_ret (v := .tuple #[.agg #[.slice none 0 0], .bool false]) (by simp [results, Tryz.results23, go_sem, rR, fR]) rfl ?_
          rw [NO.out]
          exact ⟨_, rfl, OS.nil _ _ _ _, B4.setCell (Nat.le_refl _) _⟩
      · have NO := Lib.hid (NOW.out (by rw [M.headOk, decide_eq_false h2]; rfl))
        go_wp2_with (go_at_call 43; refine HSW.out.mono ?_; rintro e u1 ⟨v8, rfl, ow, d1⟩; obtain ⟨A8, c8, rfl, hc8, hm8, -⟩ := own_shape ow; have B4 := bel_trans hb d1; have rR : u1.cell? ⟨w.heap.size, 0, none⟩ = some (.slice none 0 0) := (by rw [d1.cell (by show w.heap.size < _; omega)]; exact R0r); have fR : u1.frozen? ⟨w.heap.size, 0, none⟩ = false := (by rw [d1.frozen (by show w.heap.size < _; omega)]; exact F0r))
        refine bodyPost_ret (v := .tuple #[.agg #[.slice none 0 0], .bool false]) (by simp [results, Tryz.results23, go_sem, rR, fR]) rfl ?_
        rw [NO.out]
        exact ⟨_, rfl, OS.nil _ _ _ _, B4.setCell (Nat.le_refl _) _⟩
    · have hkN : k = N := by omega
      subst hkN
      rw [List.take_of_length_le (by omega)] at oS oL
      obtain ⟨W7, hW7⟩ : ∃ u : World, u = wr := ⟨_, rfl⟩
      obtain ⟨hsr, hhs⟩ : ∃ hs, hs = Ws.map M.headR := ⟨_, rfl⟩
      have HHS := Lib.hid hhs
      obtain ⟨Av, cv, ev⟩ := oS.shape
      rw [List.length_map, hWl] at ev
      subst ev
      obtain ⟨Al, cl, ev⟩ := oL.shape
      rw [List.length_map, hWl] at ev
      subst ev
      rw [← hW7] at hv oS oL HFS HFL KC KF hsz hb ⊢
      have oS0 : OS tSt 44 W7 FV (.slice Av k cv) (M.stage M.headR (M.fullR hsr) Ws 0) := by rw [M.stage_zero]; exact oS
      have FIT := Lib.hid (fun i => M.stage_fits (Ls := Ls) (Ws := Ws) (h := M.headR) (hs := hsr) (i := i) (by omega) (fun j W L hW hL => by
        rw [HWL.out, List.getElem?_map, hL] at hW
        obtain rfl := Option.some.inj hW
        exact ⟨fun y hy => M.words_len1 hy, M.words_cnt L⟩) (fun W => ⟨rfl, rfl⟩))
      have HNM := Lib.hid (fun i => M.stage_names (h := M.headR) (f := M.fullR hsr) (Ws := Ws) (i := i) (fun W => rfl))
      clear hW7 oS R0r F0r F1r hhs
      clear wr
      go_wp2_with fail
      go_loopw [65] (fun i wr => ∃ (q : Nat) (GS : Nat → Prop), i = .int .i64 q ∧ q ≤ k ∧ wr.cell? ⟨w.heap.size + 2, 0, none⟩ = some (.slice Av k cv) ∧ OS tSt 44 wr GS (.slice Av k cv) (M.stage M.headR (M.fullR hsr) Ws q) ∧ OS tLn 49 wr FL (.slice Al k cl) (Ws.map (fun W => W.drop 2)) ∧
          Hid (∀ b, GS b → W3.heap.size ≤ b ∧ b < wr.heap.size) ∧ Hid (∀ b, GS b → ¬ FL b) ∧ Hid (∀ j W, j < q → Ws[j]? = some W → (List.range (M.cntW W)).all (M.gOk W) = true) ∧
          Hid (∀ p : Addr, p.block < W3.heap.size → wr.cell? p = W7.cell? p) ∧ Hid (∀ p : Addr, p.block < W3.heap.size → wr.frozen? p = W7.frozen? p) ∧ W7.heap.size ≤ wr.heap.size ∧ Below w.heap.size w wr) (fun i _ => k - (intOf i).toNat)
      case atStart => exact ⟨0, FV, rfl, by omega, hv, oS0, oL, HFS, HD, Lib.hid (by omega), Lib.hid (fun _ _ => rfl), Lib.hid (fun _ _ => rfl), Nat.le_refl _, hb⟩
      case round =>
        clear hv oS0 oL HFS HD
        obtain ⟨q, GS, rfl, hq, hv, oS, oL, HFS, HD, HG, KC2, KF2, hsz2, hb2⟩ := hrel
        have R0r : wr.cell? ⟨w.heap.size, 0, none⟩ = some (.slice none 0 0) := by rw [KC2.out _ (by show w.heap.size < _; omega), KC.out _ (by show w.heap.size < _; omega) (by show w.heap.size ≠ _; omega) (by show w.heap.size ≠ _; omega)]; exact R0
        have F0r : wr.frozen? ⟨w.heap.size, 0, none⟩ = false := by rw [KF2.out _ (by show w.heap.size < _; omega), KF.out _ (by show w.heap.size < _; omega) (by show w.heap.size ≠ _; omega)]; exact F0
        by_cases hlt2 : q < k
        · have X := Lib.hid (List.getElem?_eq_getElem (l := Ls) (i := q) (by omega))
          generalize Ls[q]'(by omega) = x at X
          have hxs : x.length ≤ s.size := by
            have h2 : x.length ≤ (Ls.map List.length).sum := M.le_sum (List.mem_map.2 ⟨x, List.mem_of_getElem? X.out, rfl⟩)
            omega
          obtain ⟨W, hW⟩ : ∃ W, W = M.wordsOf x := ⟨_, rfl⟩
          have XW := Lib.hid (show Ws[q]? = some W by rw [HWL.out, List.getElem?_map, X.out, hW]; rfl)
          have hwx := Lib.hid (fun y hy => M.words_len1 (L := x) (x := y) hy)
          rw [← hW] at hwx
          have hwc : W.length ≤ x.length + 1 := by rw [hW]; exact M.words_cnt x
          have hhk := HH.out q W (by omega) XW.out
          rw [M.headOk, Bool.and_eq_true, Bool.and_eq_true, decide_eq_true_eq, decide_eq_true_eq] at hhk
          obtain ⟨⟨h2, h3⟩, -⟩ := hhk
          have hcn : 3 * M.cntW W + 2 = W.length := by rw [M.cntW]; omega
          have NOW := Lib.hid (fun (t : Nat) (ht : t < M.cntW W) (h : M.gOk W t = false) => M.build_no (List.mem_of_getElem? XW.out) (M.okI_gain ht h))
          clear hW
          obtain ⟨cssL, FsL, ohL, csL, hcsL, hoL⟩ := oL.openAt (k := q) (x := W.drop 2) (by rw [List.getElem?_map, XW.out]; rfl)
          obtain ⟨gL, rfl, hgL, -, hgL2, -⟩ := ohL.form (by rw [List.length_map]; omega)
          have hoL' := tLn.owide ohL.fits hoL
          obtain ⟨Aw, cw, rfl, hcw1, hcw2, hrd, hfp⟩ := hoL'
          have cL : wr.cell? ⟨gL, q, none⟩ = some (.slice Aw (W.drop 2).length cw) := by
            have := (ohL.cell hcsL (j := 0) rfl).1
            rw [show q * tLn.s + 0 = q from Nat.mul_one q] at this
            exact this
          have ln0 : tLn.O wr FL [.slice Aw (W.length - 2) cw] (W.drop (2 + 3 * 0)) := by
            refine ⟨Aw, cw, ?_, hcw1, hcw2, hrd, hfp⟩
            rw [List.length_drop]
          rw [List.length_drop] at cL hcw1
          have oP0 : OS tSt 44 wr GS (.slice Av k cv) ((M.stage M.headR (M.fullR hsr) Ws q).set q (M.partR hsr W 0)) := by
            rw [M.partR_zero, show (M.stage M.headR (M.fullR hsr) Ws q).set q (M.headR W) = M.stage M.headR (M.fullR hsr) Ws q from List.ext_getElem? fun i => by
              rw [List.getElem?_set]
              split
              · rename_i e; subst e
                rw [if_pos (by rw [M.stage_len]; omega), M.stage_at XW.out]
              · rfl]
            exact oS
          clear hfp hrd hcsL hoL ohL oS
          go_wp2_with fail
          obtain ⟨W8, hW8⟩ : ∃ u : World, u = wr := ⟨_, rfl⟩
          rw [← hW8] at hv oP0 oL HFS ln0 R0r F0r KC2 KF2 hsz2 hb2 ⊢
          clear hW8 cL hgL2
          clear wr
          go_loopw [12] (fun vw wr => ∃ (j : Nat) (A' : Option Addr) (c' : Nat) (G2 : Nat → Prop), vw = .slice A' (W.length - 2 - 3 * j) c' ∧ j ≤ M.cntW W ∧ W.length - 2 - 3 * j ≤ c' ∧ tLn.O wr FL [.slice A' (W.length - 2 - 3 * j) c'] (W.drop (2 + 3 * j)) ∧ wr.cell? ⟨w.heap.size + 2, 0, none⟩ = some (.slice Av k cv) ∧
              OS tSt 44 wr G2 (.slice Av k cv) ((M.stage M.headR (M.fullR hsr) Ws q).set q (M.partR hsr W j)) ∧ OS tLn 49 wr FL (.slice (some ⟨gL, 0, none⟩) k cl) (Ws.map (fun W => W.drop 2)) ∧
              Hid (∀ b, G2 b → W3.heap.size ≤ b ∧ b < wr.heap.size) ∧ Hid (∀ b, G2 b → ¬ FL b) ∧ Hid (∀ t, t < j → M.gOk W t = true) ∧
              Hid (∀ p : Addr, p.block < W3.heap.size → wr.cell? p = W8.cell? p) ∧ Hid (∀ p : Addr, p.block < W3.heap.size → wr.frozen? p = W8.frozen? p) ∧ W8.heap.size ≤ wr.heap.size ∧ Below w.heap.size w wr) (fun vw _ => slLen vw)
          case atStart => exact ⟨0, Aw, cw, GS, by simp, by omega, by omega, ln0, hv, oP0, oL, HFS, HD, Lib.hid (by omega), Lib.hid (fun _ _ => rfl), Lib.hid (fun _ _ => rfl), Nat.le_refl _, hb2⟩
          case round =>
            clear ln0 hv oP0 oL HFS HD
            obtain ⟨j, A', c', G2, rfl, hj, hc', ln, hv, oP, oL, HFS, HD, HG2, KC3, KF3, hsz3, hb3⟩ := hrel
            have R0w : wr.cell? ⟨w.heap.size, 0, none⟩ = some (.slice none 0 0) := by rw [KC3.out _ (by show w.heap.size < _; omega)]; exact R0r
            have F0w : wr.frozen? ⟨w.heap.size, 0, none⟩ = false := by rw [KF3.out _ (by show w.heap.size < _; omega)]; exact F0r
            by_cases hlt3 : j < M.cntW W
            · have hn3 : 3 ≤ W.length - 2 - 3 * j := by omega
              have ln' := ln
              obtain ⟨A1, c1, ecs, hcl1, hcl2, hrd, hfp⟩ := ln'
              simp only [List.cons.injEq, Value.slice.injEq, and_true] at ecs
              obtain ⟨rfl, eln, rfl⟩ := ecs
              obtain ⟨ad, rfl, hab, hcl⟩ := hrd.2 (by omega)
              have hFad := hfp ad (by omega) rfl
              have hsp := spot_none (hcl 0 (.string ⟨(M.wd W (2 + 3 * j + 0)).toArray⟩) (by
                rw [M.strs, List.getElem?_map, List.getElem?_drop, M.wd_at (show 2 + 3 * j + 0 < W.length by omega)]; rfl))
              have hsp' : ad = ⟨ad.block, ad.off, none⟩ := by simpa [Addr.add] using hsp
              generalize ad.block = ba at hsp' hab hFad
              generalize ad.off = oa at hsp'
              subst hsp'
              have hadS := Lib.hid (fun h : G2 ba => HD.out ba h hFad)
              have w2 : wr.cell? ⟨ba, oa + 2, none⟩ = some (.string ⟨(M.wd W (2 + 3 * j + 2)).toArray⟩) := by rw [← Addr.add_lit]; exact hcl 2 _ (by
                rw [M.strs, List.getElem?_map, List.getElem?_drop, M.wd_at (show 2 + 3 * j + 2 < W.length by omega)]; rfl)
              have w1 : wr.cell? ⟨ba, oa + 1, none⟩ = some (.string ⟨(M.wd W (2 + 3 * j + 1)).toArray⟩) := by rw [← Addr.add_lit]; exact hcl 1 _ (by
                rw [M.strs, List.getElem?_map, List.getElem?_drop, M.wd_at (show 2 + 3 * j + 1 < W.length by omega)]; rfl)
              have HND := Lib.hid (impl_num (M.wd W (2 + 3 * j + 2)) (by have := M.wd_len hwx.out (2 + 3 * j + 2); omega) wr (HL.out.on hb3))
              clear hrd hcl hfp eln hcl1 hcl2
              cases hn1 : M.num (M.wd W (2 + 3 * j + 2)) with
              | none =>
                have NO := Lib.hid (NOW.out j hlt3 (by rw [M.gOk, hn1]; rfl))
                rw [hn1] at HND
                go_wp2_with (go_at_call 44; with_reducible refine HND.out.mono ?_; rintro e u2 ⟨rfl, d2⟩; have B5 := bel_trans hb3 d2; have rR : u2.cell? ⟨w.heap.size, 0, none⟩ = some (.slice none 0 0) := (by rw [d2.cell (by show w.heap.size < _; omega)]; exact R0w); have fR : u2.frozen? ⟨w.heap.size, 0, none⟩ = false := (by rw [d2.frozen (by show w.heap.size < _; omega)]; exact F0w))
                refine bodyPost_ret (v := .tuple #[.agg #[.slice none 0 0], .bool false]) (by simp [results, Tryz.results23, go_sem, rR, fR]) rfl ?_
                rw [NO.out]
                exact ⟨_, rfl, OS.nil _ _ _ _, B5.setCell (Nat.le_refl _) _⟩
              | some g =>
                rw [hn1] at HND
                have HSR := Lib.hid (show M.sndR hsr W j = (M.named hsr ⟨(M.wd W (2 + 3 * j + 1)).toArray⟩, g) by rw [M.sndR, hn1]; rfl)
                have HG1 := Lib.hid (show M.gOk W j = true by rw [M.gOk, hn1]; rfl)
                go_wp2_with (go_at_call 44; with_reducible refine HND.out.mono ?_; rintro e u2 ⟨rfl, d2⟩; have B5 := bel_trans hb3 d2)
                have s2 := d2.size
                obtain ⟨Y, hY⟩ : ∃ Y, Y = (M.stage M.headR (M.fullR hsr) Ws q).set q (M.partR hsr W j) := ⟨_, rfl⟩
                rw [← hY] at oP
                have hYl : Y.length = k := by rw [hY, List.length_set, M.stage_len]; omega
                have hYq : Y[q]? = some (M.partR hsr W j) := by rw [hY, List.getElem?_set_self (by rw [M.stage_len]; omega)]
                have HNY := Lib.hid (show ∀ t, M.named Y t = M.named hsr t from fun t => M.named_names (by rw [hY, M.set_names (y := M.partR hsr W j) (M.stage_at XW.out) rfl, HNM.out, HHS.out]) t)
                have hYs : hM.sz Y ≤ 100000000 := by
                  have := M.fits_sz (show M.fits Ls Y by rw [hY]; exact M.fits_set (FIT.out q) X.out (M.partR_fits hwx.out hwc (by omega)))
                  omega
                have HYN := Lib.hid (show Y.set q (M.partR hsr W (j + 1)) = (M.stage M.headR (M.fullR hsr) Ws q).set q (M.partR hsr W (j + 1)) by rw [hY, List.set_set])
                clear hY
                have oP2 := oP.chg (Chg.of_below d2 (fun _ => False)) (fun _ _ h => h)
                have hR := oP2.read
                obtain ⟨css, Fs, oh, cs, hcs, ho⟩ := oP2.openAt hYq
                obtain ⟨gS, rfl, hgS, hgS2, hgS3, -⟩ := oh.form (by rw [hYl]; omega)
                obtain ⟨As, ns, cS, rfl, hzs, hsd⟩ := st_O.1 (show tSt.O u2 (Fs q) cs (⟨(M.wd W 0).toArray⟩, (M.num (M.wd W 1)).getD 0, M.sndsR hsr W j) from ho)
                obtain ⟨vs, evs, osd⟩ := hsd
                simp only [List.cons.injEq, and_true] at evs
                subst evs
                obtain ⟨As', cS', es⟩ := osd.shape
                rw [M.sndsR_len] at es
                simp only [Value.slice.injEq] at es
                obtain ⟨rfl, hnj, rfl⟩ := es
                obtain rfl : j = ns := hnj.symm
                clear hnj
                obtain ⟨cS2, fS2⟩ := oh.cell hcs (j := 2) rfl
                rw [show q * tSt.s + 2 = q * 3 + 2 from rfl] at cS2 fS2
                have HFs := Lib.hid (fun b (h : Fs q b) => show W3.heap.size ≤ b ∧ b < wr.heap.size ∧ ¬ FL b from ⟨(HFS.out b (oh.fits b h)).1, (HFS.out b (oh.fits b h)).2, HD.out b (oh.fits b h)⟩)
                have hv2 : u2.cell? ⟨w.heap.size + 2, 0, none⟩ = some (.slice (some ⟨gS, 0, none⟩) k cv) := by rw [d2.cell (by show w.heap.size + 2 < _; omega)]; exact hv
                have w1u : u2.cell? ⟨ba, oa + 1, none⟩ = some (.string ⟨(M.wd W (2 + 3 * j + 1)).toArray⟩) := by rw [d2.cell hab]; exact w1
                have m0 := ChgTo.cell (F := Fs q) hv2 (fun h => by have := (HFs.out _ h).1; simp only at this; omega)
                have m1 := ChgTo.cell (F := Fs q) cS2 hgS2
                have m2 := ChgTo.cell (F := Fs q) w1u (fun h => (HFs.out _ h).2.2 hFad)
                have DD : Below u2.heap.size u2 u2.drew := below_drewN (Below.refl _ _) 1
                have HN := Lib.hid (impl_stripNamed (some ⟨gS, 0, none⟩) k cv Y ⟨(M.wd W (2 + 3 * j + 1)).toArray⟩ u2.drew (tM.later (sl_R.2 hR) DD) hYs)
                clear w1 w2 hR
                go_wp2_with fail
                (refine wp_region_chg (Fs q) [0, 2, 3, 5, 10, 11, 14] [1, 4, 6, 7, 8, 9, 12] 6 (.one 13 (.one 15 (.one 16 (.one 17 (.first 18 (.first 19 .rest)))))) [20] [20] (by kernel_rfl) (by kernel_rfl) ?_; simp only [pickOps]; simp only [List.filterMap, List.getElem?_cons_succ, List.getElem?_cons_zero]; (repeat (go_big_quiet_step (fail))); refine wpQuiet_nil ?_; (repeat (go_big_quiet_step (fail))); refine wpQuiet_nil ?_)
                refine seqT_one2 rfl ?_
                go_wp2_with fail
                refine HN.out.mono ?_
                rintro e u3 ⟨rfl, d3⟩
                rw [HNY.out]
                have DD3 : Below u2.heap.size u2 u3 := bel_trans DD d3
                have s3 := DD3.size
                have osd3 := osd.real.chg (Chg.of_below DD3 (fun _ => False)) (fun _ _ h => h)
                have cS3 : u3.cell? ⟨gS, q * 3 + 2, none⟩ = some (.slice As j cS) := by rw [DD3.cell hgS3]; exact cS2
                have fS3 : u3.frozen? ⟨gS, q * 3 + 2, none⟩ = false := by rw [DD3.frozen hgS3]; exact fS2
                go_wp2_with fail
                refine ⟨⟨⟨u3, Chg.of_below DD3 _⟩, rfl⟩, seqT_one2 rfl ?_⟩
                go_wp2_with fail
                refine ⟨⟨⟨u3, Chg.of_below DD3 _⟩, rfl⟩, seqT_one2 rfl ?_⟩
                go_wp2_with fail
                refine ⟨⟨⟨_, Chg.of_below (bel_trans DD3 ((Below.refl _ _).alloc (Nat.le_refl _) _)) _⟩, rfl⟩, seqT_one2 rfl ?_⟩
                go_wp2_with (at_builtin; refine wpList_pushS ei_sd #[.int .i64 (M.named hsr ⟨(M.wd W (2 + 3 * j + 1)).toArray⟩), .int .i64 g] rfl _ _ rfl osd3 (Fe := fun _ => False) (y := (M.named hsr ⟨(M.wd W (2 + 3 * j + 1)).toArray⟩, g)) rfl (fun _ _ h => h) rfl rfl (by rw [M.sndsR_len]; unfold maxLen; omega) (by rw [M.sndsR_len]; omega) ?_; intro v5 w5 own5 ch5; obtain ⟨A5, c5, e5⟩ := own5.shape; rw [List.length_append, M.sndsR_len, List.length_singleton] at e5; subst e5; have cS5 : w5.cell? ⟨gS, q * 3 + 2, none⟩ = some (.slice As j cS) := (by rw [ch5.cell1 (show gS < u3.heap.size by omega) (fun h => hgS2 h.1)]; exact cS3); have fS5 : w5.frozen? ⟨gS, q * 3 + 2, none⟩ = false := (by rw [ch5.frozen1 (show gS < u3.heap.size by omega) (fun h => hgS2 h.1)]; exact fS3))
                have CH5 : Chg (Fs q) u2 w5 := (Chg.of_below DD3 _).trans (ch5.wide (fun _ h => h.1))
                refine ⟨⟨⟨w5, CH5⟩, rfl⟩, ?_⟩
                (refine seqT_first2 rfl ?_; (repeat (go_big_quiet_step (fail))); refine wpQuiet_nil ?_)
                (refine seqT_first2 rfl ?_; (repeat (go_big_quiet_step (fail))); refine wpQuiet_nil ?_)
                refine seqT_rest2 ?_
                go_wp2_with fail
                go_roundw
                case rel =>
                  obtain ⟨w6, hw6⟩ : ∃ w6, w6 = w5.setCell ⟨gS, q * 3 + 2, none⟩ (.slice A5 (j + 1) c5) := ⟨_, rfl⟩
                  have t3 : u3.heap.size ≤ w5.heap.size := ch5.size
                  have t6 : w6.heap.size = w5.heap.size := by rw [hw6]; simp
                  have CS : Chg (fun b => b = gS) w5 w6 := by rw [hw6]; exact Chg.set w5 gS (q * 3 + 2) _ rfl
                  have CHr : Chg (fun b => Fs q b ∨ b = gS) wr w6 := ((Chg.of_below d2 _).trans (CH5.wide (fun _ h => .inl h))).trans (CS.wide (fun _ h => .inr h))
                  have hG := Lib.hid (fun b (h : Fs q b ∨ b = gS) => show W3.heap.size ≤ b ∧ b < wr.heap.size ∧ ¬ FL b from by
                    rcases h with h | h
                    · exact HFs.out b h
                    · rw [h]; exact ⟨(HFS.out gS hgS).1, (HFS.out gS hgS).2, HD.out gS hgS⟩)
                  have own6 : OS tSd 47 w6 (fun b => Fs q b ∨ (u3.heap.size < b ∧ b < w5.heap.size)) (.slice A5 (j + 1) c5) (M.sndsR hsr W (j + 1)) := by
                    rw [M.sndsR_next, HSR.out]
                    refine (own5.chg CS (fun b h (h' : b = gS) => ?_)).wide (fun b h => ?_)
                    · rcases h with h | h | h
                      · exact hgS2 (h' ▸ h.1)
                      · exact h.elim
                      · omega
                    · rcases h with h | h | h
                      · exact .inl h.1
                      · exact h.elim
                      · exact .inr h
                  have hset := (oh.chg CH5).set hcs 2 (by decide) (.slice A5 (j + 1) c5)
                  rw [show q * tSt.s + 2 = q * 3 + 2 from rfl, ← hw6] at hset
                  obtain ⟨oh6, hcs6⟩ := hset
                  have st6 : tSt.O w6 (fun b => Fs q b ∨ (u3.heap.size < b ∧ b < w5.heap.size)) [.string ⟨(M.wd W 0).toArray⟩, .int .i64 ((M.num (M.wd W 1)).getD 0), .slice A5 (j + 1) c5] (M.partR hsr W (j + 1)) := (st_O (s := ⟨(M.wd W 0).toArray⟩) (l := (M.num (M.wd W 1)).getD 0) (xs := M.sndsR hsr W (j + 1))).2 ⟨A5, j + 1, c5, rfl, hzs, ⟨_, rfl, own6⟩⟩
                  have oP6 := oh6.fill2 (cs := [.string ⟨(M.wd W 0).toArray⟩, .int .i64 ((M.num (M.wd W 1)).getD 0), .slice A5 (j + 1) c5]) hcs6 st6 (fun b h => by
                    rcases h with h | h
                    · exact .inl h
                    · refine .inr fun h' => ?_
                      have := (HFS.out b h').2
                      omega)
                  rw [HYN.out] at oP6
                  have oP7 : OS tSt 44 w6 (fun b => G2 b ∨ (u3.heap.size < b ∧ b < w5.heap.size)) (.slice (some ⟨gS, 0, none⟩) k cv) ((M.stage M.headR (M.fullR hsr) Ws q).set q (M.partR hsr W (j + 1))) := by
                    exact oP6.wide (fun b h => by rcases h with h | h | h; exact .inl h; exact .inl (oh.fits b h); exact .inr h)
                  have ln6 := tLn.ochg (tLn_cut ln (k := 3) (by rw [List.length_drop]; omega)) CHr (fun b h h' => (hG.out b h').2.2 h)
                  rw [List.drop_drop] at ln6
                  have ln7 : tLn.O w6 FL [.slice (if c' = 3 then some ⟨ba, oa, none⟩ else some ⟨ba, oa + 3, none⟩) (W.length - 2 - 3 * (j + 1)) (c' - 3)] (W.drop (2 + 3 * (j + 1))) := by
                    have e1 : W.length - 2 - 3 * j - 3 = W.length - 2 - 3 * (j + 1) := by omega
                    have e2 : 2 + 3 * j + 3 = 2 + 3 * (j + 1) := by omega
                    rw [e1, e2, show (some (⟨ba, oa, none⟩ : Addr)).map (·.add 3) = some ⟨ba, oa + 3, none⟩ by simp [Addr.add]] at ln6
                    exact ln6
                  rw [← hw6]
                  refine ⟨j + 1, if c' = 3 then some ⟨ba, oa, none⟩ else some ⟨ba, oa + 3, none⟩, c' - 3, fun b => G2 b ∨ (u3.heap.size < b ∧ b < w5.heap.size), by rw [show W.length - 2 - 3 * j - 3 = W.length - 2 - 3 * (j + 1) by omega], by omega, by omega, ln7, ?_, oP7, oL.chg CHr (fun b h h' => (hG.out b h').2.2 h), Lib.hid (fun b h => ?_), Lib.hid (fun b h h' => ?_), Lib.hid (fun t ht => ?_), Lib.hid (fun p h1 => ?_), Lib.hid (fun p h1 => ?_), by omega, ?_⟩
                  · rw [CHr.cell1 (by show w.heap.size + 2 < _; omega) (fun h => by have := (hG.out _ h).1; simp only at this; omega)]
                    exact hv
                  · rcases h with h | h
                    · have := HFS.out b h; omega
                    · omega
                  · rcases h with h | h
                    · exact HD.out b h h'
                    · have h9 := (HFL.out b h').2
                      omega
                  · rcases Nat.lt_or_ge t j with h9 | h9
                    · exact HG2.out t h9
                    · obtain rfl : t = j := by omega
                      exact HG1.out
                  · rw [CHr.cell1 (by omega) (fun h => by have := (hG.out _ h).1; omega)]
                    exact KC3.out p h1
                  · rw [hw6, World.frozen?_setCell, CH5.frozen1 (by omega) (fun h => by have := (HFs.out _ h).1; omega)]
                    exact (d2.frozen (by omega)).trans (KF3.out p h1)
                  · exact hb3.trans (CHr.toBelow (fun b h => by have := (hG.out b h).1; omega) (by omega))
                case measure => simp [slLen]; omega
            · have hje : j = M.cntW W := by omega
              subst hje
              rw [show W.length - 2 - 3 * M.cntW W = 0 by omega]
              go_wp2_with fail
              go_roundw
              case rel =>
                refine ⟨q + 1, G2, by go_num, by omega, hv, ?_, oL, HFS, HD, Lib.hid (fun t W' ht hW' => ?_), Lib.hid (fun p h1 => (KC3.out p h1).trans (KC2.out p h1)), Lib.hid (fun p h1 => (KF3.out p h1).trans (KF2.out p h1)), by omega, hb3⟩
                · rw [← M.stage_next XW.out]
                  exact oP
                · rcases Nat.lt_or_ge t q with h9 | h9
                  · exact HG.out t W' h9 hW'
                  · obtain rfl : t = q := by omega
                    rw [XW.out] at hW'
                    rw [← Option.some.inj hW']
                    exact M.gOk_all HG2.out
              case measure => simp [intOf]; omega
        · have hqk : q = k := by omega
          subst hqk
          rw [M.stage_end (by omega)] at oS
          have YES := Lib.hid (show M.build M.okI Ws = some (Ws.map (M.fullR hsr)) by
            unfold M.build
            rw [if_pos, HHS.out]
            rw [List.all_eq_true]
            intro W hW
            obtain ⟨i, hi⟩ := List.getElem?_of_mem hW
            have hi2 := (List.getElem?_eq_some_iff.1 hi).1
            rw [M.okI, HH.out i W (by omega) hi, HG.out i W (by omega) hi]; rfl)
          go_wp2_with fail
          refine bodyPost_ret (v := .tuple #[.agg #[.slice Av q cv], .bool true]) (by simp [results, Tryz.results23, go_sem, R0r, F0r]) rfl ?_
          rw [YES.out]
          refine ⟨_, rfl, ?_, hb2.setCell (Nat.le_refl _) _⟩
          refine (oS.chg (Chg.set (F := fun b => b = w.heap.size) wr w.heap.size 0 _ rfl) (fun b h (h' : b = w.heap.size) => by have := (HFS.out b h).1; omega)).wide (fun b h => ?_)
          have := HFS.out b h
          exact ⟨by omega, by simpa using this.2⟩
end Go.Proofs.YtecdendjlgohjaaGreatDoor
namespace Go.Proofs.YtecdendjlgohjaaGreatDoor
open Go.RowKit Go.Sort
set_option maxHeartbeats 1000000
set_option maxRecDepth 100000
theorem spec_l01Dec_rg (n : Int) (h0 : -9223372036854775808 ≤ n) (h1 : n ≤ 9223372036854775807) (w : World) (d : Nat) (os : Array Obj) :
    Calls Tryz.prog 37 #[.int .i64 n] (grow (redrawn w d) os) fun e w'' => e = .returned (.string ⟨(Lib.itoa n).toArray⟩) ∧ ∃ p : Regrown, w'' = grow (redrawn w p.d) p.os :=
  Calls.regrown_of (spec_l01Dec n h0 h1 _)
end Go.Proofs.YtecdendjlgohjaaGreatDoor
