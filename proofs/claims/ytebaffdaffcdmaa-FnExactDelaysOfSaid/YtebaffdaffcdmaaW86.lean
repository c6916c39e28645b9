import Derived.Test.YtebaffdaffcdmaaW85
namespace Go.Proofs.Ytebaffdaffcdmaa
open Go.RowKit
set_option maxHeartbeats 2000000
set_option maxRecDepth 100000
def M.small (c : UInt8) : Bool := decide (97 ≤ c.toNat) && decide (c.toNat ≤ 122)
def M.digit (c : UInt8) : Bool := decide (48 ≤ c.toNat) && decide (c.toNat ≤ 57)
def M.nameAt (s : ByteArray) (i : Nat) : Bool := match s.data.toList[i]? with
  | some c => M.small c || (M.digit c && decide (i ≠ 0))
  | none => true
/-- A name. -/
def M.name (s : ByteArray) : Bool := decide (1 ≤ s.size) && decide (s.size ≤ 10) && (List.range s.size).all (M.nameAt s)
theorem M.nameAt_eq {s : ByteArray} {k : Nat} (hk : k < s.size) : M.nameAt s k = (M.small s[k] || (M.digit s[k] && decide (k ≠ 0))) := by
  have h1 : s.data.toList[k]? = some s[k] := by
    rw [List.getElem?_eq_getElem (by simpa using hk)]
    rfl
  rw [M.nameAt, h1]
theorem M.name_no {s : ByteArray} {k : Nat} (hk : k < s.size) (h : M.nameAt s k = false) : M.name s = false := by
  rw [M.name]
  cases hall : (List.range s.size).all (M.nameAt s)
  · simp
  · rw [List.all_eq_true] at hall
    have := hall k (List.mem_range.2 hk)
    rw [h] at this
    cases this
theorem M.name_yes {s : ByteArray} (h1 : 1 ≤ s.size) (h2 : s.size ≤ 10) (h : ∀ j, j < s.size → M.nameAt s j = true) : M.name s = true := by
  rw [M.name, decide_eq_true h1, decide_eq_true h2, Bool.true_and, Bool.true_and, List.all_eq_true]
  exact fun j hj => h j (List.mem_range.1 hj)
theorem M.name_len {s : ByteArray} (h : ¬ (1 ≤ s.size ∧ s.size ≤ 10)) : M.name s = false := by
  rw [M.name]
  by_cases h1 : 1 ≤ s.size
  · have h2 : ¬ s.size ≤ 10 := fun e => h ⟨h1, e⟩
    simp [h2]
  · simp [h1]
theorem impl_IsName (s : ByteArray) (w : World) (hs : s.size ≤ maxLen) :
    Calls Try.prog 64 #[.string s] w fun e w' => e = .returned (.bool (M.name s)) ∧ w = w' := by
  unfold maxLen at hs
  by_cases hlen : 1 ≤ s.size ∧ s.size ≤ 10
  · obtain ⟨hl1, hl2⟩ := hlen
    go_enter Try.func64, Try.ntmps64
    go_wp2
    go_loop [3, 4, 5] (fun i _ _ => ∃ k : Nat, i = .int .i64 k ∧ k ≤ s.size ∧ Hid (∀ j, j < k → M.nameAt s j = true)) (fun i _ _ => s.size - (intOf i).toNat)
    case atStart => exact ⟨0, rfl, by omega, Lib.hid (by omega)⟩
    case round =>
      obtain ⟨k, rfl, hk, H⟩ := hrel
      by_cases hlt : k < s.size
      · have hA := Lib.hid (M.nameAt_eq hlt)
        have hgo : M.nameAt s k = true → ∀ j, j < k + 1 → M.nameAt s j = true := fun h j hj => by
          rcases Nat.lt_or_ge j k with h1 | h1
          · exact H.out j h1
          · obtain rfl : j = k := by omega
            exact h
        have HG := Lib.hid hgo
        have HN := Lib.hid (fun h => M.name_no (s := s) (k := k) hlt h)
        clear hgo
        by_cases h97 : 97 ≤ s[k].toNat
        · by_cases h122 : s[k].toNat ≤ 122
          · have h2 := Lib.hid (show M.nameAt s k = true by rw [hA.out]; simp [M.small, M.digit]; omega)
            have g1 : (97 : Int) ≤ (s[k].toNat : Int) := by omega
            have g2 : (s[k].toNat : Int) ≤ 122 := by omega
            clear h97 h122
            go_wp2
            go_round
            case rel => exact ⟨k + 1, by go_num, by omega, Lib.hid (HG.out h2.out)⟩
            case measure => simp [intOf]; omega
          · have h2 := Lib.hid (HN.out (show M.nameAt s k = false by rw [hA.out]; simp [M.small, M.digit]; omega))
            have g1 : (97 : Int) ≤ (s[k].toNat : Int) := by omega
            have g2 : ¬ (s[k].toNat : Int) ≤ 122 := by omega
            have g3 : (48 : Int) ≤ (s[k].toNat : Int) := by omega
            have g4 : ¬ (s[k].toNat : Int) ≤ 57 := by omega
            clear h97 h122
            go_wp2
            go_ret
            exact ⟨ret_bool (by rw [h2.out]), rfl⟩
        · by_cases h48 : 48 ≤ s[k].toNat
          · by_cases h57 : s[k].toNat ≤ 57
            · by_cases hk0 : k = 0
              · have h2 := Lib.hid (HN.out (show M.nameAt s k = false by rw [hA.out]; simp [M.small, M.digit]; omega))
                have g1 : ¬ (97 : Int) ≤ (s[k].toNat : Int) := by omega
                have g3 : (48 : Int) ≤ (s[k].toNat : Int) := by omega
                have g4 : (s[k].toNat : Int) ≤ 57 := by omega
                clear h97 h48 h57
                subst hk0
                go_wp2
                go_ret
                exact ⟨ret_bool (by rw [h2.out]), rfl⟩
              · have h2 := Lib.hid (show M.nameAt s k = true by rw [hA.out]; simp [M.small, M.digit]; omega)
                have g1 : ¬ (97 : Int) ≤ (s[k].toNat : Int) := by omega
                have g3 : (48 : Int) ≤ (s[k].toNat : Int) := by omega
                have g4 : (s[k].toNat : Int) ≤ 57 := by omega
                clear h97 h48 h57
                go_wp2
                go_round
                case rel => exact ⟨k + 1, by go_num, by omega, Lib.hid (HG.out h2.out)⟩
                case measure => simp [intOf]; omega
            · have h2 := Lib.hid (HN.out (show M.nameAt s k = false by rw [hA.out]; simp [M.small, M.digit]; omega))
              have g1 : ¬ (97 : Int) ≤ (s[k].toNat : Int) := by omega
              have g3 : (48 : Int) ≤ (s[k].toNat : Int) := by omega
              have g4 : ¬ (s[k].toNat : Int) ≤ 57 := by omega
              clear h97 h48 h57
              go_wp2
              go_ret
              exact ⟨ret_bool (by rw [h2.out]), rfl⟩
          · have h2 := Lib.hid (HN.out (show M.nameAt s k = false by rw [hA.out]; simp [M.small, M.digit]; omega))
            have g1 : ¬ (97 : Int) ≤ (s[k].toNat : Int) := by omega
            have g3 : ¬ (48 : Int) ≤ (s[k].toNat : Int) := by omega
            clear h97 h48
            go_wp2
            go_ret
            exact ⟨ret_bool (by rw [h2.out]), rfl⟩
      · have hY := Lib.hid (M.name_yes hl1 hl2 (fun j hj => H.out j (by omega)))
        go_wp2
        go_ret
        exact ⟨ret_bool (by rw [hY.out]), rfl⟩
  · have hN := Lib.hid (M.name_len hlen)
    by_cases h1 : s.size < 1
    · go_enter Try.func64, Try.ntmps64
      go_wp2
      go_ret
      exact ⟨ret_bool (by rw [hN.out]), rfl⟩
    · have h2 : 10 < s.size := by omega
      go_enter Try.func64, Try.ntmps64
      go_wp2
      go_ret
      exact ⟨ret_bool (by rw [hN.out]), rfl⟩
theorem spec_l01Small (c : UInt8) (w : World) : Calls Try.prog 84 #[.int .u8 (c.toNat : Int)] w fun e w' => e = .returned (.bool (M.small c)) ∧ w = w' := by
  go_enter Try.func84, Try.ntmps84
  go_wp2
  all_goals
    go_ret
    exact ⟨ret_bool (by rw [M.small, Bool.eq_iff_iff]; simp; omega), rfl⟩
theorem spec_l01Digit (c : UInt8) (w : World) : Calls Try.prog 85 #[.int .u8 (c.toNat : Int)] w fun e w' => e = .returned (.bool (M.digit c)) ∧ w = w' := by
  go_enter Try.func85, Try.ntmps85
  go_wp2
  all_goals
    go_ret
    exact ⟨ret_bool (by rw [M.digit, Bool.eq_iff_iff]; simp; omega), rfl⟩
theorem spec_IsName (s : ByteArray) (w : World) (hs : s.size ≤ maxLen) :
    Calls Try.prog 77 #[.string s] w fun e w' => e = .returned (.bool (M.name s)) ∧ w = w' := by
  unfold maxLen at hs
  by_cases h0 : s.size = 0
  · have hN := Lib.hid (M.name_len (s := s) (by omega))
    have he : s.toList = [] := by rw [Lib.toList_data]; exact List.eq_nil_of_length_eq_zero (by simpa using h0)
    have he2 : s.toList.isEmpty = true := by rw [he]; rfl
    clear h0
    go_enter Try.func77, Try.ntmps77
    go_wp2
    go_ret
    exact ⟨ret_bool (by rw [hN.out]), rfl⟩
  · have he : ¬ s.toList = [] := by
      rw [Lib.toList_data]
      intro e
      exact h0 (by have := congrArg List.length e; simpa using this)
    have he2 : s.toList.isEmpty = false := by simpa using he
    have hp : 0 < s.size := by omega
    by_cases h10 : 10 < s.size
    · have hN := Lib.hid (M.name_len (s := s) (by omega))
      go_enter Try.func77, Try.ntmps77
      go_wp2
      go_ret
      exact ⟨ret_bool (by rw [hN.out]), rfl⟩
    · cases hsm : M.small s[0]
      · have hN := Lib.hid (M.name_no (s := s) (k := 0) hp (by rw [M.nameAt_eq hp, hsm]; simp))
        go_enter Try.func77, Try.ntmps77
        go_wp2_with (go_at_call 84; refine (spec_l01Small _ _).mono ?_; rw [hsm]; rintro e w' ⟨rfl, rfl⟩)
        go_ret
        exact ⟨ret_bool (by rw [hN.out]), rfl⟩
      · have hl2 : s.size ≤ 10 := by omega
        have HSM := Lib.hid hsm
        clear hsm
        go_enter Try.func77, Try.ntmps77
        go_wp2_with (go_at_call 84; refine (spec_l01Small _ _).mono ?_; rw [HSM.out]; rintro e w' ⟨rfl, rfl⟩)
        go_loop [3] (fun i => ∃ k : Nat, i = .int .i64 k ∧ k ≤ s.size ∧ Hid (∀ j, j < k → M.nameAt s j = true)) (fun i => s.size - (intOf i).toNat)
        case atStart => exact ⟨0, rfl, by omega, Lib.hid (by omega)⟩
        case round =>
          obtain ⟨k, rfl, hk, H⟩ := hrel
          by_cases hlt : k < s.size
          · have hA := Lib.hid (M.nameAt_eq hlt)
            have HG := Lib.hid (show M.nameAt s k = true → ∀ j, j < k + 1 → M.nameAt s j = true from fun h j hj => by
              rcases Nat.lt_or_ge j k with h1 | h1
              · exact H.out j h1
              · obtain rfl : j = k := by omega
                exact h)
            have HN := Lib.hid (fun h => M.name_no (s := s) (k := k) hlt h)
            have HK := Lib.hid (show k = 0 → M.small s[k] = true from fun e => by subst e; exact HSM.out)
            cases h1 : M.small s[k]
            · cases h2 : M.digit s[k]
              · have h3 := Lib.hid (HN.out (by rw [hA.out, h1, h2]; rfl))
                go_wp2_with (first | (go_at_call 84; refine (spec_l01Small _ _).mono ?_; rw [h1]; rintro e w' ⟨rfl, rfl⟩) | (go_at_call 85; refine (spec_l01Digit _ _).mono ?_; rw [h2]; rintro e w' ⟨rfl, rfl⟩))
                go_ret
                exact ⟨ret_bool (by rw [h3.out]), rfl⟩
              · have hk0 : ¬ k = 0 := fun e => by have := HK.out e; rw [h1] at this; cases this
                have h3 := Lib.hid (HG.out (by rw [hA.out, h1, h2]; simpa using hk0))
                clear hk0
                go_wp2_with (first | (go_at_call 84; refine (spec_l01Small _ _).mono ?_; rw [h1]; rintro e w' ⟨rfl, rfl⟩) | (go_at_call 85; refine (spec_l01Digit _ _).mono ?_; rw [h2]; rintro e w' ⟨rfl, rfl⟩))
                go_round
                case rel => exact ⟨k + 1, by go_num, by omega, h3⟩
                case measure => simp [intOf]; omega
            · have h3 := Lib.hid (HG.out (by rw [hA.out, h1]; rfl))
              go_wp2_with (go_at_call 84; refine (spec_l01Small _ _).mono ?_; rw [h1]; rintro e w' ⟨rfl, rfl⟩)
              go_round
              case rel => exact ⟨k + 1, by go_num, by omega, h3⟩
              case measure => simp [intOf]; omega
          · have hY := Lib.hid (M.name_yes (s := s) hp hl2 (fun j hj => H.out j (by omega)))
            go_wp2
            go_ret
            exact ⟨ret_bool (by rw [hY.out]), rfl⟩
end Go.Proofs.Ytebaffdaffcdmaa
