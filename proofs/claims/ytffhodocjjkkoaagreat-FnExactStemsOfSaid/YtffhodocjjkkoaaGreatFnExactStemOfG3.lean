import Derived.Test.YtffhodocjjkkoaaGreatFnExactStemOfG2
import Derived.Maps.OwnOps
import Derived.Maps.OwnSet
import Derived.StringKeys
import Derived.Test.YtffhodocjjkkoaaGreatFnExactStemOfG1
import Derived.Lib.QuietBelow
set_option linter.unusedVariables false
set_option linter.unusedSimpArgs false
set_option maxRecDepth 100000
set_option maxHeartbeats 4000000
namespace Go.Proofs.YtffhodocjjkkoaaGreat
section
open Go.RowKit
end
section
open Go.RowKit
def zdi (c : UInt8) : Bool := decide (97 ≤ c.toNat) && decide (c.toNat ≤ 122)
def zd3 (c : UInt8) : Bool := decide (48 ≤ c.toNat) && decide (c.toNat ≤ 57)
def zcu (s : ByteArray) (i : Nat) : Bool := match s.data.toList[i]? with
 | some c => zdi c || (zd3 c && decide (i ≠ 0))
 | none => true
def zd4 (s : ByteArray) : Bool := decide (1 ≤ s.size) && decide (s.size ≤ 10) && (List.range s.size).all (zcu s)
theorem zip {s : ByteArray} {k : Nat} (hk : k < s.size) : zcu s k = (zdi s[k] || (zd3 s[k] && decide (k ≠ 0))) := by
 have h1 : s.data.toList[k]? = some s[k] := by
  rw [List.getElem?_eq_getElem (by simpa using hk)]
  rfl
 rw [zcu, h1]
theorem ziq {s : ByteArray} {k : Nat} (hk : k < s.size) (h : zcu s k = false) : zd4 s = false := by
 rw [zd4]
 cases hall : (List.range s.size).all (zcu s)
 · simp
 · rw [List.all_eq_true] at hall
   have := hall k (List.mem_range.2 hk)
   rw [h] at this
   cases this
theorem zk2 {s : ByteArray} (h1 : 1 ≤ s.size) (h2 : s.size ≤ 10) (h : ∀ j, j < s.size → zcu s j = true) : zd4 s = true := by
 rw [zd4, decide_eq_true h1, decide_eq_true h2, Bool.true_and, Bool.true_and, List.all_eq_true]
 exact fun j hj => h j (List.mem_range.1 hj)
theorem zir {s : ByteArray} (h : ¬ (1 ≤ s.size ∧ s.size ≤ 10)) : zd4 s = false := by
 rw [zd4]
 by_cases h1 : 1 ≤ s.size
 · have h2 : ¬ s.size ≤ 10 := fun e => h ⟨h1, e⟩
   simp [h2]
 · simp [h1]
theorem zgg (s : ByteArray) (w : World) (hs : s.size ≤ maxLen) :
 Calls Tryz.prog 122 #[.string s] w fun e w' => e = .returned (.bool (zd4 s)) ∧ w = w' := by
 unfold maxLen at hs
 by_cases hlen : 1 ≤ s.size ∧ s.size ≤ 10
 · obtain ⟨hl1, hl2⟩ := hlen
   go_enter Tryz.func122, Tryz.ntmps122
   go_wp2
   go_loop [3, 4, 5] (fun i _ _ => ∃ k : Nat, i = .int .i64 k ∧ k ≤ s.size ∧ Hid (∀ j, j < k → zcu s j = true)) (fun i _ _ => s.size - (intOf i).toNat)
   case atStart => exact ⟨0, rfl, by omega, Lib.hid (by omega)⟩
   case round =>
    obtain ⟨k, rfl, hk, H⟩ := hrel
    by_cases hlt : k < s.size
    · have hA := Lib.hid (zip hlt)
      have hgo : zcu s k = true → ∀ j, j < k + 1 → zcu s j = true := fun h j hj => by
       rcases Nat.lt_or_ge j k with h1 | h1
       · exact H.out j h1
       · obtain rfl : j = k := by omega
         exact h
      have HG := Lib.hid hgo
      have HN := Lib.hid (fun h => ziq (s := s) (k := k) hlt h)
      clear hgo
      by_cases h97 : 97 ≤ s[k].toNat
      · by_cases h122 : s[k].toNat ≤ 122
        · have h2 := Lib.hid (show zcu s k = true by rw [hA.out]; simp [zdi, zd3]; omega)
          have g1 : (97 : Int) ≤ (s[k].toNat : Int) := by omega
          have g2 : (s[k].toNat : Int) ≤ 122 := by omega
          clear h97 h122
          go_wp2
          go_round
          case rel => exact ⟨k + 1, by go_num, by omega, Lib.hid (HG.out h2.out)⟩
          case measure => simp [intOf]; omega
        · have h2 := Lib.hid (HN.out (show zcu s k = false by rw [hA.out]; simp [zdi, zd3]; omega))
          have g1 : (97 : Int) ≤ (s[k].toNat : Int) := by omega
          have g2 : ¬ (s[k].toNat : Int) ≤ 122 := by omega
          have g3 : (48 : Int) ≤ (s[k].toNat : Int) := by omega
          have g4 : ¬ (s[k].toNat : Int) ≤ 57 := by omega
          clear h97 h122
          go_wp2
          go_ret
          exact ⟨zab (by rw [h2.out]), rfl⟩
      · by_cases h48 : 48 ≤ s[k].toNat
        · by_cases h57 : s[k].toNat ≤ 57
          · by_cases hk0 : k = 0
            · have h2 := Lib.hid (HN.out (show zcu s k = false by rw [hA.out]; simp [zdi, zd3]; omega))
              have g1 : ¬ (97 : Int) ≤ (s[k].toNat : Int) := by omega
              have g3 : (48 : Int) ≤ (s[k].toNat : Int) := by omega
              have g4 : (s[k].toNat : Int) ≤ 57 := by omega
              clear h97 h48 h57
              subst hk0
              go_wp2
              go_ret
              exact ⟨zab (by rw [h2.out]), rfl⟩
            · have h2 := Lib.hid (show zcu s k = true by rw [hA.out]; simp [zdi, zd3]; omega)
              have g1 : ¬ (97 : Int) ≤ (s[k].toNat : Int) := by omega
              have g3 : (48 : Int) ≤ (s[k].toNat : Int) := by omega
              have g4 : (s[k].toNat : Int) ≤ 57 := by omega
              clear h97 h48 h57
              go_wp2
              go_round
              case rel => exact ⟨k + 1, by go_num, by omega, Lib.hid (HG.out h2.out)⟩
              case measure => simp [intOf]; omega
          · have h2 := Lib.hid (HN.out (show zcu s k = false by rw [hA.out]; simp [zdi, zd3]; omega))
            have g1 : ¬ (97 : Int) ≤ (s[k].toNat : Int) := by omega
            have g3 : (48 : Int) ≤ (s[k].toNat : Int) := by omega
            have g4 : ¬ (s[k].toNat : Int) ≤ 57 := by omega
            clear h97 h48 h57
            go_wp2
            go_ret
            exact ⟨zab (by rw [h2.out]), rfl⟩
        · have h2 := Lib.hid (HN.out (show zcu s k = false by rw [hA.out]; simp [zdi, zd3]; omega))
          have g1 : ¬ (97 : Int) ≤ (s[k].toNat : Int) := by omega
          have g3 : ¬ (48 : Int) ≤ (s[k].toNat : Int) := by omega
          clear h97 h48
          go_wp2
          go_ret
          exact ⟨zab (by rw [h2.out]), rfl⟩
    · have hY := Lib.hid (zk2 hl1 hl2 (fun j hj => H.out j (by omega)))
      go_wp2
      go_ret
      exact ⟨zab (by rw [hY.out]), rfl⟩
 · have hN := Lib.hid (zir hlen)
   by_cases h1 : s.size < 1
   · go_enter Tryz.func122, Tryz.ntmps122
     go_wp2
     go_ret
     exact ⟨zab (by rw [hN.out]), rfl⟩
   · have h2 : 10 < s.size := by omega
     go_enter Tryz.func122, Tryz.ntmps122
     go_wp2
     go_ret
     exact ⟨zab (by rw [hN.out]), rfl⟩
theorem zgh (c : UInt8) (w : World) : Calls Tryz.prog 182 #[.int .u8 (c.toNat : Int)] w fun e w' => e = .returned (.bool (zdi c)) ∧ w = w' := by
 go_enter Tryz.func182, Tryz.ntmps182
 go_wp2
 all_goals
  go_ret
  exact ⟨zab (by rw [zdi, Bool.eq_iff_iff]; simp; omega), rfl⟩
theorem zk3 (c : UInt8) (w : World) : Calls Tryz.prog 183 #[.int .u8 (c.toNat : Int)] w fun e w' => e = .returned (.bool (zd3 c)) ∧ w = w' := by
 go_enter Tryz.func183, Tryz.ntmps183
 go_wp2
 all_goals
  go_ret
  exact ⟨zab (by rw [zd3, Bool.eq_iff_iff]; simp; omega), rfl⟩
theorem zff (s : ByteArray) (w : World) (hs : s.size ≤ maxLen) :
 Calls Tryz.prog 149 #[.string s] w fun e w' => e = .returned (.bool (zd4 s)) ∧ w = w' := by
 unfold maxLen at hs
 by_cases h0 : s.size = 0
 · have hN := Lib.hid (zir (s := s) (by omega))
   have he : s.toList = [] := by rw [Lib.toList_data]; exact List.eq_nil_of_length_eq_zero (by simpa using h0)
   have he2 : s.toList.isEmpty = true := by rw [he]; rfl
   clear h0
   go_enter Tryz.func149, Tryz.ntmps149
   go_wp2
   go_ret
   exact ⟨zab (by rw [hN.out]), rfl⟩
 · have he : ¬ s.toList = [] := by
    rw [Lib.toList_data]
    intro e
    exact h0 (by have := congrArg List.length e; simpa using this)
   have he2 : s.toList.isEmpty = false := by simpa using he
   have hp : 0 < s.size := by omega
   by_cases h10 : 10 < s.size
   · have hN := Lib.hid (zir (s := s) (by omega))
     go_enter Tryz.func149, Tryz.ntmps149
     go_wp2
     go_ret
     exact ⟨zab (by rw [hN.out]), rfl⟩
   · cases hsm : zdi s[0]
     · have hN := Lib.hid (ziq (s := s) (k := 0) hp (by rw [zip hp, hsm]; simp))
       go_enter Tryz.func149, Tryz.ntmps149
       go_wp2_with (go_at_call 182; refine (zgh _ _).mono ?_; rw [hsm]; rintro e w' ⟨rfl, rfl⟩)
       go_ret
       exact ⟨zab (by rw [hN.out]), rfl⟩
     · have hl2 : s.size ≤ 10 := by omega
       have HSM := Lib.hid hsm
       clear hsm
       go_enter Tryz.func149, Tryz.ntmps149
       go_wp2_with (go_at_call 182; refine (zgh _ _).mono ?_; rw [HSM.out]; rintro e w' ⟨rfl, rfl⟩)
       go_loop [3] (fun i => ∃ k : Nat, i = .int .i64 k ∧ k ≤ s.size ∧ Hid (∀ j, j < k → zcu s j = true)) (fun i => s.size - (intOf i).toNat)
       case atStart => exact ⟨0, rfl, by omega, Lib.hid (by omega)⟩
       case round =>
        obtain ⟨k, rfl, hk, H⟩ := hrel
        by_cases hlt : k < s.size
        · have hA := Lib.hid (zip hlt)
          have HG := Lib.hid (show zcu s k = true → ∀ j, j < k + 1 → zcu s j = true from fun h j hj => by
           rcases Nat.lt_or_ge j k with h1 | h1
           · exact H.out j h1
           · obtain rfl : j = k := by omega
             exact h)
          have HN := Lib.hid (fun h => ziq (s := s) (k := k) hlt h)
          have HK := Lib.hid (show k = 0 → zdi s[k] = true from fun e => by subst e; exact HSM.out)
          cases h1 : zdi s[k]
          · cases h2 : zd3 s[k]
            · have h3 := Lib.hid (HN.out (by rw [hA.out, h1, h2]; rfl))
              go_wp2_with (first | (go_at_call 182; refine (zgh _ _).mono ?_; rw [h1]; rintro e w' ⟨rfl, rfl⟩) | (go_at_call 183; refine (zk3 _ _).mono ?_; rw [h2]; rintro e w' ⟨rfl, rfl⟩))
              go_ret
              exact ⟨zab (by rw [h3.out]), rfl⟩
            · have hk0 : ¬ k = 0 := fun e => by have := HK.out e; rw [h1] at this; cases this
              have h3 := Lib.hid (HG.out (by rw [hA.out, h1, h2]; simpa using hk0))
              clear hk0
              go_wp2_with (first | (go_at_call 182; refine (zgh _ _).mono ?_; rw [h1]; rintro e w' ⟨rfl, rfl⟩) | (go_at_call 183; refine (zk3 _ _).mono ?_; rw [h2]; rintro e w' ⟨rfl, rfl⟩))
              go_round
              case rel => exact ⟨k + 1, by go_num, by omega, h3⟩
              case measure => simp [intOf]; omega
          · have h3 := Lib.hid (HG.out (by rw [hA.out, h1]; rfl))
            go_wp2_with (go_at_call 182; refine (zgh _ _).mono ?_; rw [h1]; rintro e w' ⟨rfl, rfl⟩)
            go_round
            case rel => exact ⟨k + 1, by go_num, by omega, h3⟩
            case measure => simp [intOf]; omega
        · have hY := Lib.hid (zk2 (s := s) hp hl2 (fun j hj => H.out j (by omega)))
          go_wp2
          go_ret
          exact ⟨zab (by rw [hY.out]), rfl⟩
end
section
open Go.RowKit
theorem ze2 {n lo hi : Int} : M.inn n lo hi = true ↔ lo ≤ n ∧ n ≤ hi := by simp [M.inn]
def zcv (m : Int) : Int → List (Int × Int) → Bool
 | _, [] => true
 | last, x :: xs => M.inn x.1 (last + 1) (m - 1) && M.smp x.2 && zcv m x.1 xs
def zcc (xs : List (Int × Int)) (k m : Int) : Bool := zcv m k xs && (if k = m - 1 then decide (xs.length = 0) else M.inn xs.length 1 4)
def zbu (x : zae) (k m : Int) : Bool := zd4 x.1 && M.inn x.2.1 0 32 && zcc x.2.2 k m
theorem zk4 {m last : Int} {xs : List (Int × Int)} {j : Nat} {p0 p1 : Int} (h : xs[j]? = some (p0, p1)) : zcv m last (xs.drop j) = (M.inn p0 (last + 1) (m - 1) && M.smp p1 && zcv m p0 (xs.drop (j + 1))) := by
 rw [M.drop_at h, zcv]
theorem zpn (A : Option Addr) (n c : Nat) (w : World) : Calls Tryz.prog 159 #[.slice A n c] w fun e w' => e = .returned (.int .i64 n) ∧ w = w' := by
 go_enter Tryz.func159, Tryz.ntmps159
 go_wp2
 go_ret
 exact ⟨rfl, rfl⟩
theorem zeh (A : Option Addr) (n c : Nat) (w : World) : Calls Tryz.prog 72 #[.slice A n c] w fun e w' => e = .returned (.int .i64 n) ∧ w = w' := by
 go_enter Tryz.func72, Tryz.ntmps72
 go_wp2
 go_ret
 exact ⟨rfl, rfl⟩
theorem zpo (A : Option Addr) (n c : Nat) (xs : List (Int × Int)) (k m : Int) (w : World) (hx : RA sd 2 w w.heap.size A n xs) (hn : n ≤ 1000000000) (hk : 0 ≤ k ∧ k ≤ 1000000000) (hm : 0 ≤ m ∧ m ≤ 1000000000) :
 Calls Tryz.prog 123 #[.slice A n c, .int .i64 k, .int .i64 m] w fun e w' => e = .returned (.bool (zcc xs k m)) ∧ Below w.heap.size w w' := by
 have hl := Lib.hid hx.1
 go_enter Tryz.func123, Tryz.ntmps123
 go_wp2
 go_loopw [7, 9, 13] (fun v _ i wr => ∃ (j : Nat) (last : Int), i = .int .i64 j ∧ j ≤ n ∧ v = .int .i64 last ∧ 0 ≤ last ∧ last ≤ 1000000000 ∧ Hid (zcv m k xs = zcv m last (xs.drop j)) ∧ Below w.heap.size w wr) (fun _ _ i _ => n - (intOf i).toNat)
 case atStart => exact ⟨0, k, rfl, by omega, rfl, by omega, by omega, Lib.hid rfl, Below.refl _ _⟩
 case round =>
  obtain ⟨j, last, rfl, hj, rfl, hl0, hl1, H, hb⟩ := hrel
  by_cases hlt : j < n
  · obtain ⟨b, o, ⟨p0, p1⟩, rfl, hab, X, hcc⟩ := (hx.below hb).at zes (by decide) hlt
    have e0 : wr.cell? ⟨b, o + j * 2, none⟩ = some (.int .i64 p0) := hcc 0 _ rfl
    have e1 : wr.cell? ⟨b, o + j * 2 + 1, none⟩ = some (.int .i64 p1) := hcc 1 _ rfl
    have hS := Lib.hid (zk4 (m := m) (last := last) X.out)
    clear hcc
    cases h1 : M.inn p0 (last + 1) (m - 1)
    · have R := Lib.hid (show zcc xs k m = false by rw [zcc, H.out, hS.out, h1]; rfl)
      go_wp2_with (go_at_call 73; refine (zat _ _ _ _).mono ?_; rintro e w' ⟨rfl, rfl⟩)
      go_ret
      exact ⟨zab (by rw [R.out]), hb.alloc hb.size _⟩
    · cases h2 : M.smp p1
      · have R := Lib.hid (show zcc xs k m = false by rw [zcc, H.out, hS.out, h1, h2]; rfl)
        go_wp2_with (first | (go_at_call 73; refine (zat _ _ _ _).mono ?_; rintro e w' ⟨rfl, rfl⟩) | (go_at_call 158; refine (zer _ _).mono ?_; rintro e w' ⟨rfl, rfl⟩))
        go_ret
        exact ⟨zab (by rw [R.out]), hb.alloc hb.size _⟩
      · have hp := ze2.1 h1
        have H2 := Lib.hid (show zcv m k xs = zcv m p0 (xs.drop (j + 1)) by rw [H.out, hS.out, h1, h2]; rfl)
        go_wp2_with (first | (go_at_call 73; refine (zat _ _ _ _).mono ?_; rintro e w' ⟨rfl, rfl⟩) | (go_at_call 158; refine (zer _ _).mono ?_; rintro e w' ⟨rfl, rfl⟩))
        go_roundw
        case rel => exact ⟨j + 1, p0, by go_num, by omega, rfl, by omega, by omega, H2, hb.alloc hb.size _⟩
        case measure => simp [intOf]; omega
  · have H2 := Lib.hid (show zcv m k xs = true by rw [H.out, List.drop_eq_nil_of_le (by rw [hl.out]; omega)]; rfl)
    by_cases hkm : k = m - 1
    · have R := Lib.hid (show zcc xs k m = decide (n = 0) by rw [zcc, H2.out, if_pos hkm, hl.out]; rfl)
      have hkm2 : (k == m - 1) = true := by simpa using hkm
      clear hkm
      by_cases hz : n = 0
      · subst hz
        go_wp2
        go_ret
        exact ⟨zab (by rw [R.out]; rfl), hb⟩
      · have hz2 : ((n : Int) == 0) = false := by simpa using hz
        have R2 := Lib.hid (show zcc xs k m = false by rw [R.out]; simpa using hz)
        clear hz
        go_wp2
        go_ret
        exact ⟨zab (by first | (rw [R2.out]; done) | (rw [R2.out]; exact hz2)), hb⟩
    · have hkm2 : (k == m - 1) = false := by simpa using hkm
      have R := Lib.hid (show zcc xs k m = M.inn n 1 4 by rw [zcc, H2.out, if_neg hkm, hl.out]; rfl)
      go_wp2_with (first | (go_at_call 73; refine (zat _ _ _ _).mono ?_; rintro e w' ⟨rfl, rfl⟩) | (go_at_call 159; refine (zpn _ _ _ _).mono ?_; rintro e w' ⟨rfl, rfl⟩))
      go_ret
      exact ⟨zab (by rw [R.out]), hb⟩
theorem zpp (g o : Nat) (s : ByteArray) (l : Int) (A : Option Addr) (n c : Nat) (xs : List (Int × Int)) (k m : Int) (w : World) (a0 : w.cell? ⟨g, o, none⟩ = some (.string s)) (a1 : w.cell? ⟨g, o + 1, none⟩ = some (.int .i64 l)) (a2 : w.cell? ⟨g, o + 2, none⟩ = some (.slice A n c))
 (hs : s.size ≤ maxLen) (hx : RA sd 2 w w.heap.size A n xs) (hn : n ≤ 1000000000) (hk : 0 ≤ k ∧ k ≤ 1000000000) (hm : 0 ≤ m ∧ m ≤ 1000000000) :
 Calls Tryz.prog 113 #[.pointer (some ⟨g, o, none⟩), .int .i64 k, .int .i64 m] w fun e w' => e = .returned (.bool (zbu (s, l, xs) k m)) ∧ w = w' := by
 have hl := Lib.hid hx.1
 cases hN : zd4 s
 · have R := Lib.hid (show zbu (s, l, xs) k m = false by rw [zbu, hN]; rfl)
   go_enter Tryz.func113, Tryz.ntmps113
   go_wp2_with (first | (go_at_call 149; refine (zff _ _ hs).mono ?_; rw [hN]; rintro e w' ⟨rfl, rfl⟩) | (go_at_call 53; refine (zas _ _ _ _).mono ?_; rintro e w' ⟨rfl, rfl⟩))
   go_ret
   exact ⟨zab (by rw [R.out]), rfl⟩
 cases hL : M.inn l 0 32
 · have R := Lib.hid (show zbu (s, l, xs) k m = false by rw [zbu, hN, hL]; rfl)
   go_enter Tryz.func113, Tryz.ntmps113
   go_wp2_with (first | (go_at_call 149; refine (zff _ _ hs).mono ?_; rw [hN]; rintro e w' ⟨rfl, rfl⟩) | (go_at_call 53; refine (zas _ _ _ _).mono ?_; rintro e w' ⟨rfl, rfl⟩))
   go_ret
   exact ⟨zab (by rw [R.out]), rfl⟩
 by_cases h4 : 4 < n
 · have h4' : (4 : Int) < (n : Int) := by omega
   have R := Lib.hid (show zbu (s, l, xs) k m = false by
    rw [zbu, hN, hL]
    show zcc xs k m = false
    rw [zcc, hl.out]
    split
    · rw [decide_eq_false (by omega), Bool.and_false]
    · rw [show M.inn (n : Int) 1 4 = false by simp [M.inn]; omega, Bool.and_false])
   go_enter Tryz.func113, Tryz.ntmps113
   go_wp2_with (first | (go_at_call 149; refine (zff _ _ hs).mono ?_; rw [hN]; rintro e w' ⟨rfl, rfl⟩) | (go_at_call 53; refine (zas _ _ _ _).mono ?_; rintro e w' ⟨rfl, rfl⟩))
   go_ret
   exact ⟨zab (by rw [R.out]), rfl⟩
 by_cases hz : n = 0
 · by_cases hkm : k = m - 1
   · have R := Lib.hid (show zbu (s, l, xs) k m = true by
      have hnil : xs = [] := List.eq_nil_of_length_eq_zero (by rw [hl.out, hz])
      rw [zbu, hN, hL, zcc, if_pos hkm, hnil]; rfl)
     have hkm2 : (k == m - 1) = true := by simpa using hkm
     subst hz
     clear hkm
     go_enter Tryz.func113, Tryz.ntmps113
     go_wp2_with (first | (go_at_call 149; refine (zff _ _ hs).mono ?_; rw [hN]; rintro e w' ⟨rfl, rfl⟩) | (go_at_call 53; refine (zas _ _ _ _).mono ?_; rintro e w' ⟨rfl, rfl⟩))
     go_loop [7, 8] (fun _ i => i = .int .i64 0) (fun _ _ => 0)
     case atStart => exact rfl
     case round =>
      obtain rfl := hrel
      go_wp2
      go_ret
      exact ⟨zab (by rw [R.out]), rfl⟩
   · have R := Lib.hid (show zbu (s, l, xs) k m = false by
      rw [zbu, hN, hL]
      show zcc xs k m = false
      rw [zcc, hl.out, if_neg hkm, hz, show M.inn ((0 : Nat) : Int) 1 4 = false by decide, Bool.and_false])
     have hkm2 : (k == m - 1) = false := by simpa using hkm
     subst hz
     go_enter Tryz.func113, Tryz.ntmps113
     go_wp2_with (first | (go_at_call 149; refine (zff _ _ hs).mono ?_; rw [hN]; rintro e w' ⟨rfl, rfl⟩) | (go_at_call 53; refine (zas _ _ _ _).mono ?_; rintro e w' ⟨rfl, rfl⟩))
     go_ret
     exact ⟨zab (by rw [R.out]), rfl⟩
 · have hz2 : ((n : Int) == 0) = false := by simpa using hz
   by_cases hkm : k = m - 1
   · have R := Lib.hid (show zbu (s, l, xs) k m = false by
      rw [zbu, hN, hL]
      show zcc xs k m = false
      rw [zcc, hl.out, if_pos hkm, decide_eq_false hz, Bool.and_false])
     have hkm2 : (k == m - 1) = true := by simpa using hkm
     clear hkm hz
     go_enter Tryz.func113, Tryz.ntmps113
     go_wp2_with (first | (go_at_call 149; refine (zff _ _ hs).mono ?_; rw [hN]; rintro e w' ⟨rfl, rfl⟩) | (go_at_call 53; refine (zas _ _ _ _).mono ?_; rintro e w' ⟨rfl, rfl⟩))
     go_ret
     exact ⟨zab (by rw [R.out]), rfl⟩
   · have R := Lib.hid (show zbu (s, l, xs) k m = zcv m k xs by
      rw [zbu, hN, hL]
      show zcc xs k m = _
      rw [zcc, hl.out, if_neg hkm, show M.inn (n : Int) 1 4 = true from ze2.2 ⟨by omega, by omega⟩, Bool.and_true])
     have hkm2 : (k == m - 1) = false := by simpa using hkm
     have hN' := Lib.hid hN
     have hL' := Lib.hid hL
     clear hkm hz hN hL
     go_enter Tryz.func113, Tryz.ntmps113
     go_wp2_with (first | (go_at_call 149; refine (zff _ _ hs).mono ?_; rw [hN'.out]; rintro e w' ⟨rfl, rfl⟩) | (go_at_call 53; refine (zas _ _ _ _).mono ?_; rw [hL'.out]; rintro e w' ⟨rfl, rfl⟩))
     go_loop [7, 8] (fun v i => ∃ (j : Nat) (last : Int), i = .int .i64 j ∧ j ≤ n ∧ v = .int .i64 last ∧ 0 ≤ last ∧ last ≤ 1000000000 ∧ Hid (zcv m k xs = zcv m last (xs.drop j))) (fun _ i => n - (intOf i).toNat)
     case atStart => exact ⟨0, k, rfl, by omega, rfl, by omega, by omega, Lib.hid rfl⟩
     case round =>
      obtain ⟨j, last, rfl, hj, rfl, hl0, hl1, H⟩ := hrel
      by_cases hlt : j < n
      · obtain ⟨b, o1, ⟨p0, p1⟩, rfl, hab, X, hcc⟩ := hx.at zes (by decide) hlt
        have e0 : w.cell? ⟨b, o1 + j * 2, none⟩ = some (.int .i64 p0) := hcc 0 _ rfl
        have e1 : w.cell? ⟨b, o1 + j * 2 + 1, none⟩ = some (.int .i64 p1) := hcc 1 _ rfl
        have hS := Lib.hid (zk4 (m := m) (last := last) X.out)
        clear hcc
        cases h1 : M.inn p0 (last + 1) (m - 1)
        · have R2 := Lib.hid (show zbu (s, l, xs) k m = false by rw [R.out, H.out, hS.out, h1]; rfl)
          go_wp2_with (go_at_call 53; refine (zas _ _ _ _).mono ?_; rintro e w' ⟨rfl, rfl⟩)
          go_ret
          exact ⟨zab (by rw [R2.out]), rfl⟩
        · cases h2 : M.smp p1
          · have R2 := Lib.hid (show zbu (s, l, xs) k m = false by rw [R.out, H.out, hS.out, h1, h2]; rfl)
            go_wp2_with (first | (go_at_call 53; refine (zas _ _ _ _).mono ?_; rintro e w' ⟨rfl, rfl⟩) | (go_at_call 114; refine (zd0 _ _).mono ?_; rintro e w' ⟨rfl, rfl⟩))
            go_ret
            exact ⟨zab (by rw [R2.out]), rfl⟩
          · have hp := ze2.1 h1
            have H2 := Lib.hid (show zcv m k xs = zcv m p0 (xs.drop (j + 1)) by rw [H.out, hS.out, h1, h2]; rfl)
            go_wp2_with (first | (go_at_call 53; refine (zas _ _ _ _).mono ?_; rintro e w' ⟨rfl, rfl⟩) | (go_at_call 114; refine (zd0 _ _).mono ?_; rintro e w' ⟨rfl, rfl⟩))
            go_round
            case rel => exact ⟨j + 1, p0, by go_num, by omega, rfl, by omega, by omega, H2⟩
            case measure => simp [intOf]; omega
      · have R2 := Lib.hid (show zbu (s, l, xs) k m = true by rw [R.out, H.out, List.drop_eq_nil_of_le (by rw [hl.out]; omega)]; rfl)
        go_wp2
        go_ret
        exact ⟨zab (by rw [R2.out]), rfl⟩
end
section
open Go.RowKit
open Go.Maps (Keyed)
theorem zpq {P : Program} {k t e : TypeId} {w : World} {b n : Nat} {D : DataW Unit} (h : w.ownsMap P k (plainElem P e) b n D) (K : Keyed P k) (ht : P.underlying t = some (.map k e)) (he : P.underlying e = some .bool) (hz : (zeroValue e).run P w = .ok (.bool false) w)
 {key : Value} {kl : Lit} (hkey : keyOf P k key = some kl) : ∃ c, (Instr.lookup t (.map (some b)) key false).run P w = .ok (.bool c) w ∧ D.atKey kl (.lit (.bool false)) = .lit (.bool c) := by
 obtain ⟨v, ps, hrun, hv⟩ := h.lookup K ht hz (plainElem_bool he false) hkey
 unfold plainElem at hv
 rw [he] at hv
 cases v <;> simp at hv
 rename_i c
 exact ⟨c, hrun, hv.1.symm⟩
def zei (s : ByteArray) (l : List ByteArray) : Bool := l.any fun t => decide (t = s)
def zhg (D : DataW Unit) (l : List ByteArray) : Prop := Go.Maps.IsMap D ∧ ∀ s : ByteArray, D.atKey (.string s.data.toList) (.lit (.bool false)) = .lit (.bool (zei s l))
theorem zpr {s t : ByteArray} (h : s.data.toList = t.data.toList) : s = t := ByteArray.ext (Array.toList_inj.1 h)
theorem zps : zhg (.map []) [] := ⟨⟨[], rfl⟩, fun s => rfl⟩
theorem zpt {D : DataW Unit} {l : List ByteArray} (h : zhg D l) (s : ByteArray) : zhg (D.put (.string s.data.toList) (.lit (.bool true))) (l ++ [s]) := by
 refine ⟨?_, fun t => ?_⟩
 · obtain ⟨es, rfl⟩ := h.1
   exact ⟨_, rfl⟩
 · by_cases e : t = s
   · subst e
     rw [Go.Maps.atKey_put_same (k := .string t.data.toList) h.1 (by simp [WideAt.IsKeyLit])]
     simp [zei]
   · rw [Go.Maps.atKey_put_other (fun e2 => e (by injection e2 with e2; exact zpr e2)), h.2 t]
     have e2 : ¬ s = t := fun h => e h.symm
     simp [zei, e2]
theorem zk5 : Keyed Tryz.prog 9 := Keyed.of_law (Go.WideMaps.string_law Tryz.underlying9)
theorem zpu (w : World) : (zeroValue 4).run Tryz.prog w = .ok (.bool false) w := by kernel_rfl
def M.sz : zae := (⟨#[]⟩, 0, [])
def zd5 (xs : List zae) (k : Nat) : Bool := zbu ((xs[k]?).getD M.sz) k xs.length && !zei ((xs[k]?).getD M.sz).1 ((xs.take k).map (·.1))
def zay (xs : List zae) : Bool := M.inn xs.length 1 8 && (List.range xs.length).all (zd5 xs)
theorem zk6 {xs : List zae} {k : Nat} (hk : k < xs.length) (h : zd5 xs k = false) : zay xs = false := by
 rw [zay]
 cases hall : (List.range xs.length).all (zd5 xs)
 · simp
 · rw [List.all_eq_true] at hall
   have := hall k (List.mem_range.2 hk)
   rw [h] at this
   cases this
theorem zk7 {xs : List zae} (h : ∀ j, j < xs.length → zd5 xs j = true) : zay xs = M.inn xs.length 1 8 := by
 rw [zay, show (List.range xs.length).all (zd5 xs) = true from List.all_eq_true.2 fun j hj => h j (List.mem_range.1 hj), Bool.and_true]
theorem zis {xs : List zae} {k : Nat} {x : zae} (h : xs[k]? = some x) : zd5 xs k = (zbu x k xs.length && !zei x.1 ((xs.take k).map (·.1))) := by
 rw [zd5, h]; rfl
theorem zpv {w w' : World} (h : Below w.heap.size w w') (row : Option Nat) : w.grownBy w' row := ⟨h.os, h.tape, h.output, h.size, fun k hk _ => h.block k hk⟩
theorem zgi (A : Option Addr) (n c : Nat) (xs : List zae) (w : World) (hx : tM.R w w.heap.size [.slice A n c] xs) (hn : hM.sz xs ≤ 100000000) :
 Calls Tryz.prog 75 #[.agg #[.slice A n c]] w fun e w' => e = .returned (.bool (zay xs)) ∧ Below w.heap.size w w' := by
 have rx := sl_R.1 hx
 have hlx := rx.cap.1
 have hm1 : xs.length + hSt.szL xs ≤ 100000000 := hn
 have hnb : n ≤ 100000000 := by omega
 have HLX := Lib.hid hlx
 have HM1 := Lib.hid hm1
 clear hlx hx hn hm1
 have hmm := @run_makeMap Tryz.prog
 go_enter Tryz.func75, Tryz.ntmps75
 go_wp2_with (go_at_call 72; refine (zeh _ _ _ _).mono ?_; rintro e w' ⟨rfl, rfl⟩)
 go_loopw [5, 6, 14] (fun _ _ i wr => ∃ (k : Nat) (D : DataW Unit), i = .int .i64 k ∧ k ≤ n ∧ Hid (∀ j, j < k → zd5 xs j = true) ∧ Hid (zhg D ((xs.take k).map (·.1))) ∧ wr.ownsMap Tryz.prog 9 (plainElem Tryz.prog 4) (w.heap.size + 1) k D ∧ w.heap.size + 1 + 1 ≤ wr.heap.size ∧ Below w.heap.size w wr) (fun _ _ i _ => n - (intOf i).toNat)
 case atStart => exact ⟨0, .map [], rfl, by omega, Lib.hid (by omega), Lib.hid (by simpa using zps), by have := World.ownsMap_made (w.alloc (.cells #[.slice A n c] 38)) Tryz.prog 9 (plainElem (H := Unit) Tryz.prog 4); simpa using this, by simp, ((Below.refl _ _).alloc (Nat.le_refl _) _).alloc (by simp) _⟩
 case round =>
  obtain ⟨k, D, rfl, hk, H, HD, hown, hsz, Bw⟩ := hrel
  clear hmm
  by_cases hlt : k < n
  · have hX := Lib.hid (List.getElem?_eq_getElem (l := xs) (i := k) (by rw [HLX.out]; exact hlt))
    obtain ⟨b, o1, cc, cs, hv, hab, -, hE, hcc⟩ := (rx.below Bw).atX hX.out
    simp only [Value.slice.injEq] at hv
    obtain ⟨rfl, -, rfl⟩ := hv
    have hU := hSt.szL_at hX.out
    generalize xs[k]'(by rw [HLX.out]; exact hlt) = x at hX hE hU
    obtain ⟨s, l, us⟩ := x
    rw [zfs] at hU
    obtain ⟨A1, n1, c1, rfl, hs, hE⟩ := st_R.1 hE
    have n1b : n1 ≤ 1000000000 := by have := (ze1 hE).1.1; have := HM1.out; omega
    have e0 : wr.cell? ⟨b, o1 + k * 3, none⟩ = some (.string s) := hcc 0 _ rfl
    have e1 : wr.cell? ⟨b, o1 + k * 3 + 1, none⟩ = some (.int .i64 l) := hcc 1 _ rfl
    have e2 : wr.cell? ⟨b, o1 + k * 3 + 2, none⟩ = some (.slice A1 n1 c1) := hcc 2 _ rfl
    have hbr : b < wr.heap.size := Nat.lt_of_lt_of_le hab Bw.size
    have hE2 := tSdS.later (tSdS.more Bw.size hE) ((Below.refl wr.heap.size wr).alloc (Nat.le_refl _) (.cells #[.string s, .int .i64 l, .slice A1 n1 c1] 78))
    have hra := (ze1 hE2).1
    have hS := Lib.hid (zis hX.out)
    have HNO := Lib.hid (fun h => zk6 (xs := xs) (k := k) (by rw [HLX.out]; exact hlt) h)
    have hownU := hown.alloc (.cells #[.string s, .int .i64 l, .slice A1 n1 c1] 78)
    have hkey : keyOf Tryz.prog 9 (.string s) = some (.string s.data.toList) := Go.WideMaps.keyOf_string_mk Tryz.underlying9 hs
    obtain ⟨q, hrun, hat⟩ := zpq hownU zk5 Tryz.underlying162 Tryz.underlying4 (zpu _) hkey
    have hq : q = zei s ((xs.take k).map (·.1)) := by
     rw [HD.out.2 s] at hat
     injection hat with hat
     injection hat with hat
     exact hat.symm
    have HQ := Lib.hid hq
    have Bu := Bw.alloc Bw.size (.cells #[.string s, .int .i64 l, .slice A1 n1 c1] 78)
    clear hcc hU hE hE2 hat hq
    cases hN : zd4 s
    · have R := Lib.hid (show zay xs = false from HNO.out (by rw [hS.out, zbu, hN]; rfl))
      go_wp2_with (first | (go_at_call 122; refine (zgg _ _ hs).mono ?_; rw [hN]; rintro e w' ⟨rfl, rfl⟩))
      go_ret
      exact ⟨zab (by rw [R.out]), Bu⟩
    by_cases hq1 : q = true
    · subst hq1
      have R := Lib.hid (show zay xs = false from HNO.out (by rw [hS.out, ← HQ.out, Bool.not_true, Bool.and_false]))
      go_wp2_with (first | (go_at_call 122; refine (zgg _ _ hs).mono ?_; rw [hN]; rintro e w' ⟨rfl, rfl⟩))
      go_ret
      exact ⟨zab (by rw [R.out]), Bu⟩
    have hq0 : q = false := by simpa using hq1
    subst hq0
    clear hq1
    cases hL : M.inn l 0 32
    · have R := Lib.hid (show zay xs = false from HNO.out (by rw [hS.out, zbu, hN, hL]; rfl))
      go_wp2_with (first | (go_at_call 122; refine (zgg _ _ hs).mono ?_; rw [hN]; rintro e w' ⟨rfl, rfl⟩) | (go_at_call 73; refine (zat _ _ _ _).mono ?_; rintro e w' ⟨rfl, rfl⟩))
      go_ret
      exact ⟨zab (by rw [R.out]), Bu⟩
    have hAS := zpo A1 n1 c1 us k n _ hra n1b ⟨by omega, by omega⟩ ⟨by omega, by omega⟩
    cases hA : zcc us k n
    · have R := Lib.hid (show zay xs = false from HNO.out (by rw [hS.out, zbu, hN, hL, HLX.out, hA]; rfl))
      go_wp2_with (first | (go_at_call 122; refine (zgg _ _ hs).mono ?_; rw [hN]; rintro e w' ⟨rfl, rfl⟩) | (go_at_call 73; refine (zat _ _ _ _).mono ?_; rintro e w' ⟨rfl, rfl⟩) | (go_at_call 123; refine hAS.mono ?_; rw [hA]; clear hAS; rintro e w2 ⟨rfl, bel2⟩))
      go_ret
      exact ⟨zab (by rw [R.out]), zkc Bu (by simp; omega) bel2⟩
    · have HST := Lib.hid (show zd5 xs k = true by rw [hS.out, zbu, hN, hL, HLX.out, hA, ← HQ.out]; rfl)
      have HT := Lib.hid (show (xs.take (k + 1)).map (·.1) = (xs.take k).map (·.1) ++ [s] by rw [M.take_at hX.out, List.map_append]; rfl)
      go_wp2_with (first | (go_at_call 122; refine (zgg _ _ hs).mono ?_; rw [hN]; rintro e w' ⟨rfl, rfl⟩) | (go_at_call 73; refine (zat _ _ _ _).mono ?_; rintro e w' ⟨rfl, rfl⟩) | (go_at_call 123; refine hAS.mono ?_; rw [hA]; clear hAS; rintro e w2 ⟨rfl, bel2⟩; have hown2 := hownU.kept (zpv bel2 none) (by simp); have z2 : wr.heap.size + 1 ≤ w2.heap.size := (by have := bel2.size; simpa using this); have g0 : w2.cell? ⟨wr.heap.size, 0, none⟩ = some (.string s) := (by rw [bel2.cell (by simp), cell_of_row _ wr.heap.size 0 _ 78 (0, 0) (heap_alloc_new wr _)]; rfl)) | (at_mapUpdate; refine wpList_mapUpdate_own _ rfl _ _ _ 162 rfl 9 4 zk5 Tryz.underlying162 _ (w.heap.size + 1) k _ rfl hown2 (by unfold maxLen; omega) _ _ _ rfl rfl hkey _ [] (plainElem_bool Tryz.underlying4 true) ?_; intro w3 hown3 hgrow3))
      go_roundw
      case rel => exact ⟨k + 1, _, by go_num, by omega, Lib.hid (fun j hj => by
       rcases Nat.lt_or_ge j k with h1 | h1
       · exact H.out j h1
       · obtain rfl : j = k := by omega
         exact HST.out), Lib.hid (by rw [HT.out]; exact zpt HD.out s), hown3, by have := hgrow3.size; omega, (zkc Bu (by simp; omega) bel2).grown hgrow3 (by omega) (fun j hj => by injection hj with hj; omega)⟩
      case measure => simp [intOf]; omega
  · have R := Lib.hid (show zay xs = M.inn n 1 8 by rw [zk7 (fun j hj => H.out j (by rw [HLX.out] at hj; omega)), HLX.out])
    go_wp2_with (go_at_call 73; refine (zat _ _ _ _).mono ?_; rintro e w' ⟨rfl, rfl⟩)
    go_ret
    exact ⟨zab (by rw [R.out]), Bw⟩
end
section
open Go.RowKit
def hU : Hs Int := ⟨fun _ => 0, fun _ x => x, fun _ => 0⟩
theorem zau {W w1 : World} (hb : Below W.heap.size W w1) : (∀ b o, b < W.heap.size → w1.cell? ⟨b, o, none⟩ = W.cell? ⟨b, o, none⟩) ∧ (∀ b o, b < W.heap.size → w1.frozen? ⟨b, o, none⟩ = W.frozen? ⟨b, o, none⟩) :=
 ⟨fun b o h => hb.cell (p := ⟨b, o, none⟩) h, fun b o h => hb.frozen (p := ⟨b, o, none⟩) h⟩
theorem za6 {α : Type} {t : Ty α} {e : TypeId} {w : World} {B : Nat} {cs : List Value} {x : List α} (h : (t.sl e).R w B cs x) : ∃ A n c, cs = [.slice A n c] := by
 obtain ⟨v, rfl, hr⟩ := h
 obtain ⟨A, c, rfl⟩ := hr.shape
 exact ⟨_, _, _, rfl⟩
abbrev zag := Int × Int × Int × Int × Int
theorem zej (A : Option Addr) (n c : Nat) (xs : List Int) (l : Int) (w : World) (hx : tS.R w w.heap.size [.slice A n c] xs) (hl : 0 ≤ l ∧ l ≤ 1000000000) :
 Calls Tryz.prog 30 #[.slice A n c, .int .i64 l] w fun e w' => e = .returned (.int .i64 (if (hS.sz xs : Int) ≤ l then l - hS.sz xs else -1)) ∧ Below w.heap.size w w' := by
 obtain ⟨h1, h2, h3⟩ := (tS_R.1 hx).cap
 have hn : n ≤ 9223372036854775807 := by unfold maxLen at h3; omega
 rw [zbl, h1]
 clear h1 h2 h3 hx
 by_cases h : (n : Int) ≤ l
 all_goals
  go_enter Tryz.func30, Tryz.ntmps30
  go_wp2
  go_ret
  exact ⟨rfl, Below.refl _ _⟩
end
section
open Go.RowKit
abbrev Node := Int × Int × Int × (List Int)
abbrev tN : Ty Node := tI.prod (tI.prod (tI.prod tS))
abbrev hN : Hs Node := hI.prod (hI.prod (hI.prod hS))
theorem tN_R {w : World} {B : Nat} {cs : List Value} {a0 : Int} {a1 : Int} {a2 : Int} {x3 : List Int} : tN.R w B cs (a0, a1, a2, x3) ↔ ∃ A3 n3 c3, cs = [.int .i64 a0, .int .i64 a1, .int .i64 a2, .slice A3 n3 c3] ∧ tS.R w B [.slice A3 n3 c3] x3 := by
 constructor
 · rintro ⟨u0, d0, rfl, g0, ⟨u1, d1, rfl, g1, ⟨u2, d2, rfl, g2, g3⟩⟩⟩
   obtain rfl : u0 = [.int .i64 a0] := g0
   obtain rfl : u1 = [.int .i64 a1] := g1
   obtain rfl : u2 = [.int .i64 a2] := g2
   obtain ⟨A3, n3, c3, rfl⟩ := za6 g3
   exact ⟨A3, n3, c3, rfl, g3⟩
 · rintro ⟨A3, n3, c3, rfl, g3⟩
   exact ⟨[.int .i64 a0], _, rfl, rfl, ⟨[.int .i64 a1], _, rfl, rfl, ⟨[.int .i64 a2], _, rfl, rfl, g3⟩⟩⟩
theorem tN_O {w : World} {F : Nat → Prop} {cs : List Value} {a0 : Int} {a1 : Int} {a2 : Int} {x3 : List Int} : tN.O w F cs (a0, a1, a2, x3) ↔ ∃ A3 n3 c3, ∃ F3 : Nat → Prop, cs = [.int .i64 a0, .int .i64 a1, .int .i64 a2, .slice A3 n3 c3] ∧ tS.O w F3 [.slice A3 n3 c3] x3 ∧ (∀ b, F3 b → F b) := by
 constructor
 · rintro ⟨u0, d0, F0, G0, rfl, g0, ⟨u1, d1, F1, G1, rfl, g1, ⟨u2, d2, F2, G2, rfl, g2, g3, p2, q2, r2⟩, p1, q1, r1⟩, p0, q0, r0⟩
   obtain rfl : u0 = [.int .i64 a0] := g0
   obtain rfl : u1 = [.int .i64 a1] := g1
   obtain rfl : u2 = [.int .i64 a2] := g2
   obtain ⟨A3, n3, c3, rfl⟩ := za6 (tS.read g3)
   exact ⟨A3, n3, c3, G2, rfl, g3, fun b h => q0 _ (q1 _ (q2 _ (h)))⟩
 · rintro ⟨A3, n3, c3, F3, rfl, g3, p3⟩
   exact ⟨[.int .i64 a0], _, (fun _ => False), F3, rfl, rfl, ⟨[.int .i64 a1], _, (fun _ => False), F3, rfl, rfl, ⟨[.int .i64 a2], _, (fun _ => False), F3, rfl, rfl, g3, fun _ h => h.elim, fun b h => by first | exact h | exact Or.inr h | (rcases h with h <;> simp only [*, true_or, or_true]), fun _ h => h.elim⟩, fun _ h => h.elim, fun b h => by first | exact h | exact Or.inr h | (rcases h with h <;> simp only [*, true_or, or_true]), fun _ h => h.elim⟩, fun _ h => h.elim, p3, fun _ h => h.elim⟩
theorem zft (a0 : Int) (a1 : Int) (a2 : Int) (x3 : List Int) : hN.sz (a0, a1, a2, x3) = hS.sz x3 := by
 show 0 + (0 + (0 + (hS.sz x3))) = _
 omega
theorem zit (a0 : Int) (a1 : Int) (a2 : Int) (x3 : List Int) : hN.cnt (a0, a1, a2, x3) = 3 + hS.cnt x3 := by
 show 1 + (1 + (1 + (hS.cnt x3))) = _
 omega
theorem zk8 (a0 : Int) (a1 : Int) (a2 : Int) (A3 : Option Addr) (n3 c3 : Nat) (x3 : List Int) (l : Int) (w : World) (h3 : tS.R w w.heap.size [.slice A3 n3 c3] x3) (hl : 0 ≤ l ∧ l ≤ 1000000000) :
 Calls Tryz.prog 147 #[.agg #[.int .i64 a0, .int .i64 a1, .int .i64 a2, .slice A3 n3 c3], .int .i64 l] w fun e w' => e = .returned (.int .i64 (if (hN.sz ((a0, a1, a2, x3) : Node) : Int) ≤ l then l - hN.sz ((a0, a1, a2, x3) : Node) else -1)) ∧ Below w.heap.size w w' := by
 obtain ⟨W, hW⟩ : ∃ W, W = w.alloc (.cells #[.int .i64 a0, .int .i64 a1, .int .i64 a2, .slice A3 n3 c3] 188) := ⟨_, rfl⟩
 have B0 : Below w.heap.size w W := by rw [hW]; exact (Below.refl _ _).alloc (Nat.le_refl _) _
 have p3 : W.cell? ⟨w.heap.size, 3, none⟩ = some (.slice A3 n3 c3) := by rw [hW]; simp [go_sem]
 have l0 : w.heap.size < W.heap.size := by rw [hW]; simp
 have y3_0 := tS.later h3 B0
 have HW := Lib.hid hW
 clear hW
 rw [zft]
 have z3 : 0 ≤ (hS.sz x3 : Int) := Int.natCast_nonneg _
 by_cases g0 : (hS.sz x3 : Int) ≤ l
 · have i0 := Lib.hid (show (if (hS.sz x3 : Int) ≤ l then l - hS.sz x3 else -1) = l - hS.sz x3 by rw [if_pos g0])
   have hj := Lib.hid (show (if ((hS.sz x3 : Nat) : Int) ≤ l then l - ((hS.sz x3 : Nat) : Int) else -1) = l - hS.sz x3 by rw [if_pos (by omega)]; first | done | omega)
   rw [hj.out]
   clear z3
   go_enter Tryz.func147, Tryz.ntmps147
   go_wp2_with fail
   rw [← HW.out]
   refine (zej _ _ _ _ _ _ y3_0 (by omega)).mono ?_
   rw [i0.out]
   rintro e w1 ⟨rfl, b1⟩
   obtain ⟨hc1, -⟩ := zau b1
   have l1 := Nat.lt_of_lt_of_le l0 b1.size
   have B1 := zaa B0 b1
   go_wp2
   go_ret
   exact ⟨rfl, B1⟩
 · have i0 := Lib.hid (show (if (hS.sz x3 : Int) ≤ l then l - hS.sz x3 else -1) = -1 by rw [if_neg g0])
   have hj := Lib.hid (show (if ((hS.sz x3 : Nat) : Int) ≤ l then l - ((hS.sz x3 : Nat) : Int) else -1) = -1 by rw [if_neg (by omega)])
   rw [hj.out]
   clear z3
   go_enter Tryz.func147, Tryz.ntmps147
   go_wp2_with fail
   rw [← HW.out]
   refine (zej _ _ _ _ _ _ y3_0 (by omega)).mono ?_
   rw [i0.out]
   rintro e w1 ⟨rfl, b1⟩
   obtain ⟨hc1, -⟩ := zau b1
   have l1 := Nat.lt_of_lt_of_le l0 b1.size
   have B1 := zaa B0 b1
   go_wp2
   go_ret
   exact ⟨rfl, B1⟩
theorem zpw (a0 : Int) (a1 : Int) (a2 : Int) (A3 : Option Addr) (n3 c3 : Nat) (A3' : Option Addr) (n3' c3' : Nat) (x3 : List Int) (w : World) (h3 : tS.R w w.heap.size [.slice A3 n3 c3] x3) (k3 : tS.R w w.heap.size [.slice A3' n3' c3'] x3) (hn : hN.sz ((a0, a1, a2, x3) : Node) ≤ 100000000) :
 Calls Tryz.prog 164 #[.agg #[.int .i64 a0, .int .i64 a1, .int .i64 a2, .slice A3 n3 c3], .agg #[.int .i64 a0, .int .i64 a1, .int .i64 a2, .slice A3' n3' c3']] w fun e w' => e = .returned (.bool true) ∧ Below w.heap.size w w' := by
 obtain ⟨W, hW⟩ : ∃ W, W = (w.alloc (.cells #[.int .i64 a0, .int .i64 a1, .int .i64 a2, .slice A3 n3 c3] 171)).alloc (.cells #[.int .i64 a0, .int .i64 a1, .int .i64 a2, .slice A3' n3' c3'] 171) := ⟨_, rfl⟩
 have B0 : Below w.heap.size w W := by rw [hW]; exact ((Below.refl _ _).alloc (Nat.le_refl _) _).alloc (by simp) _
 have p0 : W.cell? ⟨w.heap.size, 0, none⟩ = some (.int .i64 a0) := by rw [hW]; simp [go_sem]
 have q0 : W.cell? ⟨w.heap.size + 1, 0, none⟩ = some (.int .i64 a0) := by rw [hW]; simp [go_sem]
 have p1 : W.cell? ⟨w.heap.size, 1, none⟩ = some (.int .i64 a1) := by rw [hW]; simp [go_sem]
 have q1 : W.cell? ⟨w.heap.size + 1, 1, none⟩ = some (.int .i64 a1) := by rw [hW]; simp [go_sem]
 have p2 : W.cell? ⟨w.heap.size, 2, none⟩ = some (.int .i64 a2) := by rw [hW]; simp [go_sem]
 have q2 : W.cell? ⟨w.heap.size + 1, 2, none⟩ = some (.int .i64 a2) := by rw [hW]; simp [go_sem]
 have p3 : W.cell? ⟨w.heap.size, 3, none⟩ = some (.slice A3 n3 c3) := by rw [hW]; simp [go_sem]
 have q3 : W.cell? ⟨w.heap.size + 1, 3, none⟩ = some (.slice A3' n3' c3') := by rw [hW]; simp [go_sem]
 have l0 : w.heap.size + 1 < W.heap.size := by rw [hW]; simp
 have l0' : w.heap.size < W.heap.size := by omega
 have y3_0 := tS.later h3 B0
 have v3_0 := tS.later k3 B0
 have HW := Lib.hid hW
 clear hW
 rw [zft] at hn
 go_enter Tryz.func164, Tryz.ntmps164
 go_wp2_with fail
 rw [← HW.out]
 refine (zef _ _ _ _ _ _ _ _ y3_0 v3_0 (by omega)).mono ?_
 rintro e w1 ⟨rfl, b1⟩
 obtain ⟨hc1, -⟩ := zau b1
 have l1 := Nat.lt_of_lt_of_le l0 b1.size
 have l1' := Nat.lt_of_lt_of_le l0' b1.size
 have B1 := zaa B0 b1
 go_wp2
 go_ret
 exact ⟨rfl, B1⟩
theorem zpx (a0 : Int) (a1 : Int) (a2 : Int) (A3 : Option Addr) (n3 c3 : Nat) (x3 : List Int) (w : World) (h3 : tS.R w w.heap.size [.slice A3 n3 c3] x3) (hn : hN.sz ((a0, a1, a2, x3) : Node) ≤ 100000000) :
 Calls Tryz.prog 155 #[.agg #[.int .i64 a0, .int .i64 a1, .int .i64 a2, .slice A3 n3 c3]] w fun e w' => ∃ A3' n3' c3', e = .returned (.agg #[.int .i64 a0, .int .i64 a1, .int .i64 a2, .slice A3' n3' c3']) ∧ tN.O w' (Iv w.heap.size w'.heap.size) [.int .i64 a0, .int .i64 a1, .int .i64 a2, .slice A3' n3' c3'] (a0, a1, a2, x3) ∧ Below w.heap.size w w' := by
 obtain ⟨W, hW⟩ : ∃ W, W = ((w.alloc (.cells #[.int .i64 a0, .int .i64 a1, .int .i64 a2, .slice A3 n3 c3] 188)).alloc (.cells #[.int .i64 0, .int .i64 0, .int .i64 0, .slice none 0 0] 171)).alloc (.cells #[.int .i64 a0, .int .i64 a1, .int .i64 a2, .slice none 0 0] 171) := ⟨_, rfl⟩
 have B0 : Below w.heap.size w W := by rw [hW]; exact (((Below.refl _ _).alloc (Nat.le_refl _) _).alloc (by simp) _).alloc (by simp; omega) _
 have z0 : W.heap.size = w.heap.size + 1 + 1 + 1 := by rw [hW]; simp
 have p0 : W.cell? ⟨w.heap.size, 0, none⟩ = some (.int .i64 a0) := by rw [hW]; simp [go_sem]
 have q0 : W.cell? ⟨w.heap.size + 1, 0, none⟩ = some (.int .i64 0) := by rw [hW]; simp [go_sem]
 have r0 : W.cell? ⟨w.heap.size + 1 + 1, 0, none⟩ = some (.int .i64 a0) := by rw [hW]; simp [go_sem]
 have s0 : W.frozen? ⟨w.heap.size + 1, 0, none⟩ = false := by rw [hW]; simp [go_sem]
 have t0 : W.frozen? ⟨w.heap.size + 1 + 1, 0, none⟩ = false := by rw [hW]; simp [go_sem]
 have p1 : W.cell? ⟨w.heap.size, 1, none⟩ = some (.int .i64 a1) := by rw [hW]; simp [go_sem]
 have q1 : W.cell? ⟨w.heap.size + 1, 1, none⟩ = some (.int .i64 0) := by rw [hW]; simp [go_sem]
 have r1 : W.cell? ⟨w.heap.size + 1 + 1, 1, none⟩ = some (.int .i64 a1) := by rw [hW]; simp [go_sem]
 have s1 : W.frozen? ⟨w.heap.size + 1, 1, none⟩ = false := by rw [hW]; simp [go_sem]
 have t1 : W.frozen? ⟨w.heap.size + 1 + 1, 1, none⟩ = false := by rw [hW]; simp [go_sem]
 have p2 : W.cell? ⟨w.heap.size, 2, none⟩ = some (.int .i64 a2) := by rw [hW]; simp [go_sem]
 have q2 : W.cell? ⟨w.heap.size + 1, 2, none⟩ = some (.int .i64 0) := by rw [hW]; simp [go_sem]
 have r2 : W.cell? ⟨w.heap.size + 1 + 1, 2, none⟩ = some (.int .i64 a2) := by rw [hW]; simp [go_sem]
 have s2 : W.frozen? ⟨w.heap.size + 1, 2, none⟩ = false := by rw [hW]; simp [go_sem]
 have t2 : W.frozen? ⟨w.heap.size + 1 + 1, 2, none⟩ = false := by rw [hW]; simp [go_sem]
 have p3 : W.cell? ⟨w.heap.size, 3, none⟩ = some (.slice A3 n3 c3) := by rw [hW]; simp [go_sem]
 have q3 : W.cell? ⟨w.heap.size + 1, 3, none⟩ = some (.slice none 0 0) := by rw [hW]; simp [go_sem]
 have r3 : W.cell? ⟨w.heap.size + 1 + 1, 3, none⟩ = some (.slice none 0 0) := by rw [hW]; simp [go_sem]
 have s3 : W.frozen? ⟨w.heap.size + 1, 3, none⟩ = false := by rw [hW]; simp [go_sem]
 have t3 : W.frozen? ⟨w.heap.size + 1 + 1, 3, none⟩ = false := by rw [hW]; simp [go_sem]
 have l0 : w.heap.size < W.heap.size := by omega
 have l0' : w.heap.size + 1 < W.heap.size := by omega
 have l0'' : w.heap.size + 1 + 1 < W.heap.size := by omega
 have Z0 : w.heap.size + 1 + 1 + 1 ≤ W.heap.size := by omega
 clear z0
 have y3_0 := tS.later h3 B0
 have HW := Lib.hid hW
 clear hW
 rw [zft] at hn
 go_enter Tryz.func155, Tryz.ntmps155
 go_wp2_with fail
 rw [← HW.out]
 refine (zg9 _ _ _ _ _ y3_0 (by omega)).mono ?_
 rintro e w1 ⟨A3', n3', c3', rfl, o3_0, b1⟩
 obtain ⟨hc1, hf1⟩ := zau b1
 obtain ⟨U1, hU1⟩ : ∃ U, U = w1.setCell ⟨w.heap.size + 1 + 1, 3, none⟩ (.slice A3' n3' c3') := ⟨_, rfl⟩
 have m1 : Mid (w.heap.size + 1 + 1) (w.heap.size + 1 + 1 + 1) w1 U1 := by rw [hU1]; exact Mid.of_grown (zav w1 (w.heap.size + 1 + 1) 3 _) fun k hk => by injection hk with hk; omega
 have e1 : U1.heap.size = w1.heap.size := by rw [hU1]; simp
 have E1 := Lib.hid e1
 have sz1 : W.heap.size ≤ U1.heap.size := by rw [e1]; exact b1.size
 have BU1 : Below (w.heap.size + 1 + 1) w1 U1 := m1.toBelow (by omega)
 have B1 : Below w.heap.size w U1 := (zaa B0 b1).trans (BU1.mono (by omega))
 have l1 := Nat.lt_of_lt_of_le l0 sz1
 have l1' := Nat.lt_of_lt_of_le l0' sz1
 have l1'' := Nat.lt_of_lt_of_le l0'' sz1
 have Z1 := Nat.le_trans Z0 sz1
 have o3_1 : tS.O U1 (Iv W.heap.size U1.heap.size) [.slice A3' n3' c3'] x3 := tS.oiv (tS.omid o3_0 m1 (.inr (by omega)) (Nat.le_refl _)) (Nat.le_refl _) (by omega)
 have q0_1 : U1.cell? ⟨w.heap.size + 1, 0, none⟩ = some (.int .i64 0) := by rw [BU1.cell (by show w.heap.size + 1 < _; omega), b1.cell (by show w.heap.size + 1 < _; omega)]; exact q0
 have s0_1 : U1.frozen? ⟨w.heap.size + 1, 0, none⟩ = false := by rw [BU1.frozen (by show w.heap.size + 1 < _; omega), b1.frozen (by show w.heap.size + 1 < _; omega)]; exact s0
 have r0_1 : U1.cell? ⟨w.heap.size + 1 + 1, 0, none⟩ = some (.int .i64 a0) := by rw [hU1]; simp [go_sem, hc1, l0'', r0]
 have t0_1 : U1.frozen? ⟨w.heap.size + 1 + 1, 0, none⟩ = false := by rw [hU1]; simp [go_sem, hf1, l0'', t0]
 have q1_1 : U1.cell? ⟨w.heap.size + 1, 1, none⟩ = some (.int .i64 0) := by rw [BU1.cell (by show w.heap.size + 1 < _; omega), b1.cell (by show w.heap.size + 1 < _; omega)]; exact q1
 have s1_1 : U1.frozen? ⟨w.heap.size + 1, 1, none⟩ = false := by rw [BU1.frozen (by show w.heap.size + 1 < _; omega), b1.frozen (by show w.heap.size + 1 < _; omega)]; exact s1
 have r1_1 : U1.cell? ⟨w.heap.size + 1 + 1, 1, none⟩ = some (.int .i64 a1) := by rw [hU1]; simp [go_sem, hc1, l0'', r1]
 have t1_1 : U1.frozen? ⟨w.heap.size + 1 + 1, 1, none⟩ = false := by rw [hU1]; simp [go_sem, hf1, l0'', t1]
 have q2_1 : U1.cell? ⟨w.heap.size + 1, 2, none⟩ = some (.int .i64 0) := by rw [BU1.cell (by show w.heap.size + 1 < _; omega), b1.cell (by show w.heap.size + 1 < _; omega)]; exact q2
 have s2_1 : U1.frozen? ⟨w.heap.size + 1, 2, none⟩ = false := by rw [BU1.frozen (by show w.heap.size + 1 < _; omega), b1.frozen (by show w.heap.size + 1 < _; omega)]; exact s2
 have r2_1 : U1.cell? ⟨w.heap.size + 1 + 1, 2, none⟩ = some (.int .i64 a2) := by rw [hU1]; simp [go_sem, hc1, l0'', r2]
 have t2_1 : U1.frozen? ⟨w.heap.size + 1 + 1, 2, none⟩ = false := by rw [hU1]; simp [go_sem, hf1, l0'', t2]
 have q3_1 : U1.cell? ⟨w.heap.size + 1, 3, none⟩ = some (.slice none 0 0) := by rw [BU1.cell (by show w.heap.size + 1 < _; omega), b1.cell (by show w.heap.size + 1 < _; omega)]; exact q3
 have s3_1 : U1.frozen? ⟨w.heap.size + 1, 3, none⟩ = false := by rw [BU1.frozen (by show w.heap.size + 1 < _; omega), b1.frozen (by show w.heap.size + 1 < _; omega)]; exact s3
 have r3_1 : U1.cell? ⟨w.heap.size + 1 + 1, 3, none⟩ = some (.slice A3' n3' c3') := by rw [hU1]; simp [go_sem, hc1, l0'', r3]
 have t3_1 : U1.frozen? ⟨w.heap.size + 1 + 1, 3, none⟩ = false := by rw [hU1]; simp [go_sem, hf1, l0'', t3]
 have t0_w : w1.frozen? ⟨w.heap.size + 1 + 1, 0, none⟩ = false := by rw [hf1 _ _ l0'']; exact t0
 have s0_w : w1.frozen? ⟨w.heap.size + 1, 0, none⟩ = false := by rw [hf1 _ _ l0']; exact s0
 have q0_w : w1.cell? ⟨w.heap.size + 1, 0, none⟩ = some (.int .i64 0) := by rw [hc1 _ _ l0']; exact q0
 have r0_w : w1.cell? ⟨w.heap.size + 1 + 1, 0, none⟩ = some (.int .i64 a0) := by rw [hc1 _ _ l0'']; exact r0
 have t1_w : w1.frozen? ⟨w.heap.size + 1 + 1, 1, none⟩ = false := by rw [hf1 _ _ l0'']; exact t1
 have s1_w : w1.frozen? ⟨w.heap.size + 1, 1, none⟩ = false := by rw [hf1 _ _ l0']; exact s1
 have q1_w : w1.cell? ⟨w.heap.size + 1, 1, none⟩ = some (.int .i64 0) := by rw [hc1 _ _ l0']; exact q1
 have r1_w : w1.cell? ⟨w.heap.size + 1 + 1, 1, none⟩ = some (.int .i64 a1) := by rw [hc1 _ _ l0'']; exact r1
 have t2_w : w1.frozen? ⟨w.heap.size + 1 + 1, 2, none⟩ = false := by rw [hf1 _ _ l0'']; exact t2
 have s2_w : w1.frozen? ⟨w.heap.size + 1, 2, none⟩ = false := by rw [hf1 _ _ l0']; exact s2
 have q2_w : w1.cell? ⟨w.heap.size + 1, 2, none⟩ = some (.int .i64 0) := by rw [hc1 _ _ l0']; exact q2
 have r2_w : w1.cell? ⟨w.heap.size + 1 + 1, 2, none⟩ = some (.int .i64 a2) := by rw [hc1 _ _ l0'']; exact r2
 have t3_w : w1.frozen? ⟨w.heap.size + 1 + 1, 3, none⟩ = false := by rw [hf1 _ _ l0'']; exact t3
 have s3_w : w1.frozen? ⟨w.heap.size + 1, 3, none⟩ = false := by rw [hf1 _ _ l0']; exact s3
 have q3_w : w1.cell? ⟨w.heap.size + 1, 3, none⟩ = some (.slice none 0 0) := by rw [hc1 _ _ l0']; exact q3
 have r3_w : w1.cell? ⟨w.heap.size + 1 + 1, 3, none⟩ = some (.slice none 0 0) := by rw [hc1 _ _ l0'']; exact r3
 have HU1 := Lib.hid hU1
 clear hU1 e1 hc1 hf1 q0 s0 r0 t0 q1 s1 r1 t1 q2 s2 r2 t2 q3 s3 r3 t3
 go_wp2
 rw [← HU1.out]
 clear t0_w r0_w s0_w q0_w t1_w r1_w s1_w q1_w t2_w r2_w s2_w q2_w t3_w r3_w s3_w q3_w
 have mm : Mid (w.heap.size + 1) (w.heap.size + 1 + 1) U1 ((((U1.setCell ⟨w.heap.size + 1, 0, none⟩ (.int .i64 a0)).setCell ⟨w.heap.size + 1, 1, none⟩ (.int .i64 a1)).setCell ⟨w.heap.size + 1, 2, none⟩ (.int .i64 a2)).setCell ⟨w.heap.size + 1, 3, none⟩ (.slice A3' n3' c3')) := ((((Mid.of_grown (zav _ (w.heap.size + 1) 0 _) fun k hk => by injection hk with hk; omega).trans (Mid.of_grown (zav _ (w.heap.size + 1) 1 _) fun k hk => by injection hk with hk; omega)).trans (Mid.of_grown (zav _ (w.heap.size + 1) 2 _) fun k hk => by injection hk with hk; omega)).trans (Mid.of_grown (zav _ (w.heap.size + 1) 3 _) fun k hk => by injection hk with hk; omega))
 refine bodyPost_ret (v := .agg #[.int .i64 a0, .int .i64 a1, .int .i64 a2, .slice A3' n3' c3']) (by simp [results, Tryz.results155, go_sem, q0_1, s0_1, r0_1, q1_1, s1_1, r1_1, q2_1, s2_1, r2_1, q3_1, s3_1, r3_1]) rfl ?_
 refine ⟨A3', n3', c3', rfl, tN_O.2 ⟨A3', n3', c3', Iv W.heap.size U1.heap.size, rfl, tS.omid o3_1 mm (.inr (by omega)) (by omega), fun b h => ⟨by have := h.1; omega, Nat.lt_of_lt_of_le (Nat.lt_of_lt_of_le h.2 (by omega)) mm.size⟩⟩, ?_⟩
 exact B1.trans ((mm.toBelow (by omega)).mono (by omega))
end
section
open Go.RowKit
abbrev tNS : Ty (List Node) := tN.sl 171
abbrev hNS : Hs (List Node) := hN.sl
theorem ziu (A : Option Addr) (n c : Nat) (xs : List Node) (l : Int) (w : World) (hx : tNS.R w w.heap.size [.slice A n c] xs) (hl : 0 ≤ l ∧ l ≤ 1000000000) :
 Calls Tryz.prog 111 #[.slice A n c, .int .i64 l] w fun e w' => e = .returned (.int .i64 (if (hNS.sz xs : Int) ≤ l then l - hNS.sz xs else -1)) ∧ Below w.heap.size w w' := by
 have hr := sl_R.1 hx
 obtain ⟨h1, h2, h3⟩ := hr.cap
 have hn : n ≤ 9223372036854775807 := by unfold maxLen at h3; omega
 obtain rfl : xs.length = n := h1
 have hzz : hNS.sz xs = xs.length + hN.szL xs := rfl
 have HZ := Lib.hid hzz
 clear h2 h3 hx hzz
 generalize hR : (if (hNS.sz xs : Int) ≤ l then l - (hNS.sz xs : Int) else -1) = R
 have HR := Lib.hid hR
 clear hR
 by_cases h : (xs.length : Int) ≤ l
 · go_enter Tryz.func111, Tryz.ntmps111
   go_wp2
   go_loopw [1, 5] (fun q i wr => ∃ k : Nat, i = .int .i64 k ∧ k ≤ xs.length ∧ (hN.szL (xs.take k) : Int) ≤ l - xs.length ∧ q = .int .i64 (l - xs.length - hN.szL (xs.take k)) ∧ Below w.heap.size w wr) (fun _ i _ => xs.length - (intOf i).toNat)
   case atStart => exact ⟨0, rfl, by omega, by simp [Hs.szL]; omega, by simp [Hs.szL], Below.refl _ _⟩
   case round =>
    obtain ⟨k, rfl, hk, hz, rfl, hb⟩ := hrel
    by_cases hlt : k < xs.length
    · have hX := Lib.hid (List.getElem?_eq_getElem hlt)
      obtain ⟨b, o, c1, cs, hv, hab, -, hE, hc⟩ := (hr.below hb).atX hX.out
      simp only [Value.slice.injEq] at hv
      obtain ⟨rfl, -, rfl⟩ := hv
      have hTk := Lib.hid (hN.szL_take hX.out)
      have hU := hN.szL_at hX.out
      generalize xs[k] = x at hX hE hTk hU
      obtain ⟨a0, a1, a2, x3⟩ := x
      obtain ⟨A3, n3, c3, rfl, e3⟩ := tN_R.1 hE
      have ec0 : wr.cell? ⟨b, o + k * 4, none⟩ = some (.int .i64 a0) := hc 0 _ rfl
      have ec1 : wr.cell? ⟨b, o + k * 4 + 1, none⟩ = some (.int .i64 a1) := hc 1 _ rfl
      have ec2 : wr.cell? ⟨b, o + k * 4 + 2, none⟩ = some (.int .i64 a2) := hc 2 _ rfl
      have ec3 : wr.cell? ⟨b, o + k * 4 + 3, none⟩ = some (.slice A3 n3 c3) := hc 3 _ rfl
      have f3 := tS.more hb.size e3
      clear hc
      by_cases hle : (hN.sz ((a0, a1, a2, x3) : Node) : Int) ≤ l - xs.length - hN.szL (xs.take k)
      · have hi := Lib.hid (show (if (hN.sz ((a0, a1, a2, x3) : Node) : Int) ≤ l - xs.length - hN.szL (xs.take k) then l - xs.length - hN.szL (xs.take k) - hN.sz ((a0, a1, a2, x3) : Node) else -1) = l - xs.length - hN.szL (xs.take k) - hN.sz ((a0, a1, a2, x3) : Node) by rw [if_pos hle])
        go_wp2_with (go_at_call 147; refine (zk8 _ _ _ _ _ _ _ _ _ f3 (by omega)).mono ?_; rw [hi.out]; rintro e w2 ⟨rfl, bel2⟩)
        go_roundw
        case rel => exact ⟨k + 1, by go_num, by omega, by rw [hTk.out]; omega, by rw [hTk.out]; go_num, hb.trans (bel2.mono hb.size)⟩
        case measure => simp [intOf]; omega
      · have hi := Lib.hid (show (if (hN.sz ((a0, a1, a2, x3) : Node) : Int) ≤ l - xs.length - hN.szL (xs.take k) then l - xs.length - hN.szL (xs.take k) - hN.sz ((a0, a1, a2, x3) : Node) else -1) = -1 by rw [if_neg hle])
        have hj := Lib.hid (show (if (hNS.sz xs : Int) ≤ l then l - hNS.sz xs else -1) = -1 by rw [HZ.out, if_neg (by omega)])
        go_wp2_with (go_at_call 147; refine (zk8 _ _ _ _ _ _ _ _ _ f3 (by omega)).mono ?_; rw [hi.out]; rintro e w2 ⟨rfl, bel2⟩)
        go_ret
        exact ⟨zar (hj.out.symm.trans HR.out), hb.trans (bel2.mono hb.size)⟩
    · obtain rfl : xs.length = k := by omega
      rw [List.take_of_length_le (Nat.le_refl _)] at hz ⊢
      have hj := Lib.hid (show (if (hNS.sz xs : Int) ≤ l then l - hNS.sz xs else -1) = l - xs.length - hN.szL xs by rw [HZ.out, if_pos (by omega)]; omega)
      go_wp2
      go_ret
      exact ⟨zar (hj.out.symm.trans HR.out), hb⟩
 · have hj := Lib.hid (show (if (hNS.sz xs : Int) ≤ l then l - hNS.sz xs else -1) = -1 by rw [HZ.out, if_neg (by omega)])
   go_enter Tryz.func111, Tryz.ntmps111
   go_wp2
   go_ret
   exact ⟨zar (hj.out.symm.trans HR.out), Below.refl _ _⟩
theorem ziv : EI Tryz.prog 105 171 (.agg #[.int .i64 0, .int .i64 0, .int .i64 0, .slice none 0 0]) 4 48 := ⟨Tryz.underlying105, by kernel_rfl, rfl, by decide⟩
theorem zpy (w : World) (F : Nat → Prop) : tN.O w F [.int .i64 0, .int .i64 0, .int .i64 0, .slice none 0 0] (0, 0, 0, []) := tN_O.2 ⟨none, 0, 0, fun _ => False, rfl, ⟨_, rfl, OS.nil _ _ _ _⟩, fun _ h => h.elim⟩
theorem zpz (A : Option Addr) (n c : Nat) (xs : List Node) (w : World) (hx : tNS.R w w.heap.size [.slice A n c] xs) (hn : hNS.sz xs ≤ 100000000) :
 Calls Tryz.prog 119 #[.slice A n c] w fun e w' => ∃ A' n' c', e = .returned (.slice A' n' c') ∧ tNS.O w' (Iv w.heap.size w'.heap.size) [.slice A' n' c'] xs ∧ Below w.heap.size w w' := by
 have hr := sl_R.1 hx
 obtain rfl : xs.length = n := hr.cap.1
 have hn1 : xs.length + hN.szL xs ≤ 100000000 := hn
 clear hx hn
 go_enter Tryz.func119, Tryz.ntmps119
 go_wp2_with (at_make; refine zda ziv rfl _ _ rfl xs.length _ _ rfl rfl rfl rfl (by omega) (by unfold maxLen; omega) ?_; intro w1 own1 bel1)
 have hs1 : w.heap.size + 1 ≤ w1.heap.size := (World.ownsRow.lt own1 _ rfl).2
 have own2 : OS tN 171 w1 (Iv w.heap.size w1.heap.size) (.slice (some ⟨w.heap.size, 0, none⟩) xs.length xs.length) (List.replicate xs.length ((0, 0, 0, []) : Node)) :=
  OS.made (t := tN) (zc := [.int .i64 0, .int .i64 0, .int .i64 0, .slice none 0 0]) zpy rfl ⟨Nat.le_refl _, by omega⟩ own1
 clear own1
 go_loopw [4] (fun i wr => ∃ k : Nat, i = .int .i64 k ∧ k ≤ xs.length ∧ OS tN 171 wr (Iv w.heap.size wr.heap.size) (.slice (some ⟨w.heap.size, 0, none⟩) xs.length xs.length) (xs.take k ++ (List.replicate xs.length ((0, 0, 0, []) : Node)).drop k) ∧ w.heap.size + 1 ≤ wr.heap.size ∧ Below w.heap.size w wr)
  (fun i _ => xs.length - (intOf i).toNat)
 case atStart => exact ⟨0, rfl, by omega, by simpa using own2, hs1, bel1⟩
 case round =>
  obtain ⟨k, rfl, hk, own, hsz, hb⟩ := hrel
  by_cases hlt : k < xs.length
  · have hX := Lib.hid (List.getElem?_eq_getElem hlt)
    obtain ⟨b, o, c1, cs, hv, hab, -, hE, hc⟩ := (hr.below hb).atX hX.out
    simp only [Value.slice.injEq] at hv
    obtain ⟨rfl, -, rfl⟩ := hv
    have hU := hN.szL_at hX.out
    generalize xs[k] = x at hX hE hU
    obtain ⟨a0, a1, a2, x3⟩ := x
    obtain ⟨A3, n3, c3, rfl, e3⟩ := tN_R.1 hE
    have ec0 : wr.cell? ⟨b, o + k * 4, none⟩ = some (.int .i64 a0) := hc 0 _ rfl
    have ec1 : wr.cell? ⟨b, o + k * 4 + 1, none⟩ = some (.int .i64 a1) := hc 1 _ rfl
    have ec2 : wr.cell? ⟨b, o + k * 4 + 2, none⟩ = some (.int .i64 a2) := hc 2 _ rfl
    have ec3 : wr.cell? ⟨b, o + k * 4 + 3, none⟩ = some (.slice A3 n3 c3) := hc 3 _ rfl
    have f3 := tS.more hb.size e3
    have hz2 : hN.sz ((a0, a1, a2, x3) : Node) ≤ 100000000 := by omega
    clear hc
    have hD := Lib.hid (show (xs.take k ++ (List.replicate xs.length ((0, 0, 0, []) : Node)).drop k)[k]? = some (0, 0, 0, []) by rw [M.mid_at (by rw [List.length_replicate])]; simp [hlt])
    go_wp2_with (go_at_call 155; refine (zpx _ _ _ _ _ _ _ _  f3 hz2).mono ?_; rintro e w2 ⟨A3', n3', c3', rfl, o2, bel2⟩; have own' := own.below bel2 (Nat.le_refl _); obtain ⟨css, Fs, hole, cs, hcs, hE⟩ := own'.openAt hD.out; obtain ⟨A39, n39, c39, rfl, -⟩ := tN_R.1 (tN.read hE); have z2 := bel2.size; have q0 := (hole.cell hcs (j := 0) rfl).1; have r0 := (hole.cell hcs (j := 0) rfl).2; change w2.cell? ⟨w.heap.size, k * 4 + 0, none⟩ = _ at q0; change w2.frozen? ⟨w.heap.size, k * 4 + 0, none⟩ = _ at r0; have q1 := (hole.cell hcs (j := 1) rfl).1; have r1 := (hole.cell hcs (j := 1) rfl).2; change w2.cell? ⟨w.heap.size, k * 4 + 1, none⟩ = _ at q1; change w2.frozen? ⟨w.heap.size, k * 4 + 1, none⟩ = _ at r1; have q2 := (hole.cell hcs (j := 2) rfl).1; have r2 := (hole.cell hcs (j := 2) rfl).2; change w2.cell? ⟨w.heap.size, k * 4 + 2, none⟩ = _ at q2; change w2.frozen? ⟨w.heap.size, k * 4 + 2, none⟩ = _ at r2; have q3 := (hole.cell hcs (j := 3) rfl).1; have r3 := (hole.cell hcs (j := 3) rfl).2; change w2.cell? ⟨w.heap.size, k * 4 + 3, none⟩ = _ at q3; change w2.frozen? ⟨w.heap.size, k * 4 + 3, none⟩ = _ at r3; rw [Nat.add_zero] at q0 r0)
    go_roundw
    case rel =>
     have s0 := hole.set hcs 0 (by decide) (.int .i64 a0)
     have s1 := s0.1.set s0.2 1 (by decide) (.int .i64 a1)
     have s2 := s1.1.set s1.2 2 (by decide) (.int .i64 a2)
     have s3 := s2.1.set s2.2 3 (by decide) (.slice A3' n3' c3')
     have o3 := (tN.oset (g := w.heap.size) (o := k * 4 + 3) (u := .slice A3' n3' c3') (tN.oset (g := w.heap.size) (o := k * 4 + 2) (u := .int .i64 a2) (tN.oset (g := w.heap.size) (o := k * 4 + 1) (u := .int .i64 a1) (tN.oset (g := w.heap.size) (o := k * 4 + 0) (u := .int .i64 a0) o2 (.inl (by omega))) (.inl (by omega))) (.inl (by omega))) (.inl (by omega)))
     have h3 := s3.1.fill' s3.2 (y := ((a0, a1, a2, x3) : Node)) (Fe := Iv wr.heap.size w2.heap.size) o3 (fun b h1 h2 => by have := h1.1; have := h2.2; omega)
     rw [M.set_mid (by rw [List.length_replicate]) hX.out] at h3
     have hb2 := hb.trans (bel2.mono hb.size)
     exact ⟨k + 1, by go_num, by omega, h3.wide (fun b hb => ⟨by unfold Iv at hb; omega, by simp; unfold Iv at hb; omega⟩), by simp; omega, ((((hb2.setCell (Nat.le_refl _) _).setCell (Nat.le_refl _) _).setCell (Nat.le_refl _) _).setCell (Nat.le_refl _) _)⟩
    case measure => simp [intOf]; omega
  · go_wp2
    go_ret
    rw [List.take_of_length_le (by omega), List.drop_eq_nil_of_le (by simp; omega), List.append_nil] at own
    exact ⟨_, _, _, rfl, sl_O.2 own, hb⟩
theorem zp0 (A A' : Option Addr) (n c n' c' : Nat) (xs : List Node) (w : World) (hx : tNS.R w w.heap.size [.slice A n c] xs) (hy : tNS.R w w.heap.size [.slice A' n' c'] xs) (hn : hNS.sz xs ≤ 100000000) :
 Calls Tryz.prog 129 #[.slice A n c, .slice A' n' c'] w fun e w' => e = .returned (.bool true) ∧ Below w.heap.size w w' := by
 have hr := sl_R.1 hx
 have hr' := sl_R.1 hy
 obtain rfl : xs.length = n := hr.cap.1
 obtain rfl : xs.length = n' := hr'.cap.1
 have hn1 : xs.length + hN.szL xs ≤ 100000000 := hn
 clear hx hy hn
 go_enter Tryz.func129, Tryz.ntmps129
 go_wp2
 go_loopw [5] (fun i wr => ∃ k : Nat, i = .int .i64 k ∧ k ≤ xs.length ∧ Below w.heap.size w wr) (fun i _ => xs.length - (intOf i).toNat)
 case atStart => exact ⟨0, rfl, by omega, Below.refl _ _⟩
 case round =>
  obtain ⟨k, rfl, hk, hb⟩ := hrel
  by_cases hlt : k < xs.length
  · have hX := Lib.hid (List.getElem?_eq_getElem hlt)
    obtain ⟨b, o, c1, cs, hv, hab, -, hE, hc⟩ := (hr.below hb).atX hX.out
    obtain ⟨b', o', c1', cs', hv', hab', -, hE', hc'⟩ := (hr'.below hb).atX hX.out
    simp only [Value.slice.injEq] at hv hv'
    obtain ⟨rfl, -, rfl⟩ := hv
    obtain ⟨rfl, -, rfl⟩ := hv'
    have hU := hN.szL_at hX.out
    generalize xs[k] = x at hX hE hE' hU
    obtain ⟨a0, a1, a2, x3⟩ := x
    obtain ⟨A3, n3, c3, rfl, e3⟩ := tN_R.1 hE
    have ec0 : wr.cell? ⟨b, o + k * 4, none⟩ = some (.int .i64 a0) := hc 0 _ rfl
    have ec1 : wr.cell? ⟨b, o + k * 4 + 1, none⟩ = some (.int .i64 a1) := hc 1 _ rfl
    have ec2 : wr.cell? ⟨b, o + k * 4 + 2, none⟩ = some (.int .i64 a2) := hc 2 _ rfl
    have ec3 : wr.cell? ⟨b, o + k * 4 + 3, none⟩ = some (.slice A3 n3 c3) := hc 3 _ rfl
    obtain ⟨A3', n3', c3', rfl, d3⟩ := tN_R.1 hE'
    have dc0 : wr.cell? ⟨b', o' + k * 4, none⟩ = some (.int .i64 a0) := hc' 0 _ rfl
    have dc1 : wr.cell? ⟨b', o' + k * 4 + 1, none⟩ = some (.int .i64 a1) := hc' 1 _ rfl
    have dc2 : wr.cell? ⟨b', o' + k * 4 + 2, none⟩ = some (.int .i64 a2) := hc' 2 _ rfl
    have dc3 : wr.cell? ⟨b', o' + k * 4 + 3, none⟩ = some (.slice A3' n3' c3') := hc' 3 _ rfl
    have hbr : b < wr.heap.size := Nat.lt_of_lt_of_le hab hb.size
    have hbr' : b' < wr.heap.size := Nat.lt_of_lt_of_le hab' hb.size
    have hz2 : hN.sz ((a0, a1, a2, x3) : Node) ≤ 100000000 := by omega
    have f3 := tS.later (tS.more hb.size e3) (zac (Below.refl _ _) 1)
    have g3 := tS.later (tS.more hb.size d3) (zac (Below.refl _ _) 1)
    clear hc hc'
    go_wp2
    go_region_held3 (fun w' => Below wr.heap.size wr w' ∧ w'.cell? ⟨b, o + k * 4, none⟩ = some (.int .i64 a0) ∧ w'.cell? ⟨b, o + k * 4 + 1, none⟩ = some (.int .i64 a1) ∧ w'.cell? ⟨b, o + k * 4 + 2, none⟩ = some (.int .i64 a2) ∧ w'.cell? ⟨b, o + k * 4 + 3, none⟩ = some (.slice A3 n3 c3) ∧ w'.cell? ⟨b', o' + k * 4, none⟩ = some (.int .i64 a0) ∧ w'.cell? ⟨b', o' + k * 4 + 1, none⟩ = some (.int .i64 a1) ∧ w'.cell? ⟨b', o' + k * 4 + 2, none⟩ = some (.int .i64 a2) ∧ w'.cell? ⟨b', o' + k * 4 + 3, none⟩ = some (.slice A3' n3' c3'))
     (first
      | exact ⟨zac (Below.refl _ _) _, ec0, ec1, ec2, ec3, dc0, dc1, dc2, dc3⟩
      | exact ⟨zdb bel2 rfl (And.left (by assumption)), za9 bel2 rfl (And.left (by assumption)) ec0 hbr, za9 bel2 rfl (And.left (by assumption)) ec1 hbr, za9 bel2 rfl (And.left (by assumption)) ec2 hbr, za9 bel2 rfl (And.left (by assumption)) ec3 hbr, za9 bel2 rfl (And.left (by assumption)) dc0 hbr', za9 bel2 rfl (And.left (by assumption)) dc1 hbr', za9 bel2 rfl (And.left (by assumption)) dc2 hbr', za9 bel2 rfl (And.left (by assumption)) dc3 hbr'⟩)
     (first | (go_at_call 164; refine (zpw _ _ _ _ _ _ _ _ _ _ _ f3 g3 hz2).mono ?_; rintro e w2 ⟨rfl, bel2⟩))
    go_wp2
    go_roundw
    case rel => exact ⟨k + 1, by go_num, by omega, hb.trans ((zdb bel2 rfl (zac (Below.refl _ _) _)).mono hb.size)⟩
    case measure => simp [intOf]; omega
  · go_wp2
    go_ret
    exact ⟨rfl, hb⟩
end
section
open Go.RowKit
theorem zek (A : Option Addr) (n c : Nat) (xs : List (List Int)) (l : Int) (w : World) (hx : tSS.R w w.heap.size [.slice A n c] xs) (hl : 0 ≤ l ∧ l ≤ 1000000000) :
 Calls Tryz.prog 28 #[.slice A n c, .int .i64 l] w fun e w' => e = .returned (.int .i64 (if (hSS.sz xs : Int) ≤ l then l - hSS.sz xs else -1)) ∧ Below w.heap.size w w' := by
 have hr := sl_R.1 hx
 obtain ⟨h1, h2, h3⟩ := hr.cap
 have hn : n ≤ 9223372036854775807 := by unfold maxLen at h3; omega
 obtain rfl : xs.length = n := h1
 have hzz : hSS.sz xs = xs.length + hS.szL xs := rfl
 have HZ := Lib.hid hzz
 clear h2 h3 hx hzz
 generalize hR : (if (hSS.sz xs : Int) ≤ l then l - (hSS.sz xs : Int) else -1) = R
 have HR := Lib.hid hR
 clear hR
 by_cases h : (xs.length : Int) ≤ l
 · go_enter Tryz.func28, Tryz.ntmps28
   go_wp2
   go_loopw [1, 5] (fun q i wr => ∃ k : Nat, i = .int .i64 k ∧ k ≤ xs.length ∧ (hS.szL (xs.take k) : Int) ≤ l - xs.length ∧ q = .int .i64 (l - xs.length - hS.szL (xs.take k)) ∧ Below w.heap.size w wr) (fun _ i _ => xs.length - (intOf i).toNat)
   case atStart => exact ⟨0, rfl, by omega, by simp [Hs.szL]; omega, by simp [Hs.szL], Below.refl _ _⟩
   case round =>
    obtain ⟨k, rfl, hk, hz, rfl, hb⟩ := hrel
    by_cases hlt : k < xs.length
    · have hX := Lib.hid (List.getElem?_eq_getElem hlt)
      obtain ⟨b, o, c1, cs, hv, hab, -, hE, hc⟩ := (hr.below hb).atX hX.out
      simp only [Value.slice.injEq] at hv
      obtain ⟨rfl, -, rfl⟩ := hv
      have hTk := Lib.hid (hS.szL_take hX.out)
      have hU := hS.szL_at hX.out
      generalize xs[k] = x at hX hE hTk hU
      obtain ⟨A0, n0, c0, rfl⟩ := za6 hE
      have ec0 : wr.cell? ⟨b, o + k * 1, none⟩ = some (.slice A0 n0 c0) := hc 0 _ rfl
      rw [Nat.mul_one] at ec0
      have f0 := tS.more hb.size hE
      clear hc
      by_cases hle : (hS.sz x : Int) ≤ l - xs.length - hS.szL (xs.take k)
      · have hi := Lib.hid (show (if (hS.sz x : Int) ≤ l - xs.length - hS.szL (xs.take k) then l - xs.length - hS.szL (xs.take k) - hS.sz x else -1) = l - xs.length - hS.szL (xs.take k) - hS.sz x by rw [if_pos hle])
        go_wp2_with (go_at_call 30; refine (zej _ _ _ _ _ _ f0 (by omega)).mono ?_; rw [hi.out]; rintro e w2 ⟨rfl, bel2⟩)
        go_roundw
        case rel => exact ⟨k + 1, by go_num, by omega, by rw [hTk.out]; omega, by rw [hTk.out]; go_num, hb.trans (bel2.mono hb.size)⟩
        case measure => simp [intOf]; omega
      · have hi := Lib.hid (show (if (hS.sz x : Int) ≤ l - xs.length - hS.szL (xs.take k) then l - xs.length - hS.szL (xs.take k) - hS.sz x else -1) = -1 by rw [if_neg hle])
        have hj := Lib.hid (show (if (hSS.sz xs : Int) ≤ l then l - hSS.sz xs else -1) = -1 by rw [HZ.out, if_neg (by omega)])
        go_wp2_with (go_at_call 30; refine (zej _ _ _ _ _ _ f0 (by omega)).mono ?_; rw [hi.out]; rintro e w2 ⟨rfl, bel2⟩)
        go_ret
        exact ⟨zar (hj.out.symm.trans HR.out), hb.trans (bel2.mono hb.size)⟩
    · obtain rfl : xs.length = k := by omega
      rw [List.take_of_length_le (Nat.le_refl _)] at hz ⊢
      have hj := Lib.hid (show (if (hSS.sz xs : Int) ≤ l then l - hSS.sz xs else -1) = l - xs.length - hS.szL xs by rw [HZ.out, if_pos (by omega)]; omega)
      go_wp2
      go_ret
      exact ⟨zar (hj.out.symm.trans HR.out), hb⟩
 · have hj := Lib.hid (show (if (hSS.sz xs : Int) ≤ l then l - hSS.sz xs else -1) = -1 by rw [HZ.out, if_neg (by omega)])
   go_enter Tryz.func28, Tryz.ntmps28
   go_wp2
   go_ret
   exact ⟨zar (hj.out.symm.trans HR.out), Below.refl _ _⟩
theorem zp1 : EI Tryz.prog 22 24 (.slice none 0 0) 1 24 := ⟨Tryz.underlying22, by kernel_rfl, rfl, by decide⟩
theorem zp2 (w : World) (F : Nat → Prop) : tS.O w F [.slice none 0 0] [] := ⟨_, rfl, OS.nil _ _ _ _⟩
theorem zk9 (A : Option Addr) (n c : Nat) (xs : List (List Int)) (w : World) (hx : tSS.R w w.heap.size [.slice A n c] xs) (hn : hSS.sz xs ≤ 100000000) :
 Calls Tryz.prog 35 #[.slice A n c] w fun e w' => ∃ A' n' c', e = .returned (.slice A' n' c') ∧ tSS.O w' (Iv w.heap.size w'.heap.size) [.slice A' n' c'] xs ∧ Below w.heap.size w w' := by
 have hr := sl_R.1 hx
 obtain rfl : xs.length = n := hr.cap.1
 have hn1 : xs.length + hS.szL xs ≤ 100000000 := hn
 clear hx hn
 go_enter Tryz.func35, Tryz.ntmps35
 go_wp2_with (at_make; refine zda zp1 rfl _ _ rfl xs.length _ _ rfl rfl rfl rfl (by omega) (by unfold maxLen; omega) ?_; intro w1 own1 bel1)
 have hs1 : w.heap.size + 1 ≤ w1.heap.size := (World.ownsRow.lt own1 _ rfl).2
 have own2 : OS tS 24 w1 (Iv w.heap.size w1.heap.size) (.slice (some ⟨w.heap.size, 0, none⟩) xs.length xs.length) (List.replicate xs.length ([] : (List Int))) :=
  OS.made (t := tS) (zc := [.slice none 0 0]) zp2 rfl ⟨Nat.le_refl _, by omega⟩ own1
 clear own1
 go_loopw [4] (fun i wr => ∃ k : Nat, i = .int .i64 k ∧ k ≤ xs.length ∧ OS tS 24 wr (Iv w.heap.size wr.heap.size) (.slice (some ⟨w.heap.size, 0, none⟩) xs.length xs.length) (xs.take k ++ (List.replicate xs.length ([] : (List Int))).drop k) ∧ w.heap.size + 1 ≤ wr.heap.size ∧ Below w.heap.size w wr)
  (fun i _ => xs.length - (intOf i).toNat)
 case atStart => exact ⟨0, rfl, by omega, by simpa using own2, hs1, bel1⟩
 case round =>
  obtain ⟨k, rfl, hk, own, hsz, hb⟩ := hrel
  by_cases hlt : k < xs.length
  · have hX := Lib.hid (List.getElem?_eq_getElem hlt)
    obtain ⟨b, o, c1, cs, hv, hab, -, hE, hc⟩ := (hr.below hb).atX hX.out
    simp only [Value.slice.injEq] at hv
    obtain ⟨rfl, -, rfl⟩ := hv
    have hU := hS.szL_at hX.out
    generalize xs[k] = x at hX hE hU
    obtain ⟨A0, n0, c0, rfl⟩ := za6 hE
    have ec0 : wr.cell? ⟨b, o + k * 1, none⟩ = some (.slice A0 n0 c0) := hc 0 _ rfl
    rw [Nat.mul_one] at ec0
    have f0 := tS.more hb.size hE
    have hz2 : hS.sz x ≤ 100000000 := by omega
    clear hc
    have hD := Lib.hid (show (xs.take k ++ (List.replicate xs.length ([] : (List Int))).drop k)[k]? = some [] by rw [M.mid_at (by rw [List.length_replicate])]; simp [hlt])
    go_wp2_with (go_at_call 37; refine (zg9 _ _ _ _ _ f0 hz2).mono ?_; rintro e w2 ⟨A0', n0', c0', rfl, o2, bel2⟩; have own' := own.below bel2 (Nat.le_refl _); obtain ⟨css, Fs, hole, cs, hcs, hE⟩ := own'.openAt hD.out; obtain ⟨A09, n09, c09, rfl⟩ := za6 (tS.read hE); have z2 := bel2.size; have q0 := (hole.cell hcs (j := 0) rfl).1; have r0 := (hole.cell hcs (j := 0) rfl).2; change w2.cell? ⟨w.heap.size, k * 1 + 0, none⟩ = _ at q0; change w2.frozen? ⟨w.heap.size, k * 1 + 0, none⟩ = _ at r0; rw [Nat.add_zero, Nat.mul_one] at q0 r0)
    go_roundw
    case rel =>
     have s0 := hole.set hcs 0 (by decide) (.slice A0' n0' c0')
     have o3 := (tS.oset (g := w.heap.size) (o := k * 1 + 0) (u := .slice A0' n0' c0') o2 (.inl (by omega)))
     have h3 := s0.1.fill' s0.2 (y := x) (Fe := Iv wr.heap.size w2.heap.size) o3 (fun b h1 h2 => by have := h1.1; have := h2.2; omega)
     rw [M.set_mid (by rw [List.length_replicate]) hX.out] at h3
     have hb2 := hb.trans (bel2.mono hb.size)
     rw [Nat.add_zero, show tS.s = 1 from rfl, Nat.mul_one] at h3
     exact ⟨k + 1, by go_num, by omega, h3.wide (fun b hb => ⟨by unfold Iv at hb; omega, by simp; unfold Iv at hb; omega⟩), by simp; omega, (hb2.setCell (Nat.le_refl _) _)⟩
    case measure => simp [intOf]; omega
  · go_wp2
    go_ret
    rw [List.take_of_length_le (by omega), List.drop_eq_nil_of_le (by simp; omega), List.append_nil] at own
    exact ⟨_, _, _, rfl, sl_O.2 own, hb⟩
end
section
open Go.RowKit
abbrev zad := Int × (List (List Int)) × (List Node) × (List Int)
abbrev tP : Ty zad := tI.prod (tSS.prod (tNS.prod tS))
abbrev hP : Hs zad := hI.prod (hSS.prod (hNS.prod hS))
theorem tP_R {w : World} {B : Nat} {cs : List Value} {a0 : Int} {x1 : List (List Int)} {x2 : List Node} {x3 : List Int} : tP.R w B cs (a0, x1, x2, x3) ↔ ∃ A1 n1 c1 A2 n2 c2 A3 n3 c3, cs = [.int .i64 a0, .slice A1 n1 c1, .slice A2 n2 c2, .slice A3 n3 c3] ∧ tSS.R w B [.slice A1 n1 c1] x1 ∧ tNS.R w B [.slice A2 n2 c2] x2 ∧ tS.R w B [.slice A3 n3 c3] x3 := by
 constructor
 · rintro ⟨u0, d0, rfl, g0, ⟨u1, d1, rfl, g1, ⟨u2, d2, rfl, g2, g3⟩⟩⟩
   obtain rfl : u0 = [.int .i64 a0] := g0
   obtain ⟨A1, n1, c1, rfl⟩ := za6 g1
   obtain ⟨A2, n2, c2, rfl⟩ := za6 g2
   obtain ⟨A3, n3, c3, rfl⟩ := za6 g3
   exact ⟨A1, n1, c1, A2, n2, c2, A3, n3, c3, rfl, g1, g2, g3⟩
 · rintro ⟨A1, n1, c1, A2, n2, c2, A3, n3, c3, rfl, g1, g2, g3⟩
   exact ⟨[.int .i64 a0], _, rfl, rfl, ⟨[.slice A1 n1 c1], _, rfl, g1, ⟨[.slice A2 n2 c2], _, rfl, g2, g3⟩⟩⟩
theorem tP_O {w : World} {F : Nat → Prop} {cs : List Value} {a0 : Int} {x1 : List (List Int)} {x2 : List Node} {x3 : List Int} : tP.O w F cs (a0, x1, x2, x3) ↔ ∃ A1 n1 c1 A2 n2 c2 A3 n3 c3, ∃ F1 F2 F3 : Nat → Prop, cs = [.int .i64 a0, .slice A1 n1 c1, .slice A2 n2 c2, .slice A3 n3 c3] ∧ tSS.O w F1 [.slice A1 n1 c1] x1 ∧ tNS.O w F2 [.slice A2 n2 c2] x2 ∧ tS.O w F3 [.slice A3 n3 c3] x3 ∧ (∀ b, F1 b → F b) ∧ (∀ b, F2 b → F b) ∧ (∀ b, F3 b → F b) ∧ (∀ b, F1 b → ¬ F2 b) ∧ (∀ b, F1 b → ¬ F3 b) ∧ (∀ b, F2 b → ¬ F3 b) := by
 constructor
 · rintro ⟨u0, d0, F0, G0, rfl, g0, ⟨u1, d1, F1, G1, rfl, g1, ⟨u2, d2, F2, G2, rfl, g2, g3, p2, q2, r2⟩, p1, q1, r1⟩, p0, q0, r0⟩
   obtain rfl : u0 = [.int .i64 a0] := g0
   obtain ⟨A1, n1, c1, rfl⟩ := za6 (tSS.read g1)
   obtain ⟨A2, n2, c2, rfl⟩ := za6 (tNS.read g2)
   obtain ⟨A3, n3, c3, rfl⟩ := za6 (tS.read g3)
   exact ⟨A1, n1, c1, A2, n2, c2, A3, n3, c3, F1, F2, G2, rfl, g1, g2, g3, fun b h => q0 _ (p1 _ h), fun b h => q0 _ (q1 _ (p2 _ h)), fun b h => q0 _ (q1 _ (q2 _ (h))), fun b h h2 => r1 b h (p2 _ h2), fun b h h2 => r1 b h (q2 _ (h2)), fun b h h2 => r2 b h (h2)⟩
 · rintro ⟨A1, n1, c1, A2, n2, c2, A3, n3, c3, F1, F2, F3, rfl, g1, g2, g3, p1, p2, p3, r1_2, r1_3, r2_3⟩
   exact ⟨[.int .i64 a0], _, (fun _ => False), (fun b => F1 b ∨ F2 b ∨ F3 b), rfl, rfl, ⟨[.slice A1 n1 c1], _, F1, (fun b => F2 b ∨ F3 b), rfl, g1, ⟨[.slice A2 n2 c2], _, F2, F3, rfl, g2, g3, fun b h => by first | exact h | (simp only [*, true_or, or_true]), fun b h => by first | exact h | exact Or.inr h | (rcases h with h <;> simp only [*, true_or, or_true]), r2_3⟩, fun b h => by first | exact h | (simp only [*, true_or, or_true]), fun b h => by first | exact h | exact Or.inr h | (rcases h with h | h <;> simp only [*, true_or, or_true]), fun b h h2 => by rcases h2 with h2 | h2 <;> first | exact r1_2 b h h2 | exact r1_3 b h h2⟩, fun _ h => h.elim, fun b h => by rcases h with h | h | h <;> first | exact p1 b h | exact p2 b h | exact p3 b h, fun _ h => h.elim⟩
theorem zc6 (a0 : Int) (x1 : List (List Int)) (x2 : List Node) (x3 : List Int) : hP.sz (a0, x1, x2, x3) = hSS.sz x1 + hNS.sz x2 + hS.sz x3 := by
 show 0 + (hSS.sz x1 + (hNS.sz x2 + (hS.sz x3))) = _
 omega
theorem ziw (a0 : Int) (x1 : List (List Int)) (x2 : List Node) (x3 : List Int) : hP.cnt (a0, x1, x2, x3) = 1 + hSS.cnt x1 + hNS.cnt x2 + hS.cnt x3 := by
 show 1 + (hSS.cnt x1 + (hNS.cnt x2 + (hS.cnt x3))) = _
 omega
theorem zla (a0 : Int) (A1 : Option Addr) (n1 c1 : Nat) (A2 : Option Addr) (n2 c2 : Nat) (A3 : Option Addr) (n3 c3 : Nat) (x1 : List (List Int)) (x2 : List Node) (x3 : List Int) (l : Int) (w : World) (h1 : tSS.R w w.heap.size [.slice A1 n1 c1] x1) (h2 : tNS.R w w.heap.size [.slice A2 n2 c2] x2) (h3 : tS.R w w.heap.size [.slice A3 n3 c3] x3) (hl : 0 ≤ l ∧ l ≤ 1000000000) :
 Calls Tryz.prog 61 #[.agg #[.int .i64 a0, .slice A1 n1 c1, .slice A2 n2 c2, .slice A3 n3 c3], .int .i64 l] w fun e w' => e = .returned (.int .i64 (if (hP.sz ((a0, x1, x2, x3) : zad) : Int) ≤ l then l - hP.sz ((a0, x1, x2, x3) : zad) else -1)) ∧ Below w.heap.size w w' := by
 obtain ⟨W, hW⟩ : ∃ W, W = w.alloc (.cells #[.int .i64 a0, .slice A1 n1 c1, .slice A2 n2 c2, .slice A3 n3 c3] 98) := ⟨_, rfl⟩
 have B0 : Below w.heap.size w W := by rw [hW]; exact (Below.refl _ _).alloc (Nat.le_refl _) _
 have p1 : W.cell? ⟨w.heap.size, 1, none⟩ = some (.slice A1 n1 c1) := by rw [hW]; simp [go_sem]
 have p2 : W.cell? ⟨w.heap.size, 2, none⟩ = some (.slice A2 n2 c2) := by rw [hW]; simp [go_sem]
 have p3 : W.cell? ⟨w.heap.size, 3, none⟩ = some (.slice A3 n3 c3) := by rw [hW]; simp [go_sem]
 have l0 : w.heap.size < W.heap.size := by rw [hW]; simp
 have y1_0 := tSS.later h1 B0
 have y2_0 := tNS.later h2 B0
 have y3_0 := tS.later h3 B0
 have HW := Lib.hid hW
 clear hW
 rw [zc6]
 have z1 : 0 ≤ (hSS.sz x1 : Int) := Int.natCast_nonneg _
 have z2 : 0 ≤ (hNS.sz x2 : Int) := Int.natCast_nonneg _
 have z3 : 0 ≤ (hS.sz x3 : Int) := Int.natCast_nonneg _
 by_cases g0 : (hSS.sz x1 : Int) ≤ l
 · have i0 := Lib.hid (show (if (hSS.sz x1 : Int) ≤ l then l - hSS.sz x1 else -1) = l - hSS.sz x1 by rw [if_pos g0])
   by_cases g1 : (hNS.sz x2 : Int) ≤ l - hSS.sz x1
   · have i1 := Lib.hid (show (if (hNS.sz x2 : Int) ≤ l - hSS.sz x1 then l - hSS.sz x1 - hNS.sz x2 else -1) = l - hSS.sz x1 - hNS.sz x2 by rw [if_pos g1])
     by_cases g2 : (hS.sz x3 : Int) ≤ l - hSS.sz x1 - hNS.sz x2
     · have i2 := Lib.hid (show (if (hS.sz x3 : Int) ≤ l - hSS.sz x1 - hNS.sz x2 then l - hSS.sz x1 - hNS.sz x2 - hS.sz x3 else -1) = l - hSS.sz x1 - hNS.sz x2 - hS.sz x3 by rw [if_pos g2])
       have hj := Lib.hid (show (if ((hSS.sz x1 + hNS.sz x2 + hS.sz x3 : Nat) : Int) ≤ l then l - ((hSS.sz x1 + hNS.sz x2 + hS.sz x3 : Nat) : Int) else -1) = l - hSS.sz x1 - hNS.sz x2 - hS.sz x3 by rw [if_pos (by omega)]; first | done | omega)
       rw [hj.out]
       clear z1 z2 z3
       go_enter Tryz.func61, Tryz.ntmps61
       go_wp2_with fail
       rw [← HW.out]
       refine (zek _ _ _ _ _ _ y1_0 (by omega)).mono ?_
       rw [i0.out]
       rintro e w1 ⟨rfl, b1⟩
       obtain ⟨hc1, -⟩ := zau b1
       have l1 := Nat.lt_of_lt_of_le l0 b1.size
       have B1 := zaa B0 b1
       have y2_1 := tNS.later y2_0 b1
       have y3_1 := tS.later y3_0 b1
       go_wp2_with fail
       refine (ziu _ _ _ _ _ _ y2_1 (by omega)).mono ?_
       rw [i1.out]
       rintro e w2 ⟨rfl, b2⟩
       obtain ⟨hc2, -⟩ := zau b2
       have l2 := Nat.lt_of_lt_of_le l1 b2.size
       have B2 := zaa B1 b2
       have y3_2 := tS.later y3_1 b2
       go_wp2_with fail
       refine (zej _ _ _ _ _ _ y3_2 (by omega)).mono ?_
       rw [i2.out]
       rintro e w3 ⟨rfl, b3⟩
       obtain ⟨hc3, -⟩ := zau b3
       have l3 := Nat.lt_of_lt_of_le l2 b3.size
       have B3 := zaa B2 b3
       go_wp2
       go_ret
       exact ⟨rfl, B3⟩
     · have i2 := Lib.hid (show (if (hS.sz x3 : Int) ≤ l - hSS.sz x1 - hNS.sz x2 then l - hSS.sz x1 - hNS.sz x2 - hS.sz x3 else -1) = -1 by rw [if_neg g2])
       have hj := Lib.hid (show (if ((hSS.sz x1 + hNS.sz x2 + hS.sz x3 : Nat) : Int) ≤ l then l - ((hSS.sz x1 + hNS.sz x2 + hS.sz x3 : Nat) : Int) else -1) = -1 by rw [if_neg (by omega)])
       rw [hj.out]
       clear z1 z2 z3
       go_enter Tryz.func61, Tryz.ntmps61
       go_wp2_with fail
       rw [← HW.out]
       refine (zek _ _ _ _ _ _ y1_0 (by omega)).mono ?_
       rw [i0.out]
       rintro e w1 ⟨rfl, b1⟩
       obtain ⟨hc1, -⟩ := zau b1
       have l1 := Nat.lt_of_lt_of_le l0 b1.size
       have B1 := zaa B0 b1
       have y2_1 := tNS.later y2_0 b1
       have y3_1 := tS.later y3_0 b1
       go_wp2_with fail
       refine (ziu _ _ _ _ _ _ y2_1 (by omega)).mono ?_
       rw [i1.out]
       rintro e w2 ⟨rfl, b2⟩
       obtain ⟨hc2, -⟩ := zau b2
       have l2 := Nat.lt_of_lt_of_le l1 b2.size
       have B2 := zaa B1 b2
       have y3_2 := tS.later y3_1 b2
       go_wp2_with fail
       refine (zej _ _ _ _ _ _ y3_2 (by omega)).mono ?_
       rw [i2.out]
       rintro e w3 ⟨rfl, b3⟩
       obtain ⟨hc3, -⟩ := zau b3
       have l3 := Nat.lt_of_lt_of_le l2 b3.size
       have B3 := zaa B2 b3
       go_wp2
       go_ret
       exact ⟨rfl, B3⟩
   · have i1 := Lib.hid (show (if (hNS.sz x2 : Int) ≤ l - hSS.sz x1 then l - hSS.sz x1 - hNS.sz x2 else -1) = -1 by rw [if_neg g1])
     have hj := Lib.hid (show (if ((hSS.sz x1 + hNS.sz x2 + hS.sz x3 : Nat) : Int) ≤ l then l - ((hSS.sz x1 + hNS.sz x2 + hS.sz x3 : Nat) : Int) else -1) = -1 by rw [if_neg (by omega)])
     rw [hj.out]
     clear z1 z2 z3
     go_enter Tryz.func61, Tryz.ntmps61
     go_wp2_with fail
     rw [← HW.out]
     refine (zek _ _ _ _ _ _ y1_0 (by omega)).mono ?_
     rw [i0.out]
     rintro e w1 ⟨rfl, b1⟩
     obtain ⟨hc1, -⟩ := zau b1
     have l1 := Nat.lt_of_lt_of_le l0 b1.size
     have B1 := zaa B0 b1
     have y2_1 := tNS.later y2_0 b1
     have y3_1 := tS.later y3_0 b1
     go_wp2_with fail
     refine (ziu _ _ _ _ _ _ y2_1 (by omega)).mono ?_
     rw [i1.out]
     rintro e w2 ⟨rfl, b2⟩
     obtain ⟨hc2, -⟩ := zau b2
     have l2 := Nat.lt_of_lt_of_le l1 b2.size
     have B2 := zaa B1 b2
     have y3_2 := tS.later y3_1 b2
     go_wp2
     go_ret
     exact ⟨rfl, B2⟩
 · have i0 := Lib.hid (show (if (hSS.sz x1 : Int) ≤ l then l - hSS.sz x1 else -1) = -1 by rw [if_neg g0])
   have hj := Lib.hid (show (if ((hSS.sz x1 + hNS.sz x2 + hS.sz x3 : Nat) : Int) ≤ l then l - ((hSS.sz x1 + hNS.sz x2 + hS.sz x3 : Nat) : Int) else -1) = -1 by rw [if_neg (by omega)])
   rw [hj.out]
   clear z1 z2 z3
   go_enter Tryz.func61, Tryz.ntmps61
   go_wp2_with fail
   rw [← HW.out]
   refine (zek _ _ _ _ _ _ y1_0 (by omega)).mono ?_
   rw [i0.out]
   rintro e w1 ⟨rfl, b1⟩
   obtain ⟨hc1, -⟩ := zau b1
   have l1 := Nat.lt_of_lt_of_le l0 b1.size
   have B1 := zaa B0 b1
   have y2_1 := tNS.later y2_0 b1
   have y3_1 := tS.later y3_0 b1
   go_wp2
   go_ret
   exact ⟨rfl, B1⟩
theorem zp3 (a0 : Int) (A1 : Option Addr) (n1 c1 : Nat) (A2 : Option Addr) (n2 c2 : Nat) (A3 : Option Addr) (n3 c3 : Nat) (A1' : Option Addr) (n1' c1' : Nat) (A2' : Option Addr) (n2' c2' : Nat) (A3' : Option Addr) (n3' c3' : Nat) (x1 : List (List Int)) (x2 : List Node) (x3 : List Int) (w : World) (h1 : tSS.R w w.heap.size [.slice A1 n1 c1] x1) (h2 : tNS.R w w.heap.size [.slice A2 n2 c2] x2) (h3 : tS.R w w.heap.size [.slice A3 n3 c3] x3) (k1 : tSS.R w w.heap.size [.slice A1' n1' c1'] x1) (k2 : tNS.R w w.heap.size [.slice A2' n2' c2'] x2) (k3 : tS.R w w.heap.size [.slice A3' n3' c3'] x3) (hn : hP.sz ((a0, x1, x2, x3) : zad) ≤ 100000000) :
 Calls Tryz.prog 83 #[.agg #[.int .i64 a0, .slice A1 n1 c1, .slice A2 n2 c2, .slice A3 n3 c3], .agg #[.int .i64 a0, .slice A1' n1' c1', .slice A2' n2' c2', .slice A3' n3' c3']] w fun e w' => e = .returned (.bool true) ∧ Below w.heap.size w w' := by
 obtain ⟨W, hW⟩ : ∃ W, W = (w.alloc (.cells #[.int .i64 a0, .slice A1 n1 c1, .slice A2 n2 c2, .slice A3 n3 c3] 107)).alloc (.cells #[.int .i64 a0, .slice A1' n1' c1', .slice A2' n2' c2', .slice A3' n3' c3'] 107) := ⟨_, rfl⟩
 have B0 : Below w.heap.size w W := by rw [hW]; exact ((Below.refl _ _).alloc (Nat.le_refl _) _).alloc (by simp) _
 have p0 : W.cell? ⟨w.heap.size, 0, none⟩ = some (.int .i64 a0) := by rw [hW]; simp [go_sem]
 have q0 : W.cell? ⟨w.heap.size + 1, 0, none⟩ = some (.int .i64 a0) := by rw [hW]; simp [go_sem]
 have p1 : W.cell? ⟨w.heap.size, 1, none⟩ = some (.slice A1 n1 c1) := by rw [hW]; simp [go_sem]
 have q1 : W.cell? ⟨w.heap.size + 1, 1, none⟩ = some (.slice A1' n1' c1') := by rw [hW]; simp [go_sem]
 have p2 : W.cell? ⟨w.heap.size, 2, none⟩ = some (.slice A2 n2 c2) := by rw [hW]; simp [go_sem]
 have q2 : W.cell? ⟨w.heap.size + 1, 2, none⟩ = some (.slice A2' n2' c2') := by rw [hW]; simp [go_sem]
 have p3 : W.cell? ⟨w.heap.size, 3, none⟩ = some (.slice A3 n3 c3) := by rw [hW]; simp [go_sem]
 have q3 : W.cell? ⟨w.heap.size + 1, 3, none⟩ = some (.slice A3' n3' c3') := by rw [hW]; simp [go_sem]
 have l0 : w.heap.size + 1 < W.heap.size := by rw [hW]; simp
 have l0' : w.heap.size < W.heap.size := by omega
 have y1_0 := tSS.later h1 B0
 have v1_0 := tSS.later k1 B0
 have y2_0 := tNS.later h2 B0
 have v2_0 := tNS.later k2 B0
 have y3_0 := tS.later h3 B0
 have v3_0 := tS.later k3 B0
 have HW := Lib.hid hW
 clear hW
 rw [zc6] at hn
 go_enter Tryz.func83, Tryz.ntmps83
 go_wp2_with fail
 rw [← HW.out]
 refine (zgd _ _ _ _ _ _ _ _ y1_0 v1_0 (by omega)).mono ?_
 rintro e w1 ⟨rfl, b1⟩
 obtain ⟨hc1, -⟩ := zau b1
 have l1 := Nat.lt_of_lt_of_le l0 b1.size
 have l1' := Nat.lt_of_lt_of_le l0' b1.size
 have B1 := zaa B0 b1
 have y2_1 := tNS.later y2_0 b1
 have v2_1 := tNS.later v2_0 b1
 have y3_1 := tS.later y3_0 b1
 have v3_1 := tS.later v3_0 b1
 go_wp2_with fail
 refine (zp0 _ _ _ _ _ _ _ _ y2_1 v2_1 (by omega)).mono ?_
 rintro e w2 ⟨rfl, b2⟩
 obtain ⟨hc2, -⟩ := zau b2
 have l2 := Nat.lt_of_lt_of_le l1 b2.size
 have l2' := Nat.lt_of_lt_of_le l1' b2.size
 have B2 := zaa B1 b2
 have y3_2 := tS.later y3_1 b2
 have v3_2 := tS.later v3_1 b2
 go_wp2_with fail
 refine (zef _ _ _ _ _ _ _ _ y3_2 v3_2 (by omega)).mono ?_
 rintro e w3 ⟨rfl, b3⟩
 obtain ⟨hc3, -⟩ := zau b3
 have l3 := Nat.lt_of_lt_of_le l2 b3.size
 have l3' := Nat.lt_of_lt_of_le l2' b3.size
 have B3 := zaa B2 b3
 go_wp2
 go_ret
 exact ⟨rfl, B3⟩
theorem zp4 (a0 : Int) (A1 : Option Addr) (n1 c1 : Nat) (A2 : Option Addr) (n2 c2 : Nat) (A3 : Option Addr) (n3 c3 : Nat) (x1 : List (List Int)) (x2 : List Node) (x3 : List Int) (w : World) (h1 : tSS.R w w.heap.size [.slice A1 n1 c1] x1) (h2 : tNS.R w w.heap.size [.slice A2 n2 c2] x2) (h3 : tS.R w w.heap.size [.slice A3 n3 c3] x3) (hn : hP.sz ((a0, x1, x2, x3) : zad) ≤ 100000000) :
 Calls Tryz.prog 70 #[.agg #[.int .i64 a0, .slice A1 n1 c1, .slice A2 n2 c2, .slice A3 n3 c3]] w fun e w' => ∃ A1' n1' c1' A2' n2' c2' A3' n3' c3', e = .returned (.agg #[.int .i64 a0, .slice A1' n1' c1', .slice A2' n2' c2', .slice A3' n3' c3']) ∧ tP.O w' (Iv w.heap.size w'.heap.size) [.int .i64 a0, .slice A1' n1' c1', .slice A2' n2' c2', .slice A3' n3' c3'] (a0, x1, x2, x3) ∧ Below w.heap.size w w' := by
 obtain ⟨W, hW⟩ : ∃ W, W = ((w.alloc (.cells #[.int .i64 a0, .slice A1 n1 c1, .slice A2 n2 c2, .slice A3 n3 c3] 98)).alloc (.cells #[.int .i64 0, .slice none 0 0, .slice none 0 0, .slice none 0 0] 107)).alloc (.cells #[.int .i64 a0, .slice none 0 0, .slice none 0 0, .slice none 0 0] 107) := ⟨_, rfl⟩
 have B0 : Below w.heap.size w W := by rw [hW]; exact (((Below.refl _ _).alloc (Nat.le_refl _) _).alloc (by simp) _).alloc (by simp; omega) _
 have z0 : W.heap.size = w.heap.size + 1 + 1 + 1 := by rw [hW]; simp
 have p0 : W.cell? ⟨w.heap.size, 0, none⟩ = some (.int .i64 a0) := by rw [hW]; simp [go_sem]
 have q0 : W.cell? ⟨w.heap.size + 1, 0, none⟩ = some (.int .i64 0) := by rw [hW]; simp [go_sem]
 have r0 : W.cell? ⟨w.heap.size + 1 + 1, 0, none⟩ = some (.int .i64 a0) := by rw [hW]; simp [go_sem]
 have s0 : W.frozen? ⟨w.heap.size + 1, 0, none⟩ = false := by rw [hW]; simp [go_sem]
 have t0 : W.frozen? ⟨w.heap.size + 1 + 1, 0, none⟩ = false := by rw [hW]; simp [go_sem]
 have p1 : W.cell? ⟨w.heap.size, 1, none⟩ = some (.slice A1 n1 c1) := by rw [hW]; simp [go_sem]
 have q1 : W.cell? ⟨w.heap.size + 1, 1, none⟩ = some (.slice none 0 0) := by rw [hW]; simp [go_sem]
 have r1 : W.cell? ⟨w.heap.size + 1 + 1, 1, none⟩ = some (.slice none 0 0) := by rw [hW]; simp [go_sem]
 have s1 : W.frozen? ⟨w.heap.size + 1, 1, none⟩ = false := by rw [hW]; simp [go_sem]
 have t1 : W.frozen? ⟨w.heap.size + 1 + 1, 1, none⟩ = false := by rw [hW]; simp [go_sem]
 have p2 : W.cell? ⟨w.heap.size, 2, none⟩ = some (.slice A2 n2 c2) := by rw [hW]; simp [go_sem]
 have q2 : W.cell? ⟨w.heap.size + 1, 2, none⟩ = some (.slice none 0 0) := by rw [hW]; simp [go_sem]
 have r2 : W.cell? ⟨w.heap.size + 1 + 1, 2, none⟩ = some (.slice none 0 0) := by rw [hW]; simp [go_sem]
 have s2 : W.frozen? ⟨w.heap.size + 1, 2, none⟩ = false := by rw [hW]; simp [go_sem]
 have t2 : W.frozen? ⟨w.heap.size + 1 + 1, 2, none⟩ = false := by rw [hW]; simp [go_sem]
 have p3 : W.cell? ⟨w.heap.size, 3, none⟩ = some (.slice A3 n3 c3) := by rw [hW]; simp [go_sem]
 have q3 : W.cell? ⟨w.heap.size + 1, 3, none⟩ = some (.slice none 0 0) := by rw [hW]; simp [go_sem]
 have r3 : W.cell? ⟨w.heap.size + 1 + 1, 3, none⟩ = some (.slice none 0 0) := by rw [hW]; simp [go_sem]
 have s3 : W.frozen? ⟨w.heap.size + 1, 3, none⟩ = false := by rw [hW]; simp [go_sem]
 have t3 : W.frozen? ⟨w.heap.size + 1 + 1, 3, none⟩ = false := by rw [hW]; simp [go_sem]
 have l0 : w.heap.size < W.heap.size := by omega
 have l0' : w.heap.size + 1 < W.heap.size := by omega
 have l0'' : w.heap.size + 1 + 1 < W.heap.size := by omega
 have Z0 : w.heap.size + 1 + 1 + 1 ≤ W.heap.size := by omega
 clear z0
 have y1_0 := tSS.later h1 B0
 have y2_0 := tNS.later h2 B0
 have y3_0 := tS.later h3 B0
 have HW := Lib.hid hW
 clear hW
 rw [zc6] at hn
 go_enter Tryz.func70, Tryz.ntmps70
 go_wp2_with fail
 rw [← HW.out]
 refine (zk9 _ _ _ _ _ y1_0 (by omega)).mono ?_
 rintro e w1 ⟨A1', n1', c1', rfl, o1_0, b1⟩
 obtain ⟨hc1, hf1⟩ := zau b1
 obtain ⟨U1, hU1⟩ : ∃ U, U = w1.setCell ⟨w.heap.size + 1 + 1, 1, none⟩ (.slice A1' n1' c1') := ⟨_, rfl⟩
 have m1 : Mid (w.heap.size + 1 + 1) (w.heap.size + 1 + 1 + 1) w1 U1 := by rw [hU1]; exact Mid.of_grown (zav w1 (w.heap.size + 1 + 1) 1 _) fun k hk => by injection hk with hk; omega
 have e1 : U1.heap.size = w1.heap.size := by rw [hU1]; simp
 have E1 := Lib.hid e1
 have sz1 : W.heap.size ≤ U1.heap.size := by rw [e1]; exact b1.size
 have BU1 : Below (w.heap.size + 1 + 1) w1 U1 := m1.toBelow (by omega)
 have B1 : Below w.heap.size w U1 := (zaa B0 b1).trans (BU1.mono (by omega))
 have l1 := Nat.lt_of_lt_of_le l0 sz1
 have l1' := Nat.lt_of_lt_of_le l0' sz1
 have l1'' := Nat.lt_of_lt_of_le l0'' sz1
 have Z1 := Nat.le_trans Z0 sz1
 have o1_1 : tSS.O U1 (Iv W.heap.size U1.heap.size) [.slice A1' n1' c1'] x1 := tSS.oiv (tSS.omid o1_0 m1 (.inr (by omega)) (Nat.le_refl _)) (Nat.le_refl _) (by omega)
 have y2_1 : tNS.R U1 U1.heap.size [.slice A2 n2 c2] x2 := tNS.later h2 B1
 have y3_1 : tS.R U1 U1.heap.size [.slice A3 n3 c3] x3 := tS.later h3 B1
 have q0_1 : U1.cell? ⟨w.heap.size + 1, 0, none⟩ = some (.int .i64 0) := by rw [BU1.cell (by show w.heap.size + 1 < _; omega), b1.cell (by show w.heap.size + 1 < _; omega)]; exact q0
 have s0_1 : U1.frozen? ⟨w.heap.size + 1, 0, none⟩ = false := by rw [BU1.frozen (by show w.heap.size + 1 < _; omega), b1.frozen (by show w.heap.size + 1 < _; omega)]; exact s0
 have r0_1 : U1.cell? ⟨w.heap.size + 1 + 1, 0, none⟩ = some (.int .i64 a0) := by rw [hU1]; simp [go_sem, hc1, l0'', r0]
 have t0_1 : U1.frozen? ⟨w.heap.size + 1 + 1, 0, none⟩ = false := by rw [hU1]; simp [go_sem, hf1, l0'', t0]
 have q1_1 : U1.cell? ⟨w.heap.size + 1, 1, none⟩ = some (.slice none 0 0) := by rw [BU1.cell (by show w.heap.size + 1 < _; omega), b1.cell (by show w.heap.size + 1 < _; omega)]; exact q1
 have s1_1 : U1.frozen? ⟨w.heap.size + 1, 1, none⟩ = false := by rw [BU1.frozen (by show w.heap.size + 1 < _; omega), b1.frozen (by show w.heap.size + 1 < _; omega)]; exact s1
 have r1_1 : U1.cell? ⟨w.heap.size + 1 + 1, 1, none⟩ = some (.slice A1' n1' c1') := by rw [hU1]; simp [go_sem, hc1, l0'', r1]
 have t1_1 : U1.frozen? ⟨w.heap.size + 1 + 1, 1, none⟩ = false := by rw [hU1]; simp [go_sem, hf1, l0'', t1]
 have p2_1 : U1.cell? ⟨w.heap.size, 2, none⟩ = some (.slice A2 n2 c2) := by rw [BU1.cell (by show w.heap.size < _; omega), b1.cell (by show w.heap.size < _; omega)]; exact p2
 have q2_1 : U1.cell? ⟨w.heap.size + 1, 2, none⟩ = some (.slice none 0 0) := by rw [BU1.cell (by show w.heap.size + 1 < _; omega), b1.cell (by show w.heap.size + 1 < _; omega)]; exact q2
 have s2_1 : U1.frozen? ⟨w.heap.size + 1, 2, none⟩ = false := by rw [BU1.frozen (by show w.heap.size + 1 < _; omega), b1.frozen (by show w.heap.size + 1 < _; omega)]; exact s2
 have r2_1 : U1.cell? ⟨w.heap.size + 1 + 1, 2, none⟩ = some (.slice none 0 0) := by rw [hU1]; simp [go_sem, hc1, l0'', r2]
 have t2_1 : U1.frozen? ⟨w.heap.size + 1 + 1, 2, none⟩ = false := by rw [hU1]; simp [go_sem, hf1, l0'', t2]
 have p3_1 : U1.cell? ⟨w.heap.size, 3, none⟩ = some (.slice A3 n3 c3) := by rw [BU1.cell (by show w.heap.size < _; omega), b1.cell (by show w.heap.size < _; omega)]; exact p3
 have q3_1 : U1.cell? ⟨w.heap.size + 1, 3, none⟩ = some (.slice none 0 0) := by rw [BU1.cell (by show w.heap.size + 1 < _; omega), b1.cell (by show w.heap.size + 1 < _; omega)]; exact q3
 have s3_1 : U1.frozen? ⟨w.heap.size + 1, 3, none⟩ = false := by rw [BU1.frozen (by show w.heap.size + 1 < _; omega), b1.frozen (by show w.heap.size + 1 < _; omega)]; exact s3
 have r3_1 : U1.cell? ⟨w.heap.size + 1 + 1, 3, none⟩ = some (.slice none 0 0) := by rw [hU1]; simp [go_sem, hc1, l0'', r3]
 have t3_1 : U1.frozen? ⟨w.heap.size + 1 + 1, 3, none⟩ = false := by rw [hU1]; simp [go_sem, hf1, l0'', t3]
 have t1_w : w1.frozen? ⟨w.heap.size + 1 + 1, 1, none⟩ = false := by rw [hf1 _ _ l0'']; exact t1
 have r1_w : w1.cell? ⟨w.heap.size + 1 + 1, 1, none⟩ = some (.slice none 0 0) := by rw [hc1 _ _ l0'']; exact r1
 have p2_w : w1.cell? ⟨w.heap.size, 2, none⟩ = some (.slice A2 n2 c2) := by rw [hc1 _ _ l0]; exact p2
 have p3_w : w1.cell? ⟨w.heap.size, 3, none⟩ = some (.slice A3 n3 c3) := by rw [hc1 _ _ l0]; exact p3
 have HU1 := Lib.hid hU1
 clear hU1 e1 hc1 hf1 q0 s0 r0 t0 q1 s1 r1 t1 q2 s2 r2 t2 q3 s3 r3 t3
 go_wp2_with fail
 rw [← HU1.out]
 clear t1_w r1_w p2_w p3_w
 refine (zpz _ _ _ _ _ y2_1 (by omega)).mono ?_
 rintro e w2 ⟨A2', n2', c2', rfl, o2_1, b2⟩
 obtain ⟨hc2, hf2⟩ := zau b2
 obtain ⟨U2, hU2⟩ : ∃ U, U = w2.setCell ⟨w.heap.size + 1 + 1, 2, none⟩ (.slice A2' n2' c2') := ⟨_, rfl⟩
 have m2 : Mid (w.heap.size + 1 + 1) (w.heap.size + 1 + 1 + 1) w2 U2 := by rw [hU2]; exact Mid.of_grown (zav w2 (w.heap.size + 1 + 1) 2 _) fun k hk => by injection hk with hk; omega
 have e2 : U2.heap.size = w2.heap.size := by rw [hU2]; simp
 have E2 := Lib.hid e2
 have sz2 : U1.heap.size ≤ U2.heap.size := by rw [e2]; exact b2.size
 have BU2 : Below (w.heap.size + 1 + 1) w2 U2 := m2.toBelow (by omega)
 have B2 : Below w.heap.size w U2 := (zaa B1 b2).trans (BU2.mono (by omega))
 have l2 := Nat.lt_of_lt_of_le l1 sz2
 have l2' := Nat.lt_of_lt_of_le l1' sz2
 have l2'' := Nat.lt_of_lt_of_le l1'' sz2
 have Z2 := Nat.le_trans Z1 sz2
 have o2_2 : tNS.O U2 (Iv U1.heap.size U2.heap.size) [.slice A2' n2' c2'] x2 := tNS.oiv (tNS.omid o2_1 m2 (.inr (by omega)) (Nat.le_refl _)) (Nat.le_refl _) (by omega)
 have o1_2 := tSS.omid (tSS.obelow o1_1 b2 (by omega)) m2 (.inr (by omega)) (by omega)
 have y3_2 : tS.R U2 U2.heap.size [.slice A3 n3 c3] x3 := tS.later h3 B2
 have q0_2 : U2.cell? ⟨w.heap.size + 1, 0, none⟩ = some (.int .i64 0) := by rw [BU2.cell (by show w.heap.size + 1 < _; omega), b2.cell (by show w.heap.size + 1 < _; omega)]; exact q0_1
 have s0_2 : U2.frozen? ⟨w.heap.size + 1, 0, none⟩ = false := by rw [BU2.frozen (by show w.heap.size + 1 < _; omega), b2.frozen (by show w.heap.size + 1 < _; omega)]; exact s0_1
 have r0_2 : U2.cell? ⟨w.heap.size + 1 + 1, 0, none⟩ = some (.int .i64 a0) := by rw [hU2]; simp [go_sem, hc2, l1'', r0_1]
 have t0_2 : U2.frozen? ⟨w.heap.size + 1 + 1, 0, none⟩ = false := by rw [hU2]; simp [go_sem, hf2, l1'', t0_1]
 have q1_2 : U2.cell? ⟨w.heap.size + 1, 1, none⟩ = some (.slice none 0 0) := by rw [BU2.cell (by show w.heap.size + 1 < _; omega), b2.cell (by show w.heap.size + 1 < _; omega)]; exact q1_1
 have s1_2 : U2.frozen? ⟨w.heap.size + 1, 1, none⟩ = false := by rw [BU2.frozen (by show w.heap.size + 1 < _; omega), b2.frozen (by show w.heap.size + 1 < _; omega)]; exact s1_1
 have r1_2 : U2.cell? ⟨w.heap.size + 1 + 1, 1, none⟩ = some (.slice A1' n1' c1') := by rw [hU2]; simp [go_sem, hc2, l1'', r1_1]
 have t1_2 : U2.frozen? ⟨w.heap.size + 1 + 1, 1, none⟩ = false := by rw [hU2]; simp [go_sem, hf2, l1'', t1_1]
 have q2_2 : U2.cell? ⟨w.heap.size + 1, 2, none⟩ = some (.slice none 0 0) := by rw [BU2.cell (by show w.heap.size + 1 < _; omega), b2.cell (by show w.heap.size + 1 < _; omega)]; exact q2_1
 have s2_2 : U2.frozen? ⟨w.heap.size + 1, 2, none⟩ = false := by rw [BU2.frozen (by show w.heap.size + 1 < _; omega), b2.frozen (by show w.heap.size + 1 < _; omega)]; exact s2_1
 have r2_2 : U2.cell? ⟨w.heap.size + 1 + 1, 2, none⟩ = some (.slice A2' n2' c2') := by rw [hU2]; simp [go_sem, hc2, l1'', r2_1]
 have t2_2 : U2.frozen? ⟨w.heap.size + 1 + 1, 2, none⟩ = false := by rw [hU2]; simp [go_sem, hf2, l1'', t2_1]
 have p3_2 : U2.cell? ⟨w.heap.size, 3, none⟩ = some (.slice A3 n3 c3) := by rw [BU2.cell (by show w.heap.size < _; omega), b2.cell (by show w.heap.size < _; omega)]; exact p3_1
 have q3_2 : U2.cell? ⟨w.heap.size + 1, 3, none⟩ = some (.slice none 0 0) := by rw [BU2.cell (by show w.heap.size + 1 < _; omega), b2.cell (by show w.heap.size + 1 < _; omega)]; exact q3_1
 have s3_2 : U2.frozen? ⟨w.heap.size + 1, 3, none⟩ = false := by rw [BU2.frozen (by show w.heap.size + 1 < _; omega), b2.frozen (by show w.heap.size + 1 < _; omega)]; exact s3_1
 have r3_2 : U2.cell? ⟨w.heap.size + 1 + 1, 3, none⟩ = some (.slice none 0 0) := by rw [hU2]; simp [go_sem, hc2, l1'', r3_1]
 have t3_2 : U2.frozen? ⟨w.heap.size + 1 + 1, 3, none⟩ = false := by rw [hU2]; simp [go_sem, hf2, l1'', t3_1]
 have t2_w : w2.frozen? ⟨w.heap.size + 1 + 1, 2, none⟩ = false := by rw [hf2 _ _ l1'']; exact t2_1
 have r2_w : w2.cell? ⟨w.heap.size + 1 + 1, 2, none⟩ = some (.slice none 0 0) := by rw [hc2 _ _ l1'']; exact r2_1
 have p3_w : w2.cell? ⟨w.heap.size, 3, none⟩ = some (.slice A3 n3 c3) := by rw [hc2 _ _ l1]; exact p3_1
 have HU2 := Lib.hid hU2
 clear hU2 e2 hc2 hf2 q0_1 s0_1 r0_1 t0_1 q1_1 s1_1 r1_1 t1_1 q2_1 s2_1 r2_1 t2_1 q3_1 s3_1 r3_1 t3_1
 go_wp2_with fail
 rw [← HU2.out]
 clear t2_w r2_w p3_w
 refine (zg9 _ _ _ _ _ y3_2 (by omega)).mono ?_
 rintro e w3 ⟨A3', n3', c3', rfl, o3_2, b3⟩
 obtain ⟨hc3, hf3⟩ := zau b3
 obtain ⟨U3, hU3⟩ : ∃ U, U = w3.setCell ⟨w.heap.size + 1 + 1, 3, none⟩ (.slice A3' n3' c3') := ⟨_, rfl⟩
 have m3 : Mid (w.heap.size + 1 + 1) (w.heap.size + 1 + 1 + 1) w3 U3 := by rw [hU3]; exact Mid.of_grown (zav w3 (w.heap.size + 1 + 1) 3 _) fun k hk => by injection hk with hk; omega
 have e3 : U3.heap.size = w3.heap.size := by rw [hU3]; simp
 have E3 := Lib.hid e3
 have sz3 : U2.heap.size ≤ U3.heap.size := by rw [e3]; exact b3.size
 have BU3 : Below (w.heap.size + 1 + 1) w3 U3 := m3.toBelow (by omega)
 have B3 : Below w.heap.size w U3 := (zaa B2 b3).trans (BU3.mono (by omega))
 have l3 := Nat.lt_of_lt_of_le l2 sz3
 have l3' := Nat.lt_of_lt_of_le l2' sz3
 have l3'' := Nat.lt_of_lt_of_le l2'' sz3
 have Z3 := Nat.le_trans Z2 sz3
 have o3_3 : tS.O U3 (Iv U2.heap.size U3.heap.size) [.slice A3' n3' c3'] x3 := tS.oiv (tS.omid o3_2 m3 (.inr (by omega)) (Nat.le_refl _)) (Nat.le_refl _) (by omega)
 have o1_3 := tSS.omid (tSS.obelow o1_2 b3 (by omega)) m3 (.inr (by omega)) (by omega)
 have o2_3 := tNS.omid (tNS.obelow o2_2 b3 (by omega)) m3 (.inr (by omega)) (by omega)
 have q0_3 : U3.cell? ⟨w.heap.size + 1, 0, none⟩ = some (.int .i64 0) := by rw [BU3.cell (by show w.heap.size + 1 < _; omega), b3.cell (by show w.heap.size + 1 < _; omega)]; exact q0_2
 have s0_3 : U3.frozen? ⟨w.heap.size + 1, 0, none⟩ = false := by rw [BU3.frozen (by show w.heap.size + 1 < _; omega), b3.frozen (by show w.heap.size + 1 < _; omega)]; exact s0_2
 have r0_3 : U3.cell? ⟨w.heap.size + 1 + 1, 0, none⟩ = some (.int .i64 a0) := by rw [hU3]; simp [go_sem, hc3, l2'', r0_2]
 have t0_3 : U3.frozen? ⟨w.heap.size + 1 + 1, 0, none⟩ = false := by rw [hU3]; simp [go_sem, hf3, l2'', t0_2]
 have q1_3 : U3.cell? ⟨w.heap.size + 1, 1, none⟩ = some (.slice none 0 0) := by rw [BU3.cell (by show w.heap.size + 1 < _; omega), b3.cell (by show w.heap.size + 1 < _; omega)]; exact q1_2
 have s1_3 : U3.frozen? ⟨w.heap.size + 1, 1, none⟩ = false := by rw [BU3.frozen (by show w.heap.size + 1 < _; omega), b3.frozen (by show w.heap.size + 1 < _; omega)]; exact s1_2
 have r1_3 : U3.cell? ⟨w.heap.size + 1 + 1, 1, none⟩ = some (.slice A1' n1' c1') := by rw [hU3]; simp [go_sem, hc3, l2'', r1_2]
 have t1_3 : U3.frozen? ⟨w.heap.size + 1 + 1, 1, none⟩ = false := by rw [hU3]; simp [go_sem, hf3, l2'', t1_2]
 have q2_3 : U3.cell? ⟨w.heap.size + 1, 2, none⟩ = some (.slice none 0 0) := by rw [BU3.cell (by show w.heap.size + 1 < _; omega), b3.cell (by show w.heap.size + 1 < _; omega)]; exact q2_2
 have s2_3 : U3.frozen? ⟨w.heap.size + 1, 2, none⟩ = false := by rw [BU3.frozen (by show w.heap.size + 1 < _; omega), b3.frozen (by show w.heap.size + 1 < _; omega)]; exact s2_2
 have r2_3 : U3.cell? ⟨w.heap.size + 1 + 1, 2, none⟩ = some (.slice A2' n2' c2') := by rw [hU3]; simp [go_sem, hc3, l2'', r2_2]
 have t2_3 : U3.frozen? ⟨w.heap.size + 1 + 1, 2, none⟩ = false := by rw [hU3]; simp [go_sem, hf3, l2'', t2_2]
 have q3_3 : U3.cell? ⟨w.heap.size + 1, 3, none⟩ = some (.slice none 0 0) := by rw [BU3.cell (by show w.heap.size + 1 < _; omega), b3.cell (by show w.heap.size + 1 < _; omega)]; exact q3_2
 have s3_3 : U3.frozen? ⟨w.heap.size + 1, 3, none⟩ = false := by rw [BU3.frozen (by show w.heap.size + 1 < _; omega), b3.frozen (by show w.heap.size + 1 < _; omega)]; exact s3_2
 have r3_3 : U3.cell? ⟨w.heap.size + 1 + 1, 3, none⟩ = some (.slice A3' n3' c3') := by rw [hU3]; simp [go_sem, hc3, l2'', r3_2]
 have t3_3 : U3.frozen? ⟨w.heap.size + 1 + 1, 3, none⟩ = false := by rw [hU3]; simp [go_sem, hf3, l2'', t3_2]
 have t0_w : w3.frozen? ⟨w.heap.size + 1 + 1, 0, none⟩ = false := by rw [hf3 _ _ l2'']; exact t0_2
 have s0_w : w3.frozen? ⟨w.heap.size + 1, 0, none⟩ = false := by rw [hf3 _ _ l2']; exact s0_2
 have q0_w : w3.cell? ⟨w.heap.size + 1, 0, none⟩ = some (.int .i64 0) := by rw [hc3 _ _ l2']; exact q0_2
 have r0_w : w3.cell? ⟨w.heap.size + 1 + 1, 0, none⟩ = some (.int .i64 a0) := by rw [hc3 _ _ l2'']; exact r0_2
 have t1_w : w3.frozen? ⟨w.heap.size + 1 + 1, 1, none⟩ = false := by rw [hf3 _ _ l2'']; exact t1_2
 have s1_w : w3.frozen? ⟨w.heap.size + 1, 1, none⟩ = false := by rw [hf3 _ _ l2']; exact s1_2
 have q1_w : w3.cell? ⟨w.heap.size + 1, 1, none⟩ = some (.slice none 0 0) := by rw [hc3 _ _ l2']; exact q1_2
 have r1_w : w3.cell? ⟨w.heap.size + 1 + 1, 1, none⟩ = some (.slice A1' n1' c1') := by rw [hc3 _ _ l2'']; exact r1_2
 have t2_w : w3.frozen? ⟨w.heap.size + 1 + 1, 2, none⟩ = false := by rw [hf3 _ _ l2'']; exact t2_2
 have s2_w : w3.frozen? ⟨w.heap.size + 1, 2, none⟩ = false := by rw [hf3 _ _ l2']; exact s2_2
 have q2_w : w3.cell? ⟨w.heap.size + 1, 2, none⟩ = some (.slice none 0 0) := by rw [hc3 _ _ l2']; exact q2_2
 have r2_w : w3.cell? ⟨w.heap.size + 1 + 1, 2, none⟩ = some (.slice A2' n2' c2') := by rw [hc3 _ _ l2'']; exact r2_2
 have t3_w : w3.frozen? ⟨w.heap.size + 1 + 1, 3, none⟩ = false := by rw [hf3 _ _ l2'']; exact t3_2
 have s3_w : w3.frozen? ⟨w.heap.size + 1, 3, none⟩ = false := by rw [hf3 _ _ l2']; exact s3_2
 have q3_w : w3.cell? ⟨w.heap.size + 1, 3, none⟩ = some (.slice none 0 0) := by rw [hc3 _ _ l2']; exact q3_2
 have r3_w : w3.cell? ⟨w.heap.size + 1 + 1, 3, none⟩ = some (.slice none 0 0) := by rw [hc3 _ _ l2'']; exact r3_2
 have HU3 := Lib.hid hU3
 clear hU3 e3 hc3 hf3 q0_2 s0_2 r0_2 t0_2 q1_2 s1_2 r1_2 t1_2 q2_2 s2_2 r2_2 t2_2 q3_2 s3_2 r3_2 t3_2
 go_wp2
 rw [← HU3.out]
 clear t0_w r0_w s0_w q0_w t1_w r1_w s1_w q1_w t2_w r2_w s2_w q2_w t3_w r3_w s3_w q3_w
 have mm : Mid (w.heap.size + 1) (w.heap.size + 1 + 1) U3 ((((U3.setCell ⟨w.heap.size + 1, 0, none⟩ (.int .i64 a0)).setCell ⟨w.heap.size + 1, 1, none⟩ (.slice A1' n1' c1')).setCell ⟨w.heap.size + 1, 2, none⟩ (.slice A2' n2' c2')).setCell ⟨w.heap.size + 1, 3, none⟩ (.slice A3' n3' c3')) := ((((Mid.of_grown (zav _ (w.heap.size + 1) 0 _) fun k hk => by injection hk with hk; omega).trans (Mid.of_grown (zav _ (w.heap.size + 1) 1 _) fun k hk => by injection hk with hk; omega)).trans (Mid.of_grown (zav _ (w.heap.size + 1) 2 _) fun k hk => by injection hk with hk; omega)).trans (Mid.of_grown (zav _ (w.heap.size + 1) 3 _) fun k hk => by injection hk with hk; omega))
 refine bodyPost_ret (v := .agg #[.int .i64 a0, .slice A1' n1' c1', .slice A2' n2' c2', .slice A3' n3' c3']) (by simp [results, Tryz.results70, go_sem, q0_3, s0_3, r0_3, q1_3, s1_3, r1_3, q2_3, s2_3, r2_3, q3_3, s3_3, r3_3]) rfl ?_
 refine ⟨A1', n1', c1', A2', n2', c2', A3', n3', c3', rfl, tP_O.2 ⟨A1', n1', c1', A2', n2', c2', A3', n3', c3', Iv W.heap.size U1.heap.size, Iv U1.heap.size U2.heap.size, Iv U2.heap.size U3.heap.size, rfl, tSS.omid o1_3 mm (.inr (by omega)) (by omega), tNS.omid o2_3 mm (.inr (by omega)) (by omega), tS.omid o3_3 mm (.inr (by omega)) (by omega), fun b h => ⟨by have := h.1; omega, Nat.lt_of_lt_of_le (Nat.lt_of_lt_of_le h.2 (by omega)) mm.size⟩, fun b h => ⟨by have := h.1; omega, Nat.lt_of_lt_of_le (Nat.lt_of_lt_of_le h.2 (by omega)) mm.size⟩, fun b h => ⟨by have := h.1; omega, Nat.lt_of_lt_of_le (Nat.lt_of_lt_of_le h.2 (by omega)) mm.size⟩, fun b h h2 => by have := h.2; have := h2.1; omega, fun b h h2 => by have := h.2; have := h2.1; omega, fun b h h2 => by have := h.2; have := h2.1; omega⟩, ?_⟩
 exact B3.trans ((mm.toBelow (by omega)).mono (by omega))
end
end Go.Proofs.YtffhodocjjkkoaaGreat
