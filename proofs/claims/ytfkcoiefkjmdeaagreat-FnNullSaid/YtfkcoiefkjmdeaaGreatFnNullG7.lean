import Derived.Test.YtfkcoiefkjmdeaaGreatFnNullG6
import Derived.Test.YtfkcoiefkjmdeaaGreatFnNullG4
import Derived.Lib.QuietBelow
import Derived.Deep.RegionWith
import Derived.Test.YtfkcoiefkjmdeaaGreatFnNullG2
import Derived.Test.YtfkcoiefkjmdeaaGreatFnNullG3
import Derived.Deep.DeepCutAuto
set_option linter.unusedVariables false
set_option linter.unusedSimpArgs false
set_option maxRecDepth 100000
set_option maxHeartbeats 4000000
namespace Go.Proofs.YtfkcoiefkjmdeaaGreat
section
open Go.RowKit Go.Sort
set_option synthInstance.maxSize 2000
set_option synthInstance.maxHeartbeats 400000
theorem ze9 (A : Option Addr) (n c : Nat) (w : World) : Calls Tryz.prog 131 #[.slice A n c] w fun e w' => e = .returned (.int .i64 n) ∧ w = w' := by
 go_enter Tryz.func131, Tryz.ntmps131
 go_wp2
 go_ret
 exact ⟨rfl, rfl⟩
theorem zp8 (a0 a1 a2 : Int) (A : Option Addr) (c : Nat) (xs : List Int) (w : World) (hx : RI w w.heap.size A xs.length xs) :
 Calls Tryz.prog 137 #[.agg #[.int .i64 a0, .int .i64 a1, .int .i64 a2, .slice A xs.length c]] w fun e w' => ∃ A' c', e = .returned (.slice A' (za5 (a0, a1, a2, xs)).length c') ∧ RI w' w'.heap.size A' (za5 (a0, a1, a2, xs)).length (za5 (a0, a1, a2, xs)) ∧ Below w.heap.size w w' := by
 obtain ⟨W, hW⟩ : ∃ W, W = w.alloc (.cells #[.int .i64 a0, .int .i64 a1, .int .i64 a2, .slice A xs.length c] 122) := ⟨_, rfl⟩
 have B0 : Below w.heap.size w W := by rw [hW]; exact (Below.refl _ _).alloc (Nat.le_refl _) _
 have p0 : W.cell? ⟨w.heap.size, 0, none⟩ = some (.int .i64 a0) := by rw [hW]; simp [go_sem]
 have p3 : W.cell? ⟨w.heap.size, 3, none⟩ = some (.slice A xs.length c) := by rw [hW]; simp [go_sem]
 have hx1 := hx.later B0
 have HU := Lib.hid hW
 clear hW
 by_cases h : a0 = 6
 · have HW := Lib.hid (show za5 (a0, a1, a2, xs) = [] by rw [za5, if_pos h])
   rw [HW.out]
   subst h
   go_enter Tryz.func137, Tryz.ntmps137
   go_wp2_with fail
   try rw [← HU.out]
   go_ret
   exact ⟨_, _, rfl, RI.nil _ _ _, B0⟩
 · have HW := Lib.hid (show za5 (a0, a1, a2, xs) = xs by rw [za5, if_neg h])
   rw [HW.out]
   have g : (a0 == 6) = false := by simpa using h
   go_enter Tryz.func137, Tryz.ntmps137
   go_wp2_with fail
   try rw [← HU.out]
   go_wp2_with fail
   go_ret
   exact ⟨_, _, rfl, hx1, B0⟩
def ebl (b : Bool) : List Value := [.bool b]
theorem zgm (b : Bool) : (ebl b).length = 1 := rfl
theorem zp9 : EI Tryz.prog 171 4 (.bool false) 1 1 := ⟨Tryz.underlying171, by kernel_rfl, rfl, by decide⟩
def M.tk (n : Nat) (O : List Int) : List Bool := (List.range n).map fun (i : Nat) => zal O (i : Int)
theorem zhh {n : Nat} {O : List Int} {k : Nat} (h : k < n) : (M.tk n O)[k]? = some (zal O (k : Int)) := by simp [M.tk, h]
theorem zqa {n : Nat} {O : List Int} {k : Nat} : (M.tk n O).set k true = M.tk n (O ++ [(k : Int)]) := by
 apply List.ext_getElem (by simp [M.tk])
 intro i h1 h2
 have hi : i < n := by simpa [M.tk] using h2
 by_cases hik : k = i
 · subst hik
   simp [M.tk, zj6]
 · rw [List.getElem_set_ne hik]
   simp only [M.tk, List.getElem_map, List.getElem_range, zj6]
   rw [show decide ((k : Int) = (i : Int)) = false by simp; omega, Bool.or_false]
theorem zqb (n : Nat) : M.tk n [] = List.replicate n false := by
 apply List.ext_getElem (by simp [M.tk])
 intro i h1 h2
 simp [M.tk, zn0]
def bN : Value → Nat
 | .bool true => 1
 | _ => 0
theorem zk4 (a0 : Int) (A1 : Option Addr) (n1 c1 : Nat) (A2 : Option Addr) (n2 c2 : Nat) (A3 : Option Addr) (n3 c3 : Nat) (ns : List Node) (w : World) (hx : RS tN w w.heap.size (.slice A2 n2 c2) ns) (hb : hNS.sz ns ≤ 100000000)
 (hid : Hid (∀ x ∈ ns, ∀ f ∈ x.2.2.2, zax n2 f = true)) :
 Calls Tryz.prog 119 #[.agg #[.int .i64 a0, .slice A1 n1 c1, .slice A2 n2 c2, .slice A3 n3 c3]] w (Ret1 2 w (za8 ns)) := by
 have hl := Lib.hid hx.cap.1
 have hnb : n2 ≤ 100000000 := by have e : ns.length + hN.szL ns = hNS.sz ns := rfl; have := hl.out; omega
 obtain ⟨W, hW⟩ : ∃ W, W = w.alloc (.cells #[.int .i64 a0, .slice A1 n1 c1, .slice A2 n2 c2, .slice A3 n3 c3] 36) := ⟨_, rfl⟩
 have B0 : Below w.heap.size w W := by rw [hW]; exact (Below.refl _ _).alloc (Nat.le_refl _) _
 have p2 : W.cell? ⟨w.heap.size, 2, none⟩ = some (.slice A2 n2 c2) := by rw [hW]; simp [go_sem]
 have lW : w.heap.size < W.heap.size := by rw [hW]; simp
 have HW := Lib.hid hW
 clear hW
 go_enter Tryz.func119, Tryz.ntmps119
 go_wp2_with (at_make; rw [← HW.out]; refine zgw zp9 rfl _ _ rfl n2 _ _ rfl rfl rfl rfl (by omega) (by unfold maxLen; omega) ?_; intro w1 own1 bel1)
 have hs1 : W.heap.size < w1.heap.size := (World.ownsRow.lt own1 _ rfl).2
 have owt : OA ebl 4 1 W.heap.size (W.heap.size + 1) w1 (.slice (some ⟨W.heap.size, 0, none⟩) n2 n2) (M.tk n2 []) := by
  rw [zqb]
  exact OA.made zgm (by decide) rfl own1 (fun k hk => by simp only [Value.ownBlock, Option.some.injEq] at hk; omega)
 have q2 : w1.cell? ⟨w.heap.size, 2, none⟩ = some (.slice A2 n2 c2) := by rw [bel1.cell (by show w.heap.size < W.heap.size; omega)]; exact p2
 have B1 := zaa B0 bel1
 have O0 : OI 2 w1.heap.size (w1.alloc (.cells #[] 2)) (.slice (some ⟨w1.heap.size, 0, none⟩) 0 0) [] := OI.made _ w1
 have B2 : Below w.heap.size w (w1.alloc (.cells #[] 2)) := B1.alloc B1.size _
 have M2 : Below w1.heap.size w1 (w1.alloc (.cells #[] 2)) := (Below.refl _ _).alloc (Nat.le_refl _) _
 have owt2 := owt.below M2 (by omega)
 have q22 : (w1.alloc (.cells #[] 2)).cell? ⟨w.heap.size, 2, none⟩ = some (.slice A2 n2 c2) := by rw [M2.cell (by show w.heap.size < w1.heap.size; omega)]; exact q2
 have hz2 : w1.heap.size ≤ (w1.alloc (.cells #[] 2)).heap.size := M2.size
 clear own1 bel1 p2 owt q2 M2
 go_loopw [4, 5] (fun v f wr => ∃ (t : Nat) (O : List Int), t ≤ n2 ∧ Hid (O = zap ns t) ∧ Hid (O.length = t) ∧ OI 2 w1.heap.size wr v O ∧ OA ebl 4 1 W.heap.size (W.heap.size + 1) wr (.slice (some ⟨W.heap.size, 0, none⟩) n2 n2) (M.tk n2 O) ∧ Below w.heap.size w wr ∧ wr.cell? ⟨w.heap.size, 2, none⟩ = some (.slice A2 n2 c2) ∧ w1.heap.size ≤ wr.heap.size ∧ (f = .bool true ∨ (f = .bool false ∧ Hid (za8 ns = O)))) (fun v f _ => 2 * (n2 - zfr v) + bN f)
 case atStart => exact ⟨0, [], by omega, Lib.hid rfl, Lib.hid rfl, O0, owt2, B2, q22, hz2, .inl rfl⟩
 case round =>
  obtain ⟨t, O, ht, HO, HL, own, owk, Bw, r2, hwz, hor⟩ := hrel
  obtain ⟨A5, c5, rfl, hri⟩ := own.shape
  rw [HL.out] at own hri ⊢
  rcases hor with rfl | ⟨rfl, HR⟩
  · go_wp2_with fail
    obtain ⟨wo, rfl⟩ : ∃ wo : World, wo = wr := ⟨_, rfl⟩
    go_loopw [4, 5, 20] (fun v f i wr => ∃ k : Nat, v = .slice A5 t c5 ∧ f = .bool false ∧ i = .int .i64 k ∧ k ≤ n2 ∧ Hid (∀ j, j < k → zc3 ns O j = false) ∧ Below wo.heap.size wo wr) (fun _ _ i _ => n2 - (intOf i).toNat)
    case atStart => exact ⟨0, rfl, rfl, rfl, by omega, Lib.hid (by omega), Below.refl _ _⟩
    case round =>
     obtain ⟨k, rfl, rfl, rfl, hk, H, Bo⟩ := hrel
     have BB := zaa Bw Bo
     have lo0 : w.heap.size < wo.heap.size := by omega
     by_cases hlt : k < n2
     · obtain ⟨bb, o1, b0, b1, b2, A6, c6, x3, rfl, hbb, X, e0, e1, e2, e3, hr3, h3b⟩ := zes (hx.below BB) hb hlt
       have hrdy := Lib.hid (zih (out := O) X.out)
       obtain ⟨U, hU⟩ : ∃ U, U = wr.alloc (.cells #[.int .i64 b0, .int .i64 b1, .int .i64 b2, .slice A6 x3.length c6] 122) := ⟨_, rfl⟩
       have GU : Below wr.heap.size wr U := by rw [hU]; exact (Below.refl _ _).alloc (Nat.le_refl _) _
       have u0 : U.cell? ⟨wr.heap.size, 0, none⟩ = some (.int .i64 b0) := by rw [hU, cell_of_row _ wr.heap.size 0 _ 122 (0, 0) (heap_alloc_new wr _)]; rfl
       have u1 : U.cell? ⟨wr.heap.size, 1, none⟩ = some (.int .i64 b1) := by rw [hU, cell_of_row _ wr.heap.size 1 _ 122 (0, 0) (heap_alloc_new wr _)]; rfl
       have u2 : U.cell? ⟨wr.heap.size, 2, none⟩ = some (.int .i64 b2) := by rw [hU, cell_of_row _ wr.heap.size 2 _ 122 (0, 0) (heap_alloc_new wr _)]; rfl
       have u3 : U.cell? ⟨wr.heap.size, 3, none⟩ = some (.slice A6 x3.length c6) := by rw [hU, cell_of_row _ wr.heap.size 3 _ 122 (0, 0) (heap_alloc_new wr _)]; rfl
       have HU := Lib.hid hU
       clear hU
       have BoU := zaa Bo GU
       have hrx := (hr3.more BB.size).later GU
       have owU := (owk.below BoU (by omega))
       have tc := (OA.cell zgm (owk.below Bo (by omega)) (zhh (O := O) hlt) (j := 0) rfl).1
       rw [Nat.mul_one, Nat.add_zero] at tc
       have lWr : W.heap.size < wr.heap.size := by have := Bo.size; omega
       have HF := Lib.hid (fun f (hf : f ∈ za5 (b0, b1, b2, x3)) => za2.1 (hid.out _ (List.mem_of_getElem? X.out) f (by
        rw [za5] at hf
        split at hf
        · cases hf
        · exact hf)))
       have hwl : (za5 (b0, b1, b2, x3)).length ≤ 1000000000 := by unfold za5; split <;> simp <;> omega
       have HK := Lib.hid (show zar ns k = (b0, b1, b2, x3) by rw [zar, X.out]; rfl)
       generalize hws : za5 (b0, b1, b2, x3) = ws at hrdy HF hwl
       have HWS := Lib.hid hws
       clear hws
       have hk0 : (0 : Int) ≤ (k : Int) := by omega
       have hkn : (k : Int) < (n2 : Int) := by omega
       go_wp2_with fail
       rw [← HU.out]
       refine (zp8 _ _ _ _ _ _ U hrx).mono ?_
       rw [HWS.out]
       rintro e w4 ⟨A7, c7, rfl, hr7, bel4⟩
       have ow4 := owU.below bel4 (by have := BoU.size; omega)
       go_wp2_with fail
       go_loop [8, 33] (fun r i => ∃ (q : Nat) (b : Bool), i = .int .i64 q ∧ q ≤ ws.length ∧ r = .bool b ∧ Hid ((!zal O k && ws.all (zal O)) = (b && (ws.drop q).all (zal O)))) (fun _ i => ws.length - (intOf i).toNat)
       case atStart => exact ⟨0, _, rfl, by omega, rfl, Lib.hid (by simp)⟩
       case round =>
        obtain ⟨q, b, rfl, hq, rfl, HQ⟩ := hrel
        by_cases hlt2 : q < ws.length
        · obtain ⟨ad, f, rfl, hab, Y, hc⟩ := hr7.at hlt2
          have hd := Lib.hid (M.drop_at Y.out)
          have hfb := HF.out f (List.mem_of_getElem? Y.out)
          obtain ⟨m, rfl⟩ : ∃ m : Nat, f = (m : Int) := ⟨f.toNat, by omega⟩
          have hm : m < n2 := by omega
          have tm := (OA.cell zgm ow4 (zhh (O := O) hm) (j := 0) rfl).1
          rw [Nat.mul_one, Nat.add_zero] at tm
          have hm0 : (0 : Int) ≤ (m : Int) := by omega
          have hmn : (m : Int) < (n2 : Int) := by omega
          cases b
          · have R := Lib.hid (show (!zal O k && ws.all (zal O)) = (false && (ws.drop (q + 1)).all (zal O)) by rw [HQ.out, Bool.false_and, Bool.false_and])
            go_wp2
            go_round
            case rel => exact ⟨q + 1, false, by go_num, by omega, rfl, R⟩
            case measure => simp [intOf]; omega
          · have R := Lib.hid (show (!zal O k && ws.all (zal O)) = (zal O m && (ws.drop (q + 1)).all (zal O)) by rw [HQ.out, hd.out, List.all_cons, Bool.true_and])
            go_wp2
            go_round
            case rel => exact ⟨q + 1, _, by go_num, by omega, rfl, R⟩
            case measure => simp [intOf]; omega
        · have HB := Lib.hid (show zc3 ns O k = b by rw [hrdy.out, HQ.out, List.drop_eq_nil_of_le (by omega)]; simp)
          have B4 := zaa BoU bel4
          have BW4 := zaa Bw B4
          cases b
          · go_wp2
            go_roundw
            case rel => exact ⟨k + 1, rfl, rfl, by go_num, by omega, Lib.hid (fun j hj => by rcases Nat.lt_succ_iff_lt_or_eq.1 hj with h | h; exact H.out j h; rw [h]; exact HB.out), B4⟩
            case measure => simp [intOf]; omega
          · have HN := Lib.hid (show O ++ [(k : Int)] = zap ns (t + 1) by
             have e := zj7 (ns := ns) (out := O) (i := k) (by rw [hl.out]; exact hlt) HB.out H.out
             rw [zig (i := k) (by rw [← HO.out]; exact e), ← HO.out])
            have HL2 := Lib.hid (show (O ++ [(k : Int)]).length = t + 1 by rw [List.length_append, HL.out]; rfl)
            have htn : t + 1 ≤ n2 := by
             have := zpo ns (t + 1)
             rw [← HN.out, HL2.out, hl.out] at this
             exact this
            have tkk := (OA.cell zgm ow4 (zhh (O := O) hlt) (j := 0) rfl)
            rw [Nat.mul_one, Nat.add_zero] at tkk
            have tk1 := tkk.1
            have tk2 := tkk.2
            obtain ⟨ows, ms⟩ := OA.set zgm ow4 (zhh (O := O) hlt) (j := 0) (y := true) (u := .bool true) (by decide) rfl
            rw [show k * 1 + 0 = k by omega, zqa] at ows
            rw [show k * 1 + 0 = k by omega] at ms
            have own4 := own.below B4
            have own5 : OI 2 w1.heap.size (w4.setCell ⟨W.heap.size, k, none⟩ (.bool true)) (.slice A5 t c5) O := by
             unfold OI at own4 ⊢
             exact World.ownsRow.kept own4 (zco _ _ _ _) (by
              cases hv : (Value.slice A5 t c5).ownBlock with
              | none => exact .inl rfl
              | some g =>
               refine .inr fun e => ?_
               injection e with e
               have := (World.ownsRow.lt own4 g hv).1
               omega)
            have BS : Below w.heap.size w4 (w4.setCell ⟨W.heap.size, k, none⟩ (.bool true)) := (ms.toBelow (by have := B4.size; omega)).mono (by omega)
            have r5 : (w4.setCell ⟨W.heap.size, k, none⟩ (.bool true)).cell? ⟨w.heap.size, 2, none⟩ = some (.slice (some ⟨bb, o1, none⟩) n2 c2) := by
             rw [(ms.toBelow (by have := B4.size; omega)).cell (p := ⟨w.heap.size, 2, none⟩) (by show w.heap.size < W.heap.size; omega), B4.cell (p := ⟨w.heap.size, 2, none⟩) lo0]
             exact r2
            have hOl : O.length ≤ t := by rw [HL.out]; omega
            have hOl2 : t ≤ O.length := by rw [HL.out]; omega
            have hz5 : w1.heap.size ≤ (w4.setCell ⟨W.heap.size, k, none⟩ (.bool true)).heap.size := by have := B4.size; simp; omega
            obtain ⟨V, hV⟩ : ∃ V, V = w4.setCell ⟨W.heap.size, k, none⟩ (.bool true) := ⟨_, rfl⟩
            have HV := Lib.hid hV
            have hvz : V.heap.size = w4.heap.size := by rw [hV]; simp
            rw [← hV] at ows own5 BS r5 hz5
            clear hV ms own4
            go_wp2_with (at_builtin; rw [← HV.out]; refine ze2 zbl rfl _ _ rfl own5 rfl (by rw [hvz]; rfl) rfl (by unfold maxLen; omega) (by omega) hz5 ?_; intro v1 w6 own6 gr6 bel6)
            go_roundw
            case rel => exact ⟨t + 1, O ++ [(k : Int)], htn, HN, HL2, OI.push own6, (ows.same (fun b h1 h2 => bel6.block b (by omega))), (BW4.trans BS).trans (bel6.mono (by omega)), by rw [bel6.cell (p := ⟨w.heap.size, 2, none⟩) (by show w.heap.size < w1.heap.size; omega)]; exact r5, by have := bel6.size; omega, .inl rfl⟩
            case measure => obtain ⟨A9, c9, rfl, -⟩ := (OI.push own6).shape; rw [HL2.out]; simp [zfr, bN]; omega
     · have hno := zj8 (ns := ns) (out := O) (fun j hj => H.out j (by rw [hl.out] at hj; omega))
       have HR := Lib.hid (show za8 ns = O by rw [HO.out]; exact zj9 (by rw [hl.out]; exact ht) (by rw [← HO.out]; exact hno))
       have r3 : wr.cell? ⟨w.heap.size, 2, none⟩ = some (.slice A2 n2 c2) := by rw [Bo.cell (p := ⟨w.heap.size, 2, none⟩) lo0]; exact r2
       have own3 := own.below Bo
       have owk3 := owk.below Bo (by omega)
       have hz3 := Bo.size
       clear hno
       go_wp2
       go_roundw
       case rel => exact ⟨t, O, ht, HO, HL, own3, owk3, BB, r3, by omega, .inr ⟨rfl, HR⟩⟩
       case measure => simp [zfr, bN]
  · go_wp2
    go_ret
    rw [HR.out]
    rw [← HL.out] at own ⊢
    exact ⟨_, rfl, own.base (by omega), Bw⟩
end
section
open Go.RowKit Go.Sort
set_option synthInstance.maxSize 2000
set_option synthInstance.maxHeartbeats 400000
theorem zk5 (a0 : Int) (A1 : Option Addr) (n1 c1 : Nat) (A2 : Option Addr) (n2 c2 : Nat) (A3 : Option Addr) (n3 c3 : Nat) (x1 : List (List Int)) (x2 : List Node) (x3 : List Int) (w : World) (h1 : tSS.R w w.heap.size [.slice A1 n1 c1] x1) (h2 : tNS.R w w.heap.size [.slice A2 n2 c2] x2) (h3 : tS.R w w.heap.size [.slice A3 n3 c3] x3) (hn : hP.sz ((a0, x1, x2, x3) : zaf) ≤ 100000000) :
 Calls Tryz.prog 118 #[.agg #[.int .i64 a0, .slice A1 n1 c1, .slice A2 n2 c2, .slice A3 n3 c3]] w fun e w' => e = .returned (.bool (zay (a0, x1, x2, x3))) ∧ Below w.heap.size w w' := by
 obtain ⟨W, hW⟩ : ∃ W, W = w.alloc (.cells #[.int .i64 a0, .slice A1 n1 c1, .slice A2 n2 c2, .slice A3 n3 c3] 36) := ⟨_, rfl⟩
 have B0 : Below w.heap.size w W := by rw [hW]; exact (Below.refl _ _).alloc (Nat.le_refl _) _
 have p0 : W.cell? ⟨w.heap.size, 0, none⟩ = some (.int .i64 a0) := by rw [hW]; simp [go_sem]
 have p1 : W.cell? ⟨w.heap.size, 1, none⟩ = some (.slice A1 n1 c1) := by rw [hW]; simp [go_sem]
 have p2 : W.cell? ⟨w.heap.size, 2, none⟩ = some (.slice A2 n2 c2) := by rw [hW]; simp [go_sem]
 have p3 : W.cell? ⟨w.heap.size, 3, none⟩ = some (.slice A3 n3 c3) := by rw [hW]; simp [go_sem]
 have lx : w.heap.size < W.heap.size := by rw [hW]; simp
 have HW := Lib.hid hW
 clear hW
 have k1 := tSS.later h1 B0
 have k2 := tNS.later h2 B0
 have k3 := tS.later h3 B0
 have r1 := sl_R.1 k1
 have r2 := sl_R.1 k2
 have hx3 := (tS_R.1 k3).ri
 have L1 := Lib.hid r1.cap.1
 have L2 := Lib.hid r2.cap.1
 have L3 := Lib.hid (zdf h3)
 have hnn := hn
 rw [zef, zb8] at hnn
 have hb2 : hNS.sz x2 ≤ 100000000 := by omega
 have hq1 : x1.length + hS.szL x1 = hSS.sz x1 := rfl
 have hb1 : Hid (∀ x ∈ x1, x.length ≤ 1000000000) := Lib.hid (fun x hx => by
  obtain ⟨i, hi⟩ := List.getElem?_of_mem hx
  have := hS.szL_at hi
  rw [zb8] at this
  omega)
 have bn1 : n1 ≤ 100000000 := by have := L1.out; omega
 have bn2 : n2 ≤ 100000000 := by have e : x2.length + hN.szL x2 = hNS.sz x2 := rfl; have := L2.out; omega
 have bn3 : n3 ≤ 100000000 := by have := L3.out; omega
 clear hnn hq1
 clear hn h1 h2 h3 k1 k2 k3
 cases g0 : M.inn a0 0 4
 · have R := Lib.hid (show zay (a0, x1, x2, x3) = false by rw [zay]; simp only [L1.out, L2.out, L3.out, g0, Bool.false_and, Bool.and_false, Bool.true_and])
   have G0 := Lib.hid g0
   clear g0
   go_enter Tryz.func118, Tryz.ntmps118
   go_wp2_with fail
   rw [← HW.out]
   go_wp2_with (first | (go_at_call 131; refine (ze9 _ _ _ _).mono ?_; rintro e w' ⟨rfl, rfl⟩) | (go_at_call 62; refine (zbn _ _ _ _).mono ?_; rintro e w' ⟨rfl, rfl⟩) | (go_at_call 56; refine (zao _ _ _ _).mono ?_; rw [G0.out]; rintro e w' ⟨rfl, rfl⟩))
   go_ret
   exact ⟨zab (by rw [R.out]), B0⟩
 have G0 := Lib.hid g0
 clear g0
 cases g1 : zbj x1
 · have R := Lib.hid (show zay (a0, x1, x2, x3) = false by rw [zay]; simp only [L1.out, L2.out, L3.out, G0.out, g1, Bool.false_and, Bool.and_false, Bool.true_and])
   have G1 := Lib.hid g1
   clear g1
   go_enter Tryz.func118, Tryz.ntmps118
   go_wp2_with fail
   rw [← HW.out]
   go_wp2_with (first | (go_at_call 131; refine (ze9 _ _ _ _).mono ?_; rintro e w' ⟨rfl, rfl⟩) | (go_at_call 62; refine (zbn _ _ _ _).mono ?_; rintro e w' ⟨rfl, rfl⟩) | (go_at_call 56; refine (zao _ _ _ _).mono ?_; rw [G0.out]; rintro e w' ⟨rfl, rfl⟩) | (go_at_call 135; refine (zgl _ _ _ _ _ r1 hb1 (by omega)).mono ?_; rw [G1.out]; rintro e w' ⟨rfl, rfl⟩))
   go_ret
   exact ⟨zab (by rw [R.out]), B0⟩
 have G1 := Lib.hid g1
 clear g1
 by_cases g2 : ¬ n2 ≤ 24
 · have R := Lib.hid (show zay (a0, x1, x2, x3) = false by rw [zay]; simp only [L1.out, L2.out, L3.out, G0.out, G1.out, decide_eq_false g2, Bool.false_and, Bool.and_false, Bool.true_and])
   go_enter Tryz.func118, Tryz.ntmps118
   go_wp2_with fail
   rw [← HW.out]
   go_wp2_with (first | (go_at_call 131; refine (ze9 _ _ _ _).mono ?_; rintro e w' ⟨rfl, rfl⟩) | (go_at_call 62; refine (zbn _ _ _ _).mono ?_; rintro e w' ⟨rfl, rfl⟩) | (go_at_call 56; refine (zao _ _ _ _).mono ?_; rw [G0.out]; rintro e w' ⟨rfl, rfl⟩) | (go_at_call 135; refine (zgl _ _ _ _ _ r1 hb1 (by omega)).mono ?_; rw [G1.out]; rintro e w' ⟨rfl, rfl⟩))
   go_ret
   exact ⟨zab (by rw [R.out]), B0⟩
 replace g2 : n2 ≤ 24 := Decidable.not_not.1 g2
 by_cases g3 : ¬ n3 ≤ 4
 · have R := Lib.hid (show zay (a0, x1, x2, x3) = false by rw [zay]; simp only [L1.out, L2.out, L3.out, G0.out, G1.out, decide_eq_true g2, decide_eq_false g3, Bool.false_and, Bool.and_false, Bool.true_and])
   go_enter Tryz.func118, Tryz.ntmps118
   go_wp2_with fail
   rw [← HW.out]
   go_wp2_with (first | (go_at_call 131; refine (ze9 _ _ _ _).mono ?_; rintro e w' ⟨rfl, rfl⟩) | (go_at_call 62; refine (zbn _ _ _ _).mono ?_; rintro e w' ⟨rfl, rfl⟩) | (go_at_call 56; refine (zao _ _ _ _).mono ?_; rw [G0.out]; rintro e w' ⟨rfl, rfl⟩) | (go_at_call 135; refine (zgl _ _ _ _ _ r1 hb1 (by omega)).mono ?_; rw [G1.out]; rintro e w' ⟨rfl, rfl⟩))
   go_ret
   exact ⟨zab (by rw [R.out]), B0⟩
 replace g3 : n3 ≤ 4 := Decidable.not_not.1 g3
 cases g4 : x3.all (zax n2)
 · have R := Lib.hid (show zay (a0, x1, x2, x3) = false by rw [zay]; simp only [L1.out, L2.out, L3.out, G0.out, G1.out, decide_eq_true g2, decide_eq_true g3, g4, Bool.false_and, Bool.and_false, Bool.true_and])
   have G4 := Lib.hid g4
   clear g4
   go_enter Tryz.func118, Tryz.ntmps118
   go_wp2_with fail
   rw [← HW.out]
   go_wp2_with (first | (go_at_call 131; refine (ze9 _ _ _ _).mono ?_; rintro e w' ⟨rfl, rfl⟩) | (go_at_call 62; refine (zbn _ _ _ _).mono ?_; rintro e w' ⟨rfl, rfl⟩) | (go_at_call 56; refine (zao _ _ _ _).mono ?_; rw [G0.out]; rintro e w' ⟨rfl, rfl⟩) | (go_at_call 135; refine (zgl _ _ _ _ _ r1 hb1 (by omega)).mono ?_; rw [G1.out]; rintro e w' ⟨rfl, rfl⟩) | (go_at_call 47; refine (zet _ _ _ _ _ _ hx3 (by omega) (by omega)).mono ?_; rw [G4.out]; rintro e w' ⟨rfl, rfl⟩))
   go_ret
   exact ⟨zab (by rw [R.out]), B0⟩
 have G4 := Lib.hid g4
 clear g4
 have HF := Lib.hid (show zay (a0, x1, x2, x3) = x2.all (za7 n1 n2 a0) by rw [zay]; simp only [L1.out, L2.out, L3.out, G0.out, G1.out, decide_eq_true g2, decide_eq_true g3, G4.out, Bool.true_and])
 go_enter Tryz.func118, Tryz.ntmps118
 go_wp2_with fail
 rw [← HW.out]
 go_wp2_with (first | (go_at_call 131; refine (ze9 _ _ _ _).mono ?_; rintro e w' ⟨rfl, rfl⟩) | (go_at_call 62; refine (zbn _ _ _ _).mono ?_; rintro e w' ⟨rfl, rfl⟩) | (go_at_call 56; refine (zao _ _ _ _).mono ?_; rw [G0.out]; rintro e w' ⟨rfl, rfl⟩) | (go_at_call 135; refine (zgl _ _ _ _ _ r1 hb1 (by omega)).mono ?_; rw [G1.out]; rintro e w' ⟨rfl, rfl⟩) | (go_at_call 47; refine (zet _ _ _ _ _ _ hx3 (by omega) (by omega)).mono ?_; rw [G4.out]; rintro e w' ⟨rfl, rfl⟩))
 go_loopw [39] (fun i wr => ∃ k : Nat, i = .int .i64 k ∧ k ≤ n2 ∧ Hid (x2.all (za7 n1 n2 a0) = (x2.drop k).all (za7 n1 n2 a0)) ∧ Below W.heap.size W wr) (fun i _ => n2 - (intOf i).toNat)
 case atStart => exact ⟨0, rfl, by omega, Lib.hid (by simp), Below.refl _ _⟩
 case round =>
  obtain ⟨k, rfl, hk, H, Bw⟩ := hrel
  have BW := zaa B0 Bw
  by_cases hlt : k < n2
  · obtain ⟨bb, o1, b0, b1, b2, A5, c5, y3, rfl, hbb, X, e0, e1, e2, e3, hr3, h3b⟩ := zes (r2.below Bw) hb2 hlt
    have hd := Lib.hid (M.drop_at X.out)
    obtain ⟨U, hU⟩ : ∃ U, U = wr.alloc (.cells #[.int .i64 b0, .int .i64 b1, .int .i64 b2, .slice A5 y3.length c5] 122) := ⟨_, rfl⟩
    have GU : Below wr.heap.size wr U := by rw [hU]; exact (Below.refl _ _).alloc (Nat.le_refl _) _
    have u0 : U.cell? ⟨wr.heap.size, 0, none⟩ = some (.int .i64 b0) := by rw [hU, cell_of_row _ wr.heap.size 0 _ 122 (0, 0) (heap_alloc_new wr _)]; rfl
    have u1 : U.cell? ⟨wr.heap.size, 1, none⟩ = some (.int .i64 b1) := by rw [hU, cell_of_row _ wr.heap.size 1 _ 122 (0, 0) (heap_alloc_new wr _)]; rfl
    have u2 : U.cell? ⟨wr.heap.size, 2, none⟩ = some (.int .i64 b2) := by rw [hU, cell_of_row _ wr.heap.size 2 _ 122 (0, 0) (heap_alloc_new wr _)]; rfl
    have u3 : U.cell? ⟨wr.heap.size, 3, none⟩ = some (.slice A5 y3.length c5) := by rw [hU, cell_of_row _ wr.heap.size 3 _ 122 (0, 0) (heap_alloc_new wr _)]; rfl
    have BU := zaa Bw GU
    have q0 : U.cell? ⟨w.heap.size, 0, none⟩ = some (.int .i64 a0) := by rw [BU.cell lx]; exact p0
    have q1 : U.cell? ⟨w.heap.size, 1, none⟩ = some (.slice A1 n1 c1) := by rw [BU.cell lx]; exact p1
    have q2 : U.cell? ⟨w.heap.size, 2, none⟩ = some (.slice (some ⟨bb, o1, none⟩) n2 c2) := by rw [BU.cell lx]; exact p2
    have HU := Lib.hid hU
    clear hU
    have hry := (hr3.more Bw.size).later GU
    have hk0 : (0 : Int) ≤ (k : Int) := by omega
    have hkn : (k : Int) < (n2 : Int) := by omega
    have uu0 := cell_regrown u0
    have uu1 := cell_regrown u1
    have uu2 := cell_regrown u2
    have uu3 := cell_regrown u3
    have qq0 := cell_regrown q0
    have qq1 := cell_regrown q1
    have qq2 := cell_regrown q2
    have cS : ∀ d os, Calls Tryz.prog 70 #[.slice A1 n1 c1] (grow (redrawn U d) os) fun e w'' => e = .returned (.int .i64 n1) ∧ ∃ p : Regrown, w'' = grow (redrawn U p.d) p.os := fun d os => Calls.regrown_of (zfm (zka _ _ _ _))
    have cN : ∀ d os, Calls Tryz.prog 136 #[.agg #[.int .i64 b0, .int .i64 b1, .int .i64 b2, .slice A5 y3.length c5], .int .i64 n1] (grow (redrawn U d) os) fun e w'' => e = .returned (.bool (zak (b0, b1, b2, y3) n1)) ∧ ∃ p : Regrown, w'' = grow (redrawn U p.d) p.os := fun d os => Calls.regrown_of (zp7 _ _ _ _ _ _ _ _ _ (hry.later (below_regrown U d os)) (by omega))
    have cI : ∀ d os, Calls Tryz.prog 47 #[.slice A5 y3.length c5, .int .i64 n2] (grow (redrawn U d) os) fun e w'' => e = .returned (.bool (y3.all (zax n2))) ∧ ∃ p : Regrown, w'' = grow (redrawn U p.d) p.os := fun d os => Calls.regrown_of (zfm (zet _ _ _ _ _ _ (hry.later (below_regrown U d os)) (by omega) (by omega)))
    have fin := fun d os => zaa BW (zaa GU (below_regrown U d os))
    clear u0 u1 u2 u3 q0 q1 q2
    cases hok : zak (b0, b1, b2, y3) n1
    · have R := Lib.hid (show zay (a0, x1, x2, x3) = false by rw [HF.out, H.out, hd.out, List.all_cons, za7]; simp only [hok, Bool.false_and, Bool.and_false, Bool.true_and, Bool.not_true, Bool.not_false, Bool.and_self])
      rw [hok] at cN
      clear hok
      go_wp2_with fail
      rw [← HU.out]
      clear e0 e1 e2 e3
      (refine wp_region_quiet_below (by kernel_rfl) (by kernel_rfl) ?_; (repeat (go_big_quiet_step ((first | exact cS _ _ | exact cN _ _ | exact cI _ _)))); refine wpQuiet_nil ?_; intro _ hw'; obtain ⟨⟨dq, osq⟩, hw''⟩ := hw'; subst hw'')
      go_wp2
      go_ret
      exact ⟨zab (by rw [R.out]), fin dq osq⟩
    · rw [hok] at cN
      have HK := Lib.hid hok
      clear hok
      cases hid : y3.all (zax n2)
      · have R := Lib.hid (show zay (a0, x1, x2, x3) = false by rw [HF.out, H.out, hd.out, List.all_cons, za7]; simp only [HK.out, hid, Bool.false_and, Bool.and_false, Bool.true_and, Bool.not_true, Bool.not_false, Bool.and_self])
        rw [hid] at cI
        clear hid
        go_wp2_with fail
        rw [← HU.out]
        clear e0 e1 e2 e3
        (refine wp_region_quiet_below (by kernel_rfl) (by kernel_rfl) ?_; (repeat (go_big_quiet_step ((first | exact cS _ _ | exact cN _ _ | exact cI _ _)))); refine wpQuiet_nil ?_; intro _ hw'; obtain ⟨⟨dq, osq⟩, hw''⟩ := hw'; subst hw'')
        go_wp2
        go_ret
        exact ⟨zab (by rw [R.out]), fin dq osq⟩
      · rw [hid] at cI
        have HI := Lib.hid hid
        clear hid
        by_cases hb0 : b0 = 1
        · by_cases hin : a0 ≤ b1
          · have R := Lib.hid (show zay (a0, x1, x2, x3) = false by rw [HF.out, H.out, hd.out, List.all_cons, za7]; simp only [HK.out, HI.out, decide_eq_true hb0, decide_eq_true hin, Bool.false_and, Bool.and_false, Bool.true_and, Bool.not_true, Bool.not_false, Bool.and_self])
            subst hb0
            go_wp2_with fail
            rw [← HU.out]
            clear e0 e1 e2 e3
            (refine wp_region_quiet_below (by kernel_rfl) (by kernel_rfl) ?_; (repeat (go_big_quiet_step ((first | exact cS _ _ | exact cN _ _ | exact cI _ _)))); refine wpQuiet_nil ?_; intro _ hw'; obtain ⟨⟨dq, osq⟩, hw''⟩ := hw'; subst hw'')
            go_wp2
            go_ret
            exact ⟨zab (by rw [R.out]), fin dq osq⟩
          · have R := Lib.hid (show x2.all (za7 n1 n2 a0) = (x2.drop (k + 1)).all (za7 n1 n2 a0) by rw [H.out, hd.out, List.all_cons, za7]; simp only [HK.out, HI.out, decide_eq_true hb0, decide_eq_false hin, Bool.and_false, Bool.not_false, Bool.and_self, Bool.true_and])
            have hna : ¬ b1 ≥ a0 := hin
            subst hb0
            go_wp2_with fail
            rw [← HU.out]
            clear e0 e1 e2 e3
            (refine wp_region_quiet_below (by kernel_rfl) (by kernel_rfl) ?_; (repeat (go_big_quiet_step ((first | exact cS _ _ | exact cN _ _ | exact cI _ _)))); refine wpQuiet_nil ?_; intro _ hw'; obtain ⟨⟨dq, osq⟩, hw''⟩ := hw'; subst hw'')
            go_wp2
            go_roundw
            case rel => exact ⟨k + 1, by go_num, by omega, R, zaa Bw (zaa GU (below_regrown U dq osq))⟩
            case measure => simp [intOf]; omega
        · have R := Lib.hid (show x2.all (za7 n1 n2 a0) = (x2.drop (k + 1)).all (za7 n1 n2 a0) by rw [H.out, hd.out, List.all_cons, za7]; simp only [HK.out, HI.out, decide_eq_false hb0, Bool.false_and, Bool.not_false, Bool.and_self, Bool.true_and])
          have gb0 : (b0 == 1) = false := by simpa using hb0
          go_wp2_with fail
          rw [← HU.out]
          clear e0 e1 e2 e3
          (refine wp_region_quiet_below (by kernel_rfl) (by kernel_rfl) ?_; (repeat (go_big_quiet_step ((first | exact cS _ _ | exact cN _ _ | exact cI _ _)))); refine wpQuiet_nil ?_; intro _ hw'; obtain ⟨⟨dq, osq⟩, hw''⟩ := hw'; subst hw'')
          go_wp2
          go_roundw
          case rel => exact ⟨k + 1, by go_num, by omega, R, zaa Bw (zaa GU (below_regrown U dq osq))⟩
          case measure => simp [intOf]; omega
  · have R := Lib.hid (show zay (a0, x1, x2, x3) = true by rw [HF.out, H.out, List.drop_eq_nil_of_le (by rw [L2.out]; omega)]; rfl)
    go_wp2
    go_ret
    exact ⟨zab (by rw [R.out]), BW⟩
theorem zgn (a0 : Int) (A1 : Option Addr) (n1 c1 : Nat) (A2 : Option Addr) (n2 c2 : Nat) (A3 : Option Addr) (n3 c3 : Nat) (x1 : List (List Int)) (x2 : List Node) (x3 : List Int) (w : World) (h1 : tSS.R w w.heap.size [.slice A1 n1 c1] x1) (h2 : tNS.R w w.heap.size [.slice A2 n2 c2] x2) (h3 : tS.R w w.heap.size [.slice A3 n3 c3] x3) (hn : hP.sz ((a0, x1, x2, x3) : zaf) ≤ 100000000) :
 Calls Tryz.prog 101 #[.agg #[.int .i64 a0, .slice A1 n1 c1, .slice A2 n2 c2, .slice A3 n3 c3]] w fun e w' => e = .returned (.bool (zcb (a0, x1, x2, x3))) ∧ Below w.heap.size w w' := by
 obtain ⟨W, hW⟩ : ∃ W, W = w.alloc (.cells #[.int .i64 a0, .slice A1 n1 c1, .slice A2 n2 c2, .slice A3 n3 c3] 36) := ⟨_, rfl⟩
 have B0 : Below w.heap.size w W := by rw [hW]; exact (Below.refl _ _).alloc (Nat.le_refl _) _
 have p0 : W.cell? ⟨w.heap.size, 0, none⟩ = some (.int .i64 a0) := by rw [hW]; simp [go_sem]
 have p1 : W.cell? ⟨w.heap.size, 1, none⟩ = some (.slice A1 n1 c1) := by rw [hW]; simp [go_sem]
 have p2 : W.cell? ⟨w.heap.size, 2, none⟩ = some (.slice A2 n2 c2) := by rw [hW]; simp [go_sem]
 have p3 : W.cell? ⟨w.heap.size, 3, none⟩ = some (.slice A3 n3 c3) := by rw [hW]; simp [go_sem]
 have lx : w.heap.size < W.heap.size := by rw [hW]; simp
 have HW := Lib.hid hW
 clear hW
 have k1 := tSS.later h1 B0
 have k2 := tNS.later h2 B0
 have k3 := tS.later h3 B0
 have r1 := sl_R.1 k1
 have r2 := sl_R.1 k2
 have hx3 := (tS_R.1 k3).ri
 have L1 := Lib.hid r1.cap.1
 have L2 := Lib.hid r2.cap.1
 have L3 := Lib.hid (zdf h3)
 have hnn := hn
 rw [zef, zb8] at hnn
 have hb2 : hNS.sz x2 ≤ 100000000 := by omega
 have hq1 : x1.length + hS.szL x1 = hSS.sz x1 := rfl
 have hb1 : Hid (∀ x ∈ x1, x.length ≤ 1000000000) := Lib.hid (fun x hx => by
  obtain ⟨i, hi⟩ := List.getElem?_of_mem hx
  have := hS.szL_at hi
  rw [zb8] at this
  omega)
 have bn1 : n1 ≤ 100000000 := by have := L1.out; omega
 have bn2 : n2 ≤ 100000000 := by have e : x2.length + hN.szL x2 = hNS.sz x2 := rfl; have := L2.out; omega
 have bn3 : n3 ≤ 100000000 := by have := L3.out; omega
 clear hnn hq1
 have D1 : Below W.heap.size W W.drew := zac (Below.refl _ _) 1
 have hsd : W.drew.heap.size = W.heap.size := rfl
 cases g0 : zay (a0, x1, x2, x3)
 · have R := Lib.hid (show zcb (a0, x1, x2, x3) = false by rw [zcb, g0]; rfl)
   have cF : ∀ d os, Calls Tryz.prog 118 #[.agg #[.int .i64 a0, .slice A1 n1 c1, .slice A2 n2 c2, .slice A3 n3 c3]] (grow (redrawn W d) os) fun e w'' => e = .returned (.bool false) ∧ ∃ p : Regrown, w'' = grow (redrawn W p.d) p.os := fun d os => Calls.regrown_of (by rw [← g0]; exact zk5 _ _ _ _ _ _ _ _ _ _ _ _ _ _ (tSS.later k1 (below_regrown W d os)) (tNS.later k2 (below_regrown W d os)) (tS.later k3 (below_regrown W d os)) hn)
   have qq0 := cell_regrown p0
   have qq1 := cell_regrown p1
   have qq2 := cell_regrown p2
   have qq3 := cell_regrown p3
   clear p0 p1 p2 p3 g0 h1 h2 h3
   go_enter Tryz.func101, Tryz.ntmps101
   go_wp2_with fail
   rw [← HW.out]
   (refine wp_region_quiet_below (by kernel_rfl) (by kernel_rfl) ?_; (repeat (go_big_quiet_step (exact cF _ _))); refine wpQuiet_nil ?_; intro _ hw'; obtain ⟨⟨dq, osq⟩, hw''⟩ := hw'; subst hw'')
   go_wp2
   go_ret
   exact ⟨zab (by rw [R.out]), zaa B0 (below_regrown W dq osq)⟩
 · have G0 := Lib.hid g0
   have R := Lib.hid (show zcb (a0, x1, x2, x3) = decide ((za8 x2).length = n2) by rw [zcb, g0, L2.out]; rfl)
   have HI := Lib.hid (show ∀ x ∈ x2, ∀ f ∈ x.2.2.2, zax n2 f = true by
    rw [zay] at g0
    simp only [Bool.and_eq_true, L2.out] at g0
    intro x hx f hf
    have h4 := List.all_eq_true.1 g0.2 x hx
    rw [za7] at h4
    simp only [Bool.and_eq_true] at h4
    exact List.all_eq_true.1 h4.1.2 f hf)
   clear g0 h1 h2 h3
   generalize hO : za8 x2 = O at R
   have HO := Lib.hid hO
   clear hO
   have Dn : ∀ m, Below W.heap.size W (W.drewN m) := fun m => zac (Below.refl _ _) m
   go_enter Tryz.func101, Tryz.ntmps101
   go_wp2_with fail
   rw [← HW.out]
   go_region_with (first
    | (go_at_call 118; refine (zk5 _ _ _ _ _ _ _ _ _ _ _ _ _ _ (tSS.later k1 D1) (tNS.later k2 D1) (tS.later k3 D1) hn).mono ?_; rw [G0.out]; rintro e w2 ⟨rfl, bel2⟩; have G2 := zaa D1 bel2; have s0 : w2.cell? ⟨w.heap.size, 0, none⟩ = some (.int .i64 a0) := (by rw [G2.cell lx]; exact p0); have s1 : w2.cell? ⟨w.heap.size, 1, none⟩ = some (.slice A1 n1 c1) := (by rw [G2.cell lx]; exact p1); have s2 : w2.cell? ⟨w.heap.size, 2, none⟩ = some (.slice A2 n2 c2) := (by rw [G2.cell lx]; exact p2); have s3 : w2.cell? ⟨w.heap.size, 3, none⟩ = some (.slice A3 n3 c3) := (by rw [G2.cell lx]; exact p3))
    | (go_at_call 119; refine (zk4 _ _ _ _ _ _ _ _ _ _ _ _ (r2.later G2) hb2 HI).mono ?_; rw [HO.out]; rintro e w3 ⟨v, rfl, own, bel3⟩; obtain ⟨A9, c9, rfl, -⟩ := own.shape; have G3 := zaa G2 bel3; have s6 : w3.cell? ⟨w.heap.size, 2, none⟩ = some (.slice A2 n2 c2) := (by rw [G3.cell lx]; exact p2)))
   all_goals
    go_wp2
    go_ret
    exact ⟨zab (by rw [R.out, Bool.eq_iff_iff]; simp; try omega), zaa B0 G3⟩
theorem zfa (a0 : Int) (A1 : Option Addr) (n1 c1 : Nat) (A2 : Option Addr) (n2 c2 : Nat) (A3 : Option Addr) (n3 c3 : Nat) (x1 : List (List Int)) (x2 : List Node) (x3 : List Int) (w : World) (h1 : tSS.R w w.heap.size [.slice A1 n1 c1] x1) (h2 : tNS.R w w.heap.size [.slice A2 n2 c2] x2) (h3 : tS.R w w.heap.size [.slice A3 n3 c3] x3) (hn : hP.sz ((a0, x1, x2, x3) : zaf) ≤ 100000000) :
 Calls Tryz.prog 93 #[.agg #[.int .i64 a0, .slice A1 n1 c1, .slice A2 n2 c2, .slice A3 n3 c3]] w fun e w' => e = .returned (.bool (decide (((a0, x1, x2, x3) : zaf) = M.p0))) ∧ Below w.heap.size w w' := by
 obtain ⟨W, hW⟩ : ∃ W, W = w.alloc (.cells #[.int .i64 a0, .slice A1 n1 c1, .slice A2 n2 c2, .slice A3 n3 c3] 36) := ⟨_, rfl⟩
 have B0 : Below w.heap.size w W := by rw [hW]; exact (Below.refl _ _).alloc (Nat.le_refl _) _
 have p0 : W.cell? ⟨w.heap.size, 0, none⟩ = some (.int .i64 a0) := by rw [hW]; simp [go_sem]
 have p1 : W.cell? ⟨w.heap.size, 1, none⟩ = some (.slice A1 n1 c1) := by rw [hW]; simp [go_sem]
 have p2 : W.cell? ⟨w.heap.size, 2, none⟩ = some (.slice A2 n2 c2) := by rw [hW]; simp [go_sem]
 have p3 : W.cell? ⟨w.heap.size, 3, none⟩ = some (.slice A3 n3 c3) := by rw [hW]; simp [go_sem]
 have lx : w.heap.size < W.heap.size := by rw [hW]; simp
 have HW := Lib.hid hW
 clear hW
 have k1 := tSS.later h1 B0
 have k2 := tNS.later h2 B0
 have k3 := tS.later h3 B0
 have r1 := sl_R.1 k1
 have r2 := sl_R.1 k2
 have hx3 := (tS_R.1 k3).ri
 have L1 := Lib.hid r1.cap.1
 have L2 := Lib.hid r2.cap.1
 have L3 := Lib.hid (zdf h3)
 have hnn := hn
 rw [zef, zb8] at hnn
 have hb2 : hNS.sz x2 ≤ 100000000 := by omega
 have hq1 : x1.length + hS.szL x1 = hSS.sz x1 := rfl
 have hb1 : Hid (∀ x ∈ x1, x.length ≤ 1000000000) := Lib.hid (fun x hx => by
  obtain ⟨i, hi⟩ := List.getElem?_of_mem hx
  have := hS.szL_at hi
  rw [zb8] at this
  omega)
 have bn1 : n1 ≤ 100000000 := by have := L1.out; omega
 have bn2 : n2 ≤ 100000000 := by have e : x2.length + hN.szL x2 = hNS.sz x2 := rfl; have := L2.out; omega
 have bn3 : n3 ≤ 100000000 := by have := L3.out; omega
 clear hnn hq1
 have z1 : tSS.R W W.heap.size [.slice none 0 0] ([] : List (List Int)) := ⟨_, rfl, RS.nil _ _ _⟩
 have z2 : tNS.R W W.heap.size [.slice none 0 0] ([] : List Node) := ⟨_, rfl, RS.nil _ _ _⟩
 have z3 : tS.R W W.heap.size [.slice none 0 0] ([] : List Int) := ⟨_, rfl, RS.nil _ _ _⟩
 have hz : hP.sz ((0, [], [], []) : zaf) ≤ 100000000 := by decide
 go_enter Tryz.func93, Tryz.ntmps93
 go_wp2_with fail
 rw [← HW.out]
 refine (zp0 _ _ _ _ _ _ _ _ _ _ _ _ _ _ _ _ _ _ _ _ _ _ _ _ _ _ _ k1 z1 k2 z2 k3 z3 hn hz).mono ?_
 rintro e w2 ⟨rfl, bel2⟩
 go_wp2
 go_ret
 exact ⟨zab (by rw [Bool.eq_iff_iff, M.p0]; simp), zaa B0 bel2⟩
theorem zk6 (a0 : Int) (A1 : Option Addr) (n1 c1 : Nat) (A2 : Option Addr) (n2 c2 : Nat) (A3 : Option Addr) (n3 c3 : Nat) (x1 : List (List Int)) (x2 : List Node) (x3 : List Int) (w : World) (h1 : tSS.R w w.heap.size [.slice A1 n1 c1] x1) (h2 : tNS.R w w.heap.size [.slice A2 n2 c2] x2) (h3 : tS.R w w.heap.size [.slice A3 n3 c3] x3) (hn : hP.sz ((a0, x1, x2, x3) : zaf) ≤ 100000000) :
 Calls Tryz.prog 71 #[.agg #[.int .i64 a0, .slice A1 n1 c1, .slice A2 n2 c2, .slice A3 n3 c3]] w fun e w' => e = .returned (.bool (zaw (a0, x1, x2, x3))) ∧ Below w.heap.size w w' := by
 obtain ⟨W, hW⟩ : ∃ W, W = w.alloc (.cells #[.int .i64 a0, .slice A1 n1 c1, .slice A2 n2 c2, .slice A3 n3 c3] 36) := ⟨_, rfl⟩
 have B0 : Below w.heap.size w W := by rw [hW]; exact (Below.refl _ _).alloc (Nat.le_refl _) _
 have p0 : W.cell? ⟨w.heap.size, 0, none⟩ = some (.int .i64 a0) := by rw [hW]; simp [go_sem]
 have p1 : W.cell? ⟨w.heap.size, 1, none⟩ = some (.slice A1 n1 c1) := by rw [hW]; simp [go_sem]
 have p2 : W.cell? ⟨w.heap.size, 2, none⟩ = some (.slice A2 n2 c2) := by rw [hW]; simp [go_sem]
 have p3 : W.cell? ⟨w.heap.size, 3, none⟩ = some (.slice A3 n3 c3) := by rw [hW]; simp [go_sem]
 have lx : w.heap.size < W.heap.size := by rw [hW]; simp
 have HW := Lib.hid hW
 clear hW
 have k1 := tSS.later h1 B0
 have k2 := tNS.later h2 B0
 have k3 := tS.later h3 B0
 have r1 := sl_R.1 k1
 have r2 := sl_R.1 k2
 have hx3 := (tS_R.1 k3).ri
 have L1 := Lib.hid r1.cap.1
 have L2 := Lib.hid r2.cap.1
 have L3 := Lib.hid (zdf h3)
 have hnn := hn
 rw [zef, zb8] at hnn
 have hb2 : hNS.sz x2 ≤ 100000000 := by omega
 have hq1 : x1.length + hS.szL x1 = hSS.sz x1 := rfl
 have hb1 : Hid (∀ x ∈ x1, x.length ≤ 1000000000) := Lib.hid (fun x hx => by
  obtain ⟨i, hi⟩ := List.getElem?_of_mem hx
  have := hS.szL_at hi
  rw [zb8] at this
  omega)
 have bn1 : n1 ≤ 100000000 := by have := L1.out; omega
 have bn2 : n2 ≤ 100000000 := by have e : x2.length + hN.szL x2 = hNS.sz x2 := rfl; have := L2.out; omega
 have bn3 : n3 ≤ 100000000 := by have := L3.out; omega
 clear hnn hq1
 cases g0 : decide (((a0, x1, x2, x3) : zaf) = M.p0)
 · have G0 := Lib.hid g0
   cases g1 : zcb (a0, x1, x2, x3)
   · have G1 := Lib.hid g1
     have R := Lib.hid (show zaw (a0, x1, x2, x3) = false by rw [zaw, g0, g1]; rfl)
     clear g0 g1
     go_enter Tryz.func71, Tryz.ntmps71
     go_wp2_with fail
     rw [← HW.out]
     go_wp2_with (first
      | (go_at_call 93; refine (zfa _ _ _ _ _ _ _ _ _ _ _ _ _ _ k1 k2 k3 hn).mono ?_; rw [G0.out]; rintro e w2 ⟨rfl, bel2⟩; have s0 : w2.cell? ⟨w.heap.size, 0, none⟩ = some (.int .i64 a0) := (by rw [bel2.cell lx]; exact p0); have s1 : w2.cell? ⟨w.heap.size, 1, none⟩ = some (.slice A1 n1 c1) := (by rw [bel2.cell lx]; exact p1); have s2 : w2.cell? ⟨w.heap.size, 2, none⟩ = some (.slice A2 n2 c2) := (by rw [bel2.cell lx]; exact p2); have s3 : w2.cell? ⟨w.heap.size, 3, none⟩ = some (.slice A3 n3 c3) := (by rw [bel2.cell lx]; exact p3))
      | (go_at_call 101; refine (zgn _ _ _ _ _ _ _ _ _ _ _ _ _ _ (tSS.later k1 bel2) (tNS.later k2 bel2) (tS.later k3 bel2) hn).mono ?_; rw [G1.out]; rintro e w3 ⟨rfl, bel3⟩; have G3 := zaa bel2 bel3))
     go_ret
     exact ⟨zab (by rw [R.out]), zaa B0 G3⟩
   · have G1 := Lib.hid g1
     have R := Lib.hid (show zaw (a0, x1, x2, x3) = (decide (a0 = 1) && decide (n3 = 1)) by rw [zaw, g0, g1]; simp only [L3.out, Bool.false_or, Bool.true_and])
     clear g0 g1
     have both : ∀ (a : Int) (m : Nat), Hid (zaw (a0, x1, x2, x3) = (decide (a0 = 1) && decide (n3 = 1))) := fun _ _ => R
     by_cases ha : a0 = 1
     · subst ha
       by_cases hm : n3 = 1
       · subst hm
         go_enter Tryz.func71, Tryz.ntmps71
         go_wp2_with fail
         rw [← HW.out]
         go_wp2_with (first
          | (go_at_call 93; refine (zfa _ _ _ _ _ _ _ _ _ _ _ _ _ _ k1 k2 k3 hn).mono ?_; rw [G0.out]; rintro e w2 ⟨rfl, bel2⟩; have s0 : w2.cell? ⟨w.heap.size, 0, none⟩ = some (.int .i64 1) := (by rw [bel2.cell lx]; exact p0); have s1 : w2.cell? ⟨w.heap.size, 1, none⟩ = some (.slice A1 n1 c1) := (by rw [bel2.cell lx]; exact p1); have s2 : w2.cell? ⟨w.heap.size, 2, none⟩ = some (.slice A2 n2 c2) := (by rw [bel2.cell lx]; exact p2); have s3 : w2.cell? ⟨w.heap.size, 3, none⟩ = some (.slice A3 1 c3) := (by rw [bel2.cell lx]; exact p3))
          | (go_at_call 101; refine (zgn _ _ _ _ _ _ _ _ _ _ _ _ _ _ (tSS.later k1 bel2) (tNS.later k2 bel2) (tS.later k3 bel2) hn).mono ?_; rw [G1.out]; rintro e w3 ⟨rfl, bel3⟩; have G3 := zaa bel2 bel3; have t0 : w3.cell? ⟨w.heap.size, 0, none⟩ = some (.int .i64 1) := (by rw [G3.cell lx]; exact p0); have t3 : w3.cell? ⟨w.heap.size, 3, none⟩ = some (.slice A3 1 c3) := (by rw [G3.cell lx]; exact p3)))
         go_ret
         exact ⟨zab (by rw [R.out]; rfl), zaa B0 G3⟩
       · have gm : ((n3 : Int) == 1) = false := by simp; omega
         go_enter Tryz.func71, Tryz.ntmps71
         go_wp2_with fail
         rw [← HW.out]
         go_wp2_with (first
          | (go_at_call 93; refine (zfa _ _ _ _ _ _ _ _ _ _ _ _ _ _ k1 k2 k3 hn).mono ?_; rw [G0.out]; rintro e w2 ⟨rfl, bel2⟩; have s0 : w2.cell? ⟨w.heap.size, 0, none⟩ = some (.int .i64 1) := (by rw [bel2.cell lx]; exact p0); have s1 : w2.cell? ⟨w.heap.size, 1, none⟩ = some (.slice A1 n1 c1) := (by rw [bel2.cell lx]; exact p1); have s2 : w2.cell? ⟨w.heap.size, 2, none⟩ = some (.slice A2 n2 c2) := (by rw [bel2.cell lx]; exact p2); have s3 : w2.cell? ⟨w.heap.size, 3, none⟩ = some (.slice A3 n3 c3) := (by rw [bel2.cell lx]; exact p3))
          | (go_at_call 101; refine (zgn _ _ _ _ _ _ _ _ _ _ _ _ _ _ (tSS.later k1 bel2) (tNS.later k2 bel2) (tS.later k3 bel2) hn).mono ?_; rw [G1.out]; rintro e w3 ⟨rfl, bel3⟩; have G3 := zaa bel2 bel3; have t0 : w3.cell? ⟨w.heap.size, 0, none⟩ = some (.int .i64 1) := (by rw [G3.cell lx]; exact p0); have t3 : w3.cell? ⟨w.heap.size, 3, none⟩ = some (.slice A3 n3 c3) := (by rw [G3.cell lx]; exact p3)))
         go_ret
         exact ⟨zab (by rw [R.out]; simp [hm]), zaa B0 G3⟩
     · have ga : (a0 == 1) = false := by simpa using ha
       by_cases hm : n3 = 1
       · subst hm
         go_enter Tryz.func71, Tryz.ntmps71
         go_wp2_with fail
         rw [← HW.out]
         go_wp2_with (first
          | (go_at_call 93; refine (zfa _ _ _ _ _ _ _ _ _ _ _ _ _ _ k1 k2 k3 hn).mono ?_; rw [G0.out]; rintro e w2 ⟨rfl, bel2⟩; have s0 : w2.cell? ⟨w.heap.size, 0, none⟩ = some (.int .i64 a0) := (by rw [bel2.cell lx]; exact p0); have s1 : w2.cell? ⟨w.heap.size, 1, none⟩ = some (.slice A1 n1 c1) := (by rw [bel2.cell lx]; exact p1); have s2 : w2.cell? ⟨w.heap.size, 2, none⟩ = some (.slice A2 n2 c2) := (by rw [bel2.cell lx]; exact p2); have s3 : w2.cell? ⟨w.heap.size, 3, none⟩ = some (.slice A3 1 c3) := (by rw [bel2.cell lx]; exact p3))
          | (go_at_call 101; refine (zgn _ _ _ _ _ _ _ _ _ _ _ _ _ _ (tSS.later k1 bel2) (tNS.later k2 bel2) (tS.later k3 bel2) hn).mono ?_; rw [G1.out]; rintro e w3 ⟨rfl, bel3⟩; have G3 := zaa bel2 bel3; have t0 : w3.cell? ⟨w.heap.size, 0, none⟩ = some (.int .i64 a0) := (by rw [G3.cell lx]; exact p0); have t3 : w3.cell? ⟨w.heap.size, 3, none⟩ = some (.slice A3 1 c3) := (by rw [G3.cell lx]; exact p3)))
         go_ret
         exact ⟨zab (by rw [R.out]; simp [ha]), zaa B0 G3⟩
       · have gm : ((n3 : Int) == 1) = false := by simp; omega
         go_enter Tryz.func71, Tryz.ntmps71
         go_wp2_with fail
         rw [← HW.out]
         go_wp2_with (first
          | (go_at_call 93; refine (zfa _ _ _ _ _ _ _ _ _ _ _ _ _ _ k1 k2 k3 hn).mono ?_; rw [G0.out]; rintro e w2 ⟨rfl, bel2⟩; have s0 : w2.cell? ⟨w.heap.size, 0, none⟩ = some (.int .i64 a0) := (by rw [bel2.cell lx]; exact p0); have s1 : w2.cell? ⟨w.heap.size, 1, none⟩ = some (.slice A1 n1 c1) := (by rw [bel2.cell lx]; exact p1); have s2 : w2.cell? ⟨w.heap.size, 2, none⟩ = some (.slice A2 n2 c2) := (by rw [bel2.cell lx]; exact p2); have s3 : w2.cell? ⟨w.heap.size, 3, none⟩ = some (.slice A3 n3 c3) := (by rw [bel2.cell lx]; exact p3))
          | (go_at_call 101; refine (zgn _ _ _ _ _ _ _ _ _ _ _ _ _ _ (tSS.later k1 bel2) (tNS.later k2 bel2) (tS.later k3 bel2) hn).mono ?_; rw [G1.out]; rintro e w3 ⟨rfl, bel3⟩; have G3 := zaa bel2 bel3; have t0 : w3.cell? ⟨w.heap.size, 0, none⟩ = some (.int .i64 a0) := (by rw [G3.cell lx]; exact p0); have t3 : w3.cell? ⟨w.heap.size, 3, none⟩ = some (.slice A3 n3 c3) := (by rw [G3.cell lx]; exact p3)))
         go_ret
         exact ⟨zab (by rw [R.out]; simp [ha]), zaa B0 G3⟩
 · have G0 := Lib.hid g0
   have R := Lib.hid (show zaw (a0, x1, x2, x3) = true by rw [zaw, g0]; rfl)
   clear g0
   go_enter Tryz.func71, Tryz.ntmps71
   go_wp2_with fail
   rw [← HW.out]
   go_wp2_with (go_at_call 93; refine (zfa _ _ _ _ _ _ _ _ _ _ _ _ _ _ k1 k2 k3 hn).mono ?_; rw [G0.out]; rintro e w2 ⟨rfl, bel2⟩)
   go_ret
   exact ⟨zab (by rw [R.out]), zaa B0 bel2⟩
end
section
open Go.RowKit
theorem zqc {xs : List zad} {k : Nat} {s : ByteArray} (h : ∀ j, j < k → ∀ y, xs[j]? = some y → ¬ y.1 = s) : zdg s ((xs.take k).map (·.1)) = false := by
 rw [zdg, List.any_eq_false]
 intro t ht
 obtain ⟨y, hy, rfl⟩ := List.mem_map.1 ht
 obtain ⟨j, hj⟩ := List.getElem?_of_mem hy
 have hj2 : j < k := by
  have := (List.getElem?_eq_some_iff.1 hj).1
  rw [List.length_take] at this
  omega
 rw [List.getElem?_take, if_pos hj2] at hj
 simpa using h j hj2 y hj
theorem zqd {xs : List zad} {k j : Nat} {y : zad} (hj : j < k) (h : xs[j]? = some y) : zdg y.1 ((xs.take k).map (·.1)) = true := by
 rw [zdg, List.any_eq_true]
 refine ⟨y.1, List.mem_map.2 ⟨y, List.mem_of_getElem? (i := j) (by rw [List.getElem?_take, if_pos hj]; exact h), rfl⟩, by simp⟩
theorem zqe (vb vo : Nat) (A : Option Addr) (n c : Nat) (xs : List zad) (w : World) (hv0 : w.cell? ⟨vb, vo, none⟩ = some (.slice A n c)) (hx : tM.R w w.heap.size [.slice A n c] xs) (hn : hM.sz xs ≤ 100000000) :
 Calls Tryz.prog 72 #[.pointer (some ⟨vb, vo, none⟩)] w fun e w' => e = .returned (.bool (zas xs)) ∧ Below w.heap.size w w' := by
 have hvb : vb < w.heap.size := World.block_lt_of_cell? w _ hv0
 have rx := sl_R.1 hx
 have hlx := rx.cap.1
 have hm1 : xs.length + hSt.szL xs ≤ 100000000 := hn
 have hnb : n ≤ 100000000 := by omega
 have HLX := Lib.hid hlx
 have HM1 := Lib.hid hm1
 clear hlx hx hn hm1
 cases hI : M.inn n 1 8
 · have R := Lib.hid (show zas xs = false by rw [zas, HLX.out, hI]; rfl)
   go_enter Tryz.func72, Tryz.ntmps72
   go_wp2_with (go_at_call 25; refine (zat _ _ _ _).mono ?_; rintro e w' ⟨rfl, rfl⟩)
   go_ret
   exact ⟨zab (by rw [R.out]), Below.refl _ _⟩
 · have hb8 := zc1.1 hI
   have HI := Lib.hid hI
   go_enter Tryz.func72, Tryz.ntmps72
   go_wp2_with (go_at_call 25; refine (zat _ _ _ _).mono ?_; rintro e w' ⟨rfl, rfl⟩)
   clear hI
   go_loopw [4, 5] (fun i _ wr => ∃ k : Nat, i = .int .i64 k ∧ k ≤ n ∧ Hid (∀ j, j < k → zdp xs j = true) ∧ Below w.heap.size w wr) (fun i _ _ => n - (intOf i).toNat)
   case atStart => exact ⟨0, rfl, by omega, Lib.hid (by omega), Below.refl _ _⟩
   case round =>
    obtain ⟨k, rfl, hk, H, Bw⟩ := hrel
    have c0 : wr.cell? ⟨vb, vo, none⟩ = some (.slice A n c) := by rw [Bw.cell hvb]; exact hv0
    by_cases hlt : k < n
    · have hX := Lib.hid (List.getElem?_eq_getElem (l := xs) (i := k) (by rw [HLX.out]; exact hlt))
      obtain ⟨b, o1, cc, cs, hv, hab, -, hE, hcc⟩ := (rx.below Bw).atX hX.out
      simp only [Value.slice.injEq] at hv
      obtain ⟨rfl, -, rfl⟩ := hv
      have hU := hSt.szL_at hX.out
      generalize xs[k]'(by rw [HLX.out]; exact hlt) = x at hX hE hU
      obtain ⟨s, l, us⟩ := x
      rw [zh9] at hU
      obtain ⟨A1, n1, c1, rfl, hs, hE⟩ := st_R.1 hE
      have n1b : n1 ≤ 1000000000 := by have := (zfk hE).1.1; have := HM1.out; omega
      have e0 : wr.cell? ⟨b, o1 + k * 3, none⟩ = some (.string s) := hcc 0 _ rfl
      have e1 : wr.cell? ⟨b, o1 + k * 3 + 1, none⟩ = some (.int .i64 l) := hcc 1 _ rfl
      have e2 : wr.cell? ⟨b, o1 + k * 3 + 2, none⟩ = some (.slice A1 n1 c1) := hcc 2 _ rfl
      have hra := (zfk (tSdS.more Bw.size hE)).1
      have hS := Lib.hid (zf9 hX.out)
      have HNO := Lib.hid (fun h => zj1 (xs := xs) (k := k) (by rw [HLX.out]; exact hlt) h)
      have HC := Lib.hid (znr b (o1 + k * 3) s l A1 n1 c1 us k n wr e0 e1 e2 hs hra n1b ⟨by omega, by omega⟩ ⟨by omega, by omega⟩)
      clear hcc hU hE
      cases hST : zbi (s, l, us) k n
      · have R := Lib.hid (show zas xs = false from HNO.out (by rw [hS.out, HLX.out, hST]; rfl))
        go_wp2_with (go_at_call 102; refine HC.out.mono ?_; rw [hST]; rintro e w' ⟨rfl, rfl⟩)
        go_ret
        exact ⟨zab (by rw [R.out]), Bw⟩
      · have HST := Lib.hid hST
        clear hST
        go_wp2_with (go_at_call 102; refine HC.out.mono ?_; rw [HST.out]; rintro e w' ⟨rfl, rfl⟩)
        obtain ⟨wo, rfl⟩ : ∃ wo : World, wo = wr := ⟨_, rfl⟩
        clear HC e1 e2 hra
        go_loopw [5] (fun i wr => ∃ j : Nat, i = .int .i64 j ∧ j ≤ k ∧ Hid (∀ q, q < j → ∀ y, xs[q]? = some y → ¬ y.1 = s) ∧ Below w.heap.size w wr) (fun i _ => k - (intOf i).toNat)
        case atStart => exact ⟨0, rfl, by omega, Lib.hid (by omega), Bw⟩
        case round =>
         obtain ⟨j, rfl, hj, HJ, Bw2⟩ := hrel
         have d0 : wr.cell? ⟨vb, vo, none⟩ = some (.slice (some ⟨b, o1, none⟩) n c) := by rw [Bw2.cell hvb]; exact hv0
         by_cases hlt2 : j < k
         · have hY := Lib.hid (List.getElem?_eq_getElem (l := xs) (i := j) (by rw [HLX.out]; omega))
           obtain ⟨b', o2, cc', cs', hv', -, -, hE', hdd⟩ := (rx.below Bw2).atX hY.out
           simp only [Value.slice.injEq, Option.some.injEq, Addr.mk.injEq] at hv'
           obtain ⟨⟨rfl, rfl, -⟩, -, rfl⟩ := hv'
           generalize xs[j]'(by rw [HLX.out]; omega) = y at hY hE'
           obtain ⟨s', l', vs⟩ := y
           obtain ⟨A2, n2, c2, rfl, -, -⟩ := st_R.1 hE'
           have f0 : wr.cell? ⟨b, o1 + j * 3, none⟩ = some (.string s') := hdd 0 _ rfl
           have f1 : wr.cell? ⟨b, o1 + k * 3, none⟩ = some (.string s) := by
            obtain ⟨b2, o3, cc2, cs2, hv2, -, -, hE2, hgg⟩ := (rx.below Bw2).atX hX.out
            simp only [Value.slice.injEq, Option.some.injEq, Addr.mk.injEq] at hv2
            obtain ⟨⟨rfl, rfl, -⟩, -, rfl⟩ := hv2
            obtain ⟨A3, n3, c3, rfl, -, -⟩ := st_R.1 hE2
            exact hgg 0 _ rfl
           have hjn : (j : Int) < (n : Int) := by omega
           have hj0 : (0 : Int) ≤ (j : Int) := by omega
           have hkn : (k : Int) < (n : Int) := by omega
           clear hdd hE'
           by_cases hss : s' = s
           · have R := Lib.hid (show zas xs = false from HNO.out (by
              have h1 := zqd hlt2 hY.out
              rw [hss] at h1
              rw [hS.out, h1, Bool.not_true, Bool.and_false]))
             have h1 : s'.toList = s.toList := by rw [hss]
             subst hss
             go_wp2
             go_quiet (fail)
             go_wp2
             go_ret
             exact ⟨zab (by rw [R.out]), zac Bw2 _⟩
           · have h1 := zno hss
             have h2 : (s'.toList == s.toList) = false := by simpa using h1
             have HSS := Lib.hid hss
             clear hss
             go_wp2
             go_quiet (fail)
             go_wp2
             go_roundw
             case rel => exact ⟨j + 1, by go_num, by omega, Lib.hid (fun q hq y hy => by
              rcases Nat.lt_or_ge q j with h3 | h3
              · exact HJ.out q h3 y hy
              · obtain rfl : q = j := by omega
                rw [hY.out] at hy
                injection hy with hy
                subst hy
                exact HSS.out), zac Bw2 _⟩
             case measure => simp [intOf]; omega
         · obtain rfl : j = k := by omega
           have HGO := Lib.hid (show zdp xs j = true by rw [hS.out, HLX.out, HST.out, zqc HJ.out]; rfl)
           go_wp2
           go_roundw
           case rel => exact ⟨j + 1, by go_num, by omega, Lib.hid (fun q hq => by
            rcases Nat.lt_or_ge q j with h3 | h3
            · exact H.out q h3
            · obtain rfl : q = j := by omega
              exact HGO.out), Bw2⟩
           case measure => simp [intOf]; omega
    · have R := Lib.hid (show zas xs = true by rw [zj2 (fun j hj => H.out j (by rw [HLX.out] at hj; omega)), HLX.out, HI.out])
      go_wp2
      go_ret
      exact ⟨zab (by rw [R.out]), Bw⟩
end
section
open Go.RowKit
theorem zqf {src : List (List Int)} (h : zc9 src = true) {k : Nat} {x : List Int} (hx : src[k]? = some x) : M.sig x = true := by
 rw [zc9, Bool.and_eq_true, List.all_eq_true] at h
 exact h.2 x (List.mem_of_getElem? hx)
theorem zqg {src : List (List Int)} (h : zc9 src = true) : Hid (∀ x ∈ src, x.length ≤ 1000000000) := Lib.hid (by
 intro x hx
 obtain ⟨k, hk, rfl⟩ := List.getElem_of_mem hx
 have := zqf h (List.getElem?_eq_getElem hk)
 rw [M.sig, Bool.and_eq_true, decide_eq_true_iff] at this
 omega)
theorem zqh {xs : List Clip} {m : Int} (h : zbe xs m = true) {k : Nat} {c : Clip} (hx : xs[k]? = some c) : c.1 < m := by
 rw [zbe, List.all_eq_true] at h
 simpa using h c (List.mem_of_getElem? hx)
theorem zqi (A A' : Option Addr) (n c n' c' t : Nat) (src : List (List Int)) (xs : List Clip) (w : World) (hs : RS tS w w.heap.size (.slice A n c) src) (hx : RA cl 5 w w.heap.size A' n' xs) (hok : zc9 src = true) (hk : zau xs = true) (hh : zbe xs src.length = true) (ht : t ≤ 4000) :
 Calls Tryz.prog 91 #[.slice A n c, .agg #[.slice A' n' c'], .int .i64 t] w (Ret1 2 w (zb0 src xs t)) := by
 have hl := Lib.hid hx.len
 have hls := Lib.hid hs.cap.1
 have hn12 : n' ≤ 12 := by have := zjs hk; rw [hl.out] at this; exact this
 have OK := Lib.hid hok
 have SL := zqg hok
 have HK := Lib.hid hk
 have HH := Lib.hid hh
 clear hok hk hh
 obtain ⟨W, hW⟩ : ∃ W, W = w.alloc (.cells #[.slice A' n' c'] 42) := ⟨_, rfl⟩
 have B0 : Below w.heap.size w W := by rw [hW]; exact (Below.refl _ _).alloc (Nat.le_refl _) _
 have z0 : W.heap.size = w.heap.size + 1 := by rw [hW]; simp
 have pv0 : W.cell? ⟨w.heap.size, 0, none⟩ = some (.slice A' n' c') := by rw [hW]; simp [go_sem]
 have l0 : w.heap.size < W.heap.size := by omega
 have HW := Lib.hid hW
 have Z0 := Lib.hid z0
 clear hW z0
 go_enter Tryz.func91, Tryz.ntmps91
 go_wp2_with fail
 rw [← HW.out]
 refine (zcv _ _ (by omega) (by omega)).mono ?_
 rintro e w1 ⟨v1, rfl, own1, bel1⟩
 rw [Int.toNat_natCast, ← zf6 src] at own1
 obtain ⟨A1, c1, rfl, -⟩ := own1.shape
 rw [zf5] at *
 have pv1 : w1.cell? ⟨w.heap.size, 0, none⟩ = some (.slice A' n' c') := by rw [bel1.cell l0]; exact pv0
 have l1 := Nat.lt_of_lt_of_le l0 bel1.size
 have B1 := zaa B0 bel1
 have s1 := bel1.size
 go_wp2_with fail
 go_loopw [9, 10, 16] (fun _ _ i wr => ∃ k : Nat, i = .int .i64 k ∧ k ≤ n' ∧ OI 2 W.heap.size wr (.slice A1 t c1) (zb0 src (xs.take k) t) ∧ Below W.heap.size W wr) (fun _ _ i _ => n' - (intOf i).toNat)
 case atStart => exact ⟨0, rfl, by omega, by simpa using own1, bel1⟩
 case round =>
  obtain ⟨k, rfl, hk, own, hb⟩ := hrel
  obtain ⟨wo, rfl⟩ : ∃ wo : World, wo = wr := ⟨_, rfl⟩
  by_cases hlt : k < n'
  · obtain ⟨b, o, ⟨p0, p1, p2, p3, p4⟩, rfl, hab, X, hc⟩ := (hx.below (zaa B0 hb)).at zc8 (by decide) hlt
    have hc0 : wo.cell? ⟨b, o + k * 5, none⟩ = some (.int .i64 p0) := hc 0 _ rfl
    have hc1 : wo.cell? ⟨b, o + k * 5 + 1, none⟩ = some (.int .i64 p1) := hc 1 _ rfl
    have hc2 : wo.cell? ⟨b, o + k * 5 + 2, none⟩ = some (.int .i64 p2) := hc 2 _ rfl
    have hc3 : wo.cell? ⟨b, o + k * 5 + 3, none⟩ = some (.int .i64 p3) := hc 3 _ rfl
    have hc4 : wo.cell? ⟨b, o + k * 5 + 4, none⟩ = some (.int .i64 p4) := hc 4 _ rfl
    clear hc
    obtain ⟨b0, b2, b1, b3, b4⟩ := zjt (zh7 HK.out X.out)
    simp only at b0 b1 b2 b3 b4
    have hsl := zqh HH.out X.out
    simp only at hsl
    rw [hls.out] at hsl
    obtain ⟨s, rfl⟩ : ∃ s : Nat, p0 = s := ⟨p0.toNat, by omega⟩
    obtain ⟨a, rfl⟩ : ∃ a : Nat, p3 = a := ⟨p3.toNat, by omega⟩
    obtain ⟨f, rfl⟩ : ∃ f : Nat, p1 = f := ⟨p1.toNat, by omega⟩
    have hT := Lib.hid (M.take_at X.out)
    have hE0 := Lib.hid (zni src (xs.take k) ((s : Int), (f : Int), p2, (a : Int), p4) t)
    obtain ⟨U, hU⟩ : ∃ U, U = wo.alloc (.cells #[.int .i64 s, .int .i64 f, .int .i64 p2, .int .i64 a, .int .i64 p4] 64) := ⟨_, rfl⟩
    have bU : Below wo.heap.size wo U := by rw [hU]; exact (Below.refl _ _).alloc (Nat.le_refl _) _
    have e0 : U.cell? ⟨wo.heap.size, 0, none⟩ = some (.int .i64 s) := by rw [hU]; simp [go_sem]
    have e1 : U.cell? ⟨wo.heap.size, 1, none⟩ = some (.int .i64 f) := by rw [hU]; simp [go_sem]
    have e2 : U.cell? ⟨wo.heap.size, 2, none⟩ = some (.int .i64 p2) := by rw [hU]; simp [go_sem]
    have e3 : U.cell? ⟨wo.heap.size, 3, none⟩ = some (.int .i64 a) := by rw [hU]; simp [go_sem]
    have e4 : U.cell? ⟨wo.heap.size, 4, none⟩ = some (.int .i64 p4) := by rw [hU]; simp [go_sem]
    have lU : wo.heap.size < U.heap.size := by rw [hU]; simp
    have HU := Lib.hid hU
    clear hU
    have ownU := own.below bU
    have hbU := hb.trans (bU.mono hb.size)
    have so := hb.size
    go_wp2_with fail
    rw [← HU.out]
    clear hc0 hc1 hc2 hc3 hc4
    go_loopw [10] (fun i wr => ∃ m : Nat, i = .int .i64 m ∧ (m : Int) ≤ p2 ∧ OI 2 W.heap.size wr (.slice A1 t c1) (zdn src (xs.take k) ((s : Int), (f : Int), p2, (a : Int), p4) m t) ∧ Mid W.heap.size wo.heap.size U wr) (fun i _ => p2.toNat - (intOf i).toNat)
    case atStart => exact ⟨0, rfl, by omega, by rw [hE0.out]; exact ownU, Mid.refl _ _ _⟩
    case round =>
     obtain ⟨m, rfl, hm, own2, hm2⟩ := hrel
     have g0 : wr.cell? ⟨wo.heap.size, 0, none⟩ = some (.int .i64 s) := hm2.cellK lU (.inr (Nat.le_refl _)) e0
     have g1 : wr.cell? ⟨wo.heap.size, 1, none⟩ = some (.int .i64 f) := hm2.cellK lU (.inr (Nat.le_refl _)) e1
     have g2 : wr.cell? ⟨wo.heap.size, 2, none⟩ = some (.int .i64 p2) := hm2.cellK lU (.inr (Nat.le_refl _)) e2
     have g3 : wr.cell? ⟨wo.heap.size, 3, none⟩ = some (.int .i64 a) := hm2.cellK lU (.inr (Nat.le_refl _)) e3
     have g4 : wr.cell? ⟨wo.heap.size, 4, none⟩ = some (.int .i64 p4) := hm2.cellK lU (.inr (Nat.le_refl _)) e4
     have BW : Below W.heap.size W wr := hbU.trans (hm2.toBelow hbU.size)
     by_cases hml : (m : Int) < p2
     · by_cases hat : a + m < t
       · obtain ⟨g, rfl, hB, hgl⟩ := own.form' (by omega)
         obtain ⟨p, hp⟩ : ∃ p : Nat, p = a + m := ⟨_, rfl⟩
         obtain ⟨q, hq⟩ : ∃ q : Nat, q = f + m := ⟨_, rfl⟩
         have hpt : p < t := by omega
         have hpt2 : (p : Int) < (t : Int) := by omega
         have HP := Lib.hid (show (p : Int) = (a : Int) + (m : Int) by omega)
         have HQ := Lib.hid (show (q : Int) = (f : Int) + (m : Int) by omega)
         obtain ⟨z, Z, hc2, hf2, _, _⟩ := own2.at' (k := p) hpt
         obtain ⟨bb, oo, A3, c3, y, rfl, hbb, Y, hyc, hri, hyl⟩ := ze6 (hs.below (zaa B0 BW)) SL (k := s) (by omega)
         have hri' := hri.more (B' := wr.heap.size) (by have := B0.size; have := BW.size; omega)
         have hz : z = wrap32 (zcq src (xs.take k) (p : Int)) := by
          have := Z.out
          rw [znj hpt HP.out, Option.some.injEq] at this
          exact this.symm
         have HZ := Lib.hid hz
         have hst := Lib.hid (znk (src := src) (xs := xs.take k) (c := ((s : Int), (f : Int), p2, (a : Int), p4)) hpt HP.out hml)
         have hy0 := Lib.hid (show (src[((s : Int)).toNat]?).getD [] = y by rw [Int.toNat_natCast, Y.out]; rfl)
         have hab1 : (a : Int) + (m : Int) < t := by omega
         have e5 : IntKind.i64.wrap ((a : Int) + (m : Int)) = (p : Int) := by rw [IntWalk.i64_in _ (by omega)]; exact HP.out.symm
         have e6 : IntKind.i64.wrap ((f : Int) + (m : Int)) = (q : Int) := by rw [IntWalk.i64_in _ (by omega)]; exact HQ.out.symm
         clear hz hp hq
         go_wp2
         clear hab1
         refine wp_region_still_tail 27 (by kernel_rfl) (by kernel_rfl) ?_
         simp only [List.take_succ_cons, List.take_zero, List.drop_succ_cons, List.drop_zero]
         iterate 23 still_step
         still_call (zjk (zf2 _ _ _ _ _ _ hri' hyl (by omega)))
         iterate 2 still_step
         still_call (zjk (zc7 _ _))
         refine wpStill_nil ?_
         change wpList _ _ _ _ _ wr.drew
         go_wp2
         go_roundw
         case rel =>
          have h3 := OI.stored' own2 p (wrap32 (wrap64 (z + wrap64 (p4 * M.at_ y (q : Int)))))
          have he : wrap32 (wrap64 (z + wrap64 (p4 * M.at_ y (q : Int)))) = wrap32 (z + p4 * M.at_ y (q : Int)) := by rw [M.wrap32_64, ← M.wrap32_addr, M.wrap32_64, M.wrap32_addr]
          have hst2 := hst.out
          rw [hy0.out, ← HZ.out, ← HQ.out] at hst2
          rw [he, hst2] at h3
          refine ⟨m + 1, by go_num, by omega, ?_, (hm2.trans (Mid.of_grown (zco wr g p _) fun k hk => by injection hk with hk; omega)).trans ⟨rfl, rfl, rfl, Nat.le_refl _, fun _ _ _ => rfl⟩⟩
          rw [he]
          exact h3
         case measure => simp [intOf]; omega
       · have hnt : ¬ (a : Int) + (m : Int) < (t : Int) := by omega
         have hfin := Lib.hid (zju src (xs.take k) ((s : Int), (f : Int), p2, (a : Int), p4) m t (.inr (by simp only; omega)))
         go_wp2
         go_roundw
         case rel => exact ⟨k + 1, by go_num, by omega, by rw [hT.out, ← hfin.out]; exact own2, BW⟩
         case measure => simp [intOf]; omega
     · have hfin := Lib.hid (zju src (xs.take k) ((s : Int), (f : Int), p2, (a : Int), p4) m t (.inl (by simp only; omega)))
       go_wp2
       go_roundw
       case rel => exact ⟨k + 1, by go_num, by omega, by rw [hT.out, ← hfin.out]; exact own2, BW⟩
       case measure => simp [intOf]; omega
  · obtain rfl : n' = k := by omega
    rw [List.take_of_length_le (by rw [hl.out]; exact Nat.le_refl _)] at own
    go_wp2
    go_ret
    exact ⟨_, rfl, own.base (by rw [Z0.out]; omega), zaa B0 hb⟩
end
section
open Go.RowKit Go.Sort
set_option synthInstance.maxSize 2000
set_option synthInstance.maxHeartbeats 400000
theorem zqj {w : World} {B : Nat} {A : Option Addr} {n c : Nat} {xs : List Clip} (h : tT.R w B [.slice A n c] xs) : RA cl 5 w B A n xs := (sl_R.1 h).flat.1
theorem zhi {w : World} {B : Nat} {A : Option Addr} {n c : Nat} {ts : List (List zah)} (hr : RS tT w B (.slice A n c) ts) (hb : hTS.sz ts ≤ 100000000) {k : Nat} (hk : k < n) :
 ∃ (bb o : Nat) (A1 : Option Addr) (n1 c1 : Nat) (x : List zah), A = some ⟨bb, o, none⟩ ∧ bb < B ∧ Hid (ts[k]? = some x) ∧ w.cell? ⟨bb, o + k, none⟩ = some (.slice A1 n1 c1) ∧ tT.R w B [.slice A1 n1 c1] x ∧ RA cl 5 w B A1 n1 x ∧ n1 ≤ 100000000 := by
 obtain rfl : ts.length = n := hr.cap.1
 have hX := List.getElem?_eq_getElem hk
 obtain ⟨bb, o, c1, cs, hv, hab, -, hE, hc⟩ := hr.atX hX
 simp only [Value.slice.injEq] at hv
 obtain ⟨rfl, -, rfl⟩ := hv
 have hU := hT.szL_at hX
 have hU2 : ts.length + hT.szL ts ≤ 100000000 := hb
 generalize ts[k] = x at hX hE hU
 obtain ⟨A1, n1, c1, rfl⟩ := zbw hE
 have e0 : w.cell? ⟨bb, o + k * 1, none⟩ = some (.slice A1 n1 c1) := hc 0 _ rfl
 rw [Nat.mul_one] at e0
 have hra := zqj hE
 have hl : x.length = n1 := hra.len
 have hz : x.length ≤ hT.sz x := Nat.le_add_right _ _
 exact ⟨bb, o, A1, n1, c1, x, rfl, hab, Lib.hid hX, e0, hE, hra, by omega⟩
theorem zhj {w : World} {B : Nat} {A : Option Addr} {n c : Nat} {ps : List zaf} (hr : RS tP w B (.slice A n c) ps) (hb : hPS.sz ps ≤ 100000000) {k : Nat} (hk : k < n) :
 ∃ (bb o : Nat) (a0 : Int) (A1 : Option Addr) (n1 c1 : Nat) (A2 : Option Addr) (n2 c2 : Nat) (A3 : Option Addr) (n3 c3 : Nat) (x1 : List (List Int)) (x2 : List Node) (x3 : List Int), A = some ⟨bb, o, none⟩ ∧ bb < B ∧ Hid (ps[k]? = some (a0, x1, x2, x3)) ∧
  w.cell? ⟨bb, o + k * 4, none⟩ = some (.int .i64 a0) ∧ w.cell? ⟨bb, o + k * 4 + 1, none⟩ = some (.slice A1 n1 c1) ∧ w.cell? ⟨bb, o + k * 4 + 2, none⟩ = some (.slice A2 n2 c2) ∧ w.cell? ⟨bb, o + k * 4 + 3, none⟩ = some (.slice A3 n3 c3) ∧
  tSS.R w B [.slice A1 n1 c1] x1 ∧ tNS.R w B [.slice A2 n2 c2] x2 ∧ tS.R w B [.slice A3 n3 c3] x3 ∧ hP.sz ((a0, x1, x2, x3) : zaf) ≤ 100000000 := by
 obtain rfl : ps.length = n := hr.cap.1
 have hX := List.getElem?_eq_getElem hk
 obtain ⟨bb, o, c1, cs, hv, hab, -, hE, hc⟩ := hr.atX hX
 simp only [Value.slice.injEq] at hv
 obtain ⟨rfl, -, rfl⟩ := hv
 have hU := hP.szL_at hX
 have hU2 : ps.length + hP.szL ps ≤ 100000000 := hb
 generalize ps[k] = x at hX hE hU
 obtain ⟨a0, x1, x2, x3⟩ := x
 obtain ⟨A1, n1, c1, A2, n2, c2, A3, n3, c3, rfl, h1, h2, h3⟩ := tP_R.1 hE
 have e0 : w.cell? ⟨bb, o + k * 4, none⟩ = some (.int .i64 a0) := hc 0 _ rfl
 exact ⟨bb, o, a0, A1, n1, c1, A2, n2, c2, A3, n3, c3, x1, x2, x3, rfl, hab, Lib.hid hX, e0, hc 1 _ rfl, hc 2 _ rfl, hc 3 _ rfl, h1, h2, h3, by omega⟩
theorem zqk (vb : Nat) (a0 : Int) (A1 : Option Addr) (n1 c1 : Nat) (A2 : Option Addr) (n2 c2 : Nat) (A3 : Option Addr) (n3 c3 : Nat) (A4 : Option Addr) (n4 c4 : Nat) (A5 : Option Addr) (n5 c5 : Nat) (x1 : List (List Int)) (x2 : List (List zah)) (x3 : List Int) (x4 : List zaf) (x5 : List zad) (w : World) (p0 : w.cell? ⟨vb, 0, none⟩ = some (.int .i64 a0)) (p1 : w.cell? ⟨vb, 1, none⟩ = some (.slice A1 n1 c1)) (p2 : w.cell? ⟨vb, 2, none⟩ = some (.slice A2 n2 c2)) (p3 : w.cell? ⟨vb, 3, none⟩ = some (.slice A3 n3 c3)) (p4 : w.cell? ⟨vb, 4, none⟩ = some (.slice A4 n4 c4)) (p5 : w.cell? ⟨vb, 5, none⟩ = some (.slice A5 n5 c5)) (h1 : tSS.R w w.heap.size [.slice A1 n1 c1] x1) (h2 : tTS.R w w.heap.size [.slice A2 n2 c2] x2) (h3 : tS.R w w.heap.size [.slice A3 n3 c3] x3) (h4 : tPS.R w w.heap.size [.slice A4 n4 c4] x4) (h5 : tM.R w w.heap.size [.slice A5 n5 c5] x5) (hn : hZ.sz ((a0, x1, x2, x3, x4, x5) : Sess) ≤ 100000000) :
 Calls Tryz.prog 37 #[.pointer (some ⟨vb, 0, none⟩)] w fun e w' => e = .returned (.bool (za9 (a0, x1, x2, x3, x4, x5))) ∧ Below w.heap.size w w' := by
 have k1 := h1
 have k2 := h2
 have k3 := h3
 have k4 := h4
 have k5 := h5
 have lv : vb < w.heap.size := World.block_lt_of_cell? w _ p0
 rw [zeg] at hn
 have r1 := sl_R.1 k1
 have L1 := Lib.hid r1.cap.1
 have r2 := sl_R.1 k2
 have L2 := Lib.hid r2.cap.1
 have r3 := sl_R.1 k3
 have L3 := Lib.hid r3.cap.1
 have r4 := sl_R.1 k4
 have L4 := Lib.hid r4.cap.1
 have r5 := sl_R.1 k5
 have L5 := Lib.hid r5.cap.1
 have z1 : hSS.sz x1 ≤ 100000000 := by omega
 have bn1 : n1 ≤ 100000000 := by have e : x1.length + hS.szL x1 = hSS.sz x1 := rfl; have := L1.out; omega
 have z2 : hTS.sz x2 ≤ 100000000 := by omega
 have bn2 : n2 ≤ 100000000 := by have e : x2.length + hT.szL x2 = hTS.sz x2 := rfl; have := L2.out; omega
 have z3 : hS.sz x3 ≤ 100000000 := by omega
 have bn3 : n3 ≤ 100000000 := by have e : x3.length + hI.szL x3 = hS.sz x3 := rfl; have := L3.out; omega
 have z4 : hPS.sz x4 ≤ 100000000 := by omega
 have bn4 : n4 ≤ 100000000 := by have e : x4.length + hP.szL x4 = hPS.sz x4 := rfl; have := L4.out; omega
 have z5 : hM.sz x5 ≤ 100000000 := by omega
 have bn5 : n5 ≤ 100000000 := by have e : x5.length + hSt.szL x5 = hM.sz x5 := rfl; have := L5.out; omega
 have hb1 : Hid (∀ x ∈ x1, x.length ≤ 1000000000) := Lib.hid (fun x hx => by
  have hq1 : x1.length + hS.szL x1 = hSS.sz x1 := rfl
  obtain ⟨i, hi⟩ := List.getElem?_of_mem hx
  have := hS.szL_at hi
  rw [zb8] at this
  omega)
 have hx3 := (tS_R.1 k3).ri
 clear hn
 have HS := Lib.hid (show za9 (a0, x1, x2, x3, x4, x5) = (M.inn a0 0 1000 && (decide (n1 ≤ 6) && x1.all M.sig) && decide (n2 ≤ 6) && zas x5 && decide (n3 = n2) && x3.all (zax n5) && decide (n4 = n5) && x2.all (fun t => zau t && zbe t n1) && x4.all zaw) by rw [za9, zc9]; simp only [L1.out, L2.out, L3.out, L4.out, L5.out])
 generalize za9 (a0, x1, x2, x3, x4, x5) = ok at HS ⊢
 have cI : ∀ d os, Calls Tryz.prog 25 #[.int .i64 a0, .int .i64 0, .int .i64 1000] (grow (redrawn w d) os) fun e w'' => e = .returned (.bool (M.inn a0 0 1000)) ∧ ∃ p : Regrown, w'' = grow (redrawn w p.d) p.os := fun d os => Calls.regrown_of (zfm (zat _ _ _ _))
 have cM : ∀ d os, Calls Tryz.prog 72 #[.pointer (some ⟨vb, 5, none⟩)] (grow (redrawn w d) os) fun e w'' => e = .returned (.bool (zas x5)) ∧ ∃ p : Regrown, w'' = grow (redrawn w p.d) p.os := fun d os => Calls.regrown_of (zqe vb 5 A5 n5 c5 x5 _ (cell_regrown p5 d os) (tM.later k5 (below_regrown w d os)) z5)
 have pp0 := cell_regrown p0
 have pp1 := cell_regrown p1
 have pp2 := cell_regrown p2
 have pp3 := cell_regrown p3
 have pp4 := cell_regrown p4
 have pp5 := cell_regrown p5
 clear p0 p1 p2 p3 p4 p5
 cases g0 : M.inn a0 0 1000
 · have R := Lib.hid (show ok = false by rw [HS.out]; simp only [g0, Bool.false_and, Bool.and_false, Bool.true_and])
   rw [g0] at cI
   clear g0
   go_enter Tryz.func37, Tryz.ntmps37
   go_wp2_with fail
   (refine wp_region_quiet_below (by kernel_rfl) (by kernel_rfl) ?_; (repeat (go_big_quiet_step ((first | exact cI _ _ | exact cM _ _)))); refine wpQuiet_nil ?_; intro _ hw'; obtain ⟨⟨dq, osq⟩, hw''⟩ := hw'; subst hw'')
   go_wp2
   go_ret
   exact ⟨zab (by rw [R.out]), below_regrown w dq osq⟩
 rw [g0] at cI
 have G0 := Lib.hid g0
 clear g0
 by_cases g1 : ¬ n1 ≤ 6
 · have R := Lib.hid (show ok = false by rw [HS.out]; simp only [G0.out, decide_eq_false g1, Bool.false_and, Bool.and_false, Bool.true_and])
   have gg : decide ((6 : Int) < (n1 : Int)) = true := decide_eq_true (by omega)
   go_enter Tryz.func37, Tryz.ntmps37
   go_wp2_with fail
   (refine wp_region_quiet_below (by kernel_rfl) (by kernel_rfl) ?_; (repeat (go_big_quiet_step ((first | exact cI _ _ | exact cM _ _)))); refine wpQuiet_nil ?_; intro _ hw'; obtain ⟨⟨dq, osq⟩, hw''⟩ := hw'; subst hw'')
   go_wp2
   go_ret
   exact ⟨zab (by rw [R.out]), below_regrown w dq osq⟩
 replace g1 : n1 ≤ 6 := Decidable.not_not.1 g1
 have gd1 : decide ((6 : Int) < (n1 : Int)) = false := decide_eq_false (by omega)
 by_cases g2 : ¬ n2 ≤ 6
 · have R := Lib.hid (show ok = false by rw [HS.out]; simp only [G0.out, decide_eq_true g1, decide_eq_false g2, Bool.false_and, Bool.and_false, Bool.true_and])
   have gg : decide ((6 : Int) < (n2 : Int)) = true := decide_eq_true (by omega)
   go_enter Tryz.func37, Tryz.ntmps37
   go_wp2_with fail
   (refine wp_region_quiet_below (by kernel_rfl) (by kernel_rfl) ?_; (repeat (go_big_quiet_step ((first | exact cI _ _ | exact cM _ _)))); refine wpQuiet_nil ?_; intro _ hw'; obtain ⟨⟨dq, osq⟩, hw''⟩ := hw'; subst hw'')
   go_wp2
   go_ret
   exact ⟨zab (by rw [R.out]), below_regrown w dq osq⟩
 replace g2 : n2 ≤ 6 := Decidable.not_not.1 g2
 have gd2 : decide ((6 : Int) < (n2 : Int)) = false := decide_eq_false (by omega)
 cases g3 : zas x5
 · have R := Lib.hid (show ok = false by rw [HS.out]; simp only [G0.out, decide_eq_true g1, decide_eq_true g2, g3, Bool.false_and, Bool.and_false, Bool.true_and])
   rw [g3] at cM
   clear g3
   go_enter Tryz.func37, Tryz.ntmps37
   go_wp2_with fail
   (refine wp_region_quiet_below (by kernel_rfl) (by kernel_rfl) ?_; (repeat (go_big_quiet_step ((first | exact cI _ _ | exact cM _ _)))); refine wpQuiet_nil ?_; intro _ hw'; obtain ⟨⟨dq, osq⟩, hw''⟩ := hw'; subst hw'')
   go_wp2
   go_ret
   exact ⟨zab (by rw [R.out]), below_regrown w dq osq⟩
 rw [g3] at cM
 have G3 := Lib.hid g3
 clear g3
 by_cases g4 : ¬ n3 = n2
 · have R := Lib.hid (show ok = false by rw [HS.out]; simp only [G0.out, decide_eq_true g1, decide_eq_true g2, G3.out, decide_eq_false g4, Bool.false_and, Bool.and_false, Bool.true_and])
   have gg : ((n3 : Int) != (n2 : Int)) = true := by simp; omega
   go_enter Tryz.func37, Tryz.ntmps37
   go_wp2_with fail
   (refine wp_region_quiet_below (by kernel_rfl) (by kernel_rfl) ?_; (repeat (go_big_quiet_step ((first | exact cI _ _ | exact cM _ _)))); refine wpQuiet_nil ?_; intro _ hw'; obtain ⟨⟨dq, osq⟩, hw''⟩ := hw'; subst hw'')
   go_wp2
   go_ret
   exact ⟨zab (by rw [R.out]), below_regrown w dq osq⟩
 replace g4 : n3 = n2 := Decidable.not_not.1 g4
 subst g4
 by_cases g5 : ¬ n4 = n5
 · have R := Lib.hid (show ok = false by rw [HS.out]; simp only [G0.out, decide_eq_true g1, decide_eq_true g2, G3.out, decide_true, decide_eq_false g5, Bool.false_and, Bool.and_false, Bool.true_and])
   have gg : ((n4 : Int) != (n5 : Int)) = true := by simp; omega
   go_enter Tryz.func37, Tryz.ntmps37
   go_wp2_with fail
   (refine wp_region_quiet_below (by kernel_rfl) (by kernel_rfl) ?_; (repeat (go_big_quiet_step ((first | exact cI _ _ | exact cM _ _)))); refine wpQuiet_nil ?_; intro _ hw'; obtain ⟨⟨dq, osq⟩, hw''⟩ := hw'; subst hw'')
   go_wp2
   go_ret
   exact ⟨zab (by rw [R.out]), below_regrown w dq osq⟩
 replace g5 : n4 = n5 := Decidable.not_not.1 g5
 subst g5
 have HS2 := Lib.hid (show ok = (x1.all M.sig && x3.all (zax n4) && x2.all (fun t => zau t && zbe t n1) && x4.all zaw) by rw [HS.out]; simp only [G0.out, decide_eq_true g1, decide_eq_true g2, G3.out, decide_true, Bool.true_and, Bool.and_true])
 go_enter Tryz.func37, Tryz.ntmps37
 go_wp2_with fail
 (refine wp_region_quiet_below (by kernel_rfl) (by kernel_rfl) ?_; (repeat (go_big_quiet_step ((first | exact cI _ _ | exact cM _ _)))); refine wpQuiet_nil ?_; intro _ hw'; obtain ⟨⟨dq, osq⟩, hw''⟩ := hw'; subst hw'')
 replace pp0 := pp0 dq osq
 replace pp1 := pp1 dq osq
 replace pp2 := pp2 dq osq
 replace pp3 := pp3 dq osq
 replace pp4 := pp4 dq osq
 replace pp5 := pp5 dq osq
 have BV := below_regrown w dq osq
 replace k1 := tSS.later k1 BV
 replace k2 := tTS.later k2 BV
 replace k3 := tS.later k3 BV
 replace k4 := tPS.later k4 BV
 replace k5 := tM.later k5 BV
 clear cI cM HS r1 r2 r3 r4 r5 hx3
 generalize grow (redrawn w dq) osq = V at pp0 pp1 pp2 pp3 pp4 pp5 k1 k2 k3 k4 k5 BV ⊢
 have lV : vb < V.heap.size := World.block_lt_of_cell? V _ pp0
 have r1 := sl_R.1 k1
 have r2 := sl_R.1 k2
 have r4 := sl_R.1 k4
 have hx3 := (tS_R.1 k3).ri
 go_wp2_with fail
 go_loop [3] (fun i => ∃ k : Nat, i = .int .i64 k ∧ k ≤ n1 ∧ Hid (x1.all M.sig = (x1.drop k).all M.sig)) (fun i => n1 - (intOf i).toNat)
 case atStart => exact ⟨0, rfl, by omega, Lib.hid (by simp)⟩
 case round =>
  obtain ⟨k, rfl, hk, H⟩ := hrel
  by_cases hlt : k < n1
  · obtain ⟨bb, o, A7, c7, x, rfl, hbb, Y, hc, hri, hxl⟩ := ze6 r1 hb1 hlt
    have hd := Lib.hid (M.drop_at Y.out)
    have hk0 : (0 : Int) ≤ (k : Int) := by omega
    have hkn : (k : Int) < (n1 : Int) := by omega
    cases hs : M.sig x
    · have R := Lib.hid (show ok = false by rw [HS2.out, H.out, hd.out, List.all_cons, hs]; rfl)
      have HQ := Lib.hid hs
      clear hs
      go_wp2_with fail
      refine (zgy _ _ _ _ _ hri hxl).mono ?_
      rw [HQ.out]
      rintro e w' ⟨rfl, rfl⟩
      go_wp2
      go_ret
      exact ⟨zab (by rw [R.out]), BV⟩
    · have R := Lib.hid (show x1.all M.sig = (x1.drop (k + 1)).all M.sig by rw [H.out, hd.out, List.all_cons, hs]; rfl)
      have HQ := Lib.hid hs
      clear hs
      go_wp2_with fail
      refine (zgy _ _ _ _ _ hri hxl).mono ?_
      rw [HQ.out]
      rintro e w' ⟨rfl, rfl⟩
      go_wp2
      go_round
      case rel => exact ⟨k + 1, by go_num, by omega, R⟩
      case measure => simp [intOf]; omega
  · have HS3 := Lib.hid (show ok = (x3.all (zax n4) && x2.all (fun t => zau t && zbe t n1) && x4.all zaw) by rw [HS2.out, H.out, List.drop_eq_nil_of_le (by rw [L1.out]; omega)]; rfl)
    go_wp2_with fail
    clear H hk hlt
    go_loopw [4] (fun i wr => ∃ k : Nat, i = .int .i64 k ∧ k ≤ n3 ∧ Hid (ok = ((x3.drop k).all (zax n4) && (x2.drop k).all (fun t => zau t && zbe t n1) && x4.all zaw)) ∧ Below V.heap.size V wr) (fun i _ => n3 - (intOf i).toNat)
    case atStart => exact ⟨0, rfl, by omega, Lib.hid HS3.out, Below.refl _ _⟩
    case round =>
     obtain ⟨k, rfl, hk, H, Bw⟩ := hrel
     have BW := zaa BV Bw
     by_cases hlt : k < n3
     · obtain ⟨bt, ot, A7, n7, c7, t, rfl, hbt, Y, e0, hT, hra, h7⟩ := zhi (r2.below Bw) z2 hlt
       obtain ⟨ad, f, rfl, hab, Y3, f0⟩ := (hx3.below Bw).at hlt
       have hd := Lib.hid (M.drop_at Y.out)
       have hd3 := Lib.hid (M.drop_at Y3.out)
       have hk0 : (0 : Int) ≤ (k : Int) := by omega
       have hkn : (k : Int) < (n3 : Int) := by omega
       have hn4 : IntKind.i64.wrap ((n4 : Int) - 1) = (n4 : Int) - 1 := IntWalk.i64_in _ (by omega)
       have ee0 := cell_regrown e0
       have ff0 := cell_regrown f0
       have q0 := cell_regrown (show wr.cell? ⟨vb, 0, none⟩ = some (.int .i64 a0) by rw [Bw.cell lV]; exact pp0)
       have q1 := cell_regrown (show wr.cell? ⟨vb, 1, none⟩ = some (.slice A1 n1 c1) by rw [Bw.cell lV]; exact pp1)
       have q2 := cell_regrown (show wr.cell? ⟨vb, 2, none⟩ = some (.slice (some ⟨bt, ot, none⟩) n3 c2) by rw [Bw.cell lV]; exact pp2)
       have q3 := cell_regrown (show wr.cell? ⟨vb, 3, none⟩ = some (.slice (some ad) n3 c3) by rw [Bw.cell lV]; exact pp3)
       have q5 := cell_regrown (show wr.cell? ⟨vb, 5, none⟩ = some (.slice A5 n4 c5) by rw [Bw.cell lV]; exact pp5)
       have q2w : wr.cell? ⟨vb, 2, none⟩ = some (.slice (some ⟨bt, ot, none⟩) n3 c2) := by rw [Bw.cell lV]; exact pp2
       have hra2 := fun d os => (hra.more Bw.size).later (below_regrown wr d os)
       have cT : ∀ d os, Calls Tryz.prog 73 #[.pointer (some ⟨bt, ot + k, none⟩), .int .i64 n1] (grow (redrawn wr d) os) fun e w'' => e = .returned (.bool (zau t && zbe t n1)) ∧ ∃ p : Regrown, w'' = grow (redrawn wr p.d) p.os := fun d os => Calls.regrown_of (zp5 bt (ot + k) A7 n7 c7 t n1 _ (ee0 d os) (hra2 d os) (by omega) (by omega))
       have cI : ∀ d os, Calls Tryz.prog 25 #[.int .i64 f, .int .i64 0, .int .i64 ((n4 : Int) - 1)] (grow (redrawn wr d) os) fun e w'' => e = .returned (.bool (M.inn f 0 ((n4 : Int) - 1))) ∧ ∃ p : Regrown, w'' = grow (redrawn wr p.d) p.os := fun d os => Calls.regrown_of (zfm (zat _ _ _ _))
       clear e0 f0
       cases hs : (zau t && zbe t n1)
       · have R := Lib.hid (show ok = false by rw [H.out, hd.out, hd3.out, List.all_cons, List.all_cons]; simp only [hs, Bool.false_and, Bool.and_false])
         rw [hs] at cT
         clear hs
         go_wp2_with fail
         clear q2w
         (refine wp_region_quiet_below (by kernel_rfl) (by kernel_rfl) ?_; (repeat (go_big_quiet_step ((first | exact cT _ _ | exact cI _ _)))); refine wpQuiet_nil ?_; intro _ hw'; obtain ⟨⟨dq, osq⟩, hw''⟩ := hw'; subst hw'')
         go_wp2
         go_ret
         exact ⟨zab (by rw [R.out]), zaa BW (below_regrown wr dq osq)⟩
       · rw [hs] at cT
         cases hf : M.inn f 0 ((n4 : Int) - 1)
         · have R := Lib.hid (show ok = false by rw [H.out, hd.out, hd3.out, List.all_cons, List.all_cons, zax]; simp only [hf, Bool.false_and])
           rw [hf] at cI
           clear hs hf
           go_wp2_with fail
           clear q2w
           (refine wp_region_quiet_below (by kernel_rfl) (by kernel_rfl) ?_; (repeat (go_big_quiet_step ((first | exact cT _ _ | exact cI _ _)))); refine wpQuiet_nil ?_; intro _ hw'; obtain ⟨⟨dq, osq⟩, hw''⟩ := hw'; subst hw'')
           go_wp2
           go_ret
           exact ⟨zab (by rw [R.out]), zaa BW (below_regrown wr dq osq)⟩
         · have R := Lib.hid (show ok = ((x3.drop (k + 1)).all (zax n4) && (x2.drop (k + 1)).all (fun t => zau t && zbe t n1) && x4.all zaw) by rw [H.out, hd.out, hd3.out, List.all_cons, List.all_cons, zax]; simp only [hf, hs, Bool.true_and])
           rw [hf] at cI
           clear hs hf
           go_wp2_with fail
           clear q2w
           (refine wp_region_quiet_below (by kernel_rfl) (by kernel_rfl) ?_; (repeat (go_big_quiet_step ((first | exact cT _ _ | exact cI _ _)))); refine wpQuiet_nil ?_; intro _ hw'; obtain ⟨⟨dq, osq⟩, hw''⟩ := hw'; subst hw'')
           go_wp2
           go_roundw
           case rel => exact ⟨k + 1, by go_num, by omega, R, zaa Bw (below_regrown wr dq osq)⟩
           case measure => simp [intOf]; omega
     · have HS4 := Lib.hid (show ok = x4.all zaw by rw [H.out, List.drop_eq_nil_of_le (by rw [L3.out]; omega), List.drop_eq_nil_of_le (by rw [L2.out]; omega)]; rfl)
       have q2 : wr.cell? ⟨vb, 2, none⟩ = some (.slice A2 n3 c2) := by rw [Bw.cell lV]; exact pp2
       go_wp2_with fail
       clear H hk
       obtain ⟨wo, rfl⟩ : ∃ wo : World, wo = wr := ⟨_, rfl⟩
       go_loopw [5] (fun i wr => ∃ k : Nat, i = .int .i64 k ∧ k ≤ n4 ∧ Hid (ok = (x4.drop k).all zaw) ∧ Below V.heap.size V wr) (fun i _ => n4 - (intOf i).toNat)
       case atStart => exact ⟨0, rfl, by omega, Lib.hid HS4.out, Bw⟩
       case round =>
        obtain ⟨k, rfl, hk, H, Bw2⟩ := hrel
        have BW := zaa BV Bw2
        have q4 : wr.cell? ⟨vb, 4, none⟩ = some (.slice A4 n4 c4) := by rw [Bw2.cell lV]; exact pp4
        by_cases hlt2 : k < n4
        · obtain ⟨bp, op, b0, B1, m1, d1, B2, m2, d2, B3, m3, d3, y1, y2, y3, rfl, hbp, Y, e0, e1, e2, e3, t1, t2, t3, hz⟩ := zhj (r4.below Bw2) z4 hlt2
          have hd := Lib.hid (M.drop_at Y.out)
          have s1 := tSS.more Bw2.size t1
          have s2 := tNS.more Bw2.size t2
          have s3 := tS.more Bw2.size t3
          have M1 := Lib.hid (sl_R.1 s1).cap.1
          have M2 := Lib.hid (sl_R.1 s2).cap.1
          have M3 := Lib.hid (zdf s3)
          have hk0 : (0 : Int) ≤ (k : Int) := by omega
          have hkn : (k : Int) < (n4 : Int) := by omega
          clear t1 t2 t3
          cases hno : decide (((b0, y1, y2, y3) : zaf) = M.p0)
          · have HNO := Lib.hid hno
            by_cases hb0 : b0 = 1
            · subst hb0
              by_cases hm3 : m3 = 1
              · subst hm3
                cases hp : zcb (1, y1, y2, y3)
                · have R := Lib.hid (show ok = false by rw [H.out, hd.out, List.all_cons, zaw]; simp only [hno, hp, Bool.false_or, Bool.false_and])
                  have HP := Lib.hid hp
                  clear hno hp
                  go_wp2_with (first
                   | (go_at_call 74; refine (zgk bp (op + k * 4) 1 B1 m1 d1 B2 m2 d2 B3 1 d3 y1 y2 y3 wr e0 e1 e2 e3 M1 M2 M3).mono ?_; rw [HNO.out]; rintro e w' ⟨rfl, rfl⟩)
                   | (go_at_call 75; refine (zk1 bp (op + k * 4) 1 B1 m1 d1 B2 m2 d2 B3 1 d3 y1 y2 y3 wr e0 e1 e2 e3 s1 s2 s3 hz).mono ?_; rw [HP.out]; rintro e w5 ⟨rfl, bel5⟩))
                  go_ret
                  exact ⟨zab (by rw [R.out]), zaa BW bel5⟩
                · have R := Lib.hid (show ok = (x4.drop (k + 1)).all zaw by rw [H.out, hd.out, List.all_cons, zaw]; simp only [hno, hp, M3.out, decide_true, Bool.false_or, Bool.true_and])
                  have HP := Lib.hid hp
                  clear hno hp
                  go_wp2_with (first
                   | (go_at_call 74; refine (zgk bp (op + k * 4) 1 B1 m1 d1 B2 m2 d2 B3 1 d3 y1 y2 y3 wr e0 e1 e2 e3 M1 M2 M3).mono ?_; rw [HNO.out]; rintro e w' ⟨rfl, rfl⟩)
                   | (go_at_call 75; refine (zk1 bp (op + k * 4) 1 B1 m1 d1 B2 m2 d2 B3 1 d3 y1 y2 y3 wr e0 e1 e2 e3 s1 s2 s3 hz).mono ?_; rw [HP.out]; rintro e w5 ⟨rfl, bel5⟩))
                  go_roundw
                  case rel => exact ⟨k + 1, by go_num, by omega, R, zaa Bw2 bel5⟩
                  case measure => simp [intOf]; omega
              · have R := Lib.hid (show ok = false by rw [H.out, hd.out, List.all_cons, zaw]; simp only [hno, M3.out, decide_eq_false hm3, Bool.false_or, Bool.and_false, Bool.false_and])
                have gm : ((m3 : Int) != 1) = true := by simp; omega
                clear hno
                go_wp2_with (go_at_call 74; refine (zgk bp (op + k * 4) 1 B1 m1 d1 B2 m2 d2 B3 m3 d3 y1 y2 y3 wr e0 e1 e2 e3 M1 M2 M3).mono ?_; rw [HNO.out]; rintro e w' ⟨rfl, rfl⟩)
                go_ret
                exact ⟨zab (by rw [R.out]), BW⟩
            · have R := Lib.hid (show ok = false by rw [H.out, hd.out, List.all_cons, zaw]; simp only [hno, decide_eq_false hb0, Bool.false_or, Bool.and_false, Bool.false_and])
              have gb : (b0 != 1) = true := by simpa using hb0
              clear hno
              go_wp2_with (go_at_call 74; refine (zgk bp (op + k * 4) b0 B1 m1 d1 B2 m2 d2 B3 m3 d3 y1 y2 y3 wr e0 e1 e2 e3 M1 M2 M3).mono ?_; rw [HNO.out]; rintro e w' ⟨rfl, rfl⟩)
              go_ret
              exact ⟨zab (by rw [R.out]), BW⟩
          · have R := Lib.hid (show ok = (x4.drop (k + 1)).all zaw by rw [H.out, hd.out, List.all_cons, zaw]; simp only [hno, Bool.true_or, Bool.true_and])
            have HNO := Lib.hid hno
            clear hno
            go_wp2_with (go_at_call 74; refine (zgk bp (op + k * 4) b0 B1 m1 d1 B2 m2 d2 B3 m3 d3 y1 y2 y3 wr e0 e1 e2 e3 M1 M2 M3).mono ?_; rw [HNO.out]; rintro e w' ⟨rfl, rfl⟩)
            go_roundw
            case rel => exact ⟨k + 1, by go_num, by omega, R, Bw2⟩
            case measure => simp [intOf]; omega
        · have R := Lib.hid (show ok = true by rw [H.out, List.drop_eq_nil_of_le (by rw [L4.out]; omega)]; rfl)
          go_wp2
          go_ret
          exact ⟨zab (by rw [R.out]), BW⟩
end
section
open Go.RowKit Go.Sort
theorem zgo (A : Option Addr) (n c : Nat) (xs : List (List Int)) (w : World) (hx : tSS.R w w.heap.size [.slice A n c] xs) (hn : hSS.sz xs ≤ 100000000) :
 Calls Tryz.prog 109 #[.slice A n c] w fun e w' => ∃ v, e = .returned v ∧ OS tS 26 w' (Iv w.heap.size w'.heap.size) v xs ∧ Below w.heap.size w w' := by
 have rx := sl_R.1 hx
 have hl := Lib.hid rx.cap.1
 have hq1 : xs.length + hS.szL xs = hSS.sz xs := rfl
 have hb1 : Hid (∀ x ∈ xs, x.length ≤ 1000000000) := Lib.hid (fun x hx => by
  obtain ⟨i, hi⟩ := List.getElem?_of_mem hx
  have := hS.szL_at hi
  rw [zb8] at this
  omega)
 have hnb : n ≤ 100000000 := by have := hl.out; omega
 have hxl : xs.length ≤ 100000000 := by omega
 clear hx hn hq1
 go_enter Tryz.func109, Tryz.ntmps109
 go_wp2_with fail
 go_loopw [3, 9] (fun v i wr => ∃ k : Nat, i = .int .i64 k ∧ k ≤ n ∧ OS tS 26 wr (Iv w.heap.size wr.heap.size) v (xs.take k) ∧ Below w.heap.size w wr) (fun _ i _ => n - (intOf i).toNat)
 case atStart => exact ⟨0, rfl, by omega, OS.made0 _ _ _, (Below.refl _ _).alloc (Nat.le_refl _) _⟩
 case round =>
  obtain ⟨k, rfl, hk, own, Bw⟩ := hrel
  by_cases hlt : k < n
  · obtain ⟨bb, o, A1, c1, x, rfl, hbb, X, hc, hri, hxl2⟩ := ze6 (rx.below Bw) hb1 hlt
    have hri2 := hri.more Bw.size
    have hx9 := hb1.out x (List.mem_of_getElem? X.out)
    have hpt := Lib.hid (M.take_at X.out)
    have hpl : (xs.take k).length ≤ 100000000 := by rw [List.length_take]; omega
    have hsb := Bw.size
    go_wp2_with fail
    refine (zdm _ _ _ _ _ hri2 (by omega)).mono ?_
    rintro e w1 ⟨v1, rfl, own1, bel1⟩
    obtain ⟨A4, c4, rfl, -⟩ := own1.shape
    have ow := own.below bel1 (Nat.le_refl _)
    have os2 := tS_O.2 (OI.os own1)
    have s2 := bel1.size
    go_wp2_with (at_builtin; refine zaz ei_S #[.slice A4 x.length c4] rfl _ _ rfl ow os2 (Iv.apart (Nat.le_refl _)) rfl rfl (by unfold maxLen; omega) (by omega) ?_; intro v3 w4 own4 ch4)
    go_roundw
    case rel =>
     refine ⟨k + 1, by go_num, by omega, ?_, (Bw.trans (bel1.mono hsb)).trans (ch4.toBelow (fun b hb => hb.1) (by omega))⟩
     rw [hpt.out]
     exact own4.wide (Iv.grow hsb s2 ch4.size)
    case measure => simp [intOf]; omega
  · obtain rfl : k = n := by omega
    go_wp2
    go_ret
    rw [List.take_of_length_le (by rw [hl.out]; exact Nat.le_refl _)] at own
    exact ⟨_, rfl, own, Bw⟩
theorem zql (a0 a1 a2 : Int) (A : Option Addr) (n c : Nat) (xs : List Int) (w : World) (hx : RI w w.heap.size A n xs) (hn : n ≤ 100000000) :
 Calls Tryz.prog 127 #[.agg #[.int .i64 a0, .int .i64 a1, .int .i64 a2, .slice A n c]] w fun e w' => ∃ A' n' c', e = .returned (.agg #[.int .i64 a0, .int .i64 a1, .int .i64 a2, .slice A' n' c']) ∧ tN.O w' (Iv w.heap.size w'.heap.size) [.int .i64 a0, .int .i64 a1, .int .i64 a2, .slice A' n' c'] (a0, a1, a2, xs) ∧ Below w.heap.size w w' := by
 obtain rfl : xs.length = n := hx.len
 obtain ⟨W, hW⟩ : ∃ W, W = (w.alloc (.cells #[.int .i64 a0, .int .i64 a1, .int .i64 a2, .slice A xs.length c] 122)).alloc (.cells #[.int .i64 0, .int .i64 0, .int .i64 0, .slice none 0 0] 122) := ⟨_, rfl⟩
 have B0 : Below w.heap.size w W := by rw [hW]; exact ((Below.refl _ _).alloc (Nat.le_refl _) _).alloc (by simp) _
 have lW : w.heap.size + 1 < W.heap.size := by rw [hW]; simp
 have p0 : W.cell? ⟨w.heap.size, 0, none⟩ = some (.int .i64 a0) := by rw [hW]; simp [go_sem]
 have pf0 : W.frozen? ⟨w.heap.size, 0, none⟩ = false := by rw [hW]; simp [go_sem]
 have r0 : W.cell? ⟨w.heap.size + 1, 0, none⟩ = some (.int .i64 0) := by rw [hW]; simp [go_sem]
 have rf0 : W.frozen? ⟨w.heap.size + 1, 0, none⟩ = false := by rw [hW]; simp [go_sem]
 have p1 : W.cell? ⟨w.heap.size, 1, none⟩ = some (.int .i64 a1) := by rw [hW]; simp [go_sem]
 have pf1 : W.frozen? ⟨w.heap.size, 1, none⟩ = false := by rw [hW]; simp [go_sem]
 have r1 : W.cell? ⟨w.heap.size + 1, 1, none⟩ = some (.int .i64 0) := by rw [hW]; simp [go_sem]
 have rf1 : W.frozen? ⟨w.heap.size + 1, 1, none⟩ = false := by rw [hW]; simp [go_sem]
 have p2 : W.cell? ⟨w.heap.size, 2, none⟩ = some (.int .i64 a2) := by rw [hW]; simp [go_sem]
 have pf2 : W.frozen? ⟨w.heap.size, 2, none⟩ = false := by rw [hW]; simp [go_sem]
 have r2 : W.cell? ⟨w.heap.size + 1, 2, none⟩ = some (.int .i64 0) := by rw [hW]; simp [go_sem]
 have rf2 : W.frozen? ⟨w.heap.size + 1, 2, none⟩ = false := by rw [hW]; simp [go_sem]
 have p3 : W.cell? ⟨w.heap.size, 3, none⟩ = some (.slice A xs.length c) := by rw [hW]; simp [go_sem]
 have pf3 : W.frozen? ⟨w.heap.size, 3, none⟩ = false := by rw [hW]; simp [go_sem]
 have r3 : W.cell? ⟨w.heap.size + 1, 3, none⟩ = some (.slice none 0 0) := by rw [hW]; simp [go_sem]
 have rf3 : W.frozen? ⟨w.heap.size + 1, 3, none⟩ = false := by rw [hW]; simp [go_sem]
 have HW := Lib.hid hW
 have hx1 := hx.later B0
 clear hW
 go_enter Tryz.func127, Tryz.ntmps127
 go_wp2_with fail
 rw [← HW.out]
 refine (zdm _ _ _ _ _ hx1 (by omega)).mono ?_
 rintro e w1 ⟨v1, rfl, own1, bel1⟩
 obtain ⟨A4, c4, rfl, -⟩ := own1.shape
 have s1 := bel1.size
 replace p0 : w1.cell? ⟨w.heap.size, 0, none⟩ = some (.int .i64 a0) := by rw [bel1.cell (by show w.heap.size < W.heap.size; omega)]; exact p0
 replace pf0 : w1.frozen? ⟨w.heap.size, 0, none⟩ = false := by rw [bel1.frozen (by show w.heap.size < W.heap.size; omega)]; exact pf0
 replace r0 : w1.cell? ⟨w.heap.size + 1, 0, none⟩ = some (.int .i64 0) := by rw [bel1.cell (by show w.heap.size + 1 < W.heap.size; omega)]; exact r0
 replace rf0 : w1.frozen? ⟨w.heap.size + 1, 0, none⟩ = false := by rw [bel1.frozen (by show w.heap.size + 1 < W.heap.size; omega)]; exact rf0
 replace p1 : w1.cell? ⟨w.heap.size, 1, none⟩ = some (.int .i64 a1) := by rw [bel1.cell (by show w.heap.size < W.heap.size; omega)]; exact p1
 replace pf1 : w1.frozen? ⟨w.heap.size, 1, none⟩ = false := by rw [bel1.frozen (by show w.heap.size < W.heap.size; omega)]; exact pf1
 replace r1 : w1.cell? ⟨w.heap.size + 1, 1, none⟩ = some (.int .i64 0) := by rw [bel1.cell (by show w.heap.size + 1 < W.heap.size; omega)]; exact r1
 replace rf1 : w1.frozen? ⟨w.heap.size + 1, 1, none⟩ = false := by rw [bel1.frozen (by show w.heap.size + 1 < W.heap.size; omega)]; exact rf1
 replace p2 : w1.cell? ⟨w.heap.size, 2, none⟩ = some (.int .i64 a2) := by rw [bel1.cell (by show w.heap.size < W.heap.size; omega)]; exact p2
 replace pf2 : w1.frozen? ⟨w.heap.size, 2, none⟩ = false := by rw [bel1.frozen (by show w.heap.size < W.heap.size; omega)]; exact pf2
 replace r2 : w1.cell? ⟨w.heap.size + 1, 2, none⟩ = some (.int .i64 0) := by rw [bel1.cell (by show w.heap.size + 1 < W.heap.size; omega)]; exact r2
 replace rf2 : w1.frozen? ⟨w.heap.size + 1, 2, none⟩ = false := by rw [bel1.frozen (by show w.heap.size + 1 < W.heap.size; omega)]; exact rf2
 replace p3 : w1.cell? ⟨w.heap.size, 3, none⟩ = some (.slice A xs.length c) := by rw [bel1.cell (by show w.heap.size < W.heap.size; omega)]; exact p3
 replace pf3 : w1.frozen? ⟨w.heap.size, 3, none⟩ = false := by rw [bel1.frozen (by show w.heap.size < W.heap.size; omega)]; exact pf3
 replace r3 : w1.cell? ⟨w.heap.size + 1, 3, none⟩ = some (.slice none 0 0) := by rw [bel1.cell (by show w.heap.size + 1 < W.heap.size; omega)]; exact r3
 replace rf3 : w1.frozen? ⟨w.heap.size + 1, 3, none⟩ = false := by rw [bel1.frozen (by show w.heap.size + 1 < W.heap.size; omega)]; exact rf3
 have B1 := zaa B0 bel1
 have lw1 : w.heap.size < w1.heap.size := by omega
 have lw2 : w.heap.size + 1 < w1.heap.size := by omega
 have o1 := tS_O.2 (OI.os own1)
 clear B0 HW
 obtain ⟨U, hU⟩ : ∃ U, U = w1.setCell ⟨w.heap.size, 3, none⟩ (.slice A4 xs.length c4) := ⟨_, rfl⟩
 have m1 : Mid w.heap.size (w.heap.size + 1) w1 U := by rw [hU]; exact Mid.of_grown (zco w1 w.heap.size 3 _) fun k hk => by injection hk with hk; omega
 have eU : U.heap.size = w1.heap.size := by rw [hU]; simp
 have BU : Below (w.heap.size + 1) w1 U ∨ True := .inr trivial
 have u0 : U.cell? ⟨w.heap.size + 1, 0, none⟩ = some (.int .i64 0) := by rw [hU]; simp [go_sem, r0, lw1]
 have v0 : U.frozen? ⟨w.heap.size + 1, 0, none⟩ = false := by rw [hU]; simp [go_sem, rf0, lw1]
 have u1 : U.cell? ⟨w.heap.size + 1, 1, none⟩ = some (.int .i64 0) := by rw [hU]; simp [go_sem, r1, lw1]
 have v1 : U.frozen? ⟨w.heap.size + 1, 1, none⟩ = false := by rw [hU]; simp [go_sem, rf1, lw1]
 have u2 : U.cell? ⟨w.heap.size + 1, 2, none⟩ = some (.int .i64 0) := by rw [hU]; simp [go_sem, r2, lw1]
 have v2 : U.frozen? ⟨w.heap.size + 1, 2, none⟩ = false := by rw [hU]; simp [go_sem, rf2, lw1]
 have u3 : U.cell? ⟨w.heap.size + 1, 3, none⟩ = some (.slice none 0 0) := by rw [hU]; simp [go_sem, r3, lw1]
 have v3 : U.frozen? ⟨w.heap.size + 1, 3, none⟩ = false := by rw [hU]; simp [go_sem, rf3, lw1]
 have HU := Lib.hid hU
 clear hU BU
 go_wp2
 rw [← HU.out]
 have mm : Mid w.heap.size (w.heap.size + 1 + 1) U ((((U.setCell ⟨w.heap.size + 1, 0, none⟩ (.int .i64 a0)).setCell ⟨w.heap.size + 1, 1, none⟩ (.int .i64 a1)).setCell ⟨w.heap.size + 1, 2, none⟩ (.int .i64 a2)).setCell ⟨w.heap.size + 1, 3, none⟩ (.slice A4 xs.length c4)) := ((((Mid.of_grown (zco _ _ 0 _) (fun k hk => by injection hk with hk; omega)).trans (Mid.of_grown (zco _ _ 1 _) (fun k hk => by injection hk with hk; omega))).trans (Mid.of_grown (zco _ _ 2 _) (fun k hk => by injection hk with hk; omega))).trans (Mid.of_grown (zco _ _ 3 _) (fun k hk => by injection hk with hk; omega)))
 clear p0 p1 p2 p3 pf0 pf1 pf2 pf3 r0 r1 r2 r3 rf0 rf1 rf2 rf3
 refine bodyPost_ret (v := .agg #[.int .i64 a0, .int .i64 a1, .int .i64 a2, .slice A4 xs.length c4]) (by simp [results, Tryz.results127, go_sem, u0, u1, u2, u3, v0, v1, v2, v3]) rfl ?_
 have hM := (m1.wide (Nat.le_refl _) (Nat.le_succ _)).trans mm
 have eE := mm.size
 refine ⟨A4, xs.length, c4, rfl, tN_O.2 ⟨A4, xs.length, c4, Iv W.heap.size w1.heap.size, rfl, tS.omid o1 hM (.inr (by omega)) (Nat.le_refl _), Iv.mono (by omega) (by have := hM.size; omega)⟩, B1.trans (hM.toBelow (by omega))⟩
end
section
open Go.RowKit Go.Sort
theorem Chg.up {F G : Nat → Prop} {a b c : World} (h : Chg G a b) (k : Chg F b c) (hf : ∀ x, x < a.heap.size → F x → G x) : Chg G a c :=
 ⟨k.os.trans h.os, k.tape.trans h.tape, k.output.trans h.output, Nat.le_trans h.size k.size, fun i hi hn => (k.block i (Nat.lt_of_lt_of_le hi h.size) (fun hF => hn (hf i hi hF))).trans (h.block i hi hn)⟩
theorem Chg.upB {G : Nat → Prop} {a b c : World} (h : Chg G a b) (k : Below b.heap.size b c) : Chg G a c := h.up (Chg.of_below k (fun _ => False)) (fun _ _ h => h.elim)
theorem Chg.cell {F : Nat → Prop} {a b : World} (h : Chg F a b) {k j : Nat} (hk : k < a.heap.size) (hn : ¬ F k) : b.cell? ⟨k, j, none⟩ = a.cell? ⟨k, j, none⟩ := by
 exact World.cell?_of_block (h.block k hk hn)
theorem Chg.frozen {F : Nat → Prop} {a b : World} (h : Chg F a b) {k j : Nat} (hk : k < a.heap.size) (hn : ¬ F k) : b.frozen? ⟨k, j, none⟩ = a.frozen? ⟨k, j, none⟩ := by
 have hb := h.block k hk hn
 simp only [World.frozen?]
 rw [hb]
structure Gr (g f : Nat) (w0 w : World) (v : Value) : Prop where
 chg : Chg (fun b => b = g) w0 w
 cel : w.cell? ⟨g, f, none⟩ = some v
 oth : ∀ j, j ≠ f → w.cell? ⟨g, j, none⟩ = w0.cell? ⟨g, j, none⟩
 fro : ∀ j, w.frozen? ⟨g, j, none⟩ = w0.frozen? ⟨g, j, none⟩
theorem Gr.start {g f : Nat} {w : World} {v : Value} (h : w.cell? ⟨g, f, none⟩ = some v) : Gr g f w w v := ⟨Chg.refl _ _, h, fun _ _ => rfl, fun _ => rfl⟩
theorem Gr.below {g f : Nat} {w0 w w' : World} {v : Value} (h : Gr g f w0 w v) (hb : Below w.heap.size w w') (hg : g < w.heap.size) : Gr g f w0 w' v :=
 ⟨h.chg.upB hb, by rw [hb.cell (p := ⟨g, f, none⟩) hg]; exact h.cel, fun j hj => by rw [hb.cell (p := ⟨g, j, none⟩) hg]; exact h.oth j hj, fun j => by rw [hb.frozen (p := ⟨g, j, none⟩) hg]; exact h.fro j⟩
theorem Gr.row {g f : Nat} {w0 w w' : World} {v : Value} {F : Nat → Prop} (h : Gr g f w0 w v) (hc : Chg F w w') (hg : g < w.heap.size) (hF : ∀ b, F b → w0.heap.size ≤ b ∧ b ≠ g) : Gr g f w0 w' v :=
 ⟨h.chg.up hc (fun x hx hFx => by have := hF x hFx; omega), by rw [hc.cell hg (fun e => (hF g e).2 rfl)]; exact h.cel, fun j hj => by rw [hc.cell hg (fun e => (hF g e).2 rfl)]; exact h.oth j hj, fun j => by rw [hc.frozen hg (fun e => (hF g e).2 rfl)]; exact h.fro j⟩
theorem Gr.set {g f : Nat} {w0 w : World} {v : Value} (h : Gr g f w0 w v) (hz : w0.frozen? ⟨g, f, none⟩ = false) (u : Value) : Gr g f w0 (w.setCell ⟨g, f, none⟩ u) u := by
 have hfr : w.frozen? ⟨g, f, none⟩ = false := by rw [h.fro]; exact hz
 have hc := h.cel
 refine ⟨h.chg.trans (Chg.set w g f u rfl), by simp [go_sem, hc], fun j hj => ?_, fun j => ?_⟩
 · rw [← h.oth j hj]
   simp [go_sem, Ne.symm hj]
   try omega
 · rw [← h.fro j]
   simp [go_sem]
end
section
open Go.RowKit Go.Sort
theorem zeu (w : World) (z0 z1 z2 z3 : Value) (t : TypeId) : ∃ U, U = w.alloc (.cells #[z0, z1, z2, z3] t) ∧ Below w.heap.size w U ∧ U.heap.size = w.heap.size + 1 ∧ U.cell? ⟨w.heap.size, 0, none⟩ = some z0 ∧ U.cell? ⟨w.heap.size, 1, none⟩ = some z1 ∧ U.cell? ⟨w.heap.size, 2, none⟩ = some z2 ∧ U.cell? ⟨w.heap.size, 3, none⟩ = some z3 ∧ (∀ j, U.frozen? ⟨w.heap.size, j, none⟩ = false) :=
 ⟨_, rfl, (Below.refl _ _).alloc (Nat.le_refl _) _, by simp, by simp [go_sem], by simp [go_sem], by simp [go_sem], by simp [go_sem], fun j => by simp [go_sem]⟩
theorem zb2 (w : World) (z0 z1 z2 z3 z4 z5 : Value) (t : TypeId) : ∃ U, U = w.alloc (.cells #[z0, z1, z2, z3, z4, z5] t) ∧ Below w.heap.size w U ∧ U.heap.size = w.heap.size + 1 ∧ U.cell? ⟨w.heap.size, 0, none⟩ = some z0 ∧ U.cell? ⟨w.heap.size, 1, none⟩ = some z1 ∧ U.cell? ⟨w.heap.size, 2, none⟩ = some z2 ∧ U.cell? ⟨w.heap.size, 3, none⟩ = some z3 ∧ U.cell? ⟨w.heap.size, 4, none⟩ = some z4 ∧ U.cell? ⟨w.heap.size, 5, none⟩ = some z5 ∧ (∀ j, U.frozen? ⟨w.heap.size, j, none⟩ = false) :=
 ⟨_, rfl, (Below.refl _ _).alloc (Nat.le_refl _) _, by simp, by simp [go_sem], by simp [go_sem], by simp [go_sem], by simp [go_sem], by simp [go_sem], by simp [go_sem], fun j => by simp [go_sem]⟩
theorem zfb (w : World) (z0 : Value) (t : TypeId) : ∃ U, U = w.alloc (.cells #[z0] t) ∧ Below w.heap.size w U ∧ U.heap.size = w.heap.size + 1 ∧ U.cell? ⟨w.heap.size, 0, none⟩ = some z0 ∧ (∀ j, U.frozen? ⟨w.heap.size, j, none⟩ = false) :=
 ⟨_, rfl, (Below.refl _ _).alloc (Nat.le_refl _) _, by simp, by simp [go_sem], fun j => by simp [go_sem]⟩
theorem zk7 (w : World) (z0 z1 z2 : Value) (t : TypeId) : ∃ U, U = w.alloc (.cells #[z0, z1, z2] t) ∧ Below w.heap.size w U ∧ U.heap.size = w.heap.size + 1 ∧ U.cell? ⟨w.heap.size, 0, none⟩ = some z0 ∧ U.cell? ⟨w.heap.size, 1, none⟩ = some z1 ∧ U.cell? ⟨w.heap.size, 2, none⟩ = some z2 ∧ (∀ j, U.frozen? ⟨w.heap.size, j, none⟩ = false) :=
 ⟨_, rfl, (Below.refl _ _).alloc (Nat.le_refl _) _, by simp, by simp [go_sem], by simp [go_sem], by simp [go_sem], fun j => by simp [go_sem]⟩
theorem box6 {U : World} {g : Nat} {z0 z1 z2 z3 z4 z5 : Value} (c0 : U.cell? ⟨g, 0, none⟩ = some z0) (c1 : U.cell? ⟨g, 1, none⟩ = some z1) (c2 : U.cell? ⟨g, 2, none⟩ = some z2) (c3 : U.cell? ⟨g, 3, none⟩ = some z3) (c4 : U.cell? ⟨g, 4, none⟩ = some z4) (c5 : U.cell? ⟨g, 5, none⟩ = some z5) (f : ∀ j, U.frozen? ⟨g, j, none⟩ = false) (v0 v1 v2 v3 v4 v5 : Value) :
 ∃ U', U' = (((((U.setCell ⟨g, 0, none⟩ v0).setCell ⟨g, 1, none⟩ v1).setCell ⟨g, 2, none⟩ v2).setCell ⟨g, 3, none⟩ v3).setCell ⟨g, 4, none⟩ v4).setCell ⟨g, 5, none⟩ v5 ∧ U'.cell? ⟨g, 0, none⟩ = some v0 ∧ U'.cell? ⟨g, 1, none⟩ = some v1 ∧ U'.cell? ⟨g, 2, none⟩ = some v2 ∧ U'.cell? ⟨g, 3, none⟩ = some v3 ∧ U'.cell? ⟨g, 4, none⟩ = some v4 ∧ U'.cell? ⟨g, 5, none⟩ = some v5 ∧ (∀ j, U'.frozen? ⟨g, j, none⟩ = false) ∧ Chg (fun b => b = g) U U' ∧ U'.heap.size = U.heap.size := by
 refine ⟨_, rfl, by simp [go_sem, c0], by simp [go_sem, c1], by simp [go_sem, c2], by simp [go_sem, c3], by simp [go_sem, c4], by simp [go_sem, c5], fun j => by simp [go_sem, f j], (((((Chg.set (F := fun b => b = g) _ g 0 v0 rfl).trans (Chg.set _ g 1 v1 rfl)).trans (Chg.set _ g 2 v2 rfl)).trans (Chg.set _ g 3 v3 rfl)).trans (Chg.set _ g 4 v4 rfl)).trans (Chg.set _ g 5 v5 rfl), by simp⟩
theorem zqm (xs : List zah) : ∀ u ∈ xs.flatMap cl, u.oneCell' = true := by
 intro u hu
 obtain ⟨x, -, hx⟩ := List.mem_flatMap.1 hu
 simp only [cl, List.mem_cons, List.mem_nil_iff, or_false] at hx
 rcases hx with h | h | h | h | h <;> rw [h] <;> rfl
theorem zqn (xs : List (Int × Int)) : ∀ u ∈ xs.flatMap sd, u.oneCell' = true := by
 intro u hu
 obtain ⟨x, -, hx⟩ := List.mem_flatMap.1 hu
 simp only [sd, List.mem_cons, List.mem_nil_iff, or_false] at hx
 rcases hx with h | h <;> rw [h] <;> rfl
theorem zk8 {w : World} {B : Nat} {A : Option Addr} {n c : Nat} {ms : List zad} (hr : RS tSt w B (.slice A n c) ms) (hb : hM.sz ms ≤ 100000000) {k : Nat} (hk : k < n) :
 ∃ (bb o : Nat) (s : ByteArray) (l : Int) (A1 : Option Addr) (n1 c1 : Nat) (us : List (Int × Int)), A = some ⟨bb, o, none⟩ ∧ bb < B ∧ Hid (ms[k]? = some (s, l, us)) ∧ w.cell? ⟨bb, o + k * 3, none⟩ = some (.string s) ∧ w.cell? ⟨bb, o + k * 3 + 1, none⟩ = some (.int .i64 l) ∧ w.cell? ⟨bb, o + k * 3 + 2, none⟩ = some (.slice A1 n1 c1) ∧ s.size ≤ maxLen ∧ RA sd 2 w B A1 n1 us ∧ n1 ≤ 100000000 := by
 obtain rfl : ms.length = n := hr.cap.1
 have hX := List.getElem?_eq_getElem hk
 obtain ⟨bb, o, c1, cs, hv, hab, -, hE, hc⟩ := hr.atX hX
 simp only [Value.slice.injEq] at hv
 obtain ⟨rfl, -, rfl⟩ := hv
 have hU := hSt.szL_at hX
 have hU2 : ms.length + hSt.szL ms ≤ 100000000 := hb
 generalize ms[k] = x at hX hE hU
 obtain ⟨s, l, us⟩ := x
 obtain ⟨A1, n1, c1, rfl, hs, hS⟩ := st_R.1 hE
 have hra : RA sd 2 w B A1 n1 us := (sl_R.1 hS).flat.1
 have hl : us.length = n1 := hra.len
 have hz : us.length ≤ hSt.sz (s, l, us) := by
  have e : hSt.sz (s, l, us) = s.size + (0 + (us.length + hSd.szL us)) := rfl
  omega
 have e0 : w.cell? ⟨bb, o + k * 3, none⟩ = some (.string s) := hc 0 _ rfl
 exact ⟨bb, o, s, l, A1, n1, c1, us, rfl, hab, Lib.hid hX, e0, hc 1 _ rfl, hc 2 _ rfl, hs, hra, by omega⟩
end
end Go.Proofs.YtfkcoiefkjmdeaaGreat
