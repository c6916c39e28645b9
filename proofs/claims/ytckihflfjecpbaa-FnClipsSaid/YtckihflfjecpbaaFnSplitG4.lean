import Derived.Test.YtckihflfjecpbaaFnSplitG3
import Derived.Deep.DeepCutAuto
import Derived.Shelf.Spec.SlicesInsert
import Derived.Lib.AppendZerosOnto
import Derived.Laws.NewBlocks
set_option linter.unusedVariables false
set_option linter.unusedSimpArgs false
namespace Go.Proofs.Ytckihflfjecpbaa
open Go.RowKit
set_option maxHeartbeats 1000000
set_option maxRecDepth 100000
theorem cls_oneCell (xs : List (Int × Int × Int × Int × Int)) : ∀ u ∈ xs.flatMap cl, u.oneCell' = true := by
  intro u hu
  obtain ⟨p, _, hp⟩ := List.mem_flatMap.1 hu
  simp only [cl, List.mem_cons, List.not_mem_nil, or_false] at hp
  rcases hp with rfl | rfl | rfl | rfl | rfl <;> rfl
theorem slices_Clone_impl_Clip_impl_Clip (A : Option Addr) (n c : Nat) (xs : List (Int × Int × Int × Int × Int)) (w : World) (hx : RA cl 5 w w.heap.size A n xs) (hn : n ≤ 1000000000) :
    Calls Try.prog 113 #[.slice A n c] w fun e w' => ∃ v, e = .returned v ∧ OA cl 78 5 w.heap.size w'.heap.size w' v xs ∧ Below w.heap.size w w' := by
  have hl := Lib.hid hx.len
  rcases A with _ | ad
  · have hx0 : xs = [] := by
      rcases Nat.eq_zero_or_pos n with h0 | h0
      · exact List.eq_nil_of_length_eq_zero (by rw [hl.out]; exact h0)
      · obtain ⟨ad, h, _⟩ := hx.2.2 h0
        cases h
    have hx0' := Lib.hid hx0
    clear hx0
    have heq := Lib.run_eql_slice_nil (P := Try.prog) w 63 78 none n c 0 0 Try.underlying63
    go_enter Try.func113, Try.ntmps113
    go_wp2
    go_ret
    rw [hx0'.out]
    exact ⟨_, rfl, OA.nil _, Below.refl _ _⟩
  · have heq := Lib.run_eql_slice_nil (P := Try.prog) w 63 78 (some ad) n c 0 0 Try.underlying63
    have h0 : (w.alloc (.cells #[] 78)).ownsRow w.heap.size 78 5 (.slice (some ⟨w.heap.size, 0, none⟩) 0 0) 0 [] := World.ownsRow_made _ _ _ (Nat.le_refl _) (by simp [maxLen]) rfl
    have hb0 : Below w.heap.size w (w.alloc (.cells #[] 78)) := (Below.refl _ _).alloc (Nat.le_refl _) _
    go_enter Try.func113, Try.ntmps113
    go_wp2_with (at_builtin; refine wpList_cat ei_cl rfl _ _ rfl h0 rfl (Reads.below hx.reads hb0) rfl (cls_oneCell _) (by unfold maxLen; omega) (by omega) hb0.size ?_; intro v1 w1 own1 gr1 bel1)
    go_ret
    rw [Nat.zero_add, List.nil_append, ← hl.out] at own1
    exact ⟨_, rfl, OX.of_own own1, hb0.trans bel1⟩
theorem slices_Delete_impl_Clip_impl_Clip (g n c k lo hi : Nat) (xs : List (Int × Int × Int × Int × Int)) (w : World) (own : OA cl 78 5 lo hi w (.slice (some ⟨g, 0, none⟩) n c) xs) (hk : k < n) (hn : n ≤ 1000000000) (hnc : n ≤ c) (hcm : c ≤ maxLen) :
    Calls Try.prog 140 #[.slice (some ⟨g, 0, none⟩) n c, .int .i64 k, .int .i64 ((k : Int) + 1)] w fun e w' => e = .returned (.slice (some ⟨g, 0, none⟩) (n - 1) c) ∧ OA cl 78 5 lo hi w' (.slice (some ⟨g, 0, none⟩) (n - 1) c) (xs.take k ++ xs.drop (k + 1)) ∧ Mid lo hi w w' := by
  have hm := OX.m_eq own
  unfold OA at own
  rw [← hm] at own
  have hm' := Lib.hid hm
  unfold maxLen at hcm
  obtain ⟨news, hnews⟩ : ∃ news, news = (xs.drop (k + 1)).flatMap cl := ⟨_, rfl⟩
  have hlen : news.length = (n - (k + 1)) * 5 := by rw [hnews, flat_len cl_len, List.length_drop, hm'.out]
  have hone : Hid (∀ u ∈ news, u.oneCell' = true) := by rw [hnews]; exact cls_oneCell _
  have hnews' := Lib.hid hnews
  have hlen' := Lib.hid hlen
  have ownd : w.drew.ownsRow lo 78 5 (.slice (some ⟨g, 0, none⟩) n c) n (xs.flatMap cl) := ⟨own.1.1, own.1.2⟩
  have hsp : Hid (∀ t, t < news.length → (w.drew.cell? ⟨g, 0 + k * 5 + t, none⟩).isSome = true ∧ w.drew.frozen? ⟨g, 0 + k * 5 + t, none⟩ = false) := by
    intro t ht
    have := own_cells ownd (j := 0 + k * 5 + t) (by omega)
    exact this
  have hsrc : Hid (∀ t u, news[t]? = some u → w.drew.cell? ((⟨g, (k + 1) * 5, none⟩ : Addr).add t) = some u) := by
    intro t u ht
    have htl := (List.getElem?_eq_some_iff.1 ht).1
    rw [Addr.add_lit, World.ownsRow.cellAt ownd _ (by omega), ← ht, hnews, ← flat_drop cl_len, List.getElem?_drop]
  obtain ⟨o1, g1⟩ := own_setCells news _ _ (0 + k * 5) ownd
  obtain ⟨zs, hzl, hcl⟩ := run_clear_wide (P := Try.prog) (w.drew.setCells g (0 + k * 5) news) 63 78 (.agg #[.int .i64 0, .int .i64 0, .int .i64 0, .int .i64 0, .int .i64 0]) 5 Try.underlying63 (fun _ => by kernel_rfl) rfl (by simp [Value.cells, Value.oneCell']) g ((k + (n - (k + 1))) * 5) (n - (k + (n - (k + 1)))) (c - (k + (n - (k + 1)))) (by omega)
    (fun j hj => own_cells o1 (by omega))
  obtain ⟨o2, g2⟩ := own_setCells zs _ _ ((k + (n - (k + 1))) * 5) o1
  obtain ⟨W1, hW1⟩ : ∃ W1, W1 = w.drew.setCells g (0 + k * 5) news := ⟨_, rfl⟩
  rw [← hW1] at hcl o1 o2 g1 g2
  have hW := Lib.hid hW1
  have HCL := Lib.hid hcl
  have hfin : Hid (OA cl 78 5 lo hi (W1.setCells g ((k + (n - (k + 1))) * 5) zs) (.slice (some ⟨g, 0, none⟩) (k + (n - (k + 1))) c) (xs.take k ++ xs.drop (k + 1)) ∧ Mid lo hi w (W1.setCells g ((k + (n - (k + 1))) * 5) zs)) := by
    have o3 := own_cut o2 (k := k + (n - (k + 1))) (by omega)
    have hlx : (xs.flatMap cl).length = n * 5 := own.1.1
    rw [setAll_eq zs _ _ (by rw [setAll_len, hlx, hzl]; omega), setAll_eq news _ _ (by rw [hlx, hlen]; omega), Nat.zero_add] at o3
    have e1 : (((xs.flatMap cl).take (k * 5) ++ news ++ (xs.flatMap cl).drop (k * 5 + news.length)).take ((k + (n - (k + 1))) * 5) ++ zs ++ ((xs.flatMap cl).take (k * 5) ++ news ++ (xs.flatMap cl).drop (k * 5 + news.length)).drop ((k + (n - (k + 1))) * 5 + zs.length)).take ((k + (n - (k + 1))) * 5) = (xs.take k ++ xs.drop (k + 1)).flatMap cl := by
      rw [List.append_assoc, List.take_left' (by simp [hlx, hlen, hzl]; omega), List.take_left' (by simp [hlx, hlen]; omega), flat_take cl_len, List.flatMap_append, hnews'.out]
    rw [e1] at o3
    have hle : (xs.take k ++ xs.drop (k + 1)).length = k + (n - (k + 1)) := by rw [List.length_append, List.length_take, List.length_drop, hm'.out]; omega
    have hgl : lo ≤ g ∧ g < hi := ⟨(World.ownsRow.lt own.1 g rfl).1, own.2 g rfl⟩
    refine ⟨⟨by rw [hle]; exact o3, fun q hq => by injection hq with hq; subst hq; exact hgl.2⟩, ?_⟩
    have hd : Mid lo hi w w.drew := ⟨rfl, rfl, rfl, Nat.le_refl _, fun _ _ _ => rfl⟩
    exact (hd.trans (Mid.of_grown g1 fun q hq => by injection hq with hq; subst hq; exact hgl)).trans (Mid.of_grown g2 fun q hq => by injection hq with hq; subst hq; exact hgl)
  obtain ⟨i0, hi0, hz0, hz1, hz2⟩ := info_parts (ei_cl).2.1
  have hkc : k ≤ c := by omega
  have hkc1 : k + 1 ≤ c := by omega
  have hb1 : (0 : Int) ≤ (k : Int) + 1 := by omega
  have hb2 : (k : Int) + 1 ≤ (n : Int) := by omega
  clear hW1 hcl o1 o2 g1 g2 own ownd hnews hlen hm
  by_cases hck : c = k + 1
  · subst hck
    obtain rfl : n = k + 1 := by omega
    have hnil := Lib.hid (show news.length = 0 * 5 by have := hlen'.out; omega)
    have hb3 : (k : Int) ≤ (k : Int) + 1 := by omega
    have hsrc0 : Hid (∀ t u, news[t]? = some u → w.drew.cell? ((⟨g, 0, none⟩ : Addr).add t) = some u) := by
      intro t u ht
      have := (List.getElem?_eq_some_iff.1 ht).1
      have := hnil.out
      omega
    simp only [Nat.sub_self, Nat.add_zero, Nat.add_sub_cancel_left] at HCL hfin hzl
    clear hlen' hsrc hb2
    have hb2 : (k : Int) + 1 ≤ ((k + 1 : Nat) : Int) := by omega
    go_enter Try.func140, Try.ntmps140
    go_wp2_with fail
    go_region_law (refine step_append_room rfl (.tmp 22) (.tmp 25) 63 rfl 78 i0 5 Try.underlying63 hi0 hz1 g 0 k (k + 1) (by simp [Act.eval, Act.put]) ⟨g, 0, none⟩ 0 0 news (by simp [Act.eval, Act.put]) hnil.out hsrc0.out hone.out (by omega) hsp.out ?_; rw [← hW.out])
    have hcl := HCL.out
    go_wp2
    go_ret
    exact ⟨rfl, hfin.out⟩
  · go_enter Try.func140, Try.ntmps140
    go_wp2_with fail
    go_region_law (refine step_append_room rfl (.tmp 22) (.tmp 25) 63 rfl 78 i0 5 Try.underlying63 hi0 hz1 g 0 k c (by simp [Act.eval, Act.put]) ⟨g, (k + 1) * 5, none⟩ (n - (k + 1)) (c - (k + 1)) news (by simp [Act.eval, Act.put]) hlen'.out hsrc.out hone.out (by omega) hsp.out ?_; rw [← hW.out])
    have hcl := HCL.out
    have hne : ¬ c = k + (n - (k + 1)) := by omega
    have hle1 : k + (n - (k + 1)) ≤ n := by omega
    go_wp2
    go_ret
    rw [show n - 1 = k + (n - (k + 1)) by omega]
    exact ⟨rfl, hfin.out⟩
theorem impl_Track_without (A : Option Addr) (n c k : Nat) (xs : List (Int × Int × Int × Int × Int)) (w : World) (hx : RA cl 5 w w.heap.size A n xs) (hn : n ≤ 1000000000) (hk : k < n) :
    Calls Try.prog 107 #[.agg #[.slice A n c], .int .i64 k] w fun e w' => ∃ v, e = .returned (.agg #[v]) ∧ OA cl 78 5 w.heap.size w'.heap.size w' v (M.dropP xs k) ∧ Below w.heap.size w w' := by
  have hl := Lib.hid hx.len
  have hb2 : Below w.heap.size w ((w.alloc (.cells #[.slice A n c] 65)).alloc (.cells #[.slice none 0 0] 65)) := ((Below.refl _ _).alloc (Nat.le_refl _) _).alloc (by simp) _
  have hx1 := hx.later hb2
  go_enter Try.func107, Try.ntmps107
  go_wp2_with fail
  refine (slices_Clone_impl_Clip_impl_Clip _ _ _ _ _ hx1 hn).mono ?_
  rintro e w2 ⟨v, rfl, own2, bel2⟩
  obtain ⟨A2, c2, rfl, hc2, hm2, -⟩ := own_shape own2.1
  obtain ⟨g, rfl, hg1, hg2, hg3, -⟩ := own2.form (by rw [hl.out]; omega)
  have hq : w2.cell? ⟨w.heap.size + 1, 0, none⟩ = some (.slice none 0 0) := by rw [bel2.cell (by simp)]; simp [go_sem]
  have hf : w2.frozen? ⟨w.heap.size + 1, 0, none⟩ = false := by rw [bel2.frozen (by simp)]; simp [go_sem]
  have hs2 : w.heap.size + 1 + 1 ≤ w2.heap.size := by have := bel2.size; simpa using this
  have e0 : ((w.alloc (.cells #[.slice A n c] 65)).alloc (.cells #[.slice none 0 0] 65)).heap.size = w.heap.size + 1 + 1 := by simp
  rw [e0] at own2
  clear e0
  go_wp2_with fail
  refine (slices_Delete_impl_Clip_impl_Clip g xs.length c2 k _ _ xs w2 own2 (by rw [hl.out]; exact hk) (by rw [hl.out]; exact hn) hc2 hm2).mono ?_
  rintro e w3 ⟨rfl, own3, m3⟩
  have B3 : Below (w.heap.size + 1 + 1) w2 w3 := m3.toBelow hs2
  have hq3 : w3.cell? ⟨w.heap.size + 1, 0, none⟩ = some (.slice none 0 0) := by rw [B3.cell (by simp)]; exact hq
  have hf3 : w3.frozen? ⟨w.heap.size + 1, 0, none⟩ = false := by rw [B3.frozen (by simp)]; exact hf
  go_wp2
  refine bodyPost_ret (v := .agg #[.slice (some ⟨g, 0, none⟩) (xs.length - 1) c2]) (by simp [results, Try.results107, go_sem, hq3, hf3]) rfl ?_
  exact ⟨_, rfl, (own3.mid (Mid.cell w3 (w.heap.size + 1) 0 (.slice (some ⟨g, 0, none⟩) (xs.length - 1) c2)) (.inr (Nat.le_refl _)) m3.size).wide (by omega) (by simpa using m3.size), ((hb2.trans (bel2.mono hb2.size)).trans (B3.mono (by omega))).setCell (by simp) _⟩
theorem spec_l23Drop (A : Option Addr) (n c k : Nat) (xs : List (Int × Int × Int × Int × Int)) (w : World) (hx : RA cl 5 w w.heap.size A n xs) (hn : n ≤ 1000000000) (hk : k < n) (hc : n ≤ c) (hm : c ≤ maxLen) :
    Calls Try.prog 104 #[.slice A n c, .int .i64 k] w fun e w' => ∃ v, e = .returned v ∧ OA cl 78 5 w.heap.size w'.heap.size w' v (M.dropP xs k) ∧ Below w.heap.size w w' := by
  have hl := Lib.hid hx.len
  unfold maxLen at hm
  obtain ⟨b, o, x0, rfl, hab, X0, hc0⟩ := hx.at cl_len (by decide) (k := 0) (by omega)
  clear hc0 X0 x0
  have h0 : (w.alloc (.cells #[] 78)).ownsRow w.heap.size 78 5 (.slice (some ⟨w.heap.size, 0, none⟩) 0 0) 0 [] := World.ownsRow_made _ _ _ (Nat.le_refl _) (by simp [maxLen]) rfl
  have hb0 : Below w.heap.size w (w.alloc (.cells #[] 78)) := (Below.refl _ _).alloc (Nat.le_refl _) _
  have r1 := (hx.head cl_len (Nat.le_of_lt hk)).reads.below hb0
  have r2 := (hx.cut cl_len (k := k + 1) hk hc).reads
  have fin : ∀ v (w1 w2 : World), w2.ownsRow w.heap.size 78 5 v (k + (n - (k + 1))) ((xs.take k).flatMap cl ++ (xs.drop (k + 1)).flatMap cl) → OA cl 78 5 w.heap.size w2.heap.size w2 v (M.dropP xs k) := by
    intro v w1 w2 h
    unfold OA M.dropP
    rw [← List.flatMap_append] at h
    rw [List.length_append, List.length_take, List.length_drop, hl.out, Nat.min_eq_left (Nat.le_of_lt hk)]
    exact OX.of_own h
  have FIN := Lib.hid fin
  clear fin
  by_cases hck : c = k + 1
  · rw [if_pos hck] at r2
    subst hck
    obtain rfl : n = k + 1 := by omega
    rw [Nat.sub_self] at r2 FIN
    have tok1 : True := trivial
    go_enter Try.func104, Try.ntmps104
    go_wp2_with (first | (at_builtin; have _t := tok1; refine wpList_cat ei_cl rfl _ _ rfl h0 rfl r1 rfl (cls_oneCell _) (by unfold maxLen; omega) (by omega) hb0.size ?_; intro v1 w1 own1 gr1 bel1; rw [Nat.zero_add, List.nil_append] at own1; obtain ⟨A1, c1, rfl, -⟩ := own_shape own1; have hb1 := hb0.trans bel1; clear tok1 _t) | (at_builtin; refine wpList_cat ei_cl rfl _ _ rfl own1 rfl (r2.below hb1) rfl (cls_oneCell _) (by unfold maxLen; omega) (by omega) hb1.size ?_; intro v2 w2 own2 gr2 bel2))
    go_ret
    exact ⟨_, rfl, FIN.out _ w1 _ own2, hb1.trans bel2⟩
  · rw [if_neg hck, Option.map_some, Addr.add_lit] at r2
    have tok1 : True := trivial
    go_enter Try.func104, Try.ntmps104
    go_wp2_with (first | (at_builtin; have _t := tok1; refine wpList_cat ei_cl rfl _ _ rfl h0 rfl r1 rfl (cls_oneCell _) (by unfold maxLen; omega) (by omega) hb0.size ?_; intro v1 w1 own1 gr1 bel1; rw [Nat.zero_add, List.nil_append] at own1; obtain ⟨A1, c1, rfl, -⟩ := own_shape own1; have hb1 := hb0.trans bel1; clear tok1 _t) | (at_builtin; refine wpList_cat ei_cl rfl _ _ rfl own1 rfl (r2.below hb1) rfl (cls_oneCell _) (by unfold maxLen; omega) (by omega) hb1.size ?_; intro v2 w2 own2 gr2 bel2))
    go_ret
    exact ⟨_, rfl, FIN.out _ w1 _ own2, hb1.trans bel2⟩
end Go.Proofs.Ytckihflfjecpbaa
namespace Go.Proofs.Ytckihflfjecpbaa
open Go.RowKit
set_option maxHeartbeats 1000000
set_option maxRecDepth 100000
def M.askT (xs : List Clip) (k : Int) : Int := if M.trackOk xs then (if M.inn k 0 ((xs.length : Int) - 1) then 0 else 2) else 1
theorem M.askT_zero {xs : List Clip} {k : Int} (h : M.askT xs k = 0) : M.trackOk xs = true ∧ 0 ≤ k ∧ k < xs.length ∧ xs.length ≤ 12 := by
  unfold M.askT at h
  split at h
  · rename_i hok
    split at h
    · rename_i hin
      have := M.inn_iff.1 hin
      have h2 := hok
      rw [M.trackOk, Bool.and_eq_true, decide_eq_true_iff] at h2
      exact ⟨hok, this.1, by omega, h2.2⟩
    · simp at h
  · simp at h
/-- What a function of a track and a code gives back. -/
def RetT (e : TypeId) (w : World) (r : List Clip × Int) (en : Ending) (w' : World) : Prop :=
  ∃ v, en = .returned (.tuple #[.agg #[v], .int .i64 r.2]) ∧ OA cl e 5 w.heap.size w'.heap.size w' v r.1 ∧ Below w.heap.size w w'
theorem impl_size_impl_Clip (A : Option Addr) (n c : Nat) (w : World) : Calls Try.prog 139 #[.slice A n c] w fun e w' => e = .returned (.int .i64 n) ∧ w = w' := by
  go_enter Try.func139, Try.ntmps139
  go_wp2
  go_ret
  exact ⟨rfl, rfl⟩
theorem impl_clipCode (A : Option Addr) (n c : Nat) (xs : List Clip) (k : Int) (w : World) (hx : RA cl 5 w w.heap.size A n xs) (hn : n ≤ 1000000000) :
    Calls Try.prog 106 #[.agg #[.slice A n c], .int .i64 k] w fun e w' => e = .returned (.int .i64 (M.askT xs k)) ∧ Below w.heap.size w w' := by
  have hl := Lib.hid hx.len
  have hb1 : Below w.heap.size w (w.alloc (.cells #[.slice A n c] 65)) := (Below.refl _ _).alloc (Nat.le_refl _) _
  have hx1 := hx.later hb1
  have hself := lay_cell w (.slice A n c) 65
  cases hok : M.trackOk xs
  · go_enter Try.func106, Try.ntmps106
    go_wp2_with (go_at_call 123; refine (impl_isTrack _ _ _ _ _ hx1 hn).mono ?_; rw [hok]; rintro e w2 ⟨rfl, bel2⟩)
    go_ret
    exact ⟨by rw [M.askT, hok]; rfl, hb1.trans (bel2.mono hb1.size)⟩
  · cases hin : M.inn k 0 ((n : Int) - 1)
    all_goals
      go_enter Try.func106, Try.ntmps106
      go_wp2_with (first | (go_at_call 139; refine (impl_size_impl_Clip _ _ _ _).mono ?_; rintro e w' ⟨rfl, rfl⟩) | (go_at_call 123; refine (impl_isTrack _ _ _ _ _ hx1 hn).mono ?_; rw [hok]; rintro e w2 ⟨rfl, bel2⟩; have hv2 : w2.cell? ⟨w.heap.size, 0, none⟩ = some (.slice A n c) := (by rw [bel2.cell (by simp)]; exact hself)) | (go_at_call 81; refine (impl_within _ _ _ _).mono ?_; rw [hin]; rintro e w' ⟨rfl, rfl⟩))
      go_ret
      exact ⟨by rw [M.askT, hok, hl.out, hin]; rfl, hb1.trans (bel2.mono hb1.size)⟩
theorem spec_l23Ask (vb : Nat) (A : Option Addr) (n c : Nat) (xs : List Clip) (k : Int) (w : World) (hv0 : w.cell? ⟨vb, 0, none⟩ = some (.slice A n c)) (hx : RA cl 5 w w.heap.size A n xs) (hn : n ≤ 1000000000) :
    Calls Try.prog 103 #[.pointer (some ⟨vb, 0, none⟩), .int .i64 k] w fun e w' => e = .returned (.int .i64 (M.askT xs k)) ∧ Below w.heap.size w w' := by
  have hl := Lib.hid hx.len
  have hvb : vb < w.heap.size := World.block_lt_of_cell? w _ hv0
  cases hok : M.trackOk xs
  · go_enter Try.func103, Try.ntmps103
    go_wp2_with (go_at_call 119; refine (spec_l23Ok _ _ _ _ _ _ hv0 hx hn).mono ?_; rw [hok]; rintro e w2 ⟨rfl, bel2⟩)
    go_ret
    exact ⟨by rw [M.askT, hok]; rfl, bel2⟩
  · cases hin : M.inn k 0 ((n : Int) - 1)
    all_goals
      go_enter Try.func103, Try.ntmps103
      go_wp2_with (first | (go_at_call 119; refine (spec_l23Ok _ _ _ _ _ _ hv0 hx hn).mono ?_; rw [hok]; rintro e w2 ⟨rfl, bel2⟩; have hv2 : w2.cell? ⟨vb, 0, none⟩ = some (.slice A n c) := (by rw [bel2.cell (by simpa using hvb)]; exact hv0)) | (go_at_call 79; refine (spec_l00In _ _ _ _).mono ?_; rw [hin]; rintro e w' ⟨rfl, rfl⟩))
      go_ret
      exact ⟨by rw [M.askT, hok, hl.out, hin]; rfl, bel2⟩
def M.removeR (xs : List Clip) (k : Int) : List Clip × Int := if M.askT xs k = 0 then (M.dropP xs k.toNat, 0) else ([], M.askT xs k)
theorem removed_len (xs : List Clip) (k : Int) : (M.removeR xs k).1.length ≤ 12 := by
  unfold M.removeR
  split
  · rename_i h
    obtain ⟨_, h1, h2, h3⟩ := M.askT_zero h
    show (M.dropP xs k.toNat).length ≤ 12
    rw [M.dropP_len xs (by omega)]
    omega
  · simp
theorem impl_RemoveClip (A : Option Addr) (n c : Nat) (xs : List Clip) (k : Int) (w : World) (hx : RA cl 5 w w.heap.size A n xs) (hn : n ≤ 1000000000) (hc : n ≤ c) (hm : c ≤ maxLen) :
    Calls Try.prog 48 #[.agg #[.slice A n c], .int .i64 k] w (RetT 78 w (M.removeR xs k)) := by
  have hl := Lib.hid hx.len
  have hb2 : Below w.heap.size w ((w.alloc (.cells #[.slice A n c] 65)).alloc (.cells #[.slice none 0 0] 65)) := ((Below.refl _ _).alloc (Nat.le_refl _) _).alloc (by simp) _
  have hx1 := hx.later hb2
  have hself : ((w.alloc (.cells #[.slice A n c] 65)).alloc (.cells #[.slice none 0 0] 65)).cell? ⟨w.heap.size, 0, none⟩ = some (.slice A n c) := by simp [go_sem]
  by_cases hask : M.askT xs k = 0
  · have hr := Lib.hid (show M.removeR xs k = (M.dropP xs k.toNat, 0) by rw [M.removeR, if_pos hask])
    obtain ⟨-, hk0, hk1, -⟩ := M.askT_zero hask
    obtain ⟨k, rfl⟩ : ∃ q : Nat, k = q := ⟨k.toNat, by omega⟩
    have hk : k < n := by rw [hl.out] at hk1; omega
    have hask' := Lib.hid hask
    clear hask
    go_enter Try.func48, Try.ntmps48
    go_wp2_with (first | (go_at_call 106; refine (impl_clipCode _ _ _ _ _ _ hx1 hn).mono ?_; rw [hask'.out]; rintro e w2 ⟨rfl, bel2⟩; have hq : w2.cell? ⟨w.heap.size + 1, 0, none⟩ = some (.slice none 0 0) := (by rw [bel2.cell (by simp)]; simp [go_sem]); have hf : w2.frozen? ⟨w.heap.size + 1, 0, none⟩ = false := (by rw [bel2.frozen (by simp)]; simp [go_sem]); have hs2 : w.heap.size + 1 + 1 ≤ w2.heap.size := (by have := bel2.size; simpa using this); have hv2 : w2.cell? ⟨w.heap.size, 0, none⟩ = some (.slice A n c) := (by rw [bel2.cell (by simp; omega)]; exact hself)) | (go_at_call 107; refine (impl_Track_without _ _ _ _ _ _ (hx1.later bel2) hn hk).mono ?_; rintro e w3 ⟨v3, rfl, own3, bel3⟩; obtain ⟨A3, c3', rfl, -⟩ := own3.shape; have hq3 : w3.cell? ⟨w.heap.size + 1, 0, none⟩ = some (.slice none 0 0) := (by rw [bel3.cell (by simp; omega)]; exact hq); have hf3 : w3.frozen? ⟨w.heap.size + 1, 0, none⟩ = false := (by rw [bel3.frozen (by simp; omega)]; exact hf)))
    refine bodyPost_ret (v := .tuple #[.agg #[.slice A3 (M.dropP xs k).length c3'], .int .i64 0]) (by simp [results, Try.results48, go_sem, hq3, hf3]) rfl ?_
    rw [hr.out]
    have B3 := hb2.trans (bel2.mono hb2.size)
    exact ⟨_, rfl, (own3.mid (Mid.cell w3 (w.heap.size + 1) 0 (.slice A3 (M.dropP xs k).length c3')) (.inr hs2) (Nat.le_refl _)).wide (by omega) (by simp), (bel_trans B3 bel3).setCell (by simp) _⟩
  · have hr := Lib.hid (show M.removeR xs k = ([], M.askT xs k) by rw [M.removeR, if_neg hask])
    have hne : (M.askT xs k != 0) = true := by simpa using hask
    clear hask
    generalize hq : M.askT xs k = q at *
    have hq' := Lib.hid hq
    clear hq
    go_enter Try.func48, Try.ntmps48
    go_wp2_with (go_at_call 106; refine (impl_clipCode _ _ _ _ _ _ hx1 hn).mono ?_; rw [hq'.out]; rintro e w2 ⟨rfl, bel2⟩; have hq : w2.cell? ⟨w.heap.size + 1, 0, none⟩ = some (.slice none 0 0) := (by rw [bel2.cell (by simp)]; simp [go_sem]); have hf : w2.frozen? ⟨w.heap.size + 1, 0, none⟩ = false := (by rw [bel2.frozen (by simp)]; simp [go_sem]); have hs2 : w.heap.size + 1 + 1 ≤ w2.heap.size := (by have := bel2.size; simpa using this); have hv2 : w2.cell? ⟨w.heap.size, 0, none⟩ = some (.slice A n c) := (by rw [bel2.cell (by simp; omega)]; exact hself))
    refine bodyPost_ret (v := .tuple #[.agg #[.slice none 0 0], .int .i64 q]) (by simp [results, Try.results48, go_sem, hq, hf]) rfl ?_
    rw [hr.out]
    exact ⟨_, rfl, OA.nil _, (hb2.trans (bel2.mono hb2.size)).setCell (by simp) _⟩
theorem spec_RemoveClip (A : Option Addr) (n c : Nat) (xs : List Clip) (k : Int) (w : World) (hx : RA cl 5 w w.heap.size A n xs) (hn : n ≤ 1000000000) (hc : n ≤ c) (hm : c ≤ maxLen) :
    Calls Try.prog 46 #[.agg #[.slice A n c], .int .i64 k] w (RetT 78 w (M.removeR xs k)) := by
  have hl := Lib.hid hx.len
  have hb2 : Below w.heap.size w ((w.alloc (.cells #[.slice A n c] 65)).alloc (.cells #[.slice none 0 0] 65)) := ((Below.refl _ _).alloc (Nat.le_refl _) _).alloc (by simp) _
  have hx1 := hx.later hb2
  have hself : ((w.alloc (.cells #[.slice A n c] 65)).alloc (.cells #[.slice none 0 0] 65)).cell? ⟨w.heap.size, 0, none⟩ = some (.slice A n c) := by simp [go_sem]
  by_cases hask : M.askT xs k = 0
  · have hr := Lib.hid (show M.removeR xs k = (M.dropP xs k.toNat, 0) by rw [M.removeR, if_pos hask])
    obtain ⟨-, hk0, hk1, -⟩ := M.askT_zero hask
    obtain ⟨k, rfl⟩ : ∃ q : Nat, k = q := ⟨k.toNat, by omega⟩
    have hk : k < n := by rw [hl.out] at hk1; omega
    have hask' := Lib.hid hask
    clear hask
    go_enter Try.func46, Try.ntmps46
    go_wp2_with (first | (go_at_call 103; refine (spec_l23Ask _ _ _ _ _ _ _ hself hx1 hn).mono ?_; rw [hask'.out]; rintro e w2 ⟨rfl, bel2⟩; have hq : w2.cell? ⟨w.heap.size + 1, 0, none⟩ = some (.slice none 0 0) := (by rw [bel2.cell (by simp)]; simp [go_sem]); have hf : w2.frozen? ⟨w.heap.size + 1, 0, none⟩ = false := (by rw [bel2.frozen (by simp)]; simp [go_sem]); have hs2 : w.heap.size + 1 + 1 ≤ w2.heap.size := (by have := bel2.size; simpa using this); have hv2 : w2.cell? ⟨w.heap.size, 0, none⟩ = some (.slice A n c) := (by rw [bel2.cell (by simp; omega)]; exact hself)) | (go_at_call 104; refine (spec_l23Drop _ _ _ _ _ _ (hx1.later bel2) hn hk hc hm).mono ?_; rintro e w3 ⟨v3, rfl, own3, bel3⟩; obtain ⟨A3, c3', rfl, -⟩ := own3.shape; have hq3 : w3.cell? ⟨w.heap.size + 1, 0, none⟩ = some (.slice none 0 0) := (by rw [bel3.cell (by simp; omega)]; exact hq); have hf3 : w3.frozen? ⟨w.heap.size + 1, 0, none⟩ = false := (by rw [bel3.frozen (by simp; omega)]; exact hf)))
    refine bodyPost_ret (v := .tuple #[.agg #[.slice A3 (M.dropP xs k).length c3'], .int .i64 0]) (by simp [results, Try.results46, go_sem, hq3, hf3]) rfl ?_
    rw [hr.out]
    have B3 := hb2.trans (bel2.mono hb2.size)
    exact ⟨_, rfl, (own3.mid (Mid.cell w3 (w.heap.size + 1) 0 (.slice A3 (M.dropP xs k).length c3')) (.inr hs2) (Nat.le_refl _)).wide (by omega) (by simp), (bel_trans B3 bel3).setCell (by simp) _⟩
  · have hr := Lib.hid (show M.removeR xs k = ([], M.askT xs k) by rw [M.removeR, if_neg hask])
    have hne : (M.askT xs k != 0) = true := by simpa using hask
    clear hask
    generalize hq : M.askT xs k = q at *
    have hq' := Lib.hid hq
    clear hq
    go_enter Try.func46, Try.ntmps46
    go_wp2_with (go_at_call 103; refine (spec_l23Ask _ _ _ _ _ _ _ hself hx1 hn).mono ?_; rw [hq'.out]; rintro e w2 ⟨rfl, bel2⟩; have hq : w2.cell? ⟨w.heap.size + 1, 0, none⟩ = some (.slice none 0 0) := (by rw [bel2.cell (by simp)]; simp [go_sem]); have hf : w2.frozen? ⟨w.heap.size + 1, 0, none⟩ = false := (by rw [bel2.frozen (by simp)]; simp [go_sem]); have hs2 : w.heap.size + 1 + 1 ≤ w2.heap.size := (by have := bel2.size; simpa using this); have hv2 : w2.cell? ⟨w.heap.size, 0, none⟩ = some (.slice A n c) := (by rw [bel2.cell (by simp; omega)]; exact hself))
    refine bodyPost_ret (v := .tuple #[.agg #[.slice none 0 0], .int .i64 q]) (by simp [results, Try.results46, go_sem, hq, hf]) rfl ?_
    rw [hr.out]
    exact ⟨_, rfl, OA.nil _, (hb2.trans (bel2.mono hb2.size)).setCell (by simp) _⟩
end Go.Proofs.Ytckihflfjecpbaa
namespace Go.Proofs.Ytckihflfjecpbaa
open Go.RowKit
set_option maxHeartbeats 1000000
set_option maxRecDepth 100000
def M.joins (c d : Clip) : Bool := d.1 == c.1 && d.2.2.2.2 == c.2.2.2.2 && d.2.1 == c.2.1 + c.2.2.1 && d.2.2.2.1 == c.2.2.2.1 + c.2.2.1
theorem M.find_some {α : Type} {p : α → Bool} {xs : List α} {k : Nat} {x : α} (hx : xs[k]? = some x) (hp : p x = true) (h : ∀ j, j < k → ∀ y, xs[j]? = some y → p y = false) : xs.findIdx? p = some k := by
  obtain ⟨hk, rfl⟩ := List.getElem?_eq_some_iff.1 hx
  rw [List.findIdx?_eq_some_iff_getElem]
  exact ⟨hk, hp, fun j hj => by rw [h j hj _ (List.getElem?_eq_getElem (by omega))]; exact Bool.false_ne_true⟩
theorem M.find_none {α : Type} {p : α → Bool} {xs : List α} (h : ∀ j, j < xs.length → ∀ y, xs[j]? = some y → p y = false) : xs.findIdx? p = none := by
  rw [List.findIdx?_eq_none_iff]
  intro x hx
  obtain ⟨i, hi, rfl⟩ := List.getElem_of_mem hx
  exact h i hi _ (List.getElem?_eq_getElem hi)
def M.grow (c : Clip) (l : Int) : Clip := (c.1, c.2.1, c.2.2.1 + l, c.2.2.2.1, c.2.2.2.2)
def M.mergeAt (xs : List Clip) (k i : Nat) : List Clip := M.dropP (xs.set k (M.grow ((xs[k]?).getD M.cz) ((xs[i]?).getD M.cz).2.2.1)) i
def M.mergeR (xs : List Clip) (k : Int) : List Clip × Int :=
  if M.askT xs k = 0 then (match xs.findIdx? (M.joins ((xs[k.toNat]?).getD M.cz)) with
    | some i => (M.mergeAt xs k.toNat i, 0)
    | none => ([], 3)) else ([], M.askT xs k)
theorem M.track_len {xs : List Clip} (h : M.trackOk xs = true) : xs.length ≤ 12 := by
  rw [M.trackOk, Bool.and_eq_true, decide_eq_true_iff] at h
  exact h.2
theorem M.track_clip {xs : List Clip} (h : M.trackOk xs = true) {k : Nat} {p : Clip} (hk : xs[k]? = some p) : M.clipOk p = true := by
  rw [M.trackOk, Bool.and_eq_true, List.all_eq_true] at h
  have := h.1 k (List.mem_range.2 (List.getElem?_eq_some_iff.1 hk).1)
  rw [M.stepT, Bool.and_eq_true, hk] at this
  exact this.1
theorem M.clip_bd {p : Clip} (h : M.clipOk p = true) : (0 ≤ p.1 ∧ p.1 ≤ 5) ∧ (1 ≤ p.2.2.1 ∧ p.2.2.1 ≤ 4000) ∧ (0 ≤ p.2.1 ∧ p.2.1 ≤ 4000 - p.2.2.1) ∧ (0 ≤ p.2.2.2.1 ∧ p.2.2.2.1 ≤ 4000 - p.2.2.1) ∧ (-2147483648 ≤ p.2.2.2.2 ∧ p.2.2.2.2 ≤ 2147483647) := by
  simp only [M.clipOk, Bool.and_eq_true, M.inn_iff] at h
  exact ⟨h.1.1.1.1, h.1.1.1.2, h.1.1.2, h.1.2, M.smp_bd h.2⟩
theorem impl_MergeClips_1 (b : Nat) (c0 c1 c2 c3 c4 d0 d1 d2 d3 d4 : Int) (w : World) (h1 : 0 ≤ c1 ∧ c1 ≤ 4000) (h2 : 1 ≤ c2 ∧ c2 ≤ 4000) (h3 : 0 ≤ c3 ∧ c3 ≤ 4000)
    (g0 : w.cell? ⟨b, 0, none⟩ = some (.int .i64 c0)) (g1 : w.cell? ⟨b, 1, none⟩ = some (.int .i64 c1)) (g2 : w.cell? ⟨b, 2, none⟩ = some (.int .i64 c2)) (g3 : w.cell? ⟨b, 3, none⟩ = some (.int .i64 c3)) (g4 : w.cell? ⟨b, 4, none⟩ = some (.int .i64 c4)) :
    Calls Try.prog 112 #[.agg #[.int .i64 d0, .int .i64 d1, .int .i64 d2, .int .i64 d3, .int .i64 d4], .pointer (some ⟨b, 0, none⟩)] w fun e w' => e = .returned (.bool (M.joins (c0, c1, c2, c3, c4) (d0, d1, d2, d3, d4))) ∧ Below w.heap.size w w' := by
  have hb : b < w.heap.size := World.block_lt_of_cell? w _ g0
  have fin : Below w.heap.size w (w.alloc (.cells #[.int .i64 d0, .int .i64 d1, .int .i64 d2, .int .i64 d3, .int .i64 d4] 78)) := (Below.refl _ _).alloc (Nat.le_refl _) _
  by_cases e1 : d0 = c0
  · subst e1
    by_cases e2 : d4 = c4
    · subst e2
      by_cases e3 : d1 = c1 + c2
      · subst e3
        by_cases e4 : d3 = c3 + c2
        · subst e4
          go_enter Try.func112, Try.ntmps112
          go_wp2
          go_ret
          exact ⟨ret_bool (by simp [M.joins]), fin⟩
        · have f4 : (d3 == c3 + c2) = false := by simpa using e4
          go_enter Try.func112, Try.ntmps112
          go_wp2
          go_ret
          exact ⟨ret_bool (by simp [M.joins, e4]), fin⟩
      · have f3 : (d1 == c1 + c2) = false := by simpa using e3
        go_enter Try.func112, Try.ntmps112
        go_wp2
        go_ret
        exact ⟨ret_bool (by simp [M.joins, e3]), fin⟩
    · have f2 : (d4 == c4) = false := by simpa using e2
      go_enter Try.func112, Try.ntmps112
      go_wp2
      go_ret
      exact ⟨ret_bool (by simp [M.joins, e2]), fin⟩
  · have f1 : (d0 == c0) = false := by simpa using e1
    go_enter Try.func112, Try.ntmps112
    go_wp2
    go_ret
    exact ⟨ret_bool (by simp [M.joins, e1]), fin⟩
def idxInt : Option Nat → Int
  | some i => i
  | none => -1
theorem IndexFunc_merge (bb : Nat) (c : Clip) (A : Option Addr) (n cap : Nat) (xs : List Clip) (w : World) (hx : RA cl 5 w w.heap.size A n xs) (hn : n ≤ 1000000000) (h1 : 0 ≤ c.2.1 ∧ c.2.1 ≤ 4000) (h2 : 1 ≤ c.2.2.1 ∧ c.2.2.1 ≤ 4000) (h3 : 0 ≤ c.2.2.2.1 ∧ c.2.2.2.1 ≤ 4000)
    (hg : ∀ j u, (cl c)[j]? = some u → w.cell? ⟨bb, j, none⟩ = some u) :
    Calls Try.prog 111 #[.slice A n cap, .func (.func 112) #[] #[.pointer (some ⟨bb, 0, none⟩)]] w fun e w' => e = .returned (.int .i64 (idxInt (xs.findIdx? (M.joins c)))) ∧ Below w.heap.size w w' := by
  have hl := Lib.hid hx.len
  have hg' := Lib.hid hg
  have hbb : bb < w.heap.size := World.block_lt_of_cell? w _ (hg 0 _ rfl)
  obtain ⟨c0, c1, c2, c3, c4⟩ := c
  simp only at h1 h2 h3
  clear hg
  go_enter Try.func111, Try.ntmps111
  go_wp2
  go_loopw [5, 8] (fun _ i wr => ∃ k : Nat, i = .int .i64 k ∧ k ≤ n ∧ Hid (∀ j, j < k → ∀ y, xs[j]? = some y → M.joins (c0, c1, c2, c3, c4) y = false) ∧ Below w.heap.size w wr) (fun _ i _ => n - (intOf i).toNat)
  case atStart => exact ⟨0, rfl, by omega, Lib.hid (by omega), Below.refl _ _⟩
  case round =>
    obtain ⟨k, rfl, hk, H, hb⟩ := hrel
    by_cases hlt : k < n
    · obtain ⟨b, o, ⟨p0, p1, p2, p3, p4⟩, rfl, hab, X, hc⟩ := (hx.below hb).at cl_len (by decide) hlt
      have hc0 : wr.cell? ⟨b, o + k * 5, none⟩ = some (.int .i64 p0) := hc 0 _ rfl
      have hc1 : wr.cell? ⟨b, o + k * 5 + 1, none⟩ = some (.int .i64 p1) := hc 1 _ rfl
      have hc2 : wr.cell? ⟨b, o + k * 5 + 2, none⟩ = some (.int .i64 p2) := hc 2 _ rfl
      have hc3 : wr.cell? ⟨b, o + k * 5 + 3, none⟩ = some (.int .i64 p3) := hc 3 _ rfl
      have hc4 : wr.cell? ⟨b, o + k * 5 + 4, none⟩ = some (.int .i64 p4) := hc 4 _ rfl
      clear hc
      have G : ∀ j u, (cl (c0, c1, c2, c3, c4))[j]? = some u → wr.cell? ⟨bb, j, none⟩ = some u := fun j u hu => by rw [hb.cell (by simpa using hbb)]; exact hg'.out j u hu
      have cP := Lib.hid (impl_MergeClips_1 bb c0 c1 c2 c3 c4 p0 p1 p2 p3 p4 wr h1 h2 h3 (G 0 _ rfl) (G 1 _ rfl) (G 2 _ rfl) (G 3 _ rfl) (G 4 _ rfl))
      clear G
      cases hj : M.joins (c0, c1, c2, c3, c4) (p0, p1, p2, p3, p4)
      · have hj' := Lib.hid hj
        clear hj
        go_wp2_with (go_at_call 112; refine (cP.out).mono ?_; rw [hj'.out]; rintro e w2 ⟨rfl, bel2⟩)
        go_roundw
        case rel => exact ⟨k + 1, by go_num, by omega, Lib.hid (fun j hj y hy => by rcases Nat.lt_succ_iff_lt_or_eq.1 hj with h | h; exact H.out j h y hy; subst h; rw [X.out] at hy; injection hy with hy; rw [← hy]; exact hj'.out), hb.trans (bel2.mono hb.size)⟩
        case measure => simp [intOf]; omega
      · have hf := Lib.hid (M.find_some X.out hj H.out)
        have hj' := Lib.hid hj
        clear hj
        go_wp2_with (go_at_call 112; refine (cP.out).mono ?_; rw [hj'.out]; rintro e w2 ⟨rfl, bel2⟩)
        go_ret
        exact ⟨by rw [hf.out]; rfl, hb.trans (bel2.mono hb.size)⟩
    · have hf := Lib.hid (M.find_none (xs := xs) (p := M.joins (c0, c1, c2, c3, c4)) (fun j hj y hy => H.out j (by rw [hl.out] at hj; omega) y hy))
      go_wp2
      go_ret
      exact ⟨by rw [hf.out]; rfl, hb⟩
end Go.Proofs.Ytckihflfjecpbaa
namespace Go.Proofs.Ytckihflfjecpbaa
open Go.RowKit
set_option maxHeartbeats 1000000
set_option maxRecDepth 100000
theorem lay_clip (w : World) (c : Clip) (e : TypeId) : ∀ j u, (cl c)[j]? = some u → (w.alloc (.cells #[.int .i64 c.1, .int .i64 c.2.1, .int .i64 c.2.2.1, .int .i64 c.2.2.2.1, .int .i64 c.2.2.2.2] e)).cell? ⟨w.heap.size, j, none⟩ = some u := by
  intro j u hu
  rw [cell_of_row _ w.heap.size j _ e (0, 0) (heap_alloc_new w _)]
  simpa [cl] using hu
theorem impl_MergeClips (A : Option Addr) (n c : Nat) (xs : List Clip) (k : Int) (w : World) (hx : RA cl 5 w w.heap.size A n xs) (hn : n ≤ 1000000000) (hc : n ≤ c) (hm : c ≤ maxLen) :
    Calls Try.prog 53 #[.agg #[.slice A n c], .int .i64 k] w (RetT 78 w (M.mergeR xs k)) := by
  have hl := Lib.hid hx.len
  have hb2 : Below w.heap.size w ((w.alloc (.cells #[.slice A n c] 65)).alloc (.cells #[.slice none 0 0] 65)) := ((Below.refl _ _).alloc (Nat.le_refl _) _).alloc (by simp) _
  have hx1 := hx.later hb2
  have hself : ((w.alloc (.cells #[.slice A n c] 65)).alloc (.cells #[.slice none 0 0] 65)).cell? ⟨w.heap.size, 0, none⟩ = some (.slice A n c) := by simp [go_sem]
  by_cases hask : M.askT xs k = 0
  · obtain ⟨hok, hk0, hk1, -⟩ := M.askT_zero hask
    obtain ⟨k, rfl⟩ : ∃ q : Nat, k = q := ⟨k.toNat, by omega⟩
    have hk : k < n := by rw [hl.out] at hk1; omega
    obtain ⟨b, o, ⟨q0, q1, q2, q3, q4⟩, rfl, hab, X, hcc⟩ := hx.at cl_len (by decide) hk
    have hc0 : w.cell? ⟨b, o + k * 5, none⟩ = some (.int .i64 q0) := hcc 0 _ rfl
    have hc1 : w.cell? ⟨b, o + k * 5 + 1, none⟩ = some (.int .i64 q1) := hcc 1 _ rfl
    have hc2 : w.cell? ⟨b, o + k * 5 + 2, none⟩ = some (.int .i64 q2) := hcc 2 _ rfl
    have hc3 : w.cell? ⟨b, o + k * 5 + 3, none⟩ = some (.int .i64 q3) := hcc 3 _ rfl
    have hc4 : w.cell? ⟨b, o + k * 5 + 4, none⟩ = some (.int .i64 q4) := hcc 4 _ rfl
    obtain ⟨-, u2, u1, u3, -⟩ := M.clip_bd (M.track_clip hok X.out)
    simp only at u1 u2 u3
    have hR := Lib.hid (show M.mergeR xs k = (match xs.findIdx? (M.joins (q0, q1, q2, q3, q4)) with
      | some i => (M.mergeAt xs k i, 0)
      | none => ([], 3)) by rw [M.mergeR, if_pos hask, Int.toNat_natCast, X.out]; rfl)
    have hok' := Lib.hid hok
    have hask' := Lib.hid hask
    clear hask hcc hok
    have ASK := Lib.hid (impl_clipCode (some ⟨b, o, none⟩) n c xs k _ hx1 hn)
    go_enter Try.func53, Try.ntmps53
    go_wp2_with fail
    refine (ASK.out).mono ?_
    rw [hask'.out]
    rintro e w2 ⟨rfl, bel2⟩
    have hq : w2.cell? ⟨w.heap.size + 1, 0, none⟩ = some (.slice none 0 0) := by rw [bel2.cell (by simp)]; simp [go_sem]
    have hf : w2.frozen? ⟨w.heap.size + 1, 0, none⟩ = false := by rw [bel2.frozen (by simp)]; simp [go_sem]
    have hs2 : w.heap.size + 1 + 1 ≤ w2.heap.size := by have := bel2.size; simpa using this
    have hv2 : w2.cell? ⟨w.heap.size, 0, none⟩ = some (.slice (some ⟨b, o, none⟩) n c) := by rw [bel2.cell (by simp; omega)]; exact hself
    have B2 := hb2.trans (bel2.mono hb2.size)
    have d0 : w2.cell? ⟨b, o + k * 5, none⟩ = some (.int .i64 q0) := by rw [B2.cell hab]; exact hc0
    have d1 : w2.cell? ⟨b, o + k * 5 + 1, none⟩ = some (.int .i64 q1) := by rw [B2.cell hab]; exact hc1
    have d2 : w2.cell? ⟨b, o + k * 5 + 2, none⟩ = some (.int .i64 q2) := by rw [B2.cell hab]; exact hc2
    have d3 : w2.cell? ⟨b, o + k * 5 + 3, none⟩ = some (.int .i64 q3) := by rw [B2.cell hab]; exact hc3
    have d4 : w2.cell? ⟨b, o + k * 5 + 4, none⟩ = some (.int .i64 q4) := by rw [B2.cell hab]; exact hc4
    have z0 : w.heap.size < w2.heap.size := by omega
    have hbc : Below w2.heap.size w2 (w2.alloc (.cells #[.int .i64 q0, .int .i64 q1, .int .i64 q2, .int .i64 q3, .int .i64 q4] 78)) := (Below.refl _ _).alloc (Nat.le_refl _) _
    have IDX := Lib.hid (IndexFunc_merge w2.heap.size (q0, q1, q2, q3, q4) (some ⟨b, o, none⟩) n c xs _ (hx.later (bel_trans B2 hbc)) hn (show 0 ≤ q1 ∧ q1 ≤ 4000 by omega) u2 (show 0 ≤ q3 ∧ q3 ≤ 4000 by omega) (lay_clip w2 (q0, q1, q2, q3, q4) 78))
    clear hc0 hc1 hc2 hc3 hc4 hself hx1 hb2 ASK bel2
    cases hfi : xs.findIdx? (M.joins (q0, q1, q2, q3, q4)) with
    | none =>
      have hr := Lib.hid (show M.mergeR xs k = ([], 3) by rw [hR.out, hfi])
      have hfi' := Lib.hid hfi
      clear hfi
      go_wp2_with (go_at_call 111; refine (IDX.out).mono ?_; rw [hfi'.out]; rintro e w3 ⟨rfl, bel3⟩; have g3 := bel_trans hbc bel3; have hq3 : w3.cell? ⟨w.heap.size + 1, 0, none⟩ = some (.slice none 0 0) := (by rw [g3.cell (by simp; omega)]; exact hq); have hf3 : w3.frozen? ⟨w.heap.size + 1, 0, none⟩ = false := (by rw [g3.frozen (by simp; omega)]; exact hf); simp only [idxInt])
      refine bodyPost_ret (v := .tuple #[.agg #[.slice none 0 0], .int .i64 3]) (by simp [results, Try.results53, go_sem, hq3, hf3]) rfl ?_
      rw [hr.out]
      exact ⟨_, rfl, OA.nil _, (bel_trans B2 g3).setCell (by simp) _⟩
    | some i =>
      have hr := Lib.hid (show M.mergeR xs k = (M.mergeAt xs k i, 0) by rw [hR.out, hfi])
      have hil : i < n := by have := (List.findIdx?_eq_some_iff_getElem.1 hfi).1; rw [hl.out] at this; exact this
      have hfi' := Lib.hid hfi
      clear hfi
      obtain ⟨⟨p0, p1, p2, p3, p4⟩, Y, -⟩ := hx.cells cl_len (by decide) hil
      obtain ⟨-, u5, -, -, -⟩ := M.clip_bd (M.track_clip hok'.out Y.out)
      simp only at u5
      go_wp2_with (first | (go_at_call 111; refine (IDX.out).mono ?_; rw [hfi'.out]; rintro e w3 ⟨rfl, bel3⟩; have g3 := bel_trans hbc bel3; have hq3 : w3.cell? ⟨w.heap.size + 1, 0, none⟩ = some (.slice none 0 0) := (by rw [g3.cell (by simp; omega)]; exact hq); have hf3 : w3.frozen? ⟨w.heap.size + 1, 0, none⟩ = false := (by rw [g3.frozen (by simp; omega)]; exact hf); have hv3 : w3.cell? ⟨w.heap.size, 0, none⟩ = some (.slice (some ⟨b, o, none⟩) n c) := (by rw [g3.cell (by simpa using z0)]; exact hv2); have s3 := g3.size; simp only [idxInt]) | (go_at_call 113; refine (slices_Clone_impl_Clip_impl_Clip _ _ _ _ _ (hx.later (bel_trans B2 g3)) hn).mono ?_; rintro e w4 ⟨v4, rfl, own4, bel4⟩; obtain ⟨A4, c4, rfl, hc4, hm4, -⟩ := own_shape own4.1; rw [hl.out] at hc4 ⊢))
      obtain ⟨g, rfl, hg1, hg2, hg3, -⟩ := own4.form (by omega)
      have X4 := own4.cell cl_len X.out (j := 2) (u := .int .i64 q2) rfl
      have Y4 := (own4.cell cl_len Y.out (j := 2) (u := .int .i64 p2) rfl).1
      have hba : Below w4.heap.size w4 (w4.alloc (.cells #[.slice (some ⟨g, 0, none⟩) n c4] 65)) := (Below.refl _ _).alloc (Nat.le_refl _) _
      have own5 := own4.below hba (Nat.le_refl _)
      have x5 : (w4.alloc (.cells #[.slice (some ⟨g, 0, none⟩) n c4] 65)).cell? ⟨g, k * 5 + 2, none⟩ = some (.int .i64 q2) := by rw [hba.cell (by simpa using hg3)]; exact X4.1
      have x5f : (w4.alloc (.cells #[.slice (some ⟨g, 0, none⟩) n c4] 65)).frozen? ⟨g, k * 5 + 2, none⟩ = false := by rw [hba.frozen (by simpa using hg3)]; exact X4.2
      have y5 : (w4.alloc (.cells #[.slice (some ⟨g, 0, none⟩) n c4] 65)).cell? ⟨g, i * 5 + 2, none⟩ = some (.int .i64 p2) := by rw [hba.cell (by simpa using hg3)]; exact Y4
      have o5 : (w4.alloc (.cells #[.slice (some ⟨g, 0, none⟩) n c4] 65)).cell? ⟨w4.heap.size, 0, none⟩ = some (.slice (some ⟨g, 0, none⟩) n c4) := by simp [go_sem]
      have hwr : IntKind.i64.wrap (q2 + p2) = q2 + p2 := IntWalk.i64_in _ (by omega)
      have i1 : (0 : Int) ≤ (k : Int) := by omega
      have i2 : (k : Int) < (n : Int) := by omega
      have i3 : (0 : Int) ≤ (i : Int) := by omega
      have i4 : (i : Int) < (n : Int) := by omega
      have s4 := bel4.size
      go_cut [] (fun wx => wx = ((w4.setCell ⟨g, k * 5 + 2, none⟩ (.int .i64 (q2 + p2))).alloc (.cells #[.slice (some ⟨g, 0, none⟩) n c4] 65)).drew)
      case first =>
        go_region_law (fail)
        all_goals (go_wp2_with fail; go_meet; exact rfl)
      case rest =>
        have hcut_ := hcut
        clear hcut
        subst hcut_
        have WX : Below w4.heap.size (w4.setCell ⟨g, k * 5 + 2, none⟩ (.int .i64 (q2 + p2))) ((w4.setCell ⟨g, k * 5 + 2, none⟩ (.int .i64 (q2 + p2))).alloc (.cells #[.slice (some ⟨g, 0, none⟩) n c4] 65)).drew := ((Below.refl _ _).alloc (by simp) _).drew
        obtain ⟨own6, m6⟩ := own4.set cl_len X.out (j := 2) (y := (q0, q1, q2 + p2, q3, q4)) (u := .int .i64 (q2 + p2)) (by decide) rfl
        have own7 := own6.below WX (Nat.le_refl _)
        have e0 : (xs.set k (q0, q1, q2 + p2, q3, q4)).length = n := by rw [List.length_set, hl.out]
        have e0' := Lib.hid e0
        rw [OA, e0, hl.out] at own7
        have ra7 : RA cl 5 _ _ _ n (xs.set k (q0, q1, q2 + p2, q3, q4)) := ⟨e0, OX.reads own7⟩
        have B4 := bel_trans (bel_trans B2 g3) bel4
        have B7 : Below w.heap.size w ((w4.setCell ⟨g, k * 5 + 2, none⟩ (.int .i64 (q2 + p2))).alloc (.cells #[.slice (some ⟨g, 0, none⟩) n c4] 65)).drew := (B4.trans ((m6.toBelow (by omega)).mono (by omega))).trans (WX.mono (by have := bel4.size; omega))
        have hq7 : ((w4.setCell ⟨g, k * 5 + 2, none⟩ (.int .i64 (q2 + p2))).alloc (.cells #[.slice (some ⟨g, 0, none⟩) n c4] 65)).drew.cell? ⟨w.heap.size + 1, 0, none⟩ = some (.slice none 0 0) := by
          rw [WX.cell (by simp; omega), World.cell?_of_block (m6.block _ (by simp; omega) (.inl (by simp; omega))), bel4.cell (by simp; omega)]
          exact hq3
        have hf7 : ((w4.setCell ⟨g, k * 5 + 2, none⟩ (.int .i64 (q2 + p2))).alloc (.cells #[.slice (some ⟨g, 0, none⟩) n c4] 65)).drew.frozen? ⟨w.heap.size + 1, 0, none⟩ = false := by
          rw [WX.frozen (by simp; omega), World.frozen?_of_block (m6.block _ (by simp; omega) (.inl (by simp; omega))), bel4.frozen (by simp; omega)]
          exact hf3
        have hfin := Lib.hid (show M.mergeAt xs k i = M.dropP (xs.set k (q0, q1, q2 + p2, q3, q4)) i by rw [M.mergeAt, X.out, Y.out]; rfl)
        clear e0 own7 own6 m6 x5 x5f y5 o5 own5 own4 hba X4 Y4 WX hwr
        go_wp2_with (go_at_call 107; refine (impl_Track_without _ _ _ _ _ _ ra7 hn hil).mono ?_; rintro e w8 ⟨v8, rfl, own8, bel8⟩; obtain ⟨A8, c8, rfl, -⟩ := own8.shape; have hq8 : w8.cell? ⟨w.heap.size + 1, 0, none⟩ = some (.slice none 0 0) := (by rw [bel8.cell (by simp; omega)]; exact hq7); have hf8 : w8.frozen? ⟨w.heap.size + 1, 0, none⟩ = false := (by rw [bel8.frozen (by simp; omega)]; exact hf7))
        refine bodyPost_ret (v := .tuple #[.agg #[.slice A8 (M.dropP (xs.set k (q0, q1, q2 + p2, q3, q4)) i).length c8], .int .i64 0]) (by simp [results, Try.results53, go_sem, hq8, hf8]) rfl ?_
        rw [hr.out, hfin.out]
        exact ⟨_, rfl, (own8.mid (Mid.cell w8 (w.heap.size + 1) 0 (.slice A8 (M.dropP (xs.set k (q0, q1, q2 + p2, q3, q4)) i).length c8)) (.inr (by simp; omega)) (Nat.le_refl _)).wide (by simp; omega) (by simp), (bel_trans B7 bel8).setCell (by simp) _⟩
  · have hr := Lib.hid (show M.mergeR xs k = ([], M.askT xs k) by rw [M.mergeR, if_neg hask])
    have hne : (M.askT xs k != 0) = true := by simpa using hask
    have ASK := Lib.hid (impl_clipCode A n c xs k _ hx1 hn)
    clear hask
    generalize hq : M.askT xs k = q at *
    have hq' := Lib.hid hq
    clear hq
    go_enter Try.func53, Try.ntmps53
    go_wp2_with fail
    refine (ASK.out).mono ?_
    rintro e w2 ⟨rfl, bel2⟩
    have hq : w2.cell? ⟨w.heap.size + 1, 0, none⟩ = some (.slice none 0 0) := by rw [bel2.cell (by simp)]; simp [go_sem]
    have hf : w2.frozen? ⟨w.heap.size + 1, 0, none⟩ = false := by rw [bel2.frozen (by simp)]; simp [go_sem]
    go_wp2_with fail
    refine bodyPost_ret (v := .tuple #[.agg #[.slice none 0 0], .int .i64 q]) (by simp [results, Try.results53, go_sem, hq, hf]) rfl ?_
    rw [hr.out]
    exact ⟨_, rfl, OA.nil _, (hb2.trans (bel2.mono hb2.size)).setCell (by simp) _⟩
end Go.Proofs.Ytckihflfjecpbaa
namespace Go.Proofs.Ytckihflfjecpbaa
open Go.RowKit
set_option maxHeartbeats 2000000
set_option maxRecDepth 100000
theorem spec_MergeClips (A : Option Addr) (n c : Nat) (xs : List Clip) (k : Int) (w : World) (hx : RA cl 5 w w.heap.size A n xs) (hn : n ≤ 1000000000) (hc : n ≤ c) (hm : c ≤ maxLen) :
    Calls Try.prog 52 #[.agg #[.slice A n c], .int .i64 k] w (RetT 78 w (M.mergeR xs k)) := by
  have hl := Lib.hid hx.len
  have hb2 : Below w.heap.size w ((w.alloc (.cells #[.slice A n c] 65)).alloc (.cells #[.slice none 0 0] 65)) := ((Below.refl _ _).alloc (Nat.le_refl _) _).alloc (by simp) _
  have hx1 := hx.later hb2
  have hself : ((w.alloc (.cells #[.slice A n c] 65)).alloc (.cells #[.slice none 0 0] 65)).cell? ⟨w.heap.size, 0, none⟩ = some (.slice A n c) := by simp [go_sem]
  have ASK := Lib.hid (spec_l23Ask w.heap.size A n c xs k _ hself hx1 hn)
  by_cases hask : M.askT xs k = 0
  · obtain ⟨hok, hk0, hk1, -⟩ := M.askT_zero hask
    obtain ⟨k, rfl⟩ : ∃ q : Nat, k = q := ⟨k.toNat, by omega⟩
    have hk : k < n := by rw [hl.out] at hk1; omega
    obtain ⟨b, o, ⟨q0, q1, q2, q3, q4⟩, rfl, hab, X, hcc⟩ := hx.at cl_len (by decide) hk
    have hc0 : w.cell? ⟨b, o + k * 5, none⟩ = some (.int .i64 q0) := hcc 0 _ rfl
    have hc1 : w.cell? ⟨b, o + k * 5 + 1, none⟩ = some (.int .i64 q1) := hcc 1 _ rfl
    have hc2 : w.cell? ⟨b, o + k * 5 + 2, none⟩ = some (.int .i64 q2) := hcc 2 _ rfl
    have hc3 : w.cell? ⟨b, o + k * 5 + 3, none⟩ = some (.int .i64 q3) := hcc 3 _ rfl
    have hc4 : w.cell? ⟨b, o + k * 5 + 4, none⟩ = some (.int .i64 q4) := hcc 4 _ rfl
    obtain ⟨-, u2, u1, u3, -⟩ := M.clip_bd (M.track_clip hok X.out)
    simp only at u1 u2 u3
    have hR := Lib.hid (show M.mergeR xs k = (match xs.findIdx? (M.joins (q0, q1, q2, q3, q4)) with
      | some i => (M.mergeAt xs k i, 0)
      | none => ([], 3)) by rw [M.mergeR, if_pos hask, Int.toNat_natCast, X.out]; rfl)
    have hok' := Lib.hid hok
    have hask' := Lib.hid hask
    clear hask hcc hok
    go_enter Try.func52, Try.ntmps52
    go_wp2_with fail
    refine (ASK.out).mono ?_
    rw [hask'.out]
    rintro e w2 ⟨rfl, bel2⟩
    have hq : w2.cell? ⟨w.heap.size + 1, 0, none⟩ = some (.slice none 0 0) := by rw [bel2.cell (by simp)]; simp [go_sem]
    have hf : w2.frozen? ⟨w.heap.size + 1, 0, none⟩ = false := by rw [bel2.frozen (by simp)]; simp [go_sem]
    have hs2 : w.heap.size + 1 + 1 ≤ w2.heap.size := by have := bel2.size; simpa using this
    have hv2 : w2.cell? ⟨w.heap.size, 0, none⟩ = some (.slice (some ⟨b, o, none⟩) n c) := by rw [bel2.cell (by simp; omega)]; exact hself
    have B2 := hb2.trans (bel2.mono hb2.size)
    have d0 : w2.cell? ⟨b, o + k * 5, none⟩ = some (.int .i64 q0) := by rw [B2.cell hab]; exact hc0
    have d1 : w2.cell? ⟨b, o + k * 5 + 1, none⟩ = some (.int .i64 q1) := by rw [B2.cell hab]; exact hc1
    have d2 : w2.cell? ⟨b, o + k * 5 + 2, none⟩ = some (.int .i64 q2) := by rw [B2.cell hab]; exact hc2
    have d3 : w2.cell? ⟨b, o + k * 5 + 3, none⟩ = some (.int .i64 q3) := by rw [B2.cell hab]; exact hc3
    have d4 : w2.cell? ⟨b, o + k * 5 + 4, none⟩ = some (.int .i64 q4) := by rw [B2.cell hab]; exact hc4
    have z0 : w.heap.size < w2.heap.size := by omega
    clear hc0 hc1 hc2 hc3 hc4 hself hx1 hb2 ASK bel2
    go_wp2_with fail
    have hbc : Below w2.heap.size w2 (w2.alloc (.cells #[.int .i64 q0, .int .i64 q1, .int .i64 q2, .int .i64 q3, .int .i64 q4] 78)) := (Below.refl _ _).alloc (Nat.le_refl _) _
    have hcs : (w2.alloc (.cells #[.int .i64 q0, .int .i64 q1, .int .i64 q2, .int .i64 q3, .int .i64 q4] 78)).heap.size = w2.heap.size + 1 := by simp
    have hcs' := Lib.hid hcs
    have LC := Lib.hid (lay_clip w2 (q0, q1, q2, q3, q4) 78)
    clear hcs
    go_loopw [8] (fun i wr => ∃ j : Nat, i = .int .i64 j ∧ j ≤ n ∧ Hid (∀ t, t < j → ∀ y, xs[t]? = some y → M.joins (q0, q1, q2, q3, q4) y = false) ∧ Below (w2.heap.size + 1) (w2.alloc (.cells #[.int .i64 q0, .int .i64 q1, .int .i64 q2, .int .i64 q3, .int .i64 q4] 78)) wr) (fun i _ => n - (intOf i).toNat)
    case atStart => exact ⟨0, rfl, by omega, Lib.hid (by omega), Below.refl _ _⟩
    case round =>
      obtain ⟨i, rfl, hi, H, hb⟩ := hrel
      have hsz : w2.heap.size + 1 ≤ wr.heap.size := by rw [← hcs'.out]; exact hb.size
      have hbb : Below w2.heap.size w2 wr := hbc.trans (hb.mono (by omega))
      have BR := bel_trans B2 hbb
      have f0 : wr.cell? ⟨w2.heap.size, 0, none⟩ = some (.int .i64 q0) := by rw [hb.cell (by simp)]; exact LC.out 0 _ rfl
      have f1 : wr.cell? ⟨w2.heap.size, 1, none⟩ = some (.int .i64 q1) := by rw [hb.cell (by simp)]; exact LC.out 1 _ rfl
      have f2 : wr.cell? ⟨w2.heap.size, 2, none⟩ = some (.int .i64 q2) := by rw [hb.cell (by simp)]; exact LC.out 2 _ rfl
      have f3 : wr.cell? ⟨w2.heap.size, 3, none⟩ = some (.int .i64 q3) := by rw [hb.cell (by simp)]; exact LC.out 3 _ rfl
      have f4 : wr.cell? ⟨w2.heap.size, 4, none⟩ = some (.int .i64 q4) := by rw [hb.cell (by simp)]; exact LC.out 4 _ rfl
      have fv : wr.cell? ⟨w.heap.size, 0, none⟩ = some (.slice (some ⟨b, o, none⟩) n c) := by rw [hbb.cell (by simpa using z0)]; exact hv2
      have fq : wr.cell? ⟨w.heap.size + 1, 0, none⟩ = some (.slice none 0 0) := by rw [hbb.cell (by simp; omega)]; exact hq
      have ff : wr.frozen? ⟨w.heap.size + 1, 0, none⟩ = false := by rw [hbb.frozen (by simp; omega)]; exact hf
      have y0 : w.heap.size < wr.heap.size := by omega
      have y1 : w.heap.size + 1 < wr.heap.size := by omega
      have y2 : w2.heap.size < wr.heap.size := by omega
      by_cases hlt : i < n
      · obtain ⟨⟨p0, p1, p2, p3, p4⟩, Y, hcc⟩ := (hx.below BR).cells cl_len (by decide) hlt
        have e0 : wr.cell? ⟨b, o + i * 5, none⟩ = some (.int .i64 p0) := hcc 0 _ rfl
        have e1 : wr.cell? ⟨b, o + i * 5 + 1, none⟩ = some (.int .i64 p1) := hcc 1 _ rfl
        have e2 : wr.cell? ⟨b, o + i * 5 + 2, none⟩ = some (.int .i64 p2) := hcc 2 _ rfl
        have e3 : wr.cell? ⟨b, o + i * 5 + 3, none⟩ = some (.int .i64 p3) := hcc 3 _ rfl
        have e4 : wr.cell? ⟨b, o + i * 5 + 4, none⟩ = some (.int .i64 p4) := hcc 4 _ rfl
        obtain ⟨-, u5, -, -, -⟩ := M.clip_bd (M.track_clip hok'.out Y.out)
        simp only at u5
        clear hcc
        have BA : Below (w2.heap.size + 1) (w2.alloc (.cells #[.int .i64 q0, .int .i64 q1, .int .i64 q2, .int .i64 q3, .int .i64 q4] 78)) ((wr.alloc (.cells #[.int .i64 p0, .int .i64 p1, .int .i64 p2, .int .i64 p3, .int .i64 p4] 78)).alloc (.cells #[.int .i64 q0, .int .i64 q1, .int .i64 (q2 + p2), .int .i64 q3, .int .i64 q4] 78)) := (hb.alloc hsz _).alloc (by simp; omega) _
        by_cases g1 : p0 = q0
        · subst g1
          by_cases g2 : p4 = q4
          · subst g2
            by_cases g3 : p1 = q1 + q2
            · subst g3
              by_cases g4 : p3 = q3 + q2
              · subst g4
                have hfi := M.find_some (p := M.joins (p0, q1, q2, q3, p4)) Y.out (by simp [M.joins]) H.out
                have hr := Lib.hid (show M.mergeR xs k = (M.mergeAt xs k i, 0) by rw [hR.out, hfi])
                have hfin := Lib.hid (show M.mergeAt xs k i = M.dropP (xs.set k (p0, q1, q2 + p2, q3, p4)) i by rw [M.mergeAt, X.out, Y.out]; rfl)
                clear hfi
                have BW := bel_trans B2 (hbc.trans (BA.mono (by omega)))
                have BW' := Lib.hid BW
                have hWs : ((wr.alloc (.cells #[.int .i64 p0, .int .i64 (q1 + q2), .int .i64 p2, .int .i64 (q3 + q2), .int .i64 p4] 78)).alloc (.cells #[.int .i64 p0, .int .i64 q1, .int .i64 (q2 + p2), .int .i64 q3, .int .i64 p4] 78)).heap.size = wr.heap.size + 1 + 1 := by simp
                have own0 : (((wr.alloc (.cells #[.int .i64 p0, .int .i64 (q1 + q2), .int .i64 p2, .int .i64 (q3 + q2), .int .i64 p4] 78)).alloc (.cells #[.int .i64 p0, .int .i64 q1, .int .i64 (q2 + p2), .int .i64 q3, .int .i64 p4] 78)).alloc (.cells #[] 78)).ownsRow (wr.heap.size + 1 + 1) 78 5 (.slice (some ⟨wr.heap.size + 1 + 1, 0, none⟩) 0 0) 0 [] := by
                  have h := World.ownsRow_made (e := 78) (base := wr.heap.size + 1 + 1) (size := 5) ((wr.alloc (.cells #[.int .i64 p0, .int .i64 (q1 + q2), .int .i64 p2, .int .i64 (q3 + q2), .int .i64 p4] 78)).alloc (.cells #[.int .i64 p0, .int .i64 q1, .int .i64 (q2 + p2), .int .i64 q3, .int .i64 p4] 78)) #[] 0 (by rw [hWs]; exact Nat.le_refl _) (by simp [maxLen]) rfl
                  rwa [hWs] at h
                have hb0 : Below ((wr.alloc (.cells #[.int .i64 p0, .int .i64 (q1 + q2), .int .i64 p2, .int .i64 (q3 + q2), .int .i64 p4] 78)).alloc (.cells #[.int .i64 p0, .int .i64 q1, .int .i64 (q2 + p2), .int .i64 q3, .int .i64 p4] 78)).heap.size ((wr.alloc (.cells #[.int .i64 p0, .int .i64 (q1 + q2), .int .i64 p2, .int .i64 (q3 + q2), .int .i64 p4] 78)).alloc (.cells #[.int .i64 p0, .int .i64 q1, .int .i64 (q2 + p2), .int .i64 q3, .int .i64 p4] 78)) (((wr.alloc (.cells #[.int .i64 p0, .int .i64 (q1 + q2), .int .i64 p2, .int .i64 (q3 + q2), .int .i64 p4] 78)).alloc (.cells #[.int .i64 p0, .int .i64 q1, .int .i64 (q2 + p2), .int .i64 q3, .int .i64 p4] 78)).alloc (.cells #[] 78)) := (Below.refl _ _).alloc (Nat.le_refl _) _
                have hrd := ((hx.later BW).reads).below hb0
                have hWs' := Lib.hid hWs
                have hmg : ∀ j u, (cl (p0, q1, q2 + p2, q3, p4))[j]? = some u → (((wr.alloc (.cells #[.int .i64 p0, .int .i64 (q1 + q2), .int .i64 p2, .int .i64 (q3 + q2), .int .i64 p4] 78)).alloc (.cells #[.int .i64 p0, .int .i64 q1, .int .i64 (q2 + p2), .int .i64 q3, .int .i64 p4] 78)).alloc (.cells #[] 78)).cell? ⟨wr.heap.size + 1, j, none⟩ = some u := by
                  intro j u hu
                  have h := lay_clip (wr.alloc (.cells #[.int .i64 p0, .int .i64 (q1 + q2), .int .i64 p2, .int .i64 (q3 + q2), .int .i64 p4] 78)) (p0, q1, q2 + p2, q3, p4) 78 j u hu
                  rw [show (wr.alloc (.cells #[.int .i64 p0, .int .i64 (q1 + q2), .int .i64 p2, .int .i64 (q3 + q2), .int .i64 p4] 78)).heap.size = wr.heap.size + 1 by simp] at h
                  rw [World.cell?_alloc_lt _ _ _ (by simp)]
                  exact h
                have HMG := Lib.hid hmg
                have HB0 := Lib.hid (bel_trans BW hb0)
                have kv : (((wr.alloc (.cells #[.int .i64 p0, .int .i64 (q1 + q2), .int .i64 p2, .int .i64 (q3 + q2), .int .i64 p4] 78)).alloc (.cells #[.int .i64 p0, .int .i64 q1, .int .i64 (q2 + p2), .int .i64 q3, .int .i64 p4] 78)).alloc (.cells #[] 78)).cell? ⟨w.heap.size, 0, none⟩ = some (.slice (some ⟨b, o, none⟩) n c) := by
                  rw [World.cell?_alloc_lt _ _ _ (by simp; omega), World.cell?_alloc_lt _ _ _ (by simp; omega), World.cell?_alloc_lt _ _ _ (by simp; omega)]
                  exact fv
                clear hmg hWs BW hb0 BA
                go_wp2_with (at_builtin; refine wpList_cat ei_cl rfl _ _ rfl own0 rfl hrd rfl (cls_oneCell _) (by unfold maxLen; omega) (by omega) (by simp) ?_; intro v1 w1 own1 gr1 bel1; rw [Nat.zero_add, List.nil_append] at own1; obtain ⟨A1, c1, rfl, hc1, hm1, -⟩ := own_shape own1; have s1 := bel1.size; rw [World.size_alloc, hWs'.out] at s1; have ow1 : OA cl 78 5 (wr.heap.size + 1 + 1) w1.heap.size w1 (.slice A1 n c1) xs := (by unfold OA; rw [hl.out]; exact OX.of_own own1); obtain ⟨g, rfl, hg1, hg2, hg3, -⟩ := ow1.form (by omega); have r0 : w1.cell? ⟨g, k * 5, none⟩ = some (.int .i64 p0) := (ow1.cell cl_len X.out (j := 0) rfl).1; have t0 : w1.frozen? ⟨g, k * 5, none⟩ = false := (ow1.cell cl_len X.out (j := 0) (u := .int .i64 p0) rfl).2; have m0 : w1.cell? ⟨wr.heap.size + 1, 0, none⟩ = some (.int .i64 p0) := (by rw [bel1.cell (by simp)]; exact HMG.out 0 _ rfl); have r1 : w1.cell? ⟨g, k * 5 + 1, none⟩ = some (.int .i64 q1) := (ow1.cell cl_len X.out (j := 1) rfl).1; have t1 : w1.frozen? ⟨g, k * 5 + 1, none⟩ = false := (ow1.cell cl_len X.out (j := 1) (u := .int .i64 q1) rfl).2; have m1 : w1.cell? ⟨wr.heap.size + 1, 1, none⟩ = some (.int .i64 q1) := (by rw [bel1.cell (by simp)]; exact HMG.out 1 _ rfl); have r2 : w1.cell? ⟨g, k * 5 + 2, none⟩ = some (.int .i64 q2) := (ow1.cell cl_len X.out (j := 2) rfl).1; have t2 : w1.frozen? ⟨g, k * 5 + 2, none⟩ = false := (ow1.cell cl_len X.out (j := 2) (u := .int .i64 q2) rfl).2; have m2 : w1.cell? ⟨wr.heap.size + 1, 2, none⟩ = some (.int .i64 (q2 + p2)) := (by rw [bel1.cell (by simp)]; exact HMG.out 2 _ rfl); have r3 : w1.cell? ⟨g, k * 5 + 3, none⟩ = some (.int .i64 q3) := (ow1.cell cl_len X.out (j := 3) rfl).1; have t3 : w1.frozen? ⟨g, k * 5 + 3, none⟩ = false := (ow1.cell cl_len X.out (j := 3) (u := .int .i64 q3) rfl).2; have m3 : w1.cell? ⟨wr.heap.size + 1, 3, none⟩ = some (.int .i64 q3) := (by rw [bel1.cell (by simp)]; exact HMG.out 3 _ rfl); have r4 : w1.cell? ⟨g, k * 5 + 4, none⟩ = some (.int .i64 p4) := (ow1.cell cl_len X.out (j := 4) rfl).1; have t4 : w1.frozen? ⟨g, k * 5 + 4, none⟩ = false := (ow1.cell cl_len X.out (j := 4) (u := .int .i64 p4) rfl).2; have m4 : w1.cell? ⟨wr.heap.size + 1, 4, none⟩ = some (.int .i64 p4) := (by rw [bel1.cell (by simp)]; exact HMG.out 4 _ rfl); have hkq : (0 : Int) ≤ (k : Int) := (by omega))
                have hkx : k < xs.length := by rw [hl.out]; exact hk
                have s0 := ow1.set cl_len X.out (j := 0) (y := (p0, q1, q2, q3, p4)) (u := .int .i64 p0) (by decide) rfl
                have s1' := s0.1.set cl_len (k := k) (x := (p0, q1, q2, q3, p4)) (j := 1) (y := (p0, q1, q2, q3, p4)) (u := .int .i64 q1) (by simp [hkx]) (by decide) rfl
                have s2 := s1'.1.set cl_len (k := k) (x := (p0, q1, q2, q3, p4)) (j := 2) (y := (p0, q1, q2 + p2, q3, p4)) (u := .int .i64 (q2 + p2)) (by simp [hkx]) (by decide) rfl
                have s3 := s2.1.set cl_len (k := k) (x := (p0, q1, q2 + p2, q3, p4)) (j := 3) (y := (p0, q1, q2 + p2, q3, p4)) (u := .int .i64 q3) (by simp [hkx]) (by decide) rfl
                have s4 := s3.1.set cl_len (k := k) (x := (p0, q1, q2 + p2, q3, p4)) (j := 4) (y := (p0, q1, q2 + p2, q3, p4)) (u := .int .i64 p4) (by simp [hkx]) (by decide) rfl
                have own9 := s4.1
                have m9 := (((s0.2.trans s1'.2).trans s2.2).trans s3.2).trans s4.2
                simp only [List.set_set] at own9
                have e9 : (xs.set k (p0, q1, q2 + p2, q3, p4)).length = n := by rw [List.length_set, hl.out]
                rw [OA, e9] at own9
                have ra9 : RA cl 5 _ _ _ n (xs.set k (p0, q1, q2 + p2, q3, p4)) := ⟨e9, OX.reads own9⟩
                have B1 := (HB0.out.trans (bel1.mono (by omega)))
                have B9 := B1.trans ((m9.toBelow (by omega)).mono (by omega))
                have hq9 := fq
                have kq1 : w1.cell? ⟨w.heap.size + 1, 0, none⟩ = some (.slice none 0 0) := by
                  rw [bel1.cell (by simp; omega), World.cell?_alloc_lt _ _ _ (by simp; omega), World.cell?_alloc_lt _ _ _ (by simp; omega), World.cell?_alloc_lt _ _ _ (by simp; omega)]
                  exact fq
                have kf1 : w1.frozen? ⟨w.heap.size + 1, 0, none⟩ = false := by
                  rw [bel1.frozen (by simp; omega), World.frozen?_alloc_old _ _ _ (by simp; omega), World.frozen?_alloc_old _ _ _ (by simp; omega), World.frozen?_alloc_old _ _ _ (by simp; omega)]
                  exact ff
                have kq9 := Lib.hid (show _ = some (Value.slice none 0 0) from (World.cell?_of_block (a := ⟨w.heap.size + 1, 0, none⟩) (m9.block _ (by simp; omega) (.inl (by simp; omega)))).trans kq1)
                have kf9 := Lib.hid (show _ = false from (World.frozen?_of_block (a := ⟨w.heap.size + 1, 0, none⟩) (m9.block _ (by simp; omega) (.inl (by simp; omega)))).trans kf1)
                have z9 := m9.size
                go_wp2_with fail
                refine (spec_l23Drop _ _ _ _ _ _ ra9 hn hlt hc1 hm1).mono ?_
                rintro e w5 ⟨v5, rfl, own5, bel5⟩
                obtain ⟨A5, c5, rfl, -⟩ := own5.shape
                have hq5 : w5.cell? ⟨w.heap.size + 1, 0, none⟩ = some (.slice none 0 0) := by rw [bel5.cell (by simp at z9 ⊢; omega)]; exact kq9.out
                have hf5 : w5.frozen? ⟨w.heap.size + 1, 0, none⟩ = false := by rw [bel5.frozen (by simp at z9 ⊢; omega)]; exact kf9.out
                go_wp2_with fail
                refine bodyPost_ret (v := .tuple #[.agg #[.slice A5 (M.dropP (xs.set k (p0, q1, q2 + p2, q3, p4)) i).length c5], .int .i64 0]) (by simp [results, Try.results52, go_sem, hq5, hf5]) rfl ?_
                rw [hr.out, hfin.out]
                exact ⟨_, rfl, (own5.mid (Mid.cell w5 (w.heap.size + 1) 0 (.slice A5 (M.dropP (xs.set k (p0, q1, q2 + p2, q3, p4)) i).length c5)) (.inr (by simp at z9 ⊢; omega)) (Nat.le_refl _)).wide (by simp at z9 ⊢; omega) (by simp), (bel_trans B9 bel5).setCell (by simp) _⟩
              · have h4 : (p3 == q3 + q2) = false := by simpa using g4
                have hj := Lib.hid (show M.joins (p0, q1, q2, q3, p4) (p0, q1 + q2, p2, p3, p4) = false by simp [M.joins, g4])
                go_wp2
                go_roundw
                case rel => exact ⟨i + 1, by go_num, by omega, Lib.hid (fun t ht y hy => by rcases Nat.lt_succ_iff_lt_or_eq.1 ht with h | h; exact H.out t h y hy; subst h; rw [Y.out] at hy; injection hy with hy; rw [← hy]; exact hj.out), BA⟩
                case measure => simp [intOf]; omega
            · have h3 : (p1 == q1 + q2) = false := by simpa using g3
              have hj := Lib.hid (show M.joins (p0, q1, q2, q3, p4) (p0, p1, p2, p3, p4) = false by simp [M.joins, g3])
              go_wp2
              go_roundw
              case rel => exact ⟨i + 1, by go_num, by omega, Lib.hid (fun t ht y hy => by rcases Nat.lt_succ_iff_lt_or_eq.1 ht with h | h; exact H.out t h y hy; subst h; rw [Y.out] at hy; injection hy with hy; rw [← hy]; exact hj.out), BA⟩
              case measure => simp [intOf]; omega
          · have h2 : (p4 == q4) = false := by simpa using g2
            have hj := Lib.hid (show M.joins (p0, q1, q2, q3, q4) (p0, p1, p2, p3, p4) = false by simp [M.joins, g2])
            go_wp2
            go_roundw
            case rel => exact ⟨i + 1, by go_num, by omega, Lib.hid (fun t ht y hy => by rcases Nat.lt_succ_iff_lt_or_eq.1 ht with h | h; exact H.out t h y hy; subst h; rw [Y.out] at hy; injection hy with hy; rw [← hy]; exact hj.out), BA⟩
            case measure => simp [intOf]; omega
        · have h1 : (p0 == q0) = false := by simpa using g1
          have hj := Lib.hid (show M.joins (q0, q1, q2, q3, q4) (p0, p1, p2, p3, p4) = false by simp [M.joins, g1])
          go_wp2
          go_roundw
          case rel => exact ⟨i + 1, by go_num, by omega, Lib.hid (fun t ht y hy => by rcases Nat.lt_succ_iff_lt_or_eq.1 ht with h | h; exact H.out t h y hy; subst h; rw [Y.out] at hy; injection hy with hy; rw [← hy]; exact hj.out), BA⟩
          case measure => simp [intOf]; omega
      · have hfi := M.find_none (xs := xs) (p := M.joins (q0, q1, q2, q3, q4)) (fun t ht y hy => H.out t (by rw [hl.out] at ht; omega) y hy)
        have hr := Lib.hid (show M.mergeR xs k = ([], 3) by rw [hR.out, hfi])
        clear hfi
        go_wp2
        refine bodyPost_ret (v := .tuple #[.agg #[.slice none 0 0], .int .i64 3]) (by simp [results, Try.results52, go_sem, fq, ff]) rfl ?_
        rw [hr.out]
        exact ⟨_, rfl, OA.nil _, BR.setCell (by simp) _⟩
  · have hr := Lib.hid (show M.mergeR xs k = ([], M.askT xs k) by rw [M.mergeR, if_neg hask])
    have hne : (M.askT xs k != 0) = true := by simpa using hask
    clear hask
    generalize hq : M.askT xs k = q at *
    clear hq
    go_enter Try.func52, Try.ntmps52
    go_wp2_with fail
    refine (ASK.out).mono ?_
    rintro e w2 ⟨rfl, bel2⟩
    have hq : w2.cell? ⟨w.heap.size + 1, 0, none⟩ = some (.slice none 0 0) := by rw [bel2.cell (by simp)]; simp [go_sem]
    have hf : w2.frozen? ⟨w.heap.size + 1, 0, none⟩ = false := by rw [bel2.frozen (by simp)]; simp [go_sem]
    go_wp2_with fail
    refine bodyPost_ret (v := .tuple #[.agg #[.slice none 0 0], .int .i64 q]) (by simp [results, Try.results52, go_sem, hq, hf]) rfl ?_
    rw [hr.out]
    exact ⟨_, rfl, OA.nil _, (hb2.trans (bel2.mono hb2.size)).setCell (by simp) _⟩
end Go.Proofs.Ytckihflfjecpbaa
namespace Go.Proofs.Ytckihflfjecpbaa
open Go.RowKit Go.Lib
set_option maxHeartbeats 4000000
set_option maxRecDepth 100000
theorem run_copy_wide {P : Program} (w : World) (dT sT ty elem : TypeId) (z b o dLen dCap : Nat) (a : Addr) (sLen sCap : Nat) (cs : List Value)
    (hu : P.underlying dT = some (.slice elem)) (hs : (P.info? elem).map (·.size) = some z) (hn : cs.length = Nat.min sLen dLen * z)
    (hsrc : ∀ j v, cs[j]? = some v → w.cell? (a.add j) = some v) (hc : ∀ j, j < cs.length → (w.cell? ⟨b, o + j, none⟩).isSome = true) (hf : ∀ j, j < cs.length → w.frozen? ⟨b, o + j, none⟩ = false) (h1 : ∀ v ∈ cs, v.oneCell' = true) :
    (Builtin.copy_ #[dT, sT] ty #[.slice (some ⟨b, o, none⟩) dLen dCap, .slice (some a) sLen sCap]).run P w = .ok (goInt (Nat.min sLen dLen)) (w.setCells b o cs) := by
  have hl := run_loadCells_list (P := P) w a cs hsrc
  have hst := run_storeCells_cells (P := P) b o cs 0 w (by simpa using hc) (by simpa using hf) h1
  cases hq : P.info? elem with
  | none => simp [hq] at hs
  | some i =>
    have hi : i.size = z := by simpa [hq] using hs
    simp [Builtin.copy_, run_underlying hu, Builtin.lenOf, Builtin.firstCells, sizeOf, typeInfo, hq, hi, ← hn, hl, hst]
theorem own_spread {base s n cap g : Nat} {e : TypeId} {cs : List Value} {w : World} (h : w.ownsRow base e s (.slice (some ⟨g, 0, none⟩) n cap) n cs) {k : Nat} (hk : n ≤ k) (hc : k ≤ cap) :
    ∃ ds : List Value, ds.length = (k - n) * s ∧ w.ownsRow base e s (.slice (some ⟨g, 0, none⟩) k cap) k (cs ++ ds) := by
  rcases h.2 with ⟨h', _⟩ | ⟨g', cap', cur, h', hb, hg, hnc, hcm, hcs, htake⟩
  · simp at h'
  · simp only [Value.slice.injEq, Option.some.injEq, Addr.mk.injEq, and_true, true_and] at h'
    obtain ⟨rfl, rfl⟩ := h'
    have hks : n * s ≤ k * s := Nat.mul_le_mul_right _ hk
    have hkc : k * s ≤ cap * s := Nat.mul_le_mul_right _ hc
    have hl : cur.toList.length = cap * s := by simpa using hcs
    have e0 : cs ++ (cur.toList.take (k * s)).drop (n * s) = cur.toList.take (k * s) := by
      rw [← htake, show cur.toList.take (n * s) = (cur.toList.take (k * s)).take (n * s) by rw [List.take_take, Nat.min_eq_left hks], List.take_append_drop]
    refine ⟨(cur.toList.take (k * s)).drop (n * s), by rw [List.length_drop, List.length_take, hl, Nat.min_eq_left hkc, Nat.sub_mul], ?_, .inr ⟨g, cap, cur, rfl, hb, hg, hc, hcm, hcs, e0.symm⟩⟩
    rw [e0, List.length_take, hl, Nat.min_eq_left hkc]
/-- The elements with some put in ahead of place i. -/
def M.insP {α : Type} (xs : List α) (i : Nat) (ys : List α) : List α := xs.take i ++ ys ++ xs.drop i
theorem M.insP_len {α : Type} (xs : List α) (i : Nat) (ys : List α) (h : i ≤ xs.length) : (M.insP xs i ys).length = xs.length + ys.length := by
  unfold M.insP
  simp
  omega
theorem setAll_ins (cs ds vs : List Value) (p m : Nat) (hp : p ≤ cs.length) (hd : ds.length = m) (hv : vs.length = m) :
    setAll (setAll (cs ++ ds) (p + m) (cs.drop p)) p vs = cs.take p ++ vs ++ cs.drop p := by
  have h1 : setAll (cs ++ ds) (p + m) (cs.drop p) = (cs ++ ds).take (p + m) ++ cs.drop p := by
    rw [setAll_eq _ _ _ (by rw [List.length_append, List.length_drop]; omega), show (cs ++ ds).drop (p + m + (cs.drop p).length) = [] from List.drop_eq_nil_of_le (by rw [List.length_append, List.length_drop]; omega), List.append_nil]
  have h2 : ((cs ++ ds).take (p + m)).length = p + m := by simp; omega
  rw [h1, setAll_eq _ _ _ (by rw [List.length_append, h2]; omega), List.take_append_of_le_length (by omega), List.take_take, Nat.min_eq_left (by omega), List.take_append_of_le_length hp, hv, List.drop_left' h2]
theorem Insert_shift (g n c i m vb vc lo hi : Nat) (xs ys : List Clip) (w : World) (own : OA cl 78 5 lo hi w (.slice (some ⟨g, 0, none⟩) n c) xs)
    (hvb : w.heap[vb]? = some (.cells (ys.flatMap cl).toArray 78 (0, 0))) (hgv : vb < lo ∨ hi ≤ vb) (hym : ys.length = m) (hm0 : 0 < m) (hi' : i < n) (hroom : n + m ≤ c) (hn : n ≤ 1000000000) (hcm : c ≤ maxLen) :
    Calls Try.prog 145 #[.slice (some ⟨g, 0, none⟩) n c, .int .i64 i, .slice (some ⟨vb, 0, none⟩) m vc] w fun e w' => ∃ v, e = .returned v ∧ OA cl 78 5 lo hi w' v (M.insP xs i ys) ∧ Mid lo hi w w' := by
  have hxm := OX.m_eq own
  have hgl : lo ≤ g ∧ g < hi := ⟨(World.ownsRow.lt own.1 g rfl).1, own.2 g rfl⟩
  unfold OA at own
  rw [← hxm] at own
  unfold maxLen at hcm
  have T0 := Try.underlying63
  have u0 := run_underlying T0
  have hinfo := (ei_cl).2.1
  obtain ⟨i0, hi0, hz0, hz1, hz2⟩ := info_parts hinfo
  have hsz : (Try.prog.info? 78).map (·.size) = some 5 := by rw [hi0]; simp [hz1]
  obtain ⟨vs, hvs⟩ : ∃ vs, vs = ys.flatMap cl := ⟨_, rfl⟩
  obtain ⟨cs, hcs⟩ : ∃ cs, cs = xs.flatMap cl := ⟨_, rfl⟩
  have hvl : vs.length = m * 5 := by rw [hvs, flat_len cl_len, hym]
  have hcl : cs.length = n * 5 := by rw [hcs, flat_len cl_len, ← hxm]
  have h1v : ∀ v ∈ vs, v.oneCell' = true := by rw [hvs]; exact cls_oneCell _
  have h1c : ∀ v ∈ cs, v.oneCell' = true := by rw [hcs]; exact cls_oneCell _
  rw [← hvs] at hvb
  rw [← hcs] at own
  obtain ⟨ds, hdl, own1⟩ := own_spread own.1 (k := n + m) (by omega) hroom
  rw [show n + m - n = m by omega] at hdl
  have hcd : (cs ++ ds).length = (n + m) * 5 := own1.1
  have hsp : ∀ j, j < (n + m) * 5 → (w.cell? ⟨g, j, none⟩).isSome = true := fun j hj => (own_cells own1 hj).1
  have hfz : ∀ j, j < (n + m) * 5 → w.frozen? ⟨g, j, none⟩ = false := fun j hj => (own_cells own1 hj).2
  have hcc : ∀ j v, cs[j]? = some v → w.cell? ⟨g, j, none⟩ = some v := fun j v hj => by
    have hjl := (List.getElem?_eq_some_iff.1 hj).1
    rw [World.ownsRow.cellAt own1 j (by omega), List.getElem?_append_left hjl]; exact hj
  have hvne : vb ≠ g := by omega
  have hvcell : ∀ j v, vs[j]? = some v → w.cell? ⟨vb, j, none⟩ = some v := fun j v hj => by
    rw [cell_of_row _ vb j vs.toArray _ (0, 0) hvb]; simpa using hj
  have hsa : w.shape? vb = some (78, vs.toArray.size) := by simp [World.shape?, hvb]
  obtain ⟨kB, hsb, hkB⟩ : ∃ kB, w.shape? g = some (78, kB) ∧ kB ≠ 0 := by
    rcases own.1.2 with ⟨h', _⟩ | ⟨g', cap', cur, h', hb, hg, hnc, hcm', hcs', htake⟩
    · simp at h'
    · simp only [Value.slice.injEq, Option.some.injEq, Addr.mk.injEq, and_true, true_and] at h'
      obtain ⟨rfl, rfl⟩ := h'
      exact ⟨cur.size, by simp [World.shape?, hg], by omega⟩
  have hfa : ∀ j, w.frozen? ⟨vb, j, none⟩ = false := fun j => by simp [World.frozen?, hvb]
  have hz : ∀ w, (Go.sizeOf 78).run Try.prog w = .ok 5 w := fun w => by simp [sizeOf, typeInfo, hi0, hz1]
  have hov : ∀ lb cb, (callFunc 155 #[.slice (some ⟨vb, 0, none⟩) m vc, .slice (some ⟨g, (i + m) * 5, none⟩) lb cb]).run Try.prog w = .ok (.value (.bool false)) w := fun lb cb => by
    rw [run_callFunc_extern Try.func155 (by kernel_rfl) (by kernel_rfl) (by kernel_rfl) (e := Extern.SlicesOverlaps.overlaps #[63, 63] #[4]) (by kernel_rfl),
      Lib.run_overlaps_apart w 63 4 78 T0 5 hz ⟨vb, 0, none⟩ ⟨g, (i + m) * 5, none⟩ m vc lb cb hvne _ _ _ _ hsa hsb hkB (hfa _) (hfa _)]
    rfl
  have hdl' : (cs.drop (i * 5)).length = (n - i) * 5 := by rw [List.length_drop, hcl]; omega
  have hcp1 : ∀ ty dc sc, (Builtin.copy_ #[63, 63] ty #[.slice (some ⟨g, (i + m) * 5, none⟩) (n + m - (i + m)) dc, .slice (some ⟨g, i * 5, none⟩) (n + m - i) sc]).run Try.prog w.drew = .ok (goInt (Nat.min (n + m - i) (n + m - (i + m)))) (w.drew.setCells g ((i + m) * 5) (cs.drop (i * 5))) := fun ty dc sc =>
    run_copy_wide w.drew _ _ ty 78 5 g ((i + m) * 5) (n + m - (i + m)) dc ⟨g, i * 5, none⟩ (n + m - i) sc (cs.drop (i * 5)) T0 hsz (by rw [hdl']; simp only [Nat.min_def]; split <;> omega)
      (fun j v hj => by rw [Addr.add_lit]; exact hcc (i * 5 + j) v (by rwa [List.getElem?_drop] at hj))
      (fun j hj => hsp _ (by omega)) (fun j hj => hfz _ (by omega)) (fun v hv => h1c v (List.mem_of_mem_drop hv))
  obtain ⟨o1, g1⟩ := own_setCells (cs.drop (i * 5)) w.drew (cs ++ ds) ((i + m) * 5) ⟨own1.1, own1.2⟩
  obtain ⟨W1, hW1⟩ : ∃ W1, W1 = w.drew.setCells g ((i + m) * 5) (cs.drop (i * 5)) := ⟨_, rfl⟩
  rw [← hW1] at o1 g1
  obtain ⟨o2, g2⟩ := own_setCells vs W1 _ (i * 5) o1
  have hfin : Hid (OA cl 78 5 lo hi (W1.setCells g (i * 5) vs) (.slice (some ⟨g, 0, none⟩) (n + m) c) (M.insP xs i ys) ∧ Mid lo hi w (W1.setCells g (i * 5) vs)) := by
    rw [show (i + m) * 5 = i * 5 + m * 5 by omega, setAll_ins cs ds vs (i * 5) (m * 5) (by omega) hdl hvl, hcs, hvs, flat_take cl_len, flat_drop cl_len, ← List.flatMap_append, ← List.flatMap_append] at o2
    have hle : (M.insP xs i ys).length = n + m := by rw [M.insP_len _ _ _ (by omega), hym, ← hxm]
    refine ⟨⟨by rw [hle]; exact hvs ▸ o2, fun q hq => by injection hq with hq; subst hq; exact hgl.2⟩, ?_⟩
    have hd : Mid lo hi w w.drew := ⟨rfl, rfl, rfl, Nat.le_refl _, fun _ _ _ => rfl⟩
    exact (hd.trans (Mid.of_grown g1 fun q hq => by injection hq with hq; subst hq; exact hgl)).trans (Mid.of_grown g2 fun q hq => by injection hq with hq; subst hq; exact hgl)
  have hcp2 : ∀ (W : World), (∀ x, W.cell? x = W1.cell? x) → (∀ x, W.frozen? x = W1.frozen? x) → ∀ ty dc, (Builtin.copy_ #[63, 63] ty #[.slice (some ⟨g, i * 5, none⟩) (n + m - i) dc, .slice (some ⟨vb, 0, none⟩) m vc]).run Try.prog W = .ok (goInt (Nat.min m (n + m - i))) (W.setCells g (i * 5) vs) := fun W hWc hWf ty dc =>
    run_copy_wide W _ _ ty 78 5 g (i * 5) (n + m - i) dc ⟨vb, 0, none⟩ m vc vs T0 hsz (by rw [hvl]; simp only [Nat.min_def]; split <;> omega)
      (fun j v hj => by
        rw [Addr.add_lit, Nat.zero_add, hWc, hW1, World.cell?_setCells_out g _ _ _ _ (fun h _ => absurd h hvne)]
        exact hvcell j v hj)
      (fun j hj => by rw [hWc]; exact (own_cells o1 (by omega)).1) (fun j hj => by rw [hWf]; exact (own_cells o1 (by omega)).2) h1v
  rw [← hW1] at hcp1
  have hz1' : ¬ ((m : Int) = 0) := by omega
  have hz2' : ¬ ((i : Int) = (n : Int)) := by omega
  have hw1 : IntKind.i64.wrap ((i : Int) + (m : Int)) = (i : Int) + (m : Int) := by rw [IntKind.wrap_i64]; omega
  have hb1 : (0 : Int) ≤ (i : Int) + (m : Int) := by omega
  have hin : i ≤ n := by omega
  clear hgv
  have htn : ((i : Int) + (m : Int)).toNat = i + m := by omega
  have hb2 : ¬ (c = i + m) := by omega
  have hb3 : (i : Int) ≤ (n : Int) + (m : Int) := by omega
  have hb4 : ¬ (c = i) := by omega
  have HW1 := Lib.hid hW1
  clear hW1 o1 o2 g1 g2 own own1 hcd hsp hfz hcc hvcell hsa hsb hfa hdl hdl' hcl hvl hcs hvs hinfo hi0 hz0 hz1 hz2 hsz hz hvb hym hxm hgl h1v h1c
  go_enter Try.func145, Try.ntmps145
  go_wp2_with (simp only [hov])
  go_region_law (refine step_copy_runI rfl _ _ 63 63 rfl _ _ (by simp [Act.eval, Act.put]) (by simp [Act.eval, Act.put]) (hcp1 _ _ _) ?_)
  go_wp2_with (at_builtin; refine wpList_copy_runI _ rfl _ _ 63 63 rfl _ _ rfl rfl (hcp2 _ (fun _ => rfl) (fun _ => rfl) _ _) ?_)
  go_ret
  exact ⟨_, rfl, hfin.out⟩
theorem own_of_row {w : World} {base g n cap s : Nat} {e : TypeId} {ROW : Array Value} (hb : base ≤ g) (hg : w.heap[g]? = some (.cells ROW e (0, 0))) (hn : n ≤ cap) (hc : cap ≤ maxLen) (hs : ROW.size = cap * s) :
    w.ownsRow base e s (.slice (some ⟨g, 0, none⟩) n cap) n (ROW.toList.take (n * s)) := by
  have h1 : n * s ≤ cap * s := Nat.mul_le_mul_right _ hn
  exact ⟨by rw [List.length_take]; simp; omega, .inr ⟨g, cap, ROW, rfl, hb, hg, hn, hc, hs, rfl⟩⟩
theorem setAll_grow (cs zs vs ts : List Value) (p m : Nat) (hz : zs.length = m + ts.length) (hc : cs.length = p) (hv : vs.length = m) :
    setAll (setAll (cs ++ zs) p vs) (p + m) ts = cs ++ vs ++ ts := by
  have h1 : setAll (cs ++ zs) p vs = cs ++ vs ++ zs.drop m := by
    rw [setAll_eq _ _ _ (by rw [List.length_append]; omega), List.take_left' hc, hv, List.drop_append, hc, show cs.drop (p + m) = [] from List.drop_eq_nil_of_le (by omega), List.nil_append, show p + m - p = m by omega]
  have h2 : (cs ++ vs).length = p + m := by rw [List.length_append]; omega
  rw [h1, setAll_eq _ _ _ (by rw [List.length_append, List.length_drop, h2]; omega), List.take_left' h2, show (cs ++ vs ++ zs.drop m).drop (p + m + ts.length) = [] from List.drop_eq_nil_of_le (by rw [List.length_append, List.length_drop, h2]; omega), List.append_nil]
theorem Insert_grow (g n c i m vb vc lo hi : Nat) (xs ys : List Clip) (w : World) (own : OA cl 78 5 lo hi w (.slice (some ⟨g, 0, none⟩) n c) xs)
    (hvb : w.heap[vb]? = some (.cells (ys.flatMap cl).toArray 78 (0, 0))) (hym : ys.length = m) (hm0 : 0 < m) (hm9 : m ≤ 1000000000) (hi' : i < n) (hnc : n ≤ c) (hroom : c < n + m) (hn : n ≤ 1000000000) :
    Calls Try.prog 145 #[.slice (some ⟨g, 0, none⟩) n c, .int .i64 i, .slice (some ⟨vb, 0, none⟩) m vc] w fun e w' => ∃ v, e = .returned v ∧ OA cl 78 5 w.heap.size w'.heap.size w' v (M.insP xs i ys) ∧ Below w.heap.size w w' := by
  have hxm := OX.m_eq own
  unfold OA at own
  rw [← hxm] at own
  have T0 := Try.underlying63
  have T3 := Try.underlying3
  have u0 := run_underlying T0
  have hinfo := (ei_cl).2.1
  obtain ⟨i0, hi0, hz0, hz1, hz2⟩ := info_parts hinfo
  have hsz : (Try.prog.info? 78).map (·.size) = some 5 := by rw [hi0]; simp [hz1]
  obtain ⟨vs, hvs⟩ : ∃ vs, vs = ys.flatMap cl := ⟨_, rfl⟩
  obtain ⟨cs, hcs⟩ : ∃ cs, cs = xs.flatMap cl := ⟨_, rfl⟩
  have hvl : vs.length = m * 5 := by rw [hvs, flat_len cl_len, hym]
  have hcl : cs.length = n * 5 := by rw [hcs, flat_len cl_len, ← hxm]
  have h1v : ∀ v ∈ vs, v.oneCell' = true := by rw [hvs]; exact cls_oneCell _
  have h1c : ∀ v ∈ cs, v.oneCell' = true := by rw [hcs]; exact cls_oneCell _
  rw [← hvs] at hvb
  rw [← hcs] at own
  have hcc : ∀ j v, cs[j]? = some v → w.cell? ⟨g, j, none⟩ = some v := fun j v hj => by
    have hjl := (List.getElem?_eq_some_iff.1 hj).1
    rw [World.ownsRow.cellAt own.1 j (by omega)]; exact hj
  have hvcell : ∀ j v, vs[j]? = some v → w.cell? ⟨vb, j, none⟩ = some v := fun j v hj => by
    rw [cell_of_row _ vb j vs.toArray _ (0, 0) hvb]; simpa using hj
  have hbw : g < w.heap.size := (World.ownsRow.lt own.1 g rfl).2
  have hvw : vb < w.heap.size := (Array.getElem?_eq_some_iff.1 hvb).1
  have hkk : (n : Int) + (m : Int) - (i : Int) = ((n + m - i : Nat) : Int) := by omega
  have hik : i + (n + m - i) = n + m := by omega
  obtain ⟨zc, hzc⟩ : ∃ zc : Array Value, zc = (Value.agg #[.int .i64 0, .int .i64 0, .int .i64 0, .int .i64 0, .int .i64 0]).cells := ⟨_, rfl⟩
  have hzcs : zc.size = 5 := by rw [hzc]; rfl
  have hold : (Builtin.firstCells i0.size i (.slice (some ⟨g, 0, none⟩) i c)).run Try.prog w.drew = .ok (cs.take (i * 5)).toArray w.drew := by
    rw [hz1]
    exact run_firstCells_some w.drew 5 i ⟨g, 0, none⟩ i c (cs.take (i * 5)) (by rw [List.length_take]; omega) (fun j v hj => by
      rw [Addr.add_lit, Nat.zero_add]
      rw [List.getElem?_take] at hj
      split at hj
      · exact hcc j v hj
      · cases hj)
  have hrz : ∀ ty, (Builtin.append_ #[63, 3] ty #[.slice (some ⟨g, 0, none⟩) i c, .int .i64 ((n : Int) + (m : Int) - (i : Int))]).run Try.prog w =
      .ok (.slice (some ⟨w.heap.size, 0, none⟩) (n + m) (grownCap w (n + m) c 78)) (w.drew.alloc (.cells ((cs.take (i * 5)).toArray ++ Builtin.zeroCells zc (n + m - i) ++ Builtin.zeroCells zc (grownCap w (n + m) c 78 - (n + m))) 78)) := fun ty => by
    have h := Lib.run_append_grow_zeros w 63 3 ty 78 i0 _ .i64 .i64 T0 T3 hi0 hz0 (some ⟨g, 0, none⟩) i c (cs.take (i * 5)) hold (n + m - i) (by omega) (by omega) (by omega) (by omega) (by rw [hz2]; omega) (by rw [hz2, hik]; exact growslice_fits hroom (by omega))
    rw [hik, ← hzc] at h
    rw [hkk]
    exact h
  obtain ⟨G, hG⟩ : ∃ G, G = grownCap w (n + m) c 78 := ⟨_, rfl⟩
  have hGn : n + m ≤ G := by rw [hG]; exact grownCap_ge w _ _ _
  have hGm : G ≤ maxLen := by rw [hG]; exact grownCap_le_maxLen w (n + m) c _ (by unfold maxLen; omega)
  have hG63 : G ≤ 9223372036854775807 := by unfold maxLen at hGm; omega
  obtain ⟨ROW, hROW⟩ : ∃ ROW : Array Value, ROW = (cs.take (i * 5)).toArray ++ Builtin.zeroCells zc (n + m - i) ++ Builtin.zeroCells zc (G - (n + m)) := ⟨_, rfl⟩
  rw [← hG, ← hROW] at hrz
  have hzl : (Builtin.zeroCells zc (n + m - i)).size = (n + m - i) * 5 := by simp [Builtin.zeroCells, hzcs]
  have hzl2 : (Builtin.zeroCells zc (G - (n + m))).size = (G - (n + m)) * 5 := by simp [Builtin.zeroCells, hzcs]
  have htl : (cs.take (i * 5)).length = i * 5 := by rw [List.length_take]; omega
  have hRl : ROW.size = G * 5 := by
    rw [hROW, Array.size_append, Array.size_append, hzl, hzl2]
    simp only [List.size_toArray, htl]
    omega
  obtain ⟨W1, hW1⟩ : ∃ W1, W1 = w.drew.alloc (.cells ROW 78) := ⟨_, rfl⟩
  rw [← hW1] at hrz
  have hrow1 : W1.heap[w.heap.size]? = some (.cells ROW 78 (0, 0)) := by rw [hW1]; exact heap_alloc_new w.drew _
  have own1 := own_of_row (w := W1) (base := w.heap.size) (s := 5) (Nat.le_refl _) hrow1 hGn hGm hRl
  have e1 : ROW.toList.take ((n + m) * 5) = cs.take (i * 5) ++ (Builtin.zeroCells zc (n + m - i)).toList := by
    rw [hROW, Array.toList_append, Array.toList_append]
    exact List.take_left' (by simp only [List.length_append, Array.length_toList, hzl, htl]; omega)
  rw [e1] at own1
  have hOb : ∀ j v, w.cell? ⟨g, j, none⟩ = some v → W1.cell? ⟨g, j, none⟩ = some v := fun j v h => by rw [hW1, World.cell?_alloc_past (w := w.drew) _ g j hbw]; exact h
  have hOv : ∀ j v, w.cell? ⟨vb, j, none⟩ = some v → W1.cell? ⟨vb, j, none⟩ = some v := fun j v h => by rw [hW1, World.cell?_alloc_past (w := w.drew) _ vb j hvw]; exact h
  obtain ⟨o1, g1⟩ := own_setCells vs W1 _ (i * 5) own1
  obtain ⟨W2, hW2⟩ : ∃ W2, W2 = W1.setCells w.heap.size (i * 5) vs := ⟨_, rfl⟩
  rw [← hW2] at o1 g1
  have hcpA : ∀ (W : World), (∀ x, W.cell? x = W1.cell? x) → (∀ x, W.frozen? x = W1.frozen? x) → ∀ ty dc, (Builtin.copy_ #[63, 63] ty #[.slice (some ⟨w.heap.size, i * 5, none⟩) (n + m - i) dc, .slice (some ⟨vb, 0, none⟩) m vc]).run Try.prog W = .ok (goInt (Nat.min m (n + m - i))) (W.setCells w.heap.size (i * 5) vs) := fun W hWc hWf ty dc =>
    run_copy_wide W _ _ ty 78 5 w.heap.size (i * 5) (n + m - i) dc ⟨vb, 0, none⟩ m vc vs T0 hsz (by rw [hvl]; simp only [Nat.min_def]; split <;> omega)
      (fun j v hj => by rw [Addr.add_lit, Nat.zero_add, hWc]; exact hOv _ v (hvcell j v hj))
      (fun j hj => by rw [hWc]; exact (own_cells own1 (by omega)).1) (fun j hj => by rw [hWf]; exact (own_cells own1 (by omega)).2) h1v
  have hbN : g ≠ w.heap.size := by omega
  have hdl : (cs.drop (i * 5)).length = (n - i) * 5 := by rw [List.length_drop, hcl]; omega
  have hcpB : ∀ (W : World), (∀ x, W.cell? x = W2.cell? x) → (∀ x, W.frozen? x = W2.frozen? x) → ∀ ty dc sc, (Builtin.copy_ #[63, 63] ty #[.slice (some ⟨w.heap.size, (i + m) * 5, none⟩) (n + m - (i + m)) dc, .slice (some ⟨g, i * 5, none⟩) (n - i) sc]).run Try.prog W = .ok (goInt (Nat.min (n - i) (n + m - (i + m)))) (W.setCells w.heap.size ((i + m) * 5) (cs.drop (i * 5))) := fun W hWc hWf ty dc sc =>
    run_copy_wide W _ _ ty 78 5 w.heap.size ((i + m) * 5) (n + m - (i + m)) dc ⟨g, i * 5, none⟩ (n - i) sc (cs.drop (i * 5)) T0 hsz (by rw [hdl]; simp only [Nat.min_def]; split <;> omega)
      (fun j v hj => by
        rw [Addr.add_lit, hWc, hW2, World.cell?_setCells_out _ _ _ _ _ (fun h _ => absurd h hbN)]
        exact hOb _ v (hcc (i * 5 + j) v (by rwa [List.getElem?_drop] at hj)))
      (fun j hj => by rw [hWc]; exact (own_cells o1 (by omega)).1)
      (fun j hj => by rw [hWf]; exact (own_cells o1 (by omega)).2) (fun v hv => h1c v (List.mem_of_mem_drop hv))
  have hfin : ∀ W : World, (∀ k : Nat, W.heap[k]? = W2.heap[k]?) → W.os = W2.os → W.tape = W2.tape → W.output = W2.output → W.heap.size = W2.heap.size → OA cl 78 5 w.heap.size (W.setCells w.heap.size ((i + m) * 5) (cs.drop (i * 5))).heap.size (W.setCells w.heap.size ((i + m) * 5) (cs.drop (i * 5))) (.slice (some ⟨w.heap.size, 0, none⟩) (n + m) G) (M.insP xs i ys) ∧ Below w.heap.size w (W.setCells w.heap.size ((i + m) * 5) (cs.drop (i * 5))) := by
    intro W hh hos htp hou hss
    have o1' : W.ownsRow w.heap.size 78 5 (.slice (some ⟨w.heap.size, 0, none⟩) (n + m) G) (n + m) (setAll (cs.take (i * 5) ++ (Builtin.zeroCells zc (n + m - i)).toList) (i * 5) vs) := by
      refine ⟨o1.1, ?_⟩
      rcases o1.2 with h | ⟨g', cap', cur, h', hb, hg, h3⟩
      · exact .inl h
      · exact .inr ⟨g', cap', cur, h', hb, (hh g').trans hg, h3⟩
    obtain ⟨o2, g2⟩ := own_setCells (cs.drop (i * 5)) W _ ((i + m) * 5) o1'
    rw [show (i + m) * 5 = i * 5 + m * 5 by omega, setAll_grow (cs.take (i * 5)) (Builtin.zeroCells zc (n + m - i)).toList vs (cs.drop (i * 5)) (i * 5) (m * 5) (by rw [Array.length_toList, hzl, hdl]; omega) htl hvl, hcs, hvs, flat_take cl_len, flat_drop cl_len, ← List.flatMap_append, ← List.flatMap_append] at o2
    have hle : (M.insP xs i ys).length = n + m := by rw [M.insP_len _ _ _ (by omega), hym, ← hxm]
    have B1 : Below w.heap.size w W1 := by
      have hd : Below w.heap.size w w.drew := below_drewN (Below.refl _ _) 1
      rw [hW1]; exact hd.alloc (Nat.le_refl _) _
    have B2 : Below w.heap.size w W2 := B1.grown g1 B1.size fun q hq => by injection hq with hq; omega
    have B3 : Below w.heap.size w W := ⟨hos.trans B2.os, htp.trans B2.tape, hou.trans B2.output, by rw [hss]; exact B2.size, fun k hk => (hh k).trans (B2.block k hk)⟩
    rw [show (i + m) * 5 = i * 5 + m * 5 by omega]
    refine ⟨?_, ?_⟩
    · rw [hcs, flat_drop cl_len]
      unfold OA
      rw [hle]
      exact OX.of_own o2
    · rw [hcs, flat_drop cl_len]
      rw [show (i + m) * 5 = i * 5 + m * 5 by omega, hcs, flat_drop cl_len] at g2
      exact B3.grown g2 (by rw [hss]; exact B2.size) fun q hq => by injection hq with hq; omega
  have HFIN := Lib.hid hfin
  have hGi : ¬ (G = i) := by omega
  have hGim : ¬ (G = i + m) := by omega
  have hci : ¬ (c = i) := by omega
  subst hW1
  subst hW2
  have hE1 : ∀ x, ((w.alloc (.cells ROW 78)).drew).cell? x = (w.drew.alloc (.cells ROW 78)).cell? x := fun x => rfl
  have hE2 : ∀ x, ((w.alloc (.cells ROW 78)).drew).frozen? x = (w.drew.alloc (.cells ROW 78)).frozen? x := fun x => rfl
  have hF1 : ∀ x, (((w.alloc (.cells ROW 78)).drew.setCells w.heap.size (i * 5) vs).drew).cell? x = ((w.drew.alloc (.cells ROW 78)).setCells w.heap.size (i * 5) vs).cell? x := fun x => rfl
  have hF2 : ∀ x, (((w.alloc (.cells ROW 78)).drew.setCells w.heap.size (i * 5) vs).drew).frozen? x = ((w.drew.alloc (.cells ROW 78)).setCells w.heap.size (i * 5) vs).frozen? x := fun x => rfl
  have hz1' : ¬ ((m : Int) = 0) := by omega
  have hz2' : ¬ ((i : Int) = (n : Int)) := by omega
  have hz3 : (c : Int) < (n : Int) + (m : Int) := by omega
  have hw1 : IntKind.i64.wrap ((i : Int) + (m : Int)) = (i : Int) + (m : Int) := by rw [IntKind.wrap_i64]; omega
  have hb1 : (0 : Int) ≤ (i : Int) + (m : Int) := by omega
  have hin : i ≤ n := by omega
  have htn : ((i : Int) + (m : Int)).toNat = i + m := by omega
  have hb3 : (i : Int) ≤ (n : Int) := by omega
  have hcm : c ≤ 9223372036854775807 := by omega
  clear hfin o1 g1 own own1 hcc hvcell hdl hcl hvl hcs hvs hinfo hi0 hz0 hz1 hz2 hsz hvb hym hxm h1v h1c hkk hik hold hROW hG hRl hzl hzl2 htl hrow1 e1 hOb hOv hzc hzcs hGm
  go_enter Try.func145, Try.ntmps145
  go_wp2_with (first
    | (at_builtin; refine Lib.wpList_append_run _ rfl _ _ _ _ rfl _ _ rfl rfl _ _ (hrz _) ?_)
    | (at_builtin; refine wpList_copy_runI _ rfl _ _ 63 63 rfl _ _ rfl rfl (hcpA _ hE1 hE2 _ _) ?_))
  go_region_law (refine step_copy_runI rfl _ _ 63 63 rfl (.slice (some ⟨w.heap.size, (i + m) * 5, none⟩) (n + m - (i + m)) (G - (i + m))) (.slice (some ⟨g, i * 5, none⟩) (n - i) (c - i)) (by simp [Act.eval, Act.put]) (by simp [Act.eval, Act.put]) (hcpB _ hF1 hF2 3 (G - (i + m)) (c - i)) ?_)
  go_wp2
  go_ret
  refine ⟨_, rfl, HFIN.out _ (fun _ => rfl) rfl rfl rfl rfl⟩
theorem Insert_end (A : Option Addr) (n c m vb vc lo hi : Nat) (xs ys : List Clip) (w : World) (own : OA cl 78 5 lo hi w (.slice A n c) xs)
    (hvb : w.heap[vb]? = some (.cells (ys.flatMap cl).toArray 78 (0, 0))) (hym : ys.length = m) (hm0 : 0 < m) (hm9 : m ≤ 1000000000) (hn : n ≤ 1000000000) (hlo : lo ≤ w.heap.size) (hxm : n = xs.length) (hcm : c ≤ maxLen) (hnc : n ≤ c) :
    Calls Try.prog 145 #[.slice A n c, .int .i64 n, .slice (some ⟨vb, 0, none⟩) m vc] w fun e w' => ∃ v, e = .returned v ∧ OA cl 78 5 lo w'.heap.size w' v (M.insP xs n ys) ∧ Below lo w w' := by
  unfold maxLen at hcm
  have hvl : (ys.flatMap cl).length = m * 5 := by rw [flat_len cl_len, hym]
  have hr : Reads w w.heap.size 5 (some ⟨vb, 0, none⟩) m (ys.flatMap cl) := by
    refine ⟨hvl, fun _ => ⟨_, rfl, (Array.getElem?_eq_some_iff.1 hvb).1, fun j u hj => ?_⟩⟩
    rw [Addr.add_lit, Nat.zero_add, cell_of_row _ vb j _ _ (0, 0) hvb]
    simpa using hj
  have own0 := own.1
  rw [← hxm] at own0
  have hfin : ∀ v (w1 : World), w1.ownsRow lo 78 5 v (n + m) (xs.flatMap cl ++ ys.flatMap cl) → OA cl 78 5 lo w1.heap.size w1 v (M.insP xs n ys) := by
    intro v w1 h
    have e1 : M.insP xs n ys = xs ++ ys := by rw [M.insP, hxm, List.take_length, List.drop_length, List.append_nil]
    unfold OA
    rw [e1, List.flatMap_append, List.length_append, hym, ← hxm]
    exact OX.of_own h
  have FIN := Lib.hid hfin
  have hz1' : ¬ ((m : Int) = 0) := by omega
  have T0 := Try.underlying63
  have u0 := run_underlying T0
  have ONE := Lib.hid (cls_oneCell ys)
  clear hfin hvl hvb own hym
  rcases A with _ | ad
  · go_enter Try.func145, Try.ntmps145
    go_wp2_with (at_builtin; refine wpList_cat ei_cl rfl _ _ rfl own0 rfl hr rfl ONE.out (by unfold maxLen; omega) (by omega) hlo ?_; intro v1 w1 own1 gr1 bel1)
    go_ret
    exact ⟨_, rfl, FIN.out _ _ own1, bel1⟩
  · by_cases hcn : c = n
    · subst hcn
      go_enter Try.func145, Try.ntmps145
      go_wp2_with (at_builtin; refine wpList_cat ei_cl rfl _ _ rfl own0 rfl hr rfl ONE.out (by unfold maxLen; omega) (by omega) hlo ?_; intro v1 w1 own1 gr1 bel1)
      go_ret
      exact ⟨_, rfl, FIN.out _ _ own1, bel1⟩
    · go_enter Try.func145, Try.ntmps145
      go_wp2_with (at_builtin; refine wpList_cat ei_cl rfl _ _ rfl own0 rfl hr rfl ONE.out (by unfold maxLen; omega) (by omega) hlo ?_; intro v1 w1 own1 gr1 bel1)
      go_ret
      exact ⟨_, rfl, FIN.out _ _ own1, bel1⟩
theorem OX.n_of {A : Option Addr} {e s lo hi m c n : Nat} {w : World} {cs : List Value} (h : OX e s lo hi w (.slice A m c) n cs) : m = n ∧ n ≤ c ∧ c ≤ maxLen ∧ (0 < n → ∃ g, A = some ⟨g, 0, none⟩) := by
  rcases h.1.2 with ⟨h', h0⟩ | ⟨g', cap', cur, h', hb, hg, hnc, hcm', hcs', htake⟩
  · simp only [Value.slice.injEq] at h'
    exact ⟨by omega, by omega, by unfold maxLen; omega, fun h => by omega⟩
  · simp only [Value.slice.injEq] at h'
    obtain ⟨rfl, rfl, rfl⟩ := h'
    exact ⟨rfl, hnc, hcm', fun _ => ⟨g', rfl⟩⟩
/-- slices.Insert of one clip into a row that is owned. -/
theorem Insert_one (A : Option Addr) (n c i vb lo hi : Nat) (xs : List Clip) (x : Clip) (w : World) (own : OA cl 78 5 lo hi w (.slice A n c) xs)
    (hvb : w.heap[vb]? = some (.cells (cl x).toArray 78 (0, 0))) (hgv : vb < lo ∨ hi ≤ vb) (hi' : i ≤ n) (hn : n ≤ 1000000000) (hlo : lo ≤ w.heap.size) (hhi : hi ≤ w.heap.size) :
    Calls Try.prog 145 #[.slice A n c, .int .i64 i, .slice (some ⟨vb, 0, none⟩) 1 1] w fun e w' => ∃ v, e = .returned v ∧ OA cl 78 5 lo w'.heap.size w' v (M.insP xs i [x]) ∧ Below lo w w' := by
  obtain ⟨hxm, hnc, hcm, hform⟩ := OX.n_of own
  have hvb' : w.heap[vb]? = some (.cells ([x].flatMap cl).toArray 78 (0, 0)) := by rw [hvb, List.flatMap_cons, List.flatMap_nil, List.append_nil]
  rcases Nat.lt_or_ge i n with hlt | hge
  · obtain ⟨g, rfl⟩ := hform (by omega)
    by_cases hroom : n + 1 ≤ c
    · refine (Insert_shift g n c i 1 vb 1 lo hi xs [x] w own hvb' hgv rfl (by decide) hlt hroom hn hcm).mono ?_
      rintro e w' ⟨v, rfl, own', m'⟩
      exact ⟨v, rfl, own'.wide (Nat.le_refl _) (Nat.le_trans hhi m'.size), m'.toBelow hlo⟩
    · refine (Insert_grow g n c i 1 vb 1 lo hi xs [x] w own hvb' rfl (by decide) (by decide) hlt (by omega) (by omega) hn).mono ?_
      rintro e w' ⟨v, rfl, own', b'⟩
      exact ⟨v, rfl, own'.wide hlo (Nat.le_refl _), b'.mono hlo⟩
  · obtain rfl : i = n := by omega
    exact Insert_end A i c 1 vb 1 lo hi xs [x] w own hvb' rfl (by decide) (by decide) hn hlo hxm hcm (by omega)
end Go.Proofs.Ytckihflfjecpbaa
