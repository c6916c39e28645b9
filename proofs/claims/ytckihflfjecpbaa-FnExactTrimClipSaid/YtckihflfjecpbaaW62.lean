import Derived.Test.YtckihflfjecpbaaW61
import Derived.Test.YtckihflfjecpbaaW33
namespace Go.Proofs.Ytckihflfjecpbaa
open Go.RowKit
set_option maxHeartbeats 1000000
set_option maxRecDepth 100000
theorem cls_oneCell (xs : List (Int × Int × Int × Int × Int)) : ∀ u ∈ xs.flatMap cl, u.oneCell' = true := by
  intro u hu
  obtain ⟨p, _, hp⟩ := List.mem_flatMap.1 hu
  simp only [cl, List.mem_cons, List.not_mem_nil, or_false] at hp
  rcases hp with rfl | rfl | rfl | rfl | rfl <;> rfl
theorem slices_Clone_impl_Clip_impl_Clip (A : Option Addr) (n c : Nat) (xs : List (Int × Int × Int × Int × Int)) (w : World) (hx : RA cl 5 w w.heap.size A n xs) (hn : n ≤ 1000000000) :
    Calls Try.prog 113 #[.slice A n c] w fun e w' => ∃ v, e = .returned v ∧ OA cl 78 5 w.heap.size w'.heap.size w' v xs ∧ Below w.heap.size w w' := by
  have hl := Lib.hid hx.len
  rcases A with _ | ad
  · have hx0 : xs = [] := by
      rcases Nat.eq_zero_or_pos n with h0 | h0
      · exact List.eq_nil_of_length_eq_zero (by rw [hl.out]; exact h0)
      · obtain ⟨ad, h, _⟩ := hx.2.2 h0
        cases h
    have hx0' := Lib.hid hx0
    clear hx0
    have heq := Lib.run_eql_slice_nil (P := Try.prog) w 63 78 none n c 0 0 Try.underlying63
    go_enter Try.func113, Try.ntmps113
    go_wp2
    go_ret
    rw [hx0'.out]
    exact ⟨_, rfl, OA.nil _, Below.refl _ _⟩
  · have heq := Lib.run_eql_slice_nil (P := Try.prog) w 63 78 (some ad) n c 0 0 Try.underlying63
    have h0 : (w.alloc (.cells #[] 78)).ownsRow w.heap.size 78 5 (.slice (some ⟨w.heap.size, 0, none⟩) 0 0) 0 [] := World.ownsRow_made _ _ _ (Nat.le_refl _) (by simp [maxLen]) rfl
    have hb0 : Below w.heap.size w (w.alloc (.cells #[] 78)) := (Below.refl _ _).alloc (Nat.le_refl _) _
    go_enter Try.func113, Try.ntmps113
    go_wp2_with (at_builtin; refine wpList_cat ei_cl rfl _ _ rfl h0 rfl (Reads.below hx.reads hb0) rfl (cls_oneCell _) (by unfold maxLen; omega) (by omega) hb0.size ?_; intro v1 w1 own1 gr1 bel1)
    go_ret
    rw [Nat.zero_add, List.nil_append, ← hl.out] at own1
    exact ⟨_, rfl, OX.of_own own1, hb0.trans bel1⟩
theorem slices_Delete_impl_Clip_impl_Clip (g n c k lo hi : Nat) (xs : List (Int × Int × Int × Int × Int)) (w : World) (own : OA cl 78 5 lo hi w (.slice (some ⟨g, 0, none⟩) n c) xs) (hk : k < n) (hn : n ≤ 1000000000) (hnc : n ≤ c) (hcm : c ≤ maxLen) :
    Calls Try.prog 140 #[.slice (some ⟨g, 0, none⟩) n c, .int .i64 k, .int .i64 ((k : Int) + 1)] w fun e w' => e = .returned (.slice (some ⟨g, 0, none⟩) (n - 1) c) ∧ OA cl 78 5 lo hi w' (.slice (some ⟨g, 0, none⟩) (n - 1) c) (xs.take k ++ xs.drop (k + 1)) ∧ Mid lo hi w w' := by
  have hm := OX.m_eq own
  unfold OA at own
  rw [← hm] at own
  have hm' := Lib.hid hm
  unfold maxLen at hcm
  obtain ⟨news, hnews⟩ : ∃ news, news = (xs.drop (k + 1)).flatMap cl := ⟨_, rfl⟩
  have hlen : news.length = (n - (k + 1)) * 5 := by rw [hnews, flat_len cl_len, List.length_drop, hm'.out]
  have hone : Hid (∀ u ∈ news, u.oneCell' = true) := by rw [hnews]; exact cls_oneCell _
  have hnews' := Lib.hid hnews
  have hlen' := Lib.hid hlen
  have ownd : w.drew.ownsRow lo 78 5 (.slice (some ⟨g, 0, none⟩) n c) n (xs.flatMap cl) := ⟨own.1.1, own.1.2⟩
  have hsp : Hid (∀ t, t < news.length → (w.drew.cell? ⟨g, 0 + k * 5 + t, none⟩).isSome = true ∧ w.drew.frozen? ⟨g, 0 + k * 5 + t, none⟩ = false) := by
    intro t ht
    have := own_cells ownd (j := 0 + k * 5 + t) (by omega)
    exact this
  have hsrc : Hid (∀ t u, news[t]? = some u → w.drew.cell? ((⟨g, (k + 1) * 5, none⟩ : Addr).add t) = some u) := by
    intro t u ht
    have htl := (List.getElem?_eq_some_iff.1 ht).1
    rw [Addr.add_lit, World.ownsRow.cellAt ownd _ (by omega), ← ht, hnews, ← flat_drop cl_len, List.getElem?_drop]
  obtain ⟨o1, g1⟩ := own_setCells news _ _ (0 + k * 5) ownd
  obtain ⟨zs, hzl, hcl⟩ := run_clear_wide (P := Try.prog) (w.drew.setCells g (0 + k * 5) news) 63 78 (.agg #[.int .i64 0, .int .i64 0, .int .i64 0, .int .i64 0, .int .i64 0]) 5 Try.underlying63 (fun _ => by kernel_rfl) rfl (by simp [Value.cells, Value.oneCell']) g ((k + (n - (k + 1))) * 5) (n - (k + (n - (k + 1)))) (c - (k + (n - (k + 1)))) (by omega)
    (fun j hj => own_cells o1 (by omega))
  obtain ⟨o2, g2⟩ := own_setCells zs _ _ ((k + (n - (k + 1))) * 5) o1
  obtain ⟨W1, hW1⟩ : ∃ W1, W1 = w.drew.setCells g (0 + k * 5) news := ⟨_, rfl⟩
  rw [← hW1] at hcl o1 o2 g1 g2
  have hW := Lib.hid hW1
  have HCL := Lib.hid hcl
  have hfin : Hid (OA cl 78 5 lo hi (W1.setCells g ((k + (n - (k + 1))) * 5) zs) (.slice (some ⟨g, 0, none⟩) (k + (n - (k + 1))) c) (xs.take k ++ xs.drop (k + 1)) ∧ Mid lo hi w (W1.setCells g ((k + (n - (k + 1))) * 5) zs)) := by
    have o3 := own_cut o2 (k := k + (n - (k + 1))) (by omega)
    have hlx : (xs.flatMap cl).length = n * 5 := own.1.1
    rw [setAll_eq zs _ _ (by rw [setAll_len, hlx, hzl]; omega), setAll_eq news _ _ (by rw [hlx, hlen]; omega), Nat.zero_add] at o3
    have e1 : (((xs.flatMap cl).take (k * 5) ++ news ++ (xs.flatMap cl).drop (k * 5 + news.length)).take ((k + (n - (k + 1))) * 5) ++ zs ++ ((xs.flatMap cl).take (k * 5) ++ news ++ (xs.flatMap cl).drop (k * 5 + news.length)).drop ((k + (n - (k + 1))) * 5 + zs.length)).take ((k + (n - (k + 1))) * 5) = (xs.take k ++ xs.drop (k + 1)).flatMap cl := by
      rw [List.append_assoc, List.take_left' (by simp [hlx, hlen, hzl]; omega), List.take_left' (by simp [hlx, hlen]; omega), flat_take cl_len, List.flatMap_append, hnews'.out]
    rw [e1] at o3
    have hle : (xs.take k ++ xs.drop (k + 1)).length = k + (n - (k + 1)) := by rw [List.length_append, List.length_take, List.length_drop, hm'.out]; omega
    have hgl : lo ≤ g ∧ g < hi := ⟨(World.ownsRow.lt own.1 g rfl).1, own.2 g rfl⟩
    refine ⟨⟨by rw [hle]; exact o3, fun q hq => by injection hq with hq; subst hq; exact hgl.2⟩, ?_⟩
    have hd : Mid lo hi w w.drew := ⟨rfl, rfl, rfl, Nat.le_refl _, fun _ _ _ => rfl⟩
    exact (hd.trans (Mid.of_grown g1 fun q hq => by injection hq with hq; subst hq; exact hgl)).trans (Mid.of_grown g2 fun q hq => by injection hq with hq; subst hq; exact hgl)
  obtain ⟨i0, hi0, hz0, hz1, hz2⟩ := info_parts (ei_cl).2.1
  have hkc : k ≤ c := by omega
  have hkc1 : k + 1 ≤ c := by omega
  have hb1 : (0 : Int) ≤ (k : Int) + 1 := by omega
  have hb2 : (k : Int) + 1 ≤ (n : Int) := by omega
  clear hW1 hcl o1 o2 g1 g2 own ownd hnews hlen hm
  by_cases hck : c = k + 1
  · subst hck
    obtain rfl : n = k + 1 := by omega
    have hnil := Lib.hid (show news.length = 0 * 5 by have := hlen'.out; omega)
    have hb3 : (k : Int) ≤ (k : Int) + 1 := by omega
    have hsrc0 : Hid (∀ t u, news[t]? = some u → w.drew.cell? ((⟨g, 0, none⟩ : Addr).add t) = some u) := by
      intro t u ht
      have := (List.getElem?_eq_some_iff.1 ht).1
      have := hnil.out
      omega
    simp only [Nat.sub_self, Nat.add_zero, Nat.add_sub_cancel_left] at HCL hfin hzl
    clear hlen' hsrc hb2
    have hb2 : (k : Int) + 1 ≤ ((k + 1 : Nat) : Int) := by omega
    go_enter Try.func140, Try.ntmps140
    go_wp2_with fail
    go_region_law (refine step_append_room rfl (.tmp 22) (.tmp 25) 63 rfl 78 i0 5 Try.underlying63 hi0 hz1 g 0 k (k + 1) (by simp [Act.eval, Act.put]) ⟨g, 0, none⟩ 0 0 news (by simp [Act.eval, Act.put]) hnil.out hsrc0.out hone.out (by omega) hsp.out ?_; rw [← hW.out])
    have hcl := HCL.out
    go_wp2
    go_ret
    exact ⟨rfl, hfin.out⟩
  · go_enter Try.func140, Try.ntmps140
    go_wp2_with fail
    go_region_law (refine step_append_room rfl (.tmp 22) (.tmp 25) 63 rfl 78 i0 5 Try.underlying63 hi0 hz1 g 0 k c (by simp [Act.eval, Act.put]) ⟨g, (k + 1) * 5, none⟩ (n - (k + 1)) (c - (k + 1)) news (by simp [Act.eval, Act.put]) hlen'.out hsrc.out hone.out (by omega) hsp.out ?_; rw [← hW.out])
    have hcl := HCL.out
    have hne : ¬ c = k + (n - (k + 1)) := by omega
    have hle1 : k + (n - (k + 1)) ≤ n := by omega
    go_wp2
    go_ret
    rw [show n - 1 = k + (n - (k + 1)) by omega]
    exact ⟨rfl, hfin.out⟩
theorem impl_Track_without (A : Option Addr) (n c k : Nat) (xs : List (Int × Int × Int × Int × Int)) (w : World) (hx : RA cl 5 w w.heap.size A n xs) (hn : n ≤ 1000000000) (hk : k < n) :
    Calls Try.prog 107 #[.agg #[.slice A n c], .int .i64 k] w fun e w' => ∃ v, e = .returned (.agg #[v]) ∧ OA cl 78 5 w.heap.size w'.heap.size w' v (M.dropP xs k) ∧ Below w.heap.size w w' := by
  have hl := Lib.hid hx.len
  have hb2 : Below w.heap.size w ((w.alloc (.cells #[.slice A n c] 65)).alloc (.cells #[.slice none 0 0] 65)) := ((Below.refl _ _).alloc (Nat.le_refl _) _).alloc (by simp) _
  have hx1 := hx.later hb2
  go_enter Try.func107, Try.ntmps107
  go_wp2_with fail
  refine (slices_Clone_impl_Clip_impl_Clip _ _ _ _ _ hx1 hn).mono ?_
  rintro e w2 ⟨v, rfl, own2, bel2⟩
  obtain ⟨A2, c2, rfl, hc2, hm2, -⟩ := own_shape own2.1
  obtain ⟨g, rfl, hg1, hg2, hg3, -⟩ := own2.form (by rw [hl.out]; omega)
  have hq : w2.cell? ⟨w.heap.size + 1, 0, none⟩ = some (.slice none 0 0) := by rw [bel2.cell (by simp)]; simp [go_sem]
  have hf : w2.frozen? ⟨w.heap.size + 1, 0, none⟩ = false := by rw [bel2.frozen (by simp)]; simp [go_sem]
  have hs2 : w.heap.size + 1 + 1 ≤ w2.heap.size := by have := bel2.size; simpa using this
  have e0 : ((w.alloc (.cells #[.slice A n c] 65)).alloc (.cells #[.slice none 0 0] 65)).heap.size = w.heap.size + 1 + 1 := by simp
  rw [e0] at own2
  clear e0
  go_wp2_with fail
  refine (slices_Delete_impl_Clip_impl_Clip g xs.length c2 k _ _ xs w2 own2 (by rw [hl.out]; exact hk) (by rw [hl.out]; exact hn) hc2 hm2).mono ?_
  rintro e w3 ⟨rfl, own3, m3⟩
  have B3 : Below (w.heap.size + 1 + 1) w2 w3 := m3.toBelow hs2
  have hq3 : w3.cell? ⟨w.heap.size + 1, 0, none⟩ = some (.slice none 0 0) := by rw [B3.cell (by simp)]; exact hq
  have hf3 : w3.frozen? ⟨w.heap.size + 1, 0, none⟩ = false := by rw [B3.frozen (by simp)]; exact hf
  go_wp2
  refine bodyPost_ret (v := .agg #[.slice (some ⟨g, 0, none⟩) (xs.length - 1) c2]) (by simp [results, Try.results107, go_sem, hq3, hf3]) rfl ?_
  exact ⟨_, rfl, (own3.mid (Mid.cell w3 (w.heap.size + 1) 0 (.slice (some ⟨g, 0, none⟩) (xs.length - 1) c2)) (.inr (Nat.le_refl _)) m3.size).wide (by omega) (by simpa using m3.size), ((hb2.trans (bel2.mono hb2.size)).trans (B3.mono (by omega))).setCell (by simp) _⟩
theorem spec_l23Drop (A : Option Addr) (n c k : Nat) (xs : List (Int × Int × Int × Int × Int)) (w : World) (hx : RA cl 5 w w.heap.size A n xs) (hn : n ≤ 1000000000) (hk : k < n) (hc : n ≤ c) (hm : c ≤ maxLen) :
    Calls Try.prog 104 #[.slice A n c, .int .i64 k] w fun e w' => ∃ v, e = .returned v ∧ OA cl 78 5 w.heap.size w'.heap.size w' v (M.dropP xs k) ∧ Below w.heap.size w w' := by
  have hl := Lib.hid hx.len
  unfold maxLen at hm
  obtain ⟨b, o, x0, rfl, hab, X0, hc0⟩ := hx.at cl_len (by decide) (k := 0) (by omega)
  clear hc0 X0 x0
  have h0 : (w.alloc (.cells #[] 78)).ownsRow w.heap.size 78 5 (.slice (some ⟨w.heap.size, 0, none⟩) 0 0) 0 [] := World.ownsRow_made _ _ _ (Nat.le_refl _) (by simp [maxLen]) rfl
  have hb0 : Below w.heap.size w (w.alloc (.cells #[] 78)) := (Below.refl _ _).alloc (Nat.le_refl _) _
  have r1 := (hx.head cl_len (Nat.le_of_lt hk)).reads.below hb0
  have r2 := (hx.cut cl_len (k := k + 1) hk hc).reads
  have fin : ∀ v (w1 w2 : World), w2.ownsRow w.heap.size 78 5 v (k + (n - (k + 1))) ((xs.take k).flatMap cl ++ (xs.drop (k + 1)).flatMap cl) → OA cl 78 5 w.heap.size w2.heap.size w2 v (M.dropP xs k) := by
    intro v w1 w2 h
    unfold OA M.dropP
    rw [← List.flatMap_append] at h
    rw [List.length_append, List.length_take, List.length_drop, hl.out, Nat.min_eq_left (Nat.le_of_lt hk)]
    exact OX.of_own h
  have FIN := Lib.hid fin
  clear fin
  by_cases hck : c = k + 1
  · rw [if_pos hck] at r2
    subst hck
    obtain rfl : n = k + 1 := by omega
    rw [Nat.sub_self] at r2 FIN
    have tok1 : True := trivial
    go_enter Try.func104, Try.ntmps104
    go_wp2_with (first | (at_builtin; have _t := tok1; refine wpList_cat ei_cl rfl _ _ rfl h0 rfl r1 rfl (cls_oneCell _) (by unfold maxLen; omega) (by omega) hb0.size ?_; intro v1 w1 own1 gr1 bel1; rw [Nat.zero_add, List.nil_append] at own1; obtain ⟨A1, c1, rfl, -⟩ := own_shape own1; have hb1 := hb0.trans bel1; clear tok1 _t) | (at_builtin; refine wpList_cat ei_cl rfl _ _ rfl own1 rfl (r2.below hb1) rfl (cls_oneCell _) (by unfold maxLen; omega) (by omega) hb1.size ?_; intro v2 w2 own2 gr2 bel2))
    go_ret
    exact ⟨_, rfl, FIN.out _ w1 _ own2, hb1.trans bel2⟩
  · rw [if_neg hck, Option.map_some, Addr.add_lit] at r2
    have tok1 : True := trivial
    go_enter Try.func104, Try.ntmps104
    go_wp2_with (first | (at_builtin; have _t := tok1; refine wpList_cat ei_cl rfl _ _ rfl h0 rfl r1 rfl (cls_oneCell _) (by unfold maxLen; omega) (by omega) hb0.size ?_; intro v1 w1 own1 gr1 bel1; rw [Nat.zero_add, List.nil_append] at own1; obtain ⟨A1, c1, rfl, -⟩ := own_shape own1; have hb1 := hb0.trans bel1; clear tok1 _t) | (at_builtin; refine wpList_cat ei_cl rfl _ _ rfl own1 rfl (r2.below hb1) rfl (cls_oneCell _) (by unfold maxLen; omega) (by omega) hb1.size ?_; intro v2 w2 own2 gr2 bel2))
    go_ret
    exact ⟨_, rfl, FIN.out _ w1 _ own2, hb1.trans bel2⟩
end Go.Proofs.Ytckihflfjecpbaa
