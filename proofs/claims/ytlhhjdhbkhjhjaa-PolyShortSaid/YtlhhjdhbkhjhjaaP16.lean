/- PolyAdds, the walk. -/
import Derived.Test.YtlhhjdhbkhjhjaaP15
namespace Go.Proofs.Ytlhhjdhbkhjhjaa.Po
open Go.RowKit Go.Proofs.YtlhhjdhbkhjhjaaW.PrintWords Go.Proofs.YtlhhjdhbkhjhjaaW.PrintLast Go.Proofs.YtlhhjdhbkhjhjaaW.PrintMore Mem Rg
attribute [local go_sem] Oper.semAt_some
set_option linter.unusedVariables false
set_option linter.unusedSimpArgs false
theorem tag_bytes (key b : List Int) : Bytes (tagF key b) := digits_bytes _ _
theorem tag_len (key b : List Int) : (tagF key b).length = 16 := digits_len _ _
/-- The key without its second half. -/
def bare (key : List Int) : List Int := key.take 16 ++ List.replicate 16 0
theorem valB_zeros : ∀ n : Nat, valB (List.replicate n 0) = 0
  | 0 => rfl
  | n + 1 => by rw [List.replicate_succ, valB, valB_zeros n]; rfl
theorem bare_tag {key : List Int} (hk : key.length = 32) (b : List Int) : tagF (bare key) b = digits 16 (accF (rF key) (chs b ((b.length + 15) / 16))) := by
  have h1 : (key.take 16).length = 16 := by rw [List.length_take]; omega
  have e1 : (bare key).take 16 = key.take 16 := by
    unfold bare
    rw [List.take_append_of_le_length (by omega), List.take_take]; rfl
  have e2 : (bare key).drop 16 = List.replicate 16 0 := by
    unfold bare
    simp [List.drop_append, h1]
  unfold tagF rF
  rw [e1, e2, valB_zeros, Int.add_zero]
theorem adds_sum {key : List Int} (hk : key.length = 32) (b : List Int) : digits 16 (valB (tagF (bare key) b) + valB (key.drop 16)) = tagF key b := by
  rw [bare_tag hk, digits_cut]; rfl
theorem tag_none {key : List Int} (hk : key.length = 32) (hb : Bytes key) : tagF key [] = key.drop 16 := by
  have h : tagF key [] = digits 16 (0 + valB (key.drop 16)) := rfl
  have hl : (key.drop 16).length = 16 := by rw [List.length_drop]; omega
  rw [h, Int.zero_add]
  have := digits_valB (key.drop 16) (bytes_drop hb 16)
  rwa [hl] at this
theorem bare_none {key : List Int} (hk : key.length = 32) : tagF (bare key) [] = List.replicate 16 0 := by
  rw [bare_tag hk]
  have h : digits 16 (accF (rF key) (chs [] ((([] : List Int).length + 15) / 16))) = digits 16 0 := rfl
  exact h
theorem bare_len {key : List Int} (hk : key.length = 32) : (bare key).length = 32 := by
  unfold bare
  rw [List.length_append, List.length_take, List.length_replicate]; omega
theorem bare_bytes {key : List Int} (hb : Bytes key) : Bytes (bare key) := fun x hx => by
  rcases List.mem_append.1 hx with h | h
  · exact bytes_take hb 16 x h
  · rw [(List.mem_replicate.1 h).2]; decide
/-- The second half set to nought, so far. -/
def bz (key : List Int) : Nat → List Int
  | 0 => key
  | i + 1 => (bz key i).set (16 + i) 0
theorem bz_len (key : List Int) : ∀ i, (bz key i).length = key.length
  | 0 => rfl
  | i + 1 => by rw [bz, List.length_set]; exact bz_len key i
theorem bz_get (key : List Int) (j : Nat) (hj : j < key.length) : ∀ i, (bz key i).getD j 0 = if 16 ≤ j ∧ j < 16 + i then 0 else key.getD j 0
  | 0 => by rw [if_neg (by omega)]; rfl
  | i + 1 => by
    rw [bz]
    by_cases e : 16 + i = j
    · subst e
      rw [set_getD_eq _ _ (by rw [bz_len]; exact hj), if_pos (by omega)]
    · rw [set_getD_ne _ _ e, bz_get key j hj i]
      by_cases h : 16 ≤ j ∧ j < 16 + i
      · rw [if_pos h, if_pos (by omega)]
      · rw [if_neg h, if_neg (by omega)]
theorem bz_all {key : List Int} (hk : key.length = 32) : bz key 16 = bare key :=
  list_ext_getD (by rw [bz_len, bare_len hk, hk]) fun i hi => by
    rw [bz_len] at hi
    rw [bz_get key i hi 16]
    unfold bare
    rw [List.getD_eq_getElem?_getD (l := _ ++ _)]
    have hl : (key.take 16).length = 16 := by rw [List.length_take]; omega
    by_cases h : i < 16
    · rw [if_neg (by omega), List.getElem?_append_left (by omega), List.getElem?_take_of_lt h, List.getD_eq_getElem?_getD]
    · rw [if_pos (by omega), List.getElem?_append_right (by omega), List.getElem?_replicate, hl, if_pos (by omega)]
      rfl
set_option maxHeartbeats 4000000 in
set_option maxRecDepth 100000 in
theorem adds_big (key : List Int) (A : Option Addr) (cap n : Nat) (w : World) (hn : 20000 < n) : Calls Try.prog 4 #[.agg (ia .u8 key), .slice A n cap] w fun e w' => e = .returned (.bool true) ∧ Below w.heap.size w w' := by
  have hd : decide ((20000 : Int) < (n : Int)) = true := by simp; omega
  have HB0 := Hide.mk (Below.refl w.heap.size w)
  go_enter Try.func4, Try.ntmps4
  go_wp2_with (first | ((with_reducible refine gate_dst (N := 2) rfl ?_); refine box_event ?hg (N := 2) ?hd (cs := ia .u8 key) (t := 22) ?hr ?_; (case hd => rfl); (case hg => rfl); (case hr => kernel_rfl); intro g2 hg w1 hbox hb; have BKg2 := Hide.mk hbox; have HB1' := Hide.mk (below_step HB0.out hb); have GEg2 : w.heap.size ≤ g2 := (by rw [hg]; exact HB0.out.size); clear HB0; have HB1 := HB1'; clear HB1'; clear hbox hb hg))
  refine (alive_any _).mono ?_
  rintro e w2 ⟨rfl, hb⟩
  have HB2 := Hide.mk (below_step HB1.out hb)
  clear hb HB1 BKg2
  go_wp2_with fail
  refine (alive_any _).mono ?_
  rintro e w3 ⟨rfl, hb⟩
  have HB3 := Hide.mk (below_step HB2.out hb)
  clear hb HB2
  go_wp2_with fail
  go_ret
  exact ⟨rfl, HB3.out⟩
set_option maxHeartbeats 4000000 in
set_option maxRecDepth 100000 in
theorem adds_walk (key : List Int) (hk : key.length = 32) (hkb : Bytes key) (A : Option Addr) (cap : Nat) (xs : List Int) (w : World) (hby : Bytes xs) (hn : xs.length ≤ 20000) (hc : xs.length ≤ cap) (hr : ReadsInt w .u8 A xs.length xs) : Calls Try.prog 4 #[.agg (ia .u8 key), .slice A xs.length cap] w fun e w' => e = .returned (.bool true) ∧ Below w.heap.size w w' := by
  have hd : decide ((20000 : Int) < (xs.length : Int)) = false := by simp; omega
  have HK := Hide.mk (And.intro hk hkb)
  have HBY := Hide.mk hby
  have HN := Hide.mk hn
  have HC := Hide.mk hc
  have HR := Hide.mk hr
  clear hk hkb hby hn hc hr
  have HB0 := Hide.mk (Below.refl w.heap.size w)
  go_enter Try.func4, Try.ntmps4
  go_wp2_with (first | ((with_reducible refine gate_dst (N := 2) rfl ?_); refine box_event ?hg (N := 2) ?hd (cs := ia .u8 key) (t := 22) ?hr ?_; (case hd => rfl); (case hg => rfl); (case hr => kernel_rfl); intro g2 hg w1 hbox hb; have BKg2 := Hide.mk hbox; have HB1' := Hide.mk (below_step HB0.out hb); have GEg2 : w.heap.size ≤ g2 := (by rw [hg]; exact HB0.out.size); clear HB0; have HB1 := HB1'; clear HB1'; clear hbox hb hg))
  refine (alive_any _).mono ?_
  rintro e w2 ⟨rfl, hb⟩
  have HB2 := Hide.mk (below_step HB1.out hb)
  have K2 := Hide.mk (blk_below BKg2.out hb)
  clear hb HB1 BKg2
  go_wp2_with (first | ((with_reducible refine gate_dst (N := 5) rfl ?_); refine box_event ?hg (N := 5) ?hd (cs := ia .u8 (List.replicate 16 0)) (t := 25) ?hr ?_; (case hd => rfl); (case hg => rfl); (case hr => kernel_rfl); intro g5 hg w3 hbox hb; have Lg2g5 : g2 < g5 := (by rw [hg]; exact blk_lt K2.out); have BKg5 := Hide.mk hbox; have HB3' := Hide.mk (below_step HB2.out hb); have GEg5 : w.heap.size ≤ g5 := (by rw [hg]; exact HB2.out.size); clear HB2; have HB3 := HB3'; clear HB3'; have K2' := Hide.mk (blk_below K2.out hb); clear K2; have K2 := K2'; clear K2'; clear hbox hb hg) | ((with_reducible refine gate_dst (N := 20) rfl ?_); refine wpList_load_row rfl 22 (.tmp 2) rfl g2 rfl 22 _ (0, 0) _ K2.out Try.underlying22 rfl ?hsz ?_; (case hsz => rw [ia_size, HK.out.1]; kernel_rfl)) | ((with_reducible refine gate_dst (N := 6) rfl ?_); refine box_event ?hg (N := 6) ?hd (cs := ia .u8 (List.replicate 32 0)) (t := 22) ?hr ?_; (case hd => rfl); (case hg => rfl); (case hr => kernel_rfl); intro g6 hg w4 hbox hb; have Lg2g6 : g2 < g6 := (by rw [hg]; exact blk_lt K2.out); have Lg5g6 : g5 < g6 := (by rw [hg]; exact blk_lt BKg5.out); have BKg6 := Hide.mk hbox; have HB4' := Hide.mk (below_step HB3.out hb); have GEg6 : w.heap.size ≤ g6 := (by rw [hg]; exact HB3.out.size); clear HB3; have HB4 := HB4'; clear HB4'; have K2' := Hide.mk (blk_below K2.out hb); clear K2; have K2 := K2'; clear K2'; have BKg5' := Hide.mk (blk_below BKg5.out hb); clear BKg5; have BKg5 := BKg5'; clear BKg5'; clear hbox hb hg) | ((with_reducible refine gate_store (p := 6) (v := .tmp 20) rfl ?_); go_must (refine store_row rfl rfl 22 (.tmp 6) (.tmp 20) rfl g6 rfl (ia .u8 key) rfl (ia_one _ _) (by rw [ia_size, HK.out.1]; kernel_rfl) _ _ BKg6.out (by rw [ia_size, ia_size, HK.out.1]; rfl) ?_); intro w5 hb ho; have BKg6' := Hide.mk hb; have HB4' := Hide.mk (ho.below HB4.out GEg6); clear BKg6 HB4; have BKg6 := BKg6'; have HB4 := HB4'; clear BKg6' HB4'; have K2' := Hide.mk (ho.blk K2.out (by omega)); clear K2; have K2 := K2'; clear K2'; have BKg5' := Hide.mk (ho.blk BKg5.out (by omega)); clear BKg5; have BKg5 := BKg5'; clear BKg5'; clear hb ho))
  go_loopg [7] 16 (fun gp v wy => ∃ i : Nat, i + gp = 16 ∧ v = .int .i64 i ∧ wy.heap[g2]? = some (.cells (ia .u8 key) 22 (0, 0)) ∧ wy.heap[g5]? = some (.cells (ia .u8 ((key.drop 16).take i ++ List.replicate (16 - i) 0)) 25 (0, 0)) ∧ wy.heap[g6]? = some (.cells (ia .u8 (bz key i)) 22 (0, 0)) ∧ Below w.heap.size w wy)
  case atStart => exact ⟨0, rfl, rfl, K2.out, BKg5.out, BKg6.out, HB4.out⟩
  case round =>
    clear K2 BKg5 BKg6 HB4
    obtain ⟨i, hi, rfl, h2, h5, h6, hb⟩ := hrel
    have K2 := Hide.mk h2
    have K5 := Hide.mk h5
    have K6 := Hide.mk h6
    have HB := Hide.mk hb
    clear h2 h5 h6 hb
    have HDL : Hide ((key.drop 16).length = 16) := ⟨by rw [List.length_drop, HK.out.1]⟩
    by_cases hlt : i < 16
    · have hd : decide ((i : Int) < 16) = true := by simp; omega
      have hkd : key.getD (16 + i) 0 = (key.drop 16).getD i 0 := by
        rw [List.getD_eq_getElem?_getD, List.getD_eq_getElem?_getD, List.getElem?_drop]
      have cx := cell_row K2.out (16 + i) (by rw [HK.out.1]; omega) hkd
      have HFS := Hide.mk (fill_set (key.drop 16) 16 i ((key.drop 16).getD i 0) hlt HDL.out rfl)
      have HS : Hide (bz key (i + 1) = (bz key i).set (16 + i) 0) := ⟨rfl⟩
      have HBL : Hide ((bz key i).length = 32) := ⟨(bz_len _ _).trans HK.out.1⟩
      generalize (key.drop 16).getD i 0 = x at cx HFS
      clear hkd
      have f1 : IntKind.i64.wrap ((i : Int) + 1) = (i : Int) + 1 := IntWalk.i64_in _ (by omega)
      have f2 : IntKind.i64.wrap (16 + (i : Int)) = ((16 + i : Nat) : Int) := by rw [IntWalk.i64_in _ (by omega)]; omega
      have hi0 : (0 : Int) ≤ (i : Int) := Int.natCast_nonneg _
      have hi1 : (i : Int) < 16 := by omega
      have hi2 : (16 : Int) + (i : Int) < 32 := by omega
      have hi3 : (0 : Int) ≤ 16 + (i : Int) := by omega
      go_wp2_with (first | ((with_reducible refine gate_store (p := 30) (v := .tmp 29) rfl ?_); refine store_cell rfl rfl 5 (.tmp 30) (.tmp 29) rfl g5 (i) (by first | rfl | go_simp) (.int .u8 x) rfl rfl rfl (by kernel_rfl) _ _ K5.out ?hlt ?_; (case hlt => rw [ia_size, List.length_append, List.length_take, HDL.out, List.length_replicate]; omega); intro w9 hb ho; rw [ia_set, HFS.out] at hb; clear cx; have K5' := Hide.mk hb; have HB' := Hide.mk (ho.below HB.out GEg5); clear K5 HB; have K5 := K5'; have HB := HB'; clear K5' HB'; have K2' := Hide.mk (ho.blk K2.out (by omega)); clear K2; have K2 := K2'; clear K2'; have K6' := Hide.mk (ho.blk K6.out (by omega)); clear K6; have K6 := K6'; clear K6'; clear hb ho) | ((with_reducible refine gate_store (p := 33) (v := .const (.int .u8 0)) rfl ?_); refine store_cell rfl rfl 5 (.tmp 33) (.const (.int .u8 0)) rfl g6 (16 + i) (by first | rfl | go_simp) (.int .u8 0) rfl rfl rfl (by kernel_rfl) _ _ K6.out ?hlt ?_; (case hlt => rw [ia_size, HBL.out]; omega); intro wA hb ho; rw [ia_set, ← HS.out] at hb; have K6' := Hide.mk hb; have HB' := Hide.mk (ho.below HB.out GEg6); clear K6 HB; have K6 := K6'; have HB := HB'; clear K6' HB'; have K2' := Hide.mk (ho.blk K2.out (by omega)); clear K2; have K2 := K2'; clear K2'; have K5' := Hide.mk (ho.blk K5.out (by omega)); clear K5; have K5 := K5'; clear K5'; clear hb ho))
      go_roundg (gk - 1)
      case measure => omega
      case rel => exact ⟨i + 1, by omega, by go_num, K2.out, K5.out, K6.out, HB.out⟩
    · obtain rfl : i = 16 := by omega
      rw [show ((16 : Nat) : Int) = 16 from rfl]
      have HE : Hide ((key.drop 16).take 16 ++ List.replicate (16 - 16) 0 = key.drop 16) := ⟨by rw [List.take_of_length_le (by rw [HDL.out]; omega)]; simp⟩
      rw [HE.out] at K5
      rw [bz_all HK.out.1] at K6
      go_wp2_with (first | ((with_reducible refine gate_dst (N := 35) rfl ?_); refine wpList_load_row rfl 22 (.tmp 2) rfl g2 rfl 22 _ (0, 0) _ K2.out Try.underlying22 rfl ?hsz ?_; (case hsz => rw [ia_size, HK.out.1]; kernel_rfl)))
      refine (tag_any key HK.out.1 HK.out.2 A cap xs _ HBY.out (by have := HN.out; omega) HC.out (HR.out.below HB.out)).mono ?_
      rintro e w6 ⟨rfl, hb⟩
      have HB6 := Hide.mk (below_step HB.out hb)
      have K26 := Hide.mk (blk_below K2.out hb)
      have K56 := Hide.mk (blk_below K5.out hb)
      have K66 := Hide.mk (blk_below K6.out hb)
      clear hb HB K2 K5 K6
      have HTL : Hide ((tagF key xs).length = 16) := ⟨tag_len _ _⟩
      obtain ⟨TF, hTF⟩ : ∃ TF, tagF key xs = TF := ⟨_, rfl⟩
      rw [hTF] at HTL ⊢
      have HTE := Hide.mk hTF
      clear hTF
      have HBL : Hide ((bare key).length = 32 ∧ Bytes (bare key)) := ⟨bare_len HK.out.1, bare_bytes HK.out.2⟩
      go_wp2_with (first | ((with_reducible refine gate_dst (N := 8) rfl ?_); refine box_event ?hg (N := 8) ?hd (cs := ia .u8 (List.replicate 16 0)) (t := 25) ?hr ?_; (case hd => rfl); (case hg => rfl); (case hr => kernel_rfl); intro g8 hg w7 hbox hb; have Lg2g8 : g2 < g8 := (by rw [hg]; exact blk_lt K26.out); have Lg5g8 : g5 < g8 := (by rw [hg]; exact blk_lt K56.out); have Lg6g8 : g6 < g8 := (by rw [hg]; exact blk_lt K66.out); have BKg8 := Hide.mk hbox; have HB7' := Hide.mk (below_step HB6.out hb); have GEg8 : w.heap.size ≤ g8 := (by rw [hg]; exact HB6.out.size); clear HB6; have HB7 := HB7'; clear HB7'; have K26' := Hide.mk (blk_below K26.out hb); clear K26; have K26 := K26'; clear K26'; have K56' := Hide.mk (blk_below K56.out hb); clear K56; have K56 := K56'; clear K56'; have K66' := Hide.mk (blk_below K66.out hb); clear K66; have K66 := K66'; clear K66'; clear hbox hb hg) | ((with_reducible refine gate_store (p := 8) (v := .tmp 38) rfl ?_); go_must (refine store_row rfl rfl 25 (.tmp 8) (.tmp 38) rfl g8 rfl (ia .u8 TF) rfl (ia_one _ _) (by rw [ia_size, HTL.out]; kernel_rfl) _ _ BKg8.out (by rw [ia_size, ia_size, HTL.out]; rfl) ?_); intro w8 hb ho; have BKg8' := Hide.mk hb; have HB7' := Hide.mk (ho.below HB7.out GEg8); clear BKg8 HB7; have BKg8 := BKg8'; have HB7 := HB7'; clear BKg8' HB7'; have K26' := Hide.mk (ho.blk K26.out (by omega)); clear K26; have K26 := K26'; clear K26'; have K56' := Hide.mk (ho.blk K56.out (by omega)); clear K56; have K56 := K56'; clear K56'; have K66' := Hide.mk (ho.blk K66.out (by omega)); clear K66; have K66 := K66'; clear K66'; clear hb ho) | ((with_reducible refine gate_dst (N := 41) rfl ?_); refine wpList_load_row rfl 22 (.tmp 6) rfl g6 rfl 22 _ (0, 0) _ K66.out Try.underlying22 rfl ?hsz ?_; (case hsz => rw [ia_size, HBL.out.1]; kernel_rfl)))
      refine (tag_any (bare key) HBL.out.1 HBL.out.2 A cap xs _ HBY.out (by have := HN.out; omega) HC.out (HR.out.below HB7.out)).mono ?_
      rintro e w9 ⟨rfl, hb⟩
      have HB9 := Hide.mk (below_step HB7.out hb)
      have K29 := Hide.mk (blk_below K26.out hb)
      have K59 := Hide.mk (blk_below K56.out hb)
      have K89 := Hide.mk (blk_below BKg8.out hb)
      clear hb HB7 K26 K56 K66 BKg8
      have HUL : Hide ((tagF (bare key) xs).length = 16 ∧ Bytes (tagF (bare key) xs)) := ⟨tag_len _ _, tag_bytes _ _⟩
      have HSM : Hide (digits 16 (valB (tagF (bare key) xs) + valB (key.drop 16)) = TF) := ⟨by rw [adds_sum HK.out.1, HTE.out]⟩
      have HUN : Hide (xs.length = 0 → tagF (bare key) xs = List.replicate 16 0) := ⟨fun h => by rw [List.eq_nil_of_length_eq_zero h]; exact bare_none HK.out.1⟩
      obtain ⟨UF, hUF⟩ : ∃ UF, tagF (bare key) xs = UF := ⟨_, rfl⟩
      rw [hUF] at HUL HSM HUN ⊢
      clear hUF
      go_wp2_with (first | ((with_reducible refine gate_dst (N := 10) rfl ?_); refine box_event ?hg (N := 10) ?hd (cs := ia .u8 (List.replicate 16 0)) (t := 25) ?hr ?_; (case hd => rfl); (case hg => rfl); (case hr => kernel_rfl); intro gA hg wA hbox hb; have Lg2gA : g2 < gA := (by rw [hg]; exact blk_lt K29.out); have Lg5gA : g5 < gA := (by rw [hg]; exact blk_lt K59.out); have Lg8gA : g8 < gA := (by rw [hg]; exact blk_lt K89.out); have BKgA := Hide.mk hbox; have HBA' := Hide.mk (below_step HB9.out hb); have GEgA : w.heap.size ≤ gA := (by rw [hg]; exact HB9.out.size); clear HB9; have HBA := HBA'; clear HBA'; have K29' := Hide.mk (blk_below K29.out hb); clear K29; have K29 := K29'; clear K29'; have K59' := Hide.mk (blk_below K59.out hb); clear K59; have K59 := K59'; clear K59'; have K89' := Hide.mk (blk_below K89.out hb); clear K89; have K89 := K89'; clear K89'; clear hbox hb hg) | ((with_reducible refine gate_store (p := 10) (v := .tmp 44) rfl ?_); go_must (refine store_row rfl rfl 25 (.tmp 10) (.tmp 44) rfl gA rfl (ia .u8 UF) rfl (ia_one _ _) (by rw [ia_size, HUL.out.1]; kernel_rfl) _ _ BKgA.out (by rw [ia_size, ia_size, HUL.out.1]; rfl) ?_); intro wB hb ho; have BKgA' := Hide.mk hb; have HBA' := Hide.mk (ho.below HBA.out GEgA); clear BKgA HBA; have BKgA := BKgA'; have HBA := HBA'; clear BKgA' HBA'; have K29' := Hide.mk (ho.blk K29.out (by omega)); clear K29; have K29 := K29'; clear K29'; have K59' := Hide.mk (ho.blk K59.out (by omega)); clear K59; have K59 := K59'; clear K59'; have K89' := Hide.mk (ho.blk K89.out (by omega)); clear K89; have K89 := K89'; clear K89'; clear hb ho))
      have HTN := Hide.mk (tag_none HK.out.1 HK.out.2)
      have hz : ∀ w : World, (Instr.build 25 #[]).run Try.prog w = .ok (.agg (ia .u8 (List.replicate 16 0))) w := fun w => by kernel_rfl
      by_cases hpos : 0 < xs.length
      · have hd0 : decide ((0 : Int) < (xs.length : Int)) = true := decide_eq_true (by omega)
        refine Plan.region_plan (fun w' => w'.heap[g8]? = some (.cells (ia .u8 TF) 25 (0, 0)) ∧ w'.heap[gA]? = some (.cells (ia .u8 UF) 25 (0, 0)) ∧ w'.heap[g5]? = some (.cells (ia .u8 (key.drop 16)) 25 (0, 0)) ∧ w'.heap[g2]? = some (.cells (ia .u8 key) 22 (0, 0)) ∧ Below w.heap.size w w') [] [(0, 0, some 46), (1, 0, some 47), (2, 0, some 48), (3, 0, some 49), (4, 0, some 50), (5, 0, some 51), (6, 0, some 52), (7, 0, some 53), (8, 0, some 54), (9, 0, some 55), (10, 1, some 56), (11, 0, some 57), (12, 0, some 58), (13, 0, some 59), (14, 0, some 60), (16, 0, some 62), (15, 1, some 61), (17, 0, some 63), (18, 0, some 64), (19, 0, some 65), (20, 0, some 66), (21, 0, some 67), (22, 0, some 68), (23, 0, some 69), (24, 0, some 70), (25, 0, some 71), (26, 0, some 72), (27, 0, some 73), (28, 0, some 74), (29, 0, some 4)] (by kernel_rfl) (by kernel_rfl) (by decide) ⟨blk_drew K89.out, blk_drew BKgA.out, blk_drew K59.out, blk_drew K29.out, below_drew HBA.out⟩ (fun wz ewz hS => ?_)
        clear ewz
        (repeat (first | (refine Plan.plan_take (v := ?_) (a' := ?_) rfl ?_ ?_ ?_ ?_; rotate_left 2; (· rfl); (· (intro w' hs; go_simp; with_reducible rfl)); (· (simp only [Act.put, List.setIfInBounds_toArray, List.set_cons_zero, List.set_cons_succ]; rfl))) | (refine Plan.plan_skip (a' := ?_) rfl ?_ ?_ ?_; rotate_left 1; (· rfl); (· (simp only [Act.put, List.setIfInBounds_toArray, List.set_cons_zero, List.set_cons_succ]; rfl))) | (refine Plan.plan_pure (v := ?_) (a' := ?_) rfl ?_ ?_ ?_ ?_; rotate_left 2; (· rfl); (· (intro w'; go_simp; with_reducible rfl)); (· (simp only [Act.put, List.setIfInBounds_toArray, List.set_cons_zero, List.set_cons_succ]; rfl)))))
        refine Plan.plan_load_row (a' := ?_) rfl rfl 25 (.tmp 8) rfl g8 rfl 25 (ia .u8 TF) (0, 0) _ (fun _ h => h.1) Try.underlying25 rfl (by rw [ia_size, HTL.out]; kernel_rfl) ?_ ?_
        rotate_left 1
        · simp only [Act.put, List.setIfInBounds_toArray, List.set_cons_zero, List.set_cons_succ]
          rfl
        refine Plan.plan_load_row (a' := ?_) rfl rfl 25 (.tmp 10) rfl gA rfl 25 (ia .u8 UF) (0, 0) _ (fun _ h => h.2.1) Try.underlying25 rfl (by rw [ia_size, HUL.out.1]; kernel_rfl) ?_ ?_
        rotate_left 1
        · simp only [Act.put, List.setIfInBounds_toArray, List.set_cons_zero, List.set_cons_succ]
          rfl
        refine Plan.plan_load_row (a' := ?_) rfl rfl 25 (.tmp 5) rfl g5 rfl 25 (ia .u8 (key.drop 16)) (0, 0) _ (fun _ h => h.2.2.1) Try.underlying25 rfl (by rw [ia_size, HDL.out]; kernel_rfl) ?_ ?_
        rotate_left 1
        · simp only [Act.put, List.setIfInBounds_toArray, List.set_cons_zero, List.set_cons_succ]
          rfl
        refine Plan.plan_call rfl Try.func12 (by kernel_rfl) rfl #[.agg (ia .u8 UF), .agg (ia .u8 (key.drop 16))] rfl rfl rfl (by (try simp only [List.map_toArray, List.map_cons, List.map_nil]); rfl) ?_
        refine (sum_any UF (key.drop 16) HUL.out.1 HDL.out HUL.out.2 (bytes_drop HK.out.2 16) _).mono ?_
        rintro e wc ⟨rfl, hb⟩
        rw [HSM.out]
        have hS2 : wc.heap[g8]? = some (.cells (ia .u8 TF) 25 (0, 0)) ∧ wc.heap[gA]? = some (.cells (ia .u8 UF) 25 (0, 0)) ∧ wc.heap[g5]? = some (.cells (ia .u8 (key.drop 16)) 25 (0, 0)) ∧ wc.heap[g2]? = some (.cells (ia .u8 key) 22 (0, 0)) ∧ Below w.heap.size w wc := ⟨blk_below hS.1 hb, blk_below hS.2.1 hb, blk_below hS.2.2.1 hb, blk_below hS.2.2.2.1 hb, below_step hS.2.2.2.2 hb⟩
        clear hb hS
        refine ⟨_, rfl, hS2, ?_⟩
        intro a' ha
        simp only [Act.put, List.setIfInBounds_toArray, List.set_cons_zero, List.set_cons_succ] at ha
        subst ha
        refine Plan.plan_take (v := .bool true) (a' := ?_) rfl rfl (fun w' hs => (eqArr25 rfl rfl rfl HTL.out HTL.out).trans (by rw [decide_eq_true rfl])) ?_ ?_
        rotate_left 1
        · simp only [Act.put, List.setIfInBounds_toArray, List.set_cons_zero, List.set_cons_succ]
          rfl
        (repeat (first | (refine Plan.plan_take (v := ?_) (a' := ?_) rfl ?_ ?_ ?_ ?_; rotate_left 2; (· rfl); (· (intro w' hs; go_simp; with_reducible rfl)); (· (simp only [Act.put, List.setIfInBounds_toArray, List.set_cons_zero, List.set_cons_succ]; rfl))) | (refine Plan.plan_skip (a' := ?_) rfl ?_ ?_ ?_; rotate_left 1; (· rfl); (· (simp only [Act.put, List.setIfInBounds_toArray, List.set_cons_zero, List.set_cons_succ]; rfl))) | (refine Plan.plan_pure (v := ?_) (a' := ?_) rfl ?_ ?_ ?_ ?_; rotate_left 2; (· rfl); (· (intro w'; go_simp; with_reducible rfl)); (· (simp only [Act.put, List.setIfInBounds_toArray, List.set_cons_zero, List.set_cons_succ]; rfl)))))
        refine Plan.plan_load_row (a' := ?_) rfl rfl 22 (.tmp 2) rfl g2 rfl 22 (ia .u8 key) (0, 0) _ (fun _ h => h.2.2.2.1) Try.underlying22 rfl (by rw [ia_size, HK.out.1]; kernel_rfl) ?_ ?_
        rotate_left 1
        · simp only [Act.put, List.setIfInBounds_toArray, List.set_cons_zero, List.set_cons_succ]
          rfl
        refine Plan.plan_load_row (a' := ?_) rfl rfl 25 (.tmp 5) rfl g5 rfl 25 (ia .u8 (key.drop 16)) (0, 0) _ (fun _ h => h.2.2.1) Try.underlying25 rfl (by rw [ia_size, HDL.out]; kernel_rfl) ?_ ?_
        rotate_left 1
        · simp only [Act.put, List.setIfInBounds_toArray, List.set_cons_zero, List.set_cons_succ]
          rfl
        refine Plan.plan_call rfl Try.func13 (by kernel_rfl) rfl #[.agg (ia .u8 key), .slice none 0 0] rfl rfl rfl (by (try simp only [List.map_toArray, List.map_cons, List.map_nil]); rfl) ?_
        refine (oft_any key HK.out.1 HK.out.2 none 0 [] _ (fun x hx => by cases hx) (by decide) (by decide) ⟨rfl, by decide, fun h => absurd h (by decide)⟩).mono ?_
        rintro e wd ⟨rfl, hb⟩
        rw [HTN.out]
        have hS3 : wd.heap[g8]? = some (.cells (ia .u8 TF) 25 (0, 0)) ∧ wd.heap[gA]? = some (.cells (ia .u8 UF) 25 (0, 0)) ∧ wd.heap[g5]? = some (.cells (ia .u8 (key.drop 16)) 25 (0, 0)) ∧ wd.heap[g2]? = some (.cells (ia .u8 key) 22 (0, 0)) ∧ Below w.heap.size w wd := ⟨blk_below hS2.1 hb, blk_below hS2.2.1 hb, blk_below hS2.2.2.1 hb, blk_below hS2.2.2.2.1 hb, below_step hS2.2.2.2.2 hb⟩
        clear hb hS2
        refine ⟨_, rfl, hS3, ?_⟩
        intro a' ha
        simp only [Act.put, List.setIfInBounds_toArray, List.set_cons_zero, List.set_cons_succ] at ha
        subst ha
        refine Plan.plan_take (v := .bool true) (a' := ?_) rfl rfl (fun w' hs => (eqArr25 rfl rfl rfl HDL.out HDL.out).trans (by rw [decide_eq_true rfl])) ?_ ?_
        rotate_left 1
        · simp only [Act.put, List.setIfInBounds_toArray, List.set_cons_zero, List.set_cons_succ]
          rfl
        (repeat (first | (refine Plan.plan_take (v := ?_) (a' := ?_) rfl ?_ ?_ ?_ ?_; rotate_left 2; (· rfl); (· (intro w' hs; go_simp; with_reducible rfl)); (· (simp only [Act.put, List.setIfInBounds_toArray, List.set_cons_zero, List.set_cons_succ]; rfl))) | (refine Plan.plan_skip (a' := ?_) rfl ?_ ?_ ?_; rotate_left 1; (· rfl); (· (simp only [Act.put, List.setIfInBounds_toArray, List.set_cons_zero, List.set_cons_succ]; rfl))) | (refine Plan.plan_pure (v := ?_) (a' := ?_) rfl ?_ ?_ ?_ ?_; rotate_left 2; (· rfl); (· (intro w'; go_simp; with_reducible rfl)); (· (simp only [Act.put, List.setIfInBounds_toArray, List.set_cons_zero, List.set_cons_succ]; rfl)))))
        refine Plan.plan_nil ?_
        have HF := Hide.mk hS3.2.2.2.2
        clear hS3
        go_wp2_with fail
        go_ret
        exact ⟨rfl, HF.out⟩
      · have hd0 : decide ((0 : Int) < (xs.length : Int)) = false := decide_eq_false (by omega)
        have HU0 := Hide.mk (HUN.out (by omega))
        refine Plan.region_plan (fun w' => w'.heap[g8]? = some (.cells (ia .u8 TF) 25 (0, 0)) ∧ w'.heap[gA]? = some (.cells (ia .u8 UF) 25 (0, 0)) ∧ w'.heap[g5]? = some (.cells (ia .u8 (key.drop 16)) 25 (0, 0)) ∧ w'.heap[g2]? = some (.cells (ia .u8 key) 22 (0, 0)) ∧ Below w.heap.size w w') [] [(0, 0, some 46), (1, 0, some 47), (2, 0, some 48), (3, 0, some 49), (4, 0, some 50), (5, 0, some 51), (6, 0, some 52), (7, 0, some 53), (8, 0, some 54), (9, 0, some 55), (10, 1, some 56), (11, 0, some 57), (12, 0, some 58), (13, 0, some 59), (14, 0, some 60), (16, 0, some 62), (15, 1, some 61), (17, 0, some 63), (18, 0, some 64), (19, 0, some 65), (20, 0, some 66), (21, 0, some 67), (22, 0, some 68), (23, 0, some 69), (24, 0, some 70), (25, 0, some 71), (26, 0, some 72), (27, 0, some 73), (28, 0, some 74), (29, 0, some 4)] (by kernel_rfl) (by kernel_rfl) (by decide) ⟨blk_drew K89.out, blk_drew BKgA.out, blk_drew K59.out, blk_drew K29.out, below_drew HBA.out⟩ (fun wz ewz hS => ?_)
        clear ewz
        (repeat (first | (refine Plan.plan_take (v := ?_) (a' := ?_) rfl ?_ ?_ ?_ ?_; rotate_left 2; (· rfl); (· (intro w' hs; go_simp; with_reducible rfl)); (· (simp only [Act.put, List.setIfInBounds_toArray, List.set_cons_zero, List.set_cons_succ]; rfl))) | (refine Plan.plan_skip (a' := ?_) rfl ?_ ?_ ?_; rotate_left 1; (· rfl); (· (simp only [Act.put, List.setIfInBounds_toArray, List.set_cons_zero, List.set_cons_succ]; rfl))) | (refine Plan.plan_pure (v := ?_) (a' := ?_) rfl ?_ ?_ ?_ ?_; rotate_left 2; (· rfl); (· (intro w'; go_simp; with_reducible rfl)); (· (simp only [Act.put, List.setIfInBounds_toArray, List.set_cons_zero, List.set_cons_succ]; rfl)))))
        refine Plan.plan_load_row (a' := ?_) rfl rfl 25 (.tmp 8) rfl g8 rfl 25 (ia .u8 TF) (0, 0) _ (fun _ h => h.1) Try.underlying25 rfl (by rw [ia_size, HTL.out]; kernel_rfl) ?_ ?_
        rotate_left 1
        · simp only [Act.put, List.setIfInBounds_toArray, List.set_cons_zero, List.set_cons_succ]
          rfl
        refine Plan.plan_load_row (a' := ?_) rfl rfl 25 (.tmp 10) rfl gA rfl 25 (ia .u8 UF) (0, 0) _ (fun _ h => h.2.1) Try.underlying25 rfl (by rw [ia_size, HUL.out.1]; kernel_rfl) ?_ ?_
        rotate_left 1
        · simp only [Act.put, List.setIfInBounds_toArray, List.set_cons_zero, List.set_cons_succ]
          rfl
        refine Plan.plan_load_row (a' := ?_) rfl rfl 25 (.tmp 5) rfl g5 rfl 25 (ia .u8 (key.drop 16)) (0, 0) _ (fun _ h => h.2.2.1) Try.underlying25 rfl (by rw [ia_size, HDL.out]; kernel_rfl) ?_ ?_
        rotate_left 1
        · simp only [Act.put, List.setIfInBounds_toArray, List.set_cons_zero, List.set_cons_succ]
          rfl
        refine Plan.plan_call rfl Try.func12 (by kernel_rfl) rfl #[.agg (ia .u8 UF), .agg (ia .u8 (key.drop 16))] rfl rfl rfl (by (try simp only [List.map_toArray, List.map_cons, List.map_nil]); rfl) ?_
        refine (sum_any UF (key.drop 16) HUL.out.1 HDL.out HUL.out.2 (bytes_drop HK.out.2 16) _).mono ?_
        rintro e wc ⟨rfl, hb⟩
        rw [HSM.out]
        have hS2 : wc.heap[g8]? = some (.cells (ia .u8 TF) 25 (0, 0)) ∧ wc.heap[gA]? = some (.cells (ia .u8 UF) 25 (0, 0)) ∧ wc.heap[g5]? = some (.cells (ia .u8 (key.drop 16)) 25 (0, 0)) ∧ wc.heap[g2]? = some (.cells (ia .u8 key) 22 (0, 0)) ∧ Below w.heap.size w wc := ⟨blk_below hS.1 hb, blk_below hS.2.1 hb, blk_below hS.2.2.1 hb, blk_below hS.2.2.2.1 hb, below_step hS.2.2.2.2 hb⟩
        clear hb hS
        refine ⟨_, rfl, hS2, ?_⟩
        intro a' ha
        simp only [Act.put, List.setIfInBounds_toArray, List.set_cons_zero, List.set_cons_succ] at ha
        subst ha
        refine Plan.plan_take (v := .bool true) (a' := ?_) rfl rfl (fun w' hs => (eqArr25 rfl rfl rfl HTL.out HTL.out).trans (by rw [decide_eq_true rfl])) ?_ ?_
        rotate_left 1
        · simp only [Act.put, List.setIfInBounds_toArray, List.set_cons_zero, List.set_cons_succ]
          rfl
        (repeat (first | (refine Plan.plan_take (v := ?_) (a' := ?_) rfl ?_ ?_ ?_ ?_; rotate_left 2; (· rfl); (· (intro w' hs; go_simp; with_reducible rfl)); (· (simp only [Act.put, List.setIfInBounds_toArray, List.set_cons_zero, List.set_cons_succ]; rfl))) | (refine Plan.plan_skip (a' := ?_) rfl ?_ ?_ ?_; rotate_left 1; (· rfl); (· (simp only [Act.put, List.setIfInBounds_toArray, List.set_cons_zero, List.set_cons_succ]; rfl))) | (refine Plan.plan_pure (v := ?_) (a' := ?_) rfl ?_ ?_ ?_ ?_; rotate_left 2; (· rfl); (· (intro w'; go_simp; with_reducible rfl)); (· (simp only [Act.put, List.setIfInBounds_toArray, List.set_cons_zero, List.set_cons_succ]; rfl)))))
        refine Plan.plan_load_row (a' := ?_) rfl rfl 22 (.tmp 2) rfl g2 rfl 22 (ia .u8 key) (0, 0) _ (fun _ h => h.2.2.2.1) Try.underlying22 rfl (by rw [ia_size, HK.out.1]; kernel_rfl) ?_ ?_
        rotate_left 1
        · simp only [Act.put, List.setIfInBounds_toArray, List.set_cons_zero, List.set_cons_succ]
          rfl
        refine Plan.plan_load_row (a' := ?_) rfl rfl 25 (.tmp 5) rfl g5 rfl 25 (ia .u8 (key.drop 16)) (0, 0) _ (fun _ h => h.2.2.1) Try.underlying25 rfl (by rw [ia_size, HDL.out]; kernel_rfl) ?_ ?_
        rotate_left 1
        · simp only [Act.put, List.setIfInBounds_toArray, List.set_cons_zero, List.set_cons_succ]
          rfl
        refine Plan.plan_call rfl Try.func13 (by kernel_rfl) rfl #[.agg (ia .u8 key), .slice none 0 0] rfl rfl rfl (by (try simp only [List.map_toArray, List.map_cons, List.map_nil]); rfl) ?_
        refine (oft_any key HK.out.1 HK.out.2 none 0 [] _ (fun x hx => by cases hx) (by decide) (by decide) ⟨rfl, by decide, fun h => absurd h (by decide)⟩).mono ?_
        rintro e wd ⟨rfl, hb⟩
        rw [HTN.out]
        have hS3 : wd.heap[g8]? = some (.cells (ia .u8 TF) 25 (0, 0)) ∧ wd.heap[gA]? = some (.cells (ia .u8 UF) 25 (0, 0)) ∧ wd.heap[g5]? = some (.cells (ia .u8 (key.drop 16)) 25 (0, 0)) ∧ wd.heap[g2]? = some (.cells (ia .u8 key) 22 (0, 0)) ∧ Below w.heap.size w wd := ⟨blk_below hS2.1 hb, blk_below hS2.2.1 hb, blk_below hS2.2.2.1 hb, blk_below hS2.2.2.2.1 hb, below_step hS2.2.2.2.2 hb⟩
        clear hb hS2
        refine ⟨_, rfl, hS3, ?_⟩
        intro a' ha
        simp only [Act.put, List.setIfInBounds_toArray, List.set_cons_zero, List.set_cons_succ] at ha
        subst ha
        refine Plan.plan_take (v := .bool true) (a' := ?_) rfl rfl (fun w' hs => (eqArr25 rfl rfl rfl HDL.out HDL.out).trans (by rw [decide_eq_true rfl])) ?_ ?_
        rotate_left 1
        · simp only [Act.put, List.setIfInBounds_toArray, List.set_cons_zero, List.set_cons_succ]
          rfl
        (repeat (first | (refine Plan.plan_take (v := ?_) (a' := ?_) rfl ?_ ?_ ?_ ?_; rotate_left 2; (· rfl); (· (intro w' hs; go_simp; with_reducible rfl)); (· (simp only [Act.put, List.setIfInBounds_toArray, List.set_cons_zero, List.set_cons_succ]; rfl))) | (refine Plan.plan_skip (a' := ?_) rfl ?_ ?_ ?_; rotate_left 1; (· rfl); (· (simp only [Act.put, List.setIfInBounds_toArray, List.set_cons_zero, List.set_cons_succ]; rfl))) | (refine Plan.plan_pure (v := ?_) (a' := ?_) rfl ?_ ?_ ?_ ?_; rotate_left 2; (· rfl); (· (intro w'; go_simp; with_reducible rfl)); (· (simp only [Act.put, List.setIfInBounds_toArray, List.set_cons_zero, List.set_cons_succ]; rfl)))))
        refine Plan.plan_load_row (a' := ?_) rfl rfl 25 (.tmp 10) rfl gA rfl 25 (ia .u8 UF) (0, 0) _ (fun _ h => h.2.1) Try.underlying25 rfl (by rw [ia_size, HUL.out.1]; kernel_rfl) ?_ ?_
        rotate_left 1
        · simp only [Act.put, List.setIfInBounds_toArray, List.set_cons_zero, List.set_cons_succ]
          rfl
        (repeat (first | (refine Plan.plan_take (v := ?_) (a' := ?_) rfl ?_ ?_ ?_ ?_; rotate_left 2; (· rfl); (· (intro w' hs; go_simp; with_reducible rfl)); (· (simp only [Act.put, List.setIfInBounds_toArray, List.set_cons_zero, List.set_cons_succ]; rfl))) | (refine Plan.plan_skip (a' := ?_) rfl ?_ ?_ ?_; rotate_left 1; (· rfl); (· (simp only [Act.put, List.setIfInBounds_toArray, List.set_cons_zero, List.set_cons_succ]; rfl))) | (refine Plan.plan_pure (v := ?_) (a' := ?_) rfl ?_ ?_ ?_ ?_; rotate_left 2; (· rfl); (· (intro w'; go_simp; with_reducible rfl)); (· (simp only [Act.put, List.setIfInBounds_toArray, List.set_cons_zero, List.set_cons_succ]; rfl)))))
        refine Plan.plan_take (v := .bool true) (a' := ?_) rfl rfl (fun w' hs => (eqArr25 (l1 := UF) (l2 := List.replicate 16 0) rfl rfl rfl HUL.out.1 rfl).trans (by rw [decide_eq_true HU0.out])) ?_ ?_
        rotate_left 1
        · simp only [Act.put, List.setIfInBounds_toArray, List.set_cons_zero, List.set_cons_succ]
          rfl
        (repeat (first | (refine Plan.plan_take (v := ?_) (a' := ?_) rfl ?_ ?_ ?_ ?_; rotate_left 2; (· rfl); (· (intro w' hs; go_simp; with_reducible rfl)); (· (simp only [Act.put, List.setIfInBounds_toArray, List.set_cons_zero, List.set_cons_succ]; rfl))) | (refine Plan.plan_skip (a' := ?_) rfl ?_ ?_ ?_; rotate_left 1; (· rfl); (· (simp only [Act.put, List.setIfInBounds_toArray, List.set_cons_zero, List.set_cons_succ]; rfl))) | (refine Plan.plan_pure (v := ?_) (a' := ?_) rfl ?_ ?_ ?_ ?_; rotate_left 2; (· rfl); (· (intro w'; go_simp; with_reducible rfl)); (· (simp only [Act.put, List.setIfInBounds_toArray, List.set_cons_zero, List.set_cons_succ]; rfl)))))
        refine Plan.plan_nil ?_
        have HF := Hide.mk hS3.2.2.2.2
        clear hS3
        go_wp2_with fail
        go_ret
        exact ⟨rfl, HF.out⟩
theorem adds_all (key : List Int) (hk : key.length = 32) (hkb : Bytes key) (A : Option Addr) (cap : Nat) (xs : List Int) (w : World) (hby : Bytes xs) (hc : xs.length ≤ cap) (hr : ReadsInt w .u8 A xs.length xs) : Calls Try.prog 4 #[.agg (ia .u8 key), .slice A xs.length cap] w fun e w' => e = .returned (.bool true) ∧ Below w.heap.size w w' := by
  by_cases h : xs.length ≤ 20000
  · exact adds_walk key hk hkb A cap xs w hby h hc hr
  · exact adds_big key A cap _ w (by omega)
end Go.Proofs.Ytlhhjdhbkhjhjaa.Po
