/- lives: the chapter's table. -/
import Derived.Test.YtcjakeopbjokoaaT9
namespace Go.Proofs.Ytcjakeopbjokoaa.Tb
open Go.RowKit Go.Proofs.YtcjakeopbjokoaaW.PrintWords Go.Proofs.YtcjakeopbjokoaaW.PrintLast Go.Proofs.YtcjakeopbjokoaaW.PrintMore Mem
set_option linter.unusedVariables false
set_option linter.unusedSimpArgs false
theorem fixed17 : FixedV 17 = .tuple #[fv ([58, 109, 101, 116, 104, 111, 100], [71, 69, 84]), .bool true] := by kernel_rfl
theorem fixed99 : FixedV 99 = .tuple #[fv ([], []), .bool false] := by kernel_rfl
theorem get_0 : GetV ⟨70, 68, 1, [([99], [100]), ([101], [102])]⟩ 0 = .tuple #[fv ([], []), .int .i64 10] := by kernel_rfl
theorem get_1 : GetV ⟨70, 68, 1, [([99], [100]), ([101], [102])]⟩ 1 = .tuple #[fv ([99], [100]), .int .i64 0] := by kernel_rfl
theorem put_whole : wholeAt ([58, 109, 101, 116, 104, 111, 100], [80, 85, 84]) = 21 := by decide +kernel
theorem put_name : nameAt ([58, 109, 101, 116, 104, 111, 100], [80, 85, 84]) = 15 := by decide +kernel
set_option maxHeartbeats 2000000 in
set_option maxRecDepth 100000 in
theorem lives_any (w : World) : Calls Try.prog 11 #[] w fun e w' => e = .returned (.bool true) ∧ Below w.heap.size w w' := by
  go_enter Try.func11, Try.ntmps11
  go_wp2_with fail
  refine (Fixed_any 17 _).mono ?_
  rintro e w1 ⟨rfl, hb1⟩
  rw [fixed17]
  have HB1 := Hide.mk hb1
  clear hb1
  go_wp2_with (first | ((with_reducible refine gate_dst (N := 1) rfl ?_); refine box_event ?hg (N := 1) ?hd (cs := fa [([], [])]) (t := 23) ?hr ?_; (case hd => rfl); (case hg => rfl); (case hr => kernel_rfl); intro g1 hg w2 hbox hb; have BKg1 := Hide.mk hbox; have HB2 := Hide.mk (below_step HB1.out hb); have GEg1 : w.heap.size ≤ g1 := (by rw [hg]; exact HB1.out.size); clear HB1; clear hbox hb hg) | ((with_reducible refine gate_store (p := 1) (v := .tmp 15) rfl ?_); go_must (refine store_row rfl rfl 23 (.tmp 1) (.tmp 15) rfl g1 rfl (fa [([58, 109, 101, 116, 104, 111, 100], [71, 69, 84])]) rfl (fa_one _) (by rw [fa_size]; kernel_rfl) _ _ BKg1.out rfl ?_); intro w9 hb ho; have BKg1' := Hide.mk hb; have HB2' := Hide.mk (ho.below HB2.out GEg1); clear BKg1 HB2; have BKg1 := BKg1'; have HB2 := HB2'; clear BKg1' HB2'; clear hb ho))
  refine (Fixed_any 99 _).mono ?_
  rintro e w3 ⟨rfl, hb3⟩
  rw [fixed99]
  have HB3 := Hide.mk (below_step HB2.out hb3)
  have BK1 := Hide.mk (blk_below BKg1.out hb3)
  clear hb3 HB2 BKg1
  go_wp2_with (first | ((with_reducible refine gate_dst (N := 3) rfl ?_); refine box_event ?hg (N := 3) ?hd (cs := fa [([], [])]) (t := 23) ?hr ?_; (case hd => rfl); (case hg => rfl); (case hr => kernel_rfl); intro g3 hg w4 hbox hb; have Lg1g3 : g1 < g3 := (by rw [hg]; exact blk_lt BK1.out); have BKg3 := Hide.mk hbox; have HB4 := Hide.mk (below_step HB3.out hb); have GEg3 : w.heap.size ≤ g3 := (by rw [hg]; exact HB3.out.size); clear HB3; have BK1' := Hide.mk (blk_below BK1.out hb); clear BK1; have BK1 := BK1'; clear BK1'; clear hbox hb hg) | ((with_reducible refine gate_store (p := 3) (v := .tmp 19) rfl ?_); go_must (refine store_row rfl rfl 23 (.tmp 3) (.tmp 19) rfl g3 rfl (fa [([], [])]) rfl (fa_one _) (by rw [fa_size]; kernel_rfl) _ _ BKg3.out rfl ?_); intro w9 hb ho; have BKg3' := Hide.mk hb; have HB4' := Hide.mk (ho.below HB4.out GEg3); clear BKg3 HB4; have BKg3 := BKg3'; have HB4 := HB4'; clear BKg3' HB4'; have BK1' := Hide.mk (ho.blk BK1.out (by omega)); clear BK1; have BK1 := BK1'; clear BK1'; clear hb ho))
  refine (find_any ([58, 109, 101, 116, 104, 111, 100], [80, 85, 84]) _).mono ?_
  rintro e w5 ⟨rfl, hb5⟩
  rw [put_whole, put_name]
  have HB5 := Hide.mk (below_step HB4.out hb5)
  have BK15 := Hide.mk (blk_below BK1.out hb5)
  clear hb5 HB4 BK1 BKg3
  go_wp2_with fail
  refine (new_good 70 _ (by decide) (by decide)).mono ?_
  rintro e w6 ⟨g, rfl, hb6, hgg, hT⟩
  have HB6 := Hide.mk (below_step HB5.out hb6)
  have BK16 := Hide.mk (blk_below BK15.out hb6)
  have HT6 := Hide.mk (hT w.heap.size HB5.out.size)
  have GEg : w.heap.size ≤ g := Nat.le_trans HB5.out.size hgg
  have NE1 : g ≠ g1 := by have := blk_lt BK15.out; omega
  clear hb6 hT hgg HB5 BK15
  have c0 := (blk_cell BK16.out 0).trans (show (fa [([58, 109, 101, 116, 104, 111, 100], [71, 69, 84])])[0]? = some (.string ⟨#[58, 109, 101, 116, 104, 111, 100]⟩) from rfl)
  have c1 := (blk_cell BK16.out 1).trans (show (fa [([58, 109, 101, 116, 104, 111, 100], [71, 69, 84])])[1]? = some (.string ⟨#[71, 69, 84]⟩) from rfl)
  go_wp2_with fail
  clear c0 c1
  refine (add_any w.heap.size g (.slice none 0 0) ⟨70, 0, 0, []⟩ ([97], [98]) _ HT6.out ⟨rfl, by decide, by decide, by decide, by decide, by decide⟩ (by decide) (by decide) (by decide) HB6.out.size).mono ?_
  rintro e w7 ⟨rfl, v1, hT, hU, hv⟩
  rw [show addC ⟨70, 0, 0, []⟩ ([97], [98]) = 0 by kernel_rfl]
  rw [show addT ⟨70, 0, 0, []⟩ ([97], [98]) = ⟨70, 34, 0, [([97], [98])]⟩ by kernel_rfl] at hT
  have HB7 := Hide.mk (hU.below HB6.out GEg (fun k hk => (HT6.out.row.lt k hk).1) HB6.out.size)
  have HT7 := Hide.mk hT
  clear hT hU hv HB6 HT6
  go_wp2_with fail
  refine (add_any w.heap.size g (v1) ⟨70, 34, 0, [([97], [98])]⟩ ([99], [100]) _ HT7.out ⟨rfl, by decide, by decide, by decide, by decide, by decide⟩ (by decide) (by decide) (by decide) HB7.out.size).mono ?_
  rintro e w8 ⟨rfl, v2, hT, hU, hv⟩
  rw [show addC ⟨70, 34, 0, [([97], [98])]⟩ ([99], [100]) = 0 by kernel_rfl]
  rw [show addT ⟨70, 34, 0, [([97], [98])]⟩ ([99], [100]) = ⟨70, 68, 0, [([97], [98]), ([99], [100])]⟩ by kernel_rfl] at hT
  have HB8 := Hide.mk (hU.below HB7.out GEg (fun k hk => (HT7.out.row.lt k hk).1) HB7.out.size)
  have HT8 := Hide.mk hT
  clear hT hU hv HB7 HT7
  go_wp2_with fail
  refine (size_any w.heap.size g v2 ⟨70, 68, 0, [([97], [98]), ([99], [100])]⟩ _ HT8.out).mono ?_
  rintro e w9 ⟨rfl, hb9⟩
  have HB9 := Hide.mk (below_step HB8.out hb9)
  have HT9 := Hide.mk (HT8.out.below hb9)
  clear hb9 HB8 HT8
  go_wp2_with fail
  refine (add_any w.heap.size g (v2) ⟨70, 68, 0, [([97], [98]), ([99], [100])]⟩ ([101], [102]) _ HT9.out ⟨rfl, by decide, by decide, by decide, by decide, by decide⟩ (by decide) (by decide) (by decide) HB9.out.size).mono ?_
  rintro e w10 ⟨rfl, v3, hT, hU, hv⟩
  rw [show addC ⟨70, 68, 0, [([97], [98]), ([99], [100])]⟩ ([101], [102]) = 0 by kernel_rfl]
  rw [show addT ⟨70, 68, 0, [([97], [98]), ([99], [100])]⟩ ([101], [102]) = ⟨70, 68, 1, [([99], [100]), ([101], [102])]⟩ by kernel_rfl] at hT
  have HB10 := Hide.mk (hU.below HB9.out GEg (fun k hk => (HT9.out.row.lt k hk).1) HB9.out.size)
  have HT10 := Hide.mk hT
  clear hT hU hv HB9 HT9
  go_wp2_with fail
  refine (get_any w.heap.size g v3 ⟨70, 68, 1, [([99], [100]), ([101], [102])]⟩ 0 _ HT10.out (by decide) (by decide) (by decide)).mono ?_
  rintro e w11 ⟨rfl, hb11⟩
  rw [get_0]
  have HB11 := Hide.mk (below_step HB10.out hb11)
  have HT11 := Hide.mk (HT10.out.below hb11)
  clear hb11 HB10 HT10
  go_wp2_with (first | ((with_reducible refine gate_dst (N := 9) rfl ?_); refine box_event ?hg (N := 9) ?hd (cs := fa [([], [])]) (t := 23) ?hr ?_; (case hd => rfl); (case hg => rfl); (case hr => kernel_rfl); intro g9 hg w12 hbox hb; have BKg9 := Hide.mk hbox; have HB12 := Hide.mk (below_step HB11.out hb); have GEg9 : w.heap.size ≤ g9 := (by rw [hg]; exact HB11.out.size); clear HB11; have HT12 := Hide.mk (HT11.out.below hb); have NGg9 : Hide (∀ k, k = g ∨ v3.ownBlock = some k → k ≠ g9) := ⟨fun k hk e => (by rw [hg] at e; rcases hk with rfl | hk; (exact absurd HT11.out.lt (by omega)); (exact absurd (HT11.out.row.lt k hk).2 (by omega)))⟩; clear hbox hb hg HT11) | ((with_reducible refine gate_store (p := 9) (v := .tmp 76) rfl ?_); go_must (refine store_row rfl rfl 23 (.tmp 9) (.tmp 76) rfl g9 rfl (fa [([], [])]) rfl (fa_one _) (by rw [fa_size]; kernel_rfl) _ _ BKg9.out rfl ?_); intro w12b hb ho; have BKg9' := Hide.mk hb; have HB12' := Hide.mk (ho.below HB12.out GEg9); clear BKg9 HB12; have BKg9 := BKg9'; have HB12 := HB12'; clear BKg9' HB12'; have HT12' := Hide.mk (HT12.out.kept fun k hk => ho.other k (NGg9.out k hk)); clear HT12; have HT12 := HT12'; clear HT12'; clear hb ho))
  refine (get_any w.heap.size g v3 ⟨70, 68, 1, [([99], [100]), ([101], [102])]⟩ 1 _ HT12.out (by decide) (by decide) (by decide)).mono ?_
  rintro e w13 ⟨rfl, hb13⟩
  rw [get_1]
  have HB13 := Hide.mk (below_step HB12.out hb13)
  have HT13 := Hide.mk (HT12.out.below hb13)
  clear hb13 HB12 HT12 BKg9
  go_wp2_with (first | ((with_reducible refine gate_dst (N := 11) rfl ?_); refine box_event ?hg (N := 11) ?hd (cs := fa [([], [])]) (t := 23) ?hr ?_; (case hd => rfl); (case hg => rfl); (case hr => kernel_rfl); intro g11 hg w14 hbox hb; have BKg11 := Hide.mk hbox; have HB14 := Hide.mk (below_step HB13.out hb); have GEg11 : w.heap.size ≤ g11 := (by rw [hg]; exact HB13.out.size); clear HB13; have HT14 := Hide.mk (HT13.out.below hb); have NGg11 : Hide (∀ k, k = g ∨ v3.ownBlock = some k → k ≠ g11) := ⟨fun k hk e => (by rw [hg] at e; rcases hk with rfl | hk; (exact absurd HT13.out.lt (by omega)); (exact absurd (HT13.out.row.lt k hk).2 (by omega)))⟩; clear hbox hb hg HT13) | ((with_reducible refine gate_store (p := 11) (v := .tmp 81) rfl ?_); go_must (refine store_row rfl rfl 23 (.tmp 11) (.tmp 81) rfl g11 rfl (fa [([99], [100])]) rfl (fa_one _) (by rw [fa_size]; kernel_rfl) _ _ BKg11.out rfl ?_); intro w14b hb ho; have BKg11' := Hide.mk hb; have HB14' := Hide.mk (ho.below HB14.out GEg11); clear BKg11 HB14; have BKg11 := BKg11'; have HB14 := HB14'; clear BKg11' HB14'; have HT14' := Hide.mk (HT14.out.kept fun k hk => ho.other k (NGg11.out k hk)); clear HT14; have HT14 := HT14'; clear HT14'; clear hb ho; have c0 := (blk_cell BKg11.out 0).trans (show (fa [(([99], [100]) : F)])[0]? = some (.string ⟨#[99]⟩) from rfl)))
  refine (came_any w.heap.size g v3 ⟨70, 68, 1, [([99], [100]), ([101], [102])]⟩ _ HT14.out (by decide)).mono ?_
  rintro e w15 ⟨rfl, hb15⟩
  have HB15 := Hide.mk (below_step HB14.out hb15)
  have HT15 := Hide.mk (HT14.out.below hb15)
  clear hb15 HB14 HT14 BKg11
  go_wp2_with fail
  refine (gone_any w.heap.size g v3 ⟨70, 68, 1, [([99], [100]), ([101], [102])]⟩ _ HT15.out).mono ?_
  rintro e w16 ⟨rfl, hb16⟩
  have HB16 := Hide.mk (below_step HB15.out hb16)
  clear hb16 HB15 HT15
  go_wp2_with fail
  go_ret
  exact ⟨rfl, HB16.out⟩
end Go.Proofs.Ytcjakeopbjokoaa.Tb
