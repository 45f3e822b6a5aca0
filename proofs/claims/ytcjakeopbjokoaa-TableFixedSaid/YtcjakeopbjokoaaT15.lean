/- The walk of TableFixed. -/
import Derived.Test.YtcjakeopbjokoaaT14
import Derived.Test.YtcjakeopbjokoaaT10
namespace Go.Proofs.Ytcjakeopbjokoaa.Tb
open Go.RowKit Go.Proofs.YtcjakeopbjokoaaW.PrintWords Go.Proofs.YtcjakeopbjokoaaW.PrintLast Go.Proofs.YtcjakeopbjokoaaW.PrintMore Mem
set_option linter.unusedVariables false
set_option linter.unusedSimpArgs false
set_option maxHeartbeats 2000000 in
set_option maxRecDepth 100000 in
theorem fixed_walk (i : Int) (f : F) (w : World) : Calls Try.prog 3 #[.int .i64 i, fv f] w fun e w' => e = .returned (.bool true) ∧ Below w.heap.size w w' := by
  obtain ⟨x, o, hF⟩ : ∃ x o, FixedV i = .tuple #[fv x, .bool o] := by
    by_cases hi : 0 ≤ i ∧ i < 99
    · exact ⟨_, _, if_pos hi⟩
    · exact ⟨_, _, if_neg hi⟩
  have HF := Hide.mk hF
  clear hF
  go_enter Try.func3, Try.ntmps3
  go_wp2_with (first | ((with_reducible refine gate_dst (N := 3) rfl ?_); refine box_event ?hg (N := 3) ?hd (cs := fa [f]) (t := 23) ?hr ?_; (case hd => rfl); (case hg => rfl); (case hr => kernel_rfl); intro g3 hg w1 hbox hb; have BKg3 := Hide.mk hbox; have HB1 := Hide.mk hb; have GEg3 : w.heap.size ≤ g3 := (by rw [hg]; exact Nat.le_refl _); clear hbox hb hg))
  refine (Fixed_any i _).mono ?_
  rintro e w2 ⟨rfl, hb2⟩
  rw [HF.out]
  have HB2 := Hide.mk (below_step HB1.out hb2)
  have BK3 := Hide.mk (blk_below BKg3.out hb2)
  clear hb2 HB1 BKg3
  go_wp2_with (first | ((with_reducible refine gate_dst (N := 5) rfl ?_); refine box_event ?hg (N := 5) ?hd (cs := fa [([], [])]) (t := 23) ?hr ?_; (case hd => rfl); (case hg => rfl); (case hr => kernel_rfl); intro g5 hg w3 hbox hb; have Lg3g5 : g3 < g5 := (by rw [hg]; exact blk_lt BK3.out); have BKg5 := Hide.mk hbox; have HB3 := Hide.mk (below_step HB2.out hb); have GEg5 : w.heap.size ≤ g5 := (by rw [hg]; exact HB2.out.size); clear HB2; have BK3' := Hide.mk (blk_below BK3.out hb); clear BK3; have BK3 := BK3'; clear BK3'; clear hbox hb hg) | ((with_reducible refine gate_store (p := 5) (v := .tmp 16) rfl ?_); go_must (refine store_row rfl rfl 23 (.tmp 5) (.tmp 16) rfl g5 rfl (fa [x]) rfl (fa_one _) (by rw [fa_size]; kernel_rfl) _ _ BKg5.out rfl ?_); intro w9 hb ho; have BKg5' := Hide.mk hb; have HB3' := Hide.mk (ho.below HB3.out GEg5); clear BKg5 HB3; have BKg5 := BKg5'; have HB3 := HB3'; clear BKg5' HB3'; have BK3' := Hide.mk (ho.blk BK3.out (by omega)); clear BK3; have BK3 := BK3'; clear BK3'; clear hb ho))
  refine (rFixed_any i _).mono ?_
  rintro e w4 ⟨rfl, hb4⟩
  rw [HF.out]
  have HB4 := Hide.mk (below_step HB3.out hb4)
  have BK34 := Hide.mk (blk_below BK3.out hb4)
  have BK54 := Hide.mk (blk_below BKg5.out hb4)
  clear hb4 HB3 BK3 BKg5
  go_wp2_with (first | ((with_reducible refine gate_dst (N := 7) rfl ?_); refine box_event ?hg (N := 7) ?hd (cs := fa [([], [])]) (t := 23) ?hr ?_; (case hd => rfl); (case hg => rfl); (case hr => kernel_rfl); intro g7 hg w5 hbox hb; have Lg3g7 : g3 < g7 := (by rw [hg]; exact blk_lt BK34.out); have Lg5g7 : g5 < g7 := (by rw [hg]; exact blk_lt BK54.out); have BKg7 := Hide.mk hbox; have HB5 := Hide.mk (below_step HB4.out hb); have GEg7 : w.heap.size ≤ g7 := (by rw [hg]; exact HB4.out.size); clear HB4; have BK34' := Hide.mk (blk_below BK34.out hb); clear BK34; have BK34 := BK34'; clear BK34'; have BK54' := Hide.mk (blk_below BK54.out hb); clear BK54; have BK54 := BK54'; clear BK54'; clear hbox hb hg) | ((with_reducible refine gate_store (p := 7) (v := .tmp 21) rfl ?_); go_must (refine store_row rfl rfl 23 (.tmp 7) (.tmp 21) rfl g7 rfl (fa [x]) rfl (fa_one _) (by rw [fa_size]; kernel_rfl) _ _ BKg7.out rfl ?_); intro w9 hb ho; have BKg7' := Hide.mk hb; have HB5' := Hide.mk (ho.below HB5.out GEg7); clear BKg7 HB5; have BKg7 := BKg7'; have HB5 := HB5'; clear BKg7' HB5'; have BK34' := Hide.mk (ho.blk BK34.out (by omega)); clear BK34; have BK34 := BK34'; clear BK34'; have BK54' := Hide.mk (ho.blk BK54.out (by omega)); clear BK54; have BK54 := BK54'; clear BK54'; clear hb ho) | ((with_reducible refine gate_dst (N := 24) rfl ?_); refine wpList_load_row rfl 23 (.tmp 3) rfl g3 rfl 23 _ (0, 0) _ BK34.out Try.underlying23 rfl ?hsz ?_; (case hsz => rw [fa_size]; kernel_rfl)))
  refine (find_any f _).mono ?_
  rintro e w6 ⟨rfl, hb6⟩
  have HB6 := Hide.mk (below_step HB5.out hb6)
  have BK36 := Hide.mk (blk_below BK34.out hb6)
  have BK56 := Hide.mk (blk_below BK54.out hb6)
  have BK76 := Hide.mk (blk_below BKg7.out hb6)
  clear hb6 HB5 BK34 BK54 BKg7
  go_wp2_with (first | ((with_reducible refine gate_dst (N := 29) rfl ?_); refine wpList_load_row rfl 23 (.tmp 3) rfl g3 rfl 23 _ (0, 0) _ BK36.out Try.underlying23 rfl ?hsz ?_; (case hsz => rw [fa_size]; kernel_rfl)))
  refine (rfind_any f _).mono ?_
  rintro e w8 ⟨rfl, hb8⟩
  have HB8 := Hide.mk (below_step HB6.out hb8)
  have BK58 := Hide.mk (blk_below BK56.out hb8)
  have BK78 := Hide.mk (blk_below BK76.out hb8)
  clear hb8 HB6 BK36 BK56 BK76
  go_wp2_with (first | ((with_reducible refine gate_dst (N := 33) rfl ?_); refine wpList_load_row rfl 23 (.tmp 5) rfl g5 rfl 23 #[.string ⟨x.1.toArray⟩, .string ⟨x.2.toArray⟩] (0, 0) _ BK58.out Try.underlying23 rfl ?hsz ?_; (case hsz => kernel_rfl)) | ((with_reducible refine gate_dst (N := 34) rfl ?_); refine wpList_load_row rfl 23 (.tmp 7) rfl g7 rfl 23 #[.string ⟨x.1.toArray⟩, .string ⟨x.2.toArray⟩] (0, 0) _ BK78.out Try.underlying23 rfl ?hsz ?_; (case hsz => kernel_rfl)))
  refine (lives_any _).mono ?_
  rintro e w9 ⟨rfl, hb9⟩
  have HB9 := Hide.mk (below_step HB8.out hb9)
  clear hb9 HB8 BK58 BK78
  go_wp2_with fail
  go_ret
  exact ⟨rfl, HB9.out⟩
end Go.Proofs.Ytcjakeopbjokoaa.Tb
