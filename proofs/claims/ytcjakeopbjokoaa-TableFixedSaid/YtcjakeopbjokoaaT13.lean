/- The twin's Fixed and Find. -/
import Derived.Test.YtcjakeopbjokoaaT12
namespace Go.Proofs.Ytcjakeopbjokoaa.Tb
open Go.RowKit Go.Proofs.YtcjakeopbjokoaaW.PrintWords Go.Proofs.YtcjakeopbjokoaaW.PrintLast Go.Proofs.YtcjakeopbjokoaaW.PrintMore Mem
set_option linter.unusedVariables false
set_option linter.unusedSimpArgs false
set_option maxHeartbeats 2000000 in
set_option maxRecDepth 100000 in
theorem rFixed_any (i : Int) (w : World) : Calls Try.prog 8 #[.int .i64 i] w fun e w' => e = .returned (FixedV i) ∧ Below w.heap.size w w' := by
  go_enter Try.func8, Try.ntmps8
  go_wp2_with (first | ((with_reducible refine gate_dst (N := 2) rfl ?_); refine box_event ?hg (N := 2) ?hd (cs := fa [([], [])]) (t := 23) ?hr ?_; (case hd => rfl); (case hg => rfl); (case hr => kernel_rfl); intro g2 hg w1 hbox hb; have BKg2 := Hide.mk hbox; have HB1 := Hide.mk hb; have GEg2 : w.heap.size ≤ g2 := (by rw [hg]; exact Nat.le_refl _); clear hbox hb hg))
  refine (rfixed_any _).mono ?_
  rintro e w2 ⟨g, rfl, hg, hbk, hb2⟩
  have HB2 := Hide.mk (below_step HB1.out hb2)
  have BK2 := Hide.mk (blk_below BKg2.out hb2)
  have BKG := Hide.mk hbk
  clear hb2 HB1 BKg2 hbk
  by_cases hi : 0 ≤ i ∧ i < 99
  · have HF : Hide (FixedV i = .tuple #[fv (TBL.getD i.toNat ([], [])), .bool true]) := ⟨if_pos hi⟩
    have h1 : decide (i < 0) = false := by simp; omega
    have h2 : decide (99 ≤ i) = false := by simp; omega
    obtain ⟨m, rfl⟩ := Int.eq_ofNat_of_zero_le hi.1
    have hm : m < TBL.length := by rw [TBL_len]; omega
    have HX := Hide.mk (range_one (range_tbl BKG.out) m hm)
    have HF2 : Hide (FixedV (m : Int) = .tuple #[fv (TBL.getD m ([], [])), .bool true]) := ⟨by rw [HF.out]; rfl⟩
    clear HF
    generalize TBL.getD m ([], []) = x at HX HF2
    go_wp2_with (first | ((with_reducible refine gate_dst (N := 18) rfl ?_); go_must (refine wpList_load_mid rfl 23 (.tmp 17) rfl g (0 + m * 2) (by go_simp) [sv x.1, sv x.2] _ HX.out Try.underlying23 rfl (by kernel_rfl) ?_)) | ((with_reducible refine gate_store (p := 2) (v := .tmp 18) rfl ?_); go_must (refine store_row rfl rfl 23 (.tmp 2) (.tmp 18) rfl g2 rfl (fa [x]) rfl (fa_one _) (by rw [fa_size]; kernel_rfl) _ _ BK2.out rfl ?_); intro w9 hb9 ho9; have BK9 := Hide.mk hb9; have HO9 := Hide.mk ho9; clear hb9 ho9))
    refine bodyPost_ret (results_ct rfl _ _ g2 23 _ (0, 0) _ rfl BK9.out Try.underlying23 rfl (by rw [fa_size]; kernel_rfl)) rfl ?_
    exact ⟨by rw [HF2.out]; rfl, HO9.out.below HB2.out GEg2⟩
  · have hF : Hide (FixedV i = .tuple #[fv ([], []), .bool false]) := ⟨if_neg hi⟩
    by_cases h0 : i < 0
    · have h1 : decide (i < 0) = true := by simp [h0]
      go_wp2_with (first | ((with_reducible refine gate_dst (N := 14) rfl ?_); refine Kd.event_run rfl (v := fv ([], [])) ?hr ?_; (case hr => kernel_rfl)) | ((with_reducible refine gate_store (p := 2) (v := .tmp 14) rfl ?_); go_must (refine store_row rfl rfl 23 (.tmp 2) (.tmp 14) rfl g2 rfl (fa [([], [])]) rfl (fa_one _) (by rw [fa_size]; kernel_rfl) _ _ BK2.out rfl ?_); intro w9 hb9 ho9; have BK9 := Hide.mk hb9; have HO9 := Hide.mk ho9; clear hb9 ho9))
      refine bodyPost_ret (results_ct rfl _ _ g2 23 _ (0, 0) _ rfl BK9.out Try.underlying23 rfl (by rw [fa_size]; kernel_rfl)) rfl ?_
      exact ⟨by rw [hF.out]; rfl, HO9.out.below HB2.out GEg2⟩
    · have h1 : decide (i < 0) = false := by simp [h0]
      have h2 : decide (99 ≤ i) = true := by simp; omega
      go_wp2_with (first | ((with_reducible refine gate_dst (N := 14) rfl ?_); refine Kd.event_run rfl (v := fv ([], [])) ?hr ?_; (case hr => kernel_rfl)) | ((with_reducible refine gate_store (p := 2) (v := .tmp 14) rfl ?_); go_must (refine store_row rfl rfl 23 (.tmp 2) (.tmp 14) rfl g2 rfl (fa [([], [])]) rfl (fa_one _) (by rw [fa_size]; kernel_rfl) _ _ BK2.out rfl ?_); intro w9 hb9 ho9; have BK9 := Hide.mk hb9; have HO9 := Hide.mk ho9; clear hb9 ho9))
      refine bodyPost_ret (results_ct rfl _ _ g2 23 _ (0, 0) _ rfl BK9.out Try.underlying23 rfl (by rw [fa_size]; kernel_rfl)) rfl ?_
      exact ⟨by rw [hF.out]; rfl, HO9.out.below HB2.out GEg2⟩
end Go.Proofs.Ytcjakeopbjokoaa.Tb
