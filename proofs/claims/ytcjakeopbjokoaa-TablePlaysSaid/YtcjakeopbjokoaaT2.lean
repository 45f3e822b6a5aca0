/- A field taken out of the table; two fields compared; the program's Fixed. -/
import Derived.Test.YtcjakeopbjokoaaT1
namespace Go.Proofs.Ytcjakeopbjokoaa.Tb
open Go.RowKit Go.Proofs.YtcjakeopbjokoaaW.PrintWords Go.Proofs.YtcjakeopbjokoaaW.PrintLast Go.Proofs.YtcjakeopbjokoaaW.PrintMore Mem
set_option linter.unusedVariables false
set_option linter.unusedSimpArgs false
theorem fa_extract (l : List F) (i : Nat) (h : i < l.length) : (fa l).extract (i * 2) (i * 2 + 2) = #[sv (l.getD i ([], [])).1, sv (l.getD i ([], [])).2] := by
  have hs := fa_size l
  apply Array.ext_getElem?
  intro j
  rw [Array.getElem?_extract]
  by_cases hj : j < 2
  · rw [if_pos (by omega)]
    match j, hj with
    | 0, _ => rw [show i * 2 + 0 = 2 * i by omega, fa_get0 l i h]; rfl
    | 1, _ => rw [show i * 2 + 1 = 2 * i + 1 by omega, fa_get1 l i h]; rfl
  · rw [if_neg (by omega)]
    symm
    rw [Array.getElem?_eq_none_iff]
    show 2 ≤ j
    omega
theorem part_field (l : List F) (i : Nat) (h : i < l.length) (w : World) : (part 23 (fa l) (i * 2)).run Try.prog w = .ok (fv (l.getD i ([], []))) w := by
  have hi : (Try.prog.info? 23).isSome = true := by kernel_rfl
  obtain ⟨ii, hi⟩ := Option.isSome_iff_exists.1 hi
  have hc : Try.prog.cellsOf 23 = 2 := by kernel_rfl
  simp only [part, isAgg, Sem.run_bind, run_underlying Try.underlying23, run_sizeOf w hi, hc, Result.andThen_ok, Sem.run_pure, if_true, fa_extract l i h]
  rfl
theorem index_field (l : List F) (hl : l.length = 99) (i : Nat) (h : i < 99) (w : World) : (Instr.index 52 (.agg (fa l)) (.int .i64 (i : Int))).run Try.prog w = .ok (fv (l.getD i ([], []))) w := by
  have hi : (Try.prog.info? 23).isSome = true := by kernel_rfl
  obtain ⟨ii, hi⟩ := Option.isSome_iff_exists.1 hi
  have hc : Try.prog.cellsOf 23 = 2 := by kernel_rfl
  have hn : (0 : Int) ≤ (i : Int) ∧ (i : Int) < ((99 : Nat) : Int) := by omega
  simp only [Instr.index, asIntOf, Sem.run_bind, Sem.run_pure, run_underlying Try.underlying52, Result.andThen_ok]
  rw [if_pos hn]
  simp only [Sem.run_bind, run_sizeOf w hi, hc, Result.andThen_ok, Int.toNat_natCast]
  exact part_field l i (by omega) w
def FixedV (i : Int) : Value := if 0 ≤ i ∧ i < 99 then .tuple #[fv (TBL.getD i.toNat ([], [])), .bool true] else .tuple #[fv ([], []), .bool false]
set_option maxHeartbeats 1000000 in
set_option maxRecDepth 100000 in
theorem Fixed_any (i : Int) (w : World) : Calls Try.prog 7 #[.int .i64 i] w fun e w' => e = .returned (FixedV i) ∧ Below w.heap.size w w' := by
  by_cases hi : 0 ≤ i ∧ i < 99
  · have hF : Hide (FixedV i = .tuple #[fv (TBL.getD i.toNat ([], [])), .bool true]) := ⟨if_pos hi⟩
    have h1 : decide (i < 0) = false := by simp; omega
    have h2 : decide (99 ≤ i) = false := by simp; omega
    have hix := index_field TBL TBL_len i.toNat (by omega)
    rw [Int.toNat_of_nonneg hi.1] at hix
    go_enter Try.func7, Try.ntmps7
    go_wp2_with (first | ((with_reducible refine gate_dst (N := 2) rfl ?_); refine box_event ?hg (N := 2) ?hd (cs := fa [([], [])]) (t := 23) ?hr ?_; (case hd => rfl); (case hg => rfl); (case hr => kernel_rfl); intro g hg w1 hbox hb; have BKg := Hide.mk hbox; have HB := Hide.mk hb; have GEg : w.heap.size ≤ g := (by rw [hg]; exact Nat.le_refl _); clear hbox hb hg))
    refine (fixed_any _).mono ?_
    rintro e w2 ⟨rfl, hb2⟩
    have HB2 := Hide.mk (below_step HB.out hb2)
    have BK2 := Hide.mk (blk_below BKg.out hb2)
    clear hb2 HB BKg
    go_wp2_with (first | ((with_reducible refine gate_dst (N := 13) rfl ?_); refine Kd.event_run rfl (v := fv (TBL.getD i.toNat ([], []))) ?hr ?_; (case hr => go_simp; rw [hix]; rfl)) | ((with_reducible refine gate_store (p := 2) (v := .tmp 13) rfl ?_); go_must (refine store_row rfl rfl 23 (.tmp 2) (.tmp 13) rfl g rfl (fa [TBL.getD i.toNat ([], [])]) rfl (fa_one _) (by rw [fa_size]; kernel_rfl) _ _ BK2.out rfl ?_); intro w4 hb4 ho4; have BK4 := Hide.mk hb4; have HO4 := Hide.mk ho4; clear hb4 ho4))
    refine bodyPost_ret (results_ct rfl _ _ g 23 _ (0, 0) _ rfl BK4.out Try.underlying23 rfl (by rw [fa_size]; kernel_rfl)) rfl ?_
    exact ⟨by rw [hF.out]; rfl, HO4.out.below HB2.out GEg⟩
  · have hF : Hide (FixedV i = .tuple #[fv ([], []), .bool false]) := ⟨if_neg hi⟩
    go_enter Try.func7, Try.ntmps7
    by_cases h0 : i < 0
    · have h1 : decide (i < 0) = true := by simp [h0]
      go_wp2_with (first | ((with_reducible refine gate_dst (N := 2) rfl ?_); refine box_event ?hg (N := 2) ?hd (cs := fa [([], [])]) (t := 23) ?hr ?_; (case hd => rfl); (case hg => rfl); (case hr => kernel_rfl); intro g hg w1 hbox hb; have BKg := Hide.mk hbox; have HB := Hide.mk hb; have GEg : w.heap.size ≤ g := (by rw [hg]; exact Nat.le_refl _); clear hbox hb hg) | ((with_reducible refine gate_dst (N := 10) rfl ?_); refine Kd.event_run rfl (v := fv ([], [])) ?hr ?_; (case hr => kernel_rfl)) | ((with_reducible refine gate_store (p := 2) (v := .tmp 10) rfl ?_); go_must (refine store_row rfl rfl 23 (.tmp 2) (.tmp 10) rfl g rfl (fa [([], [])]) rfl (fa_one _) (by rw [fa_size]; kernel_rfl) _ _ BKg.out rfl ?_); intro w4 hb4 ho4; have BK4 := Hide.mk hb4; have HO4 := Hide.mk ho4; clear hb4 ho4))
      refine bodyPost_ret (results_ct rfl _ _ g 23 _ (0, 0) _ rfl BK4.out Try.underlying23 rfl (by rw [fa_size]; kernel_rfl)) rfl ?_
      exact ⟨by rw [hF.out]; rfl, HO4.out.below HB.out GEg⟩
    · have h1 : decide (i < 0) = false := by simp [h0]
      have h2 : decide (99 ≤ i) = true := by simp; omega
      go_wp2_with (first | ((with_reducible refine gate_dst (N := 2) rfl ?_); refine box_event ?hg (N := 2) ?hd (cs := fa [([], [])]) (t := 23) ?hr ?_; (case hd => rfl); (case hg => rfl); (case hr => kernel_rfl); intro g hg w1 hbox hb; have BKg := Hide.mk hbox; have HB := Hide.mk hb; have GEg : w.heap.size ≤ g := (by rw [hg]; exact Nat.le_refl _); clear hbox hb hg) | ((with_reducible refine gate_dst (N := 10) rfl ?_); refine Kd.event_run rfl (v := fv ([], [])) ?hr ?_; (case hr => kernel_rfl)) | ((with_reducible refine gate_store (p := 2) (v := .tmp 10) rfl ?_); go_must (refine store_row rfl rfl 23 (.tmp 2) (.tmp 10) rfl g rfl (fa [([], [])]) rfl (fa_one _) (by rw [fa_size]; kernel_rfl) _ _ BKg.out rfl ?_); intro w4 hb4 ho4; have BK4 := Hide.mk hb4; have HO4 := Hide.mk ho4; clear hb4 ho4))
      refine bodyPost_ret (results_ct rfl _ _ g 23 _ (0, 0) _ rfl BK4.out Try.underlying23 rfl (by rw [fa_size]; kernel_rfl)) rfl ?_
      exact ⟨by rw [hF.out]; rfl, HO4.out.below HB.out GEg⟩
end Go.Proofs.Ytcjakeopbjokoaa.Tb
