/- The walk of TableFinds. -/
import Derived.Test.YtcjakeopbjokoaaT10
namespace Go.Proofs.Ytcjakeopbjokoaa.Tb
open Go.RowKit Go.Proofs.YtcjakeopbjokoaaW.PrintWords Go.Proofs.YtcjakeopbjokoaaW.PrintLast Go.Proofs.YtcjakeopbjokoaaW.PrintMore Mem
set_option linter.unusedVariables false
set_option linter.unusedSimpArgs false
theorem finds_all : ∀ i, i < 99 → wholeAt (TBL.getD i ([], [])) = i ∧ 0 ≤ nameAt (TBL.getD i ([], [])) ∧ nameAt (TBL.getD i ([], [])) ≤ i ∧ (TBL.getD (nameAt (TBL.getD i ([], []))).toNat ([], [])).1 = (TBL.getD i ([], [])).1 ∧ wholeAt ((TBL.getD i ([], [])).1, [110, 111, 32, 115, 117, 99, 104, 32, 118, 97, 108, 117, 101]) = -1 := by decide +kernel
set_option maxHeartbeats 2000000 in
set_option maxRecDepth 100000 in
theorem finds_walk (i : Int) (w : World) : Calls Try.prog 5 #[.int .i64 i] w fun e w' => e = .returned (.bool true) ∧ Below w.heap.size w w' := by
  by_cases hi : 0 ≤ i ∧ i < 99
  · obtain ⟨x, hx⟩ : ∃ x, x = TBL.getD i.toNat ([], []) := ⟨_, rfl⟩
    have hF : FixedV i = .tuple #[fv x, .bool true] := by rw [hx]; exact if_pos hi
    obtain ⟨p1, p2, p3, p4, p5⟩ := finds_all i.toNat (by omega)
    rw [← hx] at p1 p2 p3 p4 p5
    have p6 : nameAt (x.1, [110, 111, 32, 115, 117, 99, 104, 32, 118, 97, 108, 117, 101]) = nameAt x := rfl
    obtain ⟨n, hn⟩ : ∃ n, n = nameAt x := ⟨_, rfl⟩
    rw [← hn] at p2 p3 p4 p6
    have hi0 : ((i.toNat : Nat) : Int) = i := Int.toNat_of_nonneg hi.1
    rw [hi0] at p1 p3
    obtain ⟨y, hy⟩ : ∃ y, y = TBL.getD n.toNat ([], []) := ⟨_, rfl⟩
    have hG : FixedV n = .tuple #[fv y, .bool true] := by rw [hy]; exact if_pos (by omega)
    rw [← hy] at p4
    have P1 := Hide.mk p1
    have P5 := Hide.mk p5
    have P6 := Hide.mk p6
    have HN := Hide.mk hn
    have HF := Hide.mk hF
    have HG := Hide.mk hG
    have P4 := Hide.mk p4
    clear p1 p5 p6 hn hF hG p4 hx hy
    have d2 : decide (0 ≤ n) = true := by simp [p2]
    have d3 : decide (n ≤ i) = true := by simp [p3]
    go_enter Try.func5, Try.ntmps5
    go_wp2_with fail
    refine (Fixed_any i _).mono ?_
    rintro e w1 ⟨rfl, hb1⟩
    rw [HF.out]
    have HB1 := Hide.mk hb1
    clear hb1
    go_wp2_with (first | ((with_reducible refine gate_dst (N := 3) rfl ?_); refine box_event ?hg (N := 3) ?hd (cs := fa [([], [])]) (t := 23) ?hr ?_; (case hd => rfl); (case hg => rfl); (case hr => kernel_rfl); intro g3 hg w2 hbox hb; have BKg3 := Hide.mk hbox; have HB2 := Hide.mk (below_step HB1.out hb); have GEg3 : w.heap.size ≤ g3 := (by rw [hg]; exact HB1.out.size); clear HB1; clear hbox hb hg) | ((with_reducible refine gate_store (p := 3) (v := .tmp 14) rfl ?_); go_must (refine store_row rfl rfl 23 (.tmp 3) (.tmp 14) rfl g3 rfl (fa [x]) rfl (fa_one _) (by rw [fa_size]; kernel_rfl) _ _ BKg3.out rfl ?_); intro w9 hb ho; have BKg3' := Hide.mk hb; have HB2' := Hide.mk (ho.below HB2.out GEg3); clear BKg3 HB2; have BKg3 := BKg3'; have HB2 := HB2'; clear BKg3' HB2'; clear hb ho) | ((with_reducible refine gate_dst (N := 28) rfl ?_); refine wpList_load_row rfl 23 (.tmp 3) rfl g3 rfl 23 _ (0, 0) _ BKg3.out Try.underlying23 rfl ?hsz ?_; (case hsz => rw [fa_size]; kernel_rfl)))
    refine (find_any x _).mono ?_
    rintro e w3 ⟨rfl, hb3⟩
    rw [P1.out, ← HN.out]
    have HB3 := Hide.mk (below_step HB2.out hb3)
    have BK3 := Hide.mk (blk_below BKg3.out hb3)
    clear hb3 HB2 BKg3
    go_wp2_with fail
    refine (Fixed_any n _).mono ?_
    rintro e w4 ⟨rfl, hb4⟩
    rw [HG.out]
    have HB4 := Hide.mk (below_step HB3.out hb4)
    have BK34 := Hide.mk (blk_below BK3.out hb4)
    clear hb4 HB3 BK3
    go_wp2_with (first | ((with_reducible refine gate_dst (N := 7) rfl ?_); refine box_event ?hg (N := 7) ?hd (cs := fa [([], [])]) (t := 23) ?hr ?_; (case hd => rfl); (case hg => rfl); (case hr => kernel_rfl); intro g7 hg w5 hbox hb; have Lg3g7 : g3 < g7 := (by rw [hg]; exact blk_lt BK34.out); have BKg7 := Hide.mk hbox; have HB5 := Hide.mk (below_step HB4.out hb); have GEg7 : w.heap.size ≤ g7 := (by rw [hg]; exact HB4.out.size); clear HB4; have BK34' := Hide.mk (blk_below BK34.out hb); clear BK34; have BK34 := BK34'; clear BK34'; clear hbox hb hg) | ((with_reducible refine gate_store (p := 7) (v := .tmp 35) rfl ?_); go_must (refine store_row rfl rfl 23 (.tmp 7) (.tmp 35) rfl g7 rfl (fa [y]) rfl (fa_one _) (by rw [fa_size]; kernel_rfl) _ _ BKg7.out rfl ?_); intro w9 hb ho; have BKg7' := Hide.mk hb; have HB5' := Hide.mk (ho.below HB5.out GEg7); clear BKg7 HB5; have BKg7 := BKg7'; have HB5 := HB5'; clear BKg7' HB5'; have BK34' := Hide.mk (ho.blk BK34.out (by omega)); clear BK34; have BK34 := BK34'; clear BK34'; clear hb ho; have c0 := (blk_cell BK34.out 0).trans (show (fa [x])[0]? = some (.string ⟨x.1.toArray⟩) from rfl)))
    refine (find_any (x.1, [110, 111, 32, 115, 117, 99, 104, 32, 118, 97, 108, 117, 101]) _).mono ?_
    rintro e w6 ⟨rfl, hb6⟩
    rw [P5.out, P6.out]
    have HB6 := Hide.mk (below_step HB5.out hb6)
    have BK36 := Hide.mk (blk_below BK34.out hb6)
    have BK76 := Hide.mk (blk_below BKg7.out hb6)
    clear hb6 HB5 BK34 BKg7 c0
    have c0 := (blk_cell BK36.out 0).trans (show (fa [x])[0]? = some (.string ⟨x.1.toArray⟩) from rfl)
    have c1 := (blk_cell BK76.out 0).trans (show (fa [y])[0]? = some (.string ⟨y.1.toArray⟩) from rfl)
    rw [P4.out] at c1
    go_wp2_with fail
    refine (lives_any _).mono ?_
    rintro e w7 ⟨rfl, hb7⟩
    have HB7 := Hide.mk (below_step HB6.out hb7)
    clear hb7 HB6 c0 c1
    go_wp2_with fail
    go_ret
    exact ⟨rfl, HB7.out⟩
  · have hF : FixedV i = .tuple #[fv ([], []), .bool false] := if_neg hi
    have HF := Hide.mk hF
    clear hF
    go_enter Try.func5, Try.ntmps5
    go_wp2_with fail
    refine (Fixed_any i _).mono ?_
    rintro e w1 ⟨rfl, hb1⟩
    rw [HF.out]
    have HB1 := Hide.mk hb1
    clear hb1
    by_cases h0 : i < 0
    · have d1 : decide (i < 0) = true := by simp [h0]
      go_wp2_with (first | ((with_reducible refine gate_dst (N := 3) rfl ?_); refine box_event ?hg (N := 3) ?hd (cs := fa [([], [])]) (t := 23) ?hr ?_; (case hd => rfl); (case hg => rfl); (case hr => kernel_rfl); intro g3 hg w2 hbox hb; have BKg3 := Hide.mk hbox; have HB2 := Hide.mk (below_step HB1.out hb); have GEg3 : w.heap.size ≤ g3 := (by rw [hg]; exact HB1.out.size); clear HB1; clear hbox hb hg) | ((with_reducible refine gate_store (p := 3) (v := .tmp 14) rfl ?_); go_must (refine store_row rfl rfl 23 (.tmp 3) (.tmp 14) rfl g3 rfl (fa [([], [])]) rfl (fa_one _) (by rw [fa_size]; kernel_rfl) _ _ BKg3.out rfl ?_); intro w9 hb ho; have BKg3' := Hide.mk hb; have HB2' := Hide.mk (ho.below HB2.out GEg3); clear BKg3 HB2; have BKg3 := BKg3'; have HB2 := HB2'; clear BKg3' HB2'; clear hb ho))
      refine (lives_any _).mono ?_
      rintro e w7 ⟨rfl, hb7⟩
      have HB7 := Hide.mk (below_step HB2.out hb7)
      clear hb7 HB2
      go_wp2_with fail
      go_ret
      exact ⟨rfl, HB7.out⟩
    · have d1 : decide (i < 0) = false := by simp [h0]
      have d2 : decide (98 < i) = true := by simp; omega
      go_wp2_with (first | ((with_reducible refine gate_dst (N := 3) rfl ?_); refine box_event ?hg (N := 3) ?hd (cs := fa [([], [])]) (t := 23) ?hr ?_; (case hd => rfl); (case hg => rfl); (case hr => kernel_rfl); intro g3 hg w2 hbox hb; have BKg3 := Hide.mk hbox; have HB2 := Hide.mk (below_step HB1.out hb); have GEg3 : w.heap.size ≤ g3 := (by rw [hg]; exact HB1.out.size); clear HB1; clear hbox hb hg) | ((with_reducible refine gate_store (p := 3) (v := .tmp 14) rfl ?_); go_must (refine store_row rfl rfl 23 (.tmp 3) (.tmp 14) rfl g3 rfl (fa [([], [])]) rfl (fa_one _) (by rw [fa_size]; kernel_rfl) _ _ BKg3.out rfl ?_); intro w9 hb ho; have BKg3' := Hide.mk hb; have HB2' := Hide.mk (ho.below HB2.out GEg3); clear BKg3 HB2; have BKg3 := BKg3'; have HB2 := HB2'; clear BKg3' HB2'; clear hb ho))
      refine (lives_any _).mono ?_
      rintro e w7 ⟨rfl, hb7⟩
      have HB7 := Hide.mk (below_step HB2.out hb7)
      clear hb7 HB2
      go_wp2_with fail
      go_ret
      exact ⟨rfl, HB7.out⟩
end Go.Proofs.Ytcjakeopbjokoaa.Tb
