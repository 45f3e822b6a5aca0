/- Numbers of five words: what is left. -/
import Derived.Test.YtlhhjdhbkhjhjaaP2
namespace Go.Proofs.Ytlhhjdhbkhjhjaa.Po
open Go.RowKit Go.Proofs.YtlhhjdhbkhjhjaaW.PrintWords Go.Proofs.YtlhhjdhbkhjhjaaW.PrintLast Go.Proofs.YtlhhjdhbkhjhjaaW.PrintMore Mem Rg
attribute [local go_sem] Oper.semAt_some
set_option linter.unusedVariables false
set_option linter.unusedSimpArgs false
/-- A word is carried, the others wait. -/
def lstep (i : Nat) (l : List Int) : List Int := (l.set (i + 1) (l.getD (i + 1) 0 + l.getD i 0 / 67108864)).set i (l.getD i 0 % 67108864)
def ls (l : List Int) : Nat → List Int
  | 0 => l.set 0 (l.getD 0 0 + 5)
  | i + 1 => lstep i (ls l i)
theorem ls_len (l : List Int) : ∀ i, (ls l i).length = l.length
  | 0 => by rw [ls, List.length_set]
  | i + 1 => by rw [ls, lstep, List.length_set, List.length_set]; exact ls_len l i
theorem ls_bd {l : List Int} (h : Norm l) (i : Nat) (hi : i ≤ 4) (j : Nat) : 0 ≤ (ls l i).getD j 0 ∧ (ls l i).getD j 0 ≤ 67108868 := by
  obtain ⟨a, b, c, d, e, rfl⟩ := five h.1
  have hb := h.2
  simp only [List.mem_cons, List.not_mem_nil, or_false, forall_eq_or_imp, forall_eq] at hb
  have hj : j = 0 ∨ j = 1 ∨ j = 2 ∨ j = 3 ∨ j = 4 ∨ 5 ≤ j := by omega
  have hi' : i = 0 ∨ i = 1 ∨ i = 2 ∨ i = 3 ∨ i = 4 := by omega
  rcases hj with rfl | rfl | rfl | rfl | rfl | hj
  case inr.inr.inr.inr.inr =>
    rw [List.getD_eq_getElem?_getD, List.getElem?_eq_none (by rw [ls_len]; exact hj)]
    decide
  all_goals
    rcases hi' with rfl | rfl | rfl | rfl | rfl <;> simp [ls, lstep] <;> omega
theorem ls_val {l : List Int} (h : Norm l) : ((ls l 4).getD 4 0 ≤ 67108863 → V5 l = V5 l % PP) ∧ (67108863 < (ls l 4).getD 4 0 → Norm ((ls l 4).set 4 ((ls l 4).getD 4 0 % 67108864)) ∧ V5 ((ls l 4).set 4 ((ls l 4).getD 4 0 % 67108864)) = V5 l % PP) := by
  obtain ⟨a, b, c, d, e, rfl⟩ := five h.1
  have hb := h.2
  simp only [List.mem_cons, List.not_mem_nil, or_false, forall_eq_or_imp, forall_eq] at hb
  have hv : ls [a, b, c, d, e] 4 = [(a + 5) % 67108864, (b + (a + 5) / 67108864) % 67108864, (c + (b + (a + 5) / 67108864) / 67108864) % 67108864, (d + (c + (b + (a + 5) / 67108864) / 67108864) / 67108864) % 67108864, e + (d + (c + (b + (a + 5) / 67108864) / 67108864) / 67108864) / 67108864] := by
    simp [ls, lstep]
  rw [hv]
  obtain ⟨h1, e1⟩ : ∃ h1, (a + 5) / 67108864 = h1 := ⟨_, rfl⟩
  obtain ⟨h2, e2⟩ : ∃ h2, (b + h1) / 67108864 = h2 := ⟨_, rfl⟩
  obtain ⟨h3, e3⟩ : ∃ h3, (c + h2) / 67108864 = h3 := ⟨_, rfl⟩
  obtain ⟨h4, e4⟩ : ∃ h4, (d + h3) / 67108864 = h4 := ⟨_, rfl⟩
  simp only [e1, e2, e3, e4]
  refine ⟨fun hle => ?_, fun hgt => ⟨⟨rfl, ?_⟩, ?_⟩⟩
  · simp at hle
    simp only [V5, PP]
    omega
  · simp at hgt
    simp only [List.getD_cons_succ, List.getD_cons_zero, List.set_cons_succ, List.set_cons_zero, List.mem_cons, List.not_mem_nil, or_false, forall_eq_or_imp, forall_eq]
    omega
  · simp at hgt
    simp only [List.getD_cons_succ, List.getD_cons_zero, List.set_cons_succ, List.set_cons_zero]
    have b1 : h1 ≤ 1 := by omega
    have b2 : h2 ≤ 1 := by omega
    have b3 : h3 ≤ 1 := by omega
    have b4 : h4 ≤ 1 := by omega
    have hq : (e + h4) % 67108864 = e + h4 - 67108864 := by omega
    have m1 : (a + 5) % 67108864 = a + 5 - 67108864 * h1 := by omega
    have m2 : (b + h1) % 67108864 = b + h1 - 67108864 * h2 := by omega
    have m3 : (c + h2) % 67108864 = c + h2 - 67108864 * h3 := by omega
    have m4 : (d + h3) % 67108864 = d + h3 - 67108864 * h4 := by omega
    rw [hq, m1, m2, m3, m4]
    have g1 : PP ≤ V5 [a, b, c, d, e] := by
      simp only [V5, PP]
      omega
    have g2 : V5 [a, b, c, d, e] - PP < PP := by
      simp only [V5, PP]
      omega
    have g3 : V5 [a, b, c, d, e] % PP = V5 [a, b, c, d, e] - PP := by
      rw [← Int.sub_emod_right (V5 [a, b, c, d, e]) PP]
      exact Int.emod_eq_of_lt (by omega) g2
    rw [g3]
    simp only [V5, PP]
    omega
set_option maxHeartbeats 4000000 in
set_option maxRecDepth 100000 in
theorem least_any (n : List Int) (hn : Norm n) (w : World) : Calls Try.prog 19 #[.agg (ia .u64 n)] w fun e w' => (∃ r, e = .returned (.agg (ia .u64 r)) ∧ Norm r ∧ V5 r = V5 n % PP) ∧ Below w.heap.size w w' := by
  have HB0 := Hide.mk (Below.refl w.heap.size w)
  have HN := Hide.mk hn
  clear hn
  have n0 := norm_get HN.out 0
  have HL0 : Hide (ls n 0 = n.set 0 (n.getD 0 0 + 5)) := ⟨rfl⟩
  have HY0 : ∃ y, n.getD 0 0 = y := ⟨_, rfl⟩
  obtain ⟨y, hy⟩ := HY0
  rw [hy] at n0 HL0
  have HYY := Hide.mk hy
  clear hy
  obtain ⟨y0, y1⟩ := n0
  have f0 : IntKind.u64.wrap (y + 5) = y + 5 := IntWalk.u64_in _ (by omega)
  go_enter Try.func19, Try.ntmps19
  go_wp2_with (first | ((with_reducible refine gate_dst (N := 1) rfl ?_); refine box_event ?hg (N := 1) ?hd (cs := ia .u64 n) (t := 39) ?hr ?_; (case hd => rfl); (case hg => rfl); (case hr => kernel_rfl); intro g1 hg w1 hbox hb; have BKg1 := Hide.mk hbox; have HB1' := Hide.mk (below_step HB0.out hb); have GEg1 : w.heap.size ≤ g1 := (by rw [hg]; exact HB0.out.size); clear HB0; have HB1 := HB1'; clear HB1'; clear hbox hb hg) | ((with_reducible refine gate_dst (N := 2) rfl ?_); refine box_event ?hg (N := 2) ?hd (cs := ia .u64 (List.replicate 5 0)) (t := 39) ?hr ?_; (case hd => rfl); (case hg => rfl); (case hr => kernel_rfl); intro g2 hg w2 hbox hb; have Lg1g2 : g1 < g2 := (by rw [hg]; exact blk_lt BKg1.out); have BKg2 := Hide.mk hbox; have HB2' := Hide.mk (below_step HB1.out hb); have GEg2 : w.heap.size ≤ g2 := (by rw [hg]; exact HB1.out.size); clear HB1; have HB2 := HB2'; clear HB2'; have BKg1' := Hide.mk (blk_below BKg1.out hb); clear BKg1; have BKg1 := BKg1'; clear BKg1'; clear hbox hb hg) | ((with_reducible refine gate_dst (N := 6) rfl ?_); refine wpList_load_row rfl 39 (.tmp 1) rfl g1 rfl 39 _ (0, 0) _ BKg1.out Try.underlying39 rfl ?hsz ?_; (case hsz => rw [ia_size, HN.out.1]; kernel_rfl)) | ((with_reducible refine gate_dst (N := 3) rfl ?_); refine box_event ?hg (N := 3) ?hd (cs := ia .u64 (List.replicate 5 0)) (t := 39) ?hr ?_; (case hd => rfl); (case hg => rfl); (case hr => kernel_rfl); intro g3 hg w3 hbox hb; have Lg1g3 : g1 < g3 := (by rw [hg]; exact blk_lt BKg1.out); have Lg2g3 : g2 < g3 := (by rw [hg]; exact blk_lt BKg2.out); have BKg3 := Hide.mk hbox; have HB3' := Hide.mk (below_step HB2.out hb); have GEg3 : w.heap.size ≤ g3 := (by rw [hg]; exact HB2.out.size); clear HB2; have HB3 := HB3'; clear HB3'; have BKg1' := Hide.mk (blk_below BKg1.out hb); clear BKg1; have BKg1 := BKg1'; clear BKg1'; have BKg2' := Hide.mk (blk_below BKg2.out hb); clear BKg2; have BKg2 := BKg2'; clear BKg2'; clear hbox hb hg) | ((with_reducible refine gate_store (p := 3) (v := .tmp 6) rfl ?_); go_must (refine store_row rfl rfl 39 (.tmp 3) (.tmp 6) rfl g3 rfl (ia .u64 n) rfl (ia_one _ _) (by rw [ia_size, HN.out.1]; kernel_rfl) _ _ BKg3.out (by rw [ia_size, ia_size, HN.out.1]; rfl) ?_); intro w4 hb ho; have BKg3' := Hide.mk hb; have HB3' := Hide.mk (ho.below HB3.out GEg3); clear BKg3 HB3; have BKg3 := BKg3'; have HB3 := HB3'; clear BKg3' HB3'; have BKg1' := Hide.mk (ho.blk BKg1.out (by omega)); clear BKg1; have BKg1 := BKg1'; clear BKg1'; have BKg2' := Hide.mk (ho.blk BKg2.out (by omega)); clear BKg2; have BKg2 := BKg2'; clear BKg2'; have c0 := cell_row BKg3.out 0 (by rw [HN.out.1]; decide) HYY.out; clear hb ho) | ((with_reducible refine gate_store (p := 10) (v := .tmp 9) rfl ?_); refine store_cell rfl rfl 37 (.tmp 10) (.tmp 9) rfl g3 (0) (by first | rfl | go_simp) (.int .u64 (y + 5)) rfl rfl rfl (by kernel_rfl) _ _ BKg3.out ?hlt ?_; (case hlt => rw [ia_size, HN.out.1]; decide); intro w5 hb ho; rw [ia_set, ← HL0.out] at hb; clear c0; have BKg3' := Hide.mk hb; have HB3' := Hide.mk (ho.below HB3.out GEg3); clear BKg3 HB3; have BKg3 := BKg3'; have HB3 := HB3'; clear BKg3' HB3'; have BKg1' := Hide.mk (ho.blk BKg1.out (by omega)); clear BKg1; have BKg1 := BKg1'; clear BKg1'; have BKg2' := Hide.mk (ho.blk BKg2.out (by omega)); clear BKg2; have BKg2 := BKg2'; clear BKg2'; clear hb ho))
  go_loopg [11] 4 (fun gp v wy => ∃ i : Nat, i + gp = 4 ∧ v = .int .i64 i ∧ wy.heap[g1]? = some (.cells (ia .u64 n) 39 (0, 0)) ∧ wy.heap[g2]? = some (.cells (ia .u64 (List.replicate 5 0)) 39 (0, 0)) ∧ wy.heap[g3]? = some (.cells (ia .u64 (ls n i)) 39 (0, 0)) ∧ Below w.heap.size w wy)
  case atStart => exact ⟨0, rfl, rfl, BKg1.out, BKg2.out, BKg3.out, HB3.out⟩
  case round =>
    clear BKg1 BKg2 BKg3 HB3 f0 y0 y1 HL0 HYY
    obtain ⟨i, hi, rfl, h1, h2, h3, hb⟩ := hrel
    have B1 := Hide.mk h1
    have B2 := Hide.mk h2
    have B3 := Hide.mk h3
    have HB := Hide.mk hb
    have HLL : Hide ((ls n i).length = 5) := ⟨(ls_len _ _).trans HN.out.1⟩
    clear h1 h2 h3 hb
    by_cases hlt : i < 4
    · have hd : decide ((i : Int) < 4) = true := by simp; omega
      have HS : Hide (ls n (i + 1) = ((ls n i).set (i + 1) ((ls n i).getD (i + 1) 0 + (ls n i).getD i 0 / 67108864)).set i ((ls n i).getD i 0 % 67108864)) := ⟨rfl⟩
      have xb := ls_bd HN.out i (by omega) i
      have yb := ls_bd HN.out i (by omega) (i + 1)
      generalize ls n i = L at B3 HS xb yb HLL
      have cx := cell_row B3.out i (by rw [HLL.out]; omega) rfl
      have cy := cell_row B3.out (i + 1) (by rw [HLL.out]; omega) rfl
      obtain ⟨x, hx⟩ : ∃ x, L.getD i 0 = x := ⟨_, rfl⟩
      obtain ⟨y, hy⟩ : ∃ y, L.getD (i + 1) 0 = y := ⟨_, rfl⟩
      rw [hx] at HS xb cx
      rw [hy] at HS yb cy
      have HX := Hide.mk hx
      clear hx hy
      obtain ⟨x0, x1⟩ := xb
      obtain ⟨y0, y1⟩ := yb
      have f1 : IntKind.i64.wrap ((i : Int) + 1) = (i : Int) + 1 := IntWalk.i64_in _ (by omega)
      have f2 : IntKind.u64.wrap (y + x / 67108864) = y + x / 67108864 := IntWalk.u64_in _ (by omega)
      have HMK := Hide.mk (mask_u64 x x0 (by omega))
      have hi0 : (0 : Int) ≤ (i : Int) := Int.natCast_nonneg _
      have hi1 : (i : Int) < 4 := by omega
      have hi2 : (i : Int) + 1 < 5 := by omega
      have hi3 : (0 : Int) ≤ (i : Int) + 1 := by omega
      have hi4 : (i : Int) < 5 := by omega
      go_wp2_with fail
      refine Plan.region_plan (fun w' => w'.cell? ⟨g3, i + 1, none⟩ = some (.int .u64 y) ∧ w'.cell? ⟨g3, i, none⟩ = some (.int .u64 x)) [10] [(0, 0, some 14), (1, 0, some 15), (2, 0, some 16), (3, 0, some 17), (4, 0, some 18), (5, 0, some 19), (6, 0, some 20), (7, 0, some 21), (8, 0, some 22), (9, 0, some 23), (10, 2, none)] (by kernel_rfl) (by kernel_rfl) (by decide) ⟨cy, cx⟩ (fun wz ewz hS => ?_)
      have HBz := Hide.mk (below_of_drew ewz HB.out)
      have B1z := Hide.mk (blk_of_drew ewz B1.out)
      have B2z := Hide.mk (blk_of_drew ewz B2.out)
      have B3z := Hide.mk (blk_of_drew ewz B3.out)
      clear ewz cx cy B1 B2 B3 HB
      (repeat (first | (refine Plan.plan_take (v := ?_) (a' := ?_) rfl ?_ ?_ ?_ ?_; rotate_left 2; (· rfl); (· (intro w' hs; go_simp; with_reducible rfl)); (· (simp only [Act.put, List.setIfInBounds_toArray, List.set_cons_zero, List.set_cons_succ]; rfl))) | (refine Plan.plan_skip (a' := ?_) rfl ?_ ?_ ?_; rotate_left 1; (· rfl); (· (simp only [Act.put, List.setIfInBounds_toArray, List.set_cons_zero, List.set_cons_succ]; rfl))) | (refine Plan.plan_pure (v := ?_) (a' := ?_) rfl ?_ ?_ ?_ ?_; rotate_left 2; (· rfl); (· (intro w'; go_simp; with_reducible rfl)); (· (simp only [Act.put, List.setIfInBounds_toArray, List.set_cons_zero, List.set_cons_succ]; rfl)))))
      refine Plan.plan_last_cell rfl rfl rfl 37 (.tmp 23) (.tmp 22) rfl g3 (i + 1) rfl (.int .u64 (y + x / 67108864)) rfl rfl rfl (by kernel_rfl) _ _ B3z.out (by rw [ia_size, HLL.out]; omega) ?_
      intro w5 hb5 ho5
      rw [ia_set] at hb5
      have cx5 := cell_set hb5 i (by rw [HLL.out]; omega) (by omega) HX.out
      have B3 := Hide.mk hb5
      have B1 := Hide.mk (ho5.blk B1z.out (by omega))
      have B2 := Hide.mk (ho5.blk B2z.out (by omega))
      have HB := Hide.mk (ho5.below HBz.out (by omega))
      clear hb5 ho5 B1z B2z B3z HBz hS
      refine Plan.plan_nil ?_
      go_wp2_with (first | ((with_reducible refine gate_store (p := 28) (v := .tmp 27) rfl ?_); refine store_cell rfl rfl 37 (.tmp 28) (.tmp 27) rfl g3 (i) (by first | rfl | go_simp) (.int .u64 (bits .and .u64 x 67108863)) rfl rfl rfl (by kernel_rfl) _ _ B3.out ?hlt ?_; (case hlt => rw [ia_size, List.length_set, HLL.out]; omega); intro w9 hb ho; rw [ia_set, HMK.out, ← HS.out] at hb; have B3' := Hide.mk hb; have HB' := Hide.mk (ho.below HB.out GEg3); clear B3 HB; have B3 := B3'; have HB := HB'; clear B3' HB'; have B1' := Hide.mk (ho.blk B1.out (by omega)); clear B1; have B1 := B1'; clear B1'; have B2' := Hide.mk (ho.blk B2.out (by omega)); clear B2; have B2 := B2'; clear B2'; clear hb ho))
      go_roundg (gk - 1)
      case measure => omega
      case rel => exact ⟨i + 1, by omega, by go_num, B1.out, B2.out, B3.out, HB.out⟩
    · obtain rfl : i = 4 := by omega
      rw [show ((4 : Nat) : Int) = 4 from rfl]
      have HV := Hide.mk (ls_val HN.out)
      have xb := ls_bd HN.out 4 (by omega) 4
      generalize ls n 4 = L at B3 HV xb HLL
      have cx := cell_row B3.out 4 (by rw [HLL.out]; omega) rfl
      obtain ⟨x, hx⟩ : ∃ x, L.getD 4 0 = x := ⟨_, rfl⟩
      rw [hx] at HV xb cx
      clear hx
      obtain ⟨x0, x1⟩ := xb
      have HMK := Hide.mk (mask_u64 x x0 (by omega))
      by_cases hgt : 67108863 < x
      · have hd : decide (67108863 < x) = true := by simp; exact hgt
        have HR := Hide.mk (HV.out.2 hgt)
        generalize hr : L.set 4 (x % 67108864) = r at HR
        have HRR := Hide.mk hr
        clear hr
        go_wp2_with (first | ((with_reducible refine gate_store (p := 38) (v := .tmp 37) rfl ?_); refine store_cell rfl rfl 37 (.tmp 38) (.tmp 37) rfl g3 (4) (by first | rfl | go_simp) (.int .u64 (bits .and .u64 x 67108863)) rfl rfl rfl (by kernel_rfl) _ _ B3.out ?hlt ?_; (case hlt => rw [ia_size, HLL.out]; decide); intro w9 hb ho; rw [ia_set, HMK.out, HRR.out] at hb; clear cx; have B3' := Hide.mk hb; have HB' := Hide.mk (ho.below HB.out GEg3); clear B3 HB; have B3 := B3'; have HB := HB'; clear B3' HB'; have B1' := Hide.mk (ho.blk B1.out (by omega)); clear B1; have B1 := B1'; clear B1'; have B2' := Hide.mk (ho.blk B2.out (by omega)); clear B2; have B2 := B2'; clear B2'; clear hb ho) | ((with_reducible refine gate_dst (N := 39) rfl ?_); refine wpList_load_row rfl 39 (.tmp 3) rfl g3 rfl 39 _ (0, 0) _ B3.out Try.underlying39 rfl ?hsz ?_; (case hsz => rw [ia_size, HR.out.1.1]; kernel_rfl)) | ((with_reducible refine gate_store (p := 2) (v := .tmp 39) rfl ?_); go_must (refine store_row rfl rfl 39 (.tmp 2) (.tmp 39) rfl g2 rfl (ia .u64 r) rfl (ia_one _ _) (by rw [ia_size, HR.out.1.1]; kernel_rfl) _ _ B2.out (by rw [ia_size, ia_size, HR.out.1.1]; rfl) ?_); intro wA hb ho; have B2' := Hide.mk hb; have HB' := Hide.mk (ho.below HB.out GEg2); clear B2 HB; have B2 := B2'; have HB := HB'; clear B2' HB'; clear hb ho))
        refine bodyPost_ret (results_cell_row rfl _ _ g2 39 _ (0, 0) _ rfl B2.out Try.underlying39 rfl (by rw [ia_size, HR.out.1.1]; kernel_rfl)) rfl ?_
        exact ⟨⟨r, rfl, HR.out⟩, HB.out⟩
      · have hd : decide (67108863 < x) = false := by simp; omega
        have HR := Hide.mk (HV.out.1 (by omega))
        go_wp2_with (first | ((with_reducible refine gate_dst (N := 40) rfl ?_); refine wpList_load_row rfl 39 (.tmp 1) rfl g1 rfl 39 _ (0, 0) _ B1.out Try.underlying39 rfl ?hsz ?_; (case hsz => rw [ia_size, HN.out.1]; kernel_rfl)) | ((with_reducible refine gate_store (p := 2) (v := .tmp 40) rfl ?_); go_must (refine store_row rfl rfl 39 (.tmp 2) (.tmp 40) rfl g2 rfl (ia .u64 n) rfl (ia_one _ _) (by rw [ia_size, HN.out.1]; kernel_rfl) _ _ B2.out (by rw [ia_size, ia_size, HN.out.1]; rfl) ?_); intro wA hb ho; have B2' := Hide.mk hb; have HB' := Hide.mk (ho.below HB.out GEg2); clear B2 HB; have B2 := B2'; have HB := HB'; clear B2' HB'; clear hb ho))
        refine bodyPost_ret (results_cell_row rfl _ _ g2 39 _ (0, 0) _ rfl B2.out Try.underlying39 rfl (by rw [ia_size, HN.out.1]; kernel_rfl)) rfl ?_
        exact ⟨⟨n, rfl, HN.out, HR.out⟩, HB.out⟩
end Go.Proofs.Ytlhhjdhbkhjhjaa.Po
