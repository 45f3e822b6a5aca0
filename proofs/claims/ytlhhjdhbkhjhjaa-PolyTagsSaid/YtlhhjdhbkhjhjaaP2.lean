/- Numbers of five words: plus. -/
import Derived.Test.YtlhhjdhbkhjhjaaP1
namespace Go.Proofs.Ytlhhjdhbkhjhjaa.Po
open Go.RowKit Go.Proofs.YtlhhjdhbkhjhjaaW.PrintWords Go.Proofs.YtlhhjdhbkhjhjaaW.PrintLast Go.Proofs.YtlhhjdhbkhjhjaaW.PrintMore Mem Rg
attribute [local go_sem] Oper.semAt_some
set_option linter.unusedVariables false
set_option linter.unusedSimpArgs false
/-- Word for word, so many. -/
def plz (n m : List Int) : Nat → List Int
  | 0 => n
  | i + 1 => (plz n m i).set i ((plz n m i).getD i 0 + m.getD i 0)
theorem plz_len (n m : List Int) : ∀ i, (plz n m i).length = n.length
  | 0 => rfl
  | i + 1 => by rw [plz, List.length_set]; exact plz_len n m i
theorem norm_get {l : List Int} (h : Norm l) (i : Nat) : 0 ≤ l.getD i 0 ∧ l.getD i 0 ≤ 67108863 := by
  rw [List.getD_eq_getElem?_getD]
  by_cases hi : i < l.length
  · rw [List.getElem?_eq_getElem hi]; exact h.2 _ (List.getElem_mem _)
  · rw [List.getElem?_eq_none (by omega)]; decide
theorem plz_get {n m : List Int} (hn : Norm n) (i : Nat) : ∀ j, j ≤ i → (plz n m j).getD i 0 = n.getD i 0
  | 0, _ => rfl
  | j + 1, h => by rw [plz, set_getD_ne _ _ (by omega)]; exact plz_get hn i j (by omega)
theorem plz_val {n m : List Int} (hn : Norm n) (hm : Norm m) : Small (plz n m 5) ∧ V5 (plz n m 5) = V5 n + V5 m := by
  obtain ⟨a, b, c, d, e, rfl⟩ := five hn.1
  obtain ⟨a', b', c', d', e', rfl⟩ := five hm.1
  have h1 := hn.2
  have h2 := hm.2
  simp only [List.mem_cons, List.not_mem_nil, or_false, forall_eq_or_imp, forall_eq] at h1 h2
  have hv : plz [a, b, c, d, e] [a', b', c', d', e'] 5 = [a + a', b + b', c + c', d + d', e + e'] := by simp [plz]
  rw [hv]
  refine ⟨⟨rfl, ?_⟩, ?_⟩
  · simp only [List.mem_cons, List.not_mem_nil, or_false, forall_eq_or_imp, forall_eq]
    omega
  · simp only [V5]
    omega
set_option maxHeartbeats 4000000 in
set_option maxRecDepth 100000 in
theorem plus_any (n m : List Int) (hn : Norm n) (hm : Norm m) (w : World) : Calls Try.prog 17 #[.agg (ia .u64 n), .agg (ia .u64 m)] w fun e w' => (∃ r, e = .returned (.agg (ia .u64 r)) ∧ Norm r ∧ V5 r % PP = (V5 n + V5 m) % PP) ∧ Below w.heap.size w w' := by
  have HB0 := Hide.mk (Below.refl w.heap.size w)
  have HN := Hide.mk hn
  have HM := Hide.mk hm
  clear hn hm
  go_enter Try.func17, Try.ntmps17
  go_wp2_with (first | ((with_reducible refine gate_dst (N := 2) rfl ?_); refine box_event ?hg (N := 2) ?hd (cs := ia .u64 n) (t := 39) ?hr ?_; (case hd => rfl); (case hg => rfl); (case hr => kernel_rfl); intro g2 hg w1 hbox hb; have BKg2 := Hide.mk hbox; have HB1' := Hide.mk (below_step HB0.out hb); have GEg2 : w.heap.size ≤ g2 := (by rw [hg]; exact HB0.out.size); clear HB0; have HB1 := HB1'; clear HB1'; clear hbox hb hg) | ((with_reducible refine gate_dst (N := 3) rfl ?_); refine box_event ?hg (N := 3) ?hd (cs := ia .u64 m) (t := 39) ?hr ?_; (case hd => rfl); (case hg => rfl); (case hr => kernel_rfl); intro g3 hg w2 hbox hb; have Lg2g3 : g2 < g3 := (by rw [hg]; exact blk_lt BKg2.out); have BKg3 := Hide.mk hbox; have HB2' := Hide.mk (below_step HB1.out hb); have GEg3 : w.heap.size ≤ g3 := (by rw [hg]; exact HB1.out.size); clear HB1; have HB2 := HB2'; clear HB2'; have BKg2' := Hide.mk (blk_below BKg2.out hb); clear BKg2; have BKg2 := BKg2'; clear BKg2'; clear hbox hb hg) | ((with_reducible refine gate_dst (N := 4) rfl ?_); refine box_event ?hg (N := 4) ?hd (cs := ia .u64 (List.replicate 5 0)) (t := 39) ?hr ?_; (case hd => rfl); (case hg => rfl); (case hr => kernel_rfl); intro g4 hg w3 hbox hb; have Lg2g4 : g2 < g4 := (by rw [hg]; exact blk_lt BKg2.out); have Lg3g4 : g3 < g4 := (by rw [hg]; exact blk_lt BKg3.out); have BKg4 := Hide.mk hbox; have HB3' := Hide.mk (below_step HB2.out hb); have GEg4 : w.heap.size ≤ g4 := (by rw [hg]; exact HB2.out.size); clear HB2; have HB3 := HB3'; clear HB3'; have BKg2' := Hide.mk (blk_below BKg2.out hb); clear BKg2; have BKg2 := BKg2'; clear BKg2'; have BKg3' := Hide.mk (blk_below BKg3.out hb); clear BKg3; have BKg3 := BKg3'; clear BKg3'; clear hbox hb hg) | ((with_reducible refine gate_dst (N := 7) rfl ?_); refine wpList_load_row rfl 39 (.tmp 3) rfl g3 rfl 39 _ (0, 0) _ BKg3.out Try.underlying39 rfl ?hsz ?_; (case hsz => rw [ia_size, HM.out.1]; kernel_rfl)))
  go_loopg [8] 5 (fun gp v8 wy => ∃ i : Nat, i + gp = 5 ∧ v8 = .int .i64 i ∧ wy.heap[g2]? = some (.cells (ia .u64 (plz n m i)) 39 (0, 0)) ∧ wy.heap[g4]? = some (.cells (ia .u64 (List.replicate 5 0)) 39 (0, 0)) ∧ Below w.heap.size w wy)
  case atStart => exact ⟨0, rfl, rfl, BKg2.out, BKg4.out, HB3.out⟩
  case round =>
    clear BKg2 BKg3 BKg4 HB3
    obtain ⟨i, hi, rfl, h2, h4, hb⟩ := hrel
    have B2 := Hide.mk h2
    have B4 := Hide.mk h4
    have HB := Hide.mk hb
    clear h2 h4 hb
    by_cases hlt : i < 5
    · have hd : decide ((i : Int) < 5) = true := by simp; omega
      have hI := index5 m HM.out.1 i hlt wr
      have hx := norm_get HN.out i
      have hy := norm_get HM.out i
      have HLL : Hide ((plz n m i).length = 5) := ⟨(plz_len _ _ _).trans HN.out.1⟩
      have ci := cell_row B2.out i (by rw [HLL.out]; exact hlt) (plz_get HN.out i i (Nat.le_refl _))
      have HS : Hide (plz n m (i + 1) = (plz n m i).set i (n.getD i 0 + m.getD i 0)) := ⟨by rw [plz, plz_get HN.out i i (Nat.le_refl _)]⟩
      generalize n.getD i 0 = x at ci hx HS
      generalize m.getD i 0 = y at hI hy HS
      obtain ⟨x0, x1⟩ := hx
      obtain ⟨y0, y1⟩ := hy
      have f1 : IntKind.i64.wrap ((i : Int) + 1) = (i : Int) + 1 := IntWalk.i64_in _ (by omega)
      have f2 : IntKind.u64.wrap (x + y) = x + y := IntWalk.u64_in _ (by omega)
      have hi0 : (0 : Int) ≤ (i : Int) := Int.natCast_nonneg _
      have hi1 : (i : Int) < 5 := by omega
      go_wp2_with (first | ((with_reducible refine gate_store (p := 17) (v := .tmp 16) rfl ?_); refine store_cell rfl rfl 37 (.tmp 17) (.tmp 16) rfl g2 (i) (by first | rfl | go_simp) (.int .u64 (x + y)) rfl rfl rfl (by kernel_rfl) _ _ B2.out ?hlt ?_; (case hlt => rw [ia_size, HLL.out]; omega); intro w9 hb ho; rw [ia_set, ← HS.out] at hb; have B2' := Hide.mk hb; have HB' := Hide.mk (ho.below HB.out GEg2); clear B2 HB; have B2 := B2'; have HB := HB'; clear B2' HB'; have B4' := Hide.mk (ho.blk B4.out (by omega)); clear B4; have B4 := B4'; clear B4'; clear hb ho))
      go_roundg (gk - 1)
      case measure => omega
      case rel => exact ⟨i + 1, by omega, by go_num, B2.out, B4.out, HB.out⟩
    · obtain rfl : i = 5 := by omega
      rw [show ((5 : Nat) : Int) = 5 from rfl]
      have HV := Hide.mk (plz_val HN.out HM.out)
      generalize plz n m 5 = s at B2 HV
      go_wp2_with (first | ((with_reducible refine gate_dst (N := 19) rfl ?_); refine wpList_load_row rfl 39 (.tmp 2) rfl g2 rfl 39 _ (0, 0) _ B2.out Try.underlying39 rfl ?hsz ?_; (case hsz => rw [ia_size, HV.out.1.1]; kernel_rfl)))
      refine (carried_any s HV.out.1 _).mono ?_
      rintro e w4 ⟨⟨r, rfl, hr, hv⟩, hb⟩
      have HR := Hide.mk (And.intro hr (hv.trans (congrArg (· % PP) HV.out.2)))
      have HB' := Hide.mk (below_step HB.out hb)
      have B4' := Hide.mk (blk_below B4.out hb)
      clear hr hv hb HB B4 B2
      have HB := HB'
      have B4 := B4'
      clear HB' B4'
      go_wp2_with (first | ((with_reducible refine gate_store (p := 4) (v := .tmp 20) rfl ?_); go_must (refine store_row rfl rfl 39 (.tmp 4) (.tmp 20) rfl g4 rfl (ia .u64 r) rfl (ia_one _ _) (by rw [ia_size, HR.out.1.1]; kernel_rfl) _ _ B4.out (by rw [ia_size, ia_size, HR.out.1.1]; rfl) ?_); intro w9 hb ho; have B4' := Hide.mk hb; have HB' := Hide.mk (ho.below HB.out GEg4); clear B4 HB; have B4 := B4'; have HB := HB'; clear B4' HB'; clear hb ho))
      refine bodyPost_ret (results_cell_row rfl _ _ g4 39 _ (0, 0) _ rfl B4.out Try.underlying39 rfl (by rw [ia_size, HR.out.1.1]; kernel_rfl)) rfl ?_
      exact ⟨⟨r, rfl, HR.out⟩, HB.out⟩
end Go.Proofs.Ytlhhjdhbkhjhjaa.Po
