/- Came; Get. -/
import Derived.Test.YtcjakeopbjokoaaT5
namespace Go.Proofs.Ytcjakeopbjokoaa.Tb
open Go.RowKit Go.Proofs.YtcjakeopbjokoaaW.PrintWords Go.Proofs.YtcjakeopbjokoaaW.PrintLast Go.Proofs.YtcjakeopbjokoaaW.PrintMore Mem
set_option linter.unusedVariables false
set_option linter.unusedSimpArgs false
def GetV (t : TS) (n : Int) : Value := if t.gone ≤ n ∧ n < t.gone + t.l.length then .tuple #[fv (t.l.getD (n - t.gone).toNat ([], [])), .int .i64 0] else .tuple #[fv ([], []), .int .i64 10]
set_option maxHeartbeats 1000000 in
set_option maxRecDepth 100000 in
theorem came_any (base g : Nat) (v : Value) (t : TS) (w : World) (h : Tab w base g v t) (hg : 0 ≤ t.gone ∧ t.gone + t.l.length ≤ 4611686018427387904) : Calls Try.prog 14 #[.pointer (some ⟨g, 0, none⟩)] w fun e w' => e = .returned (.int .u64 (t.gone + t.l.length)) ∧ Below w.heap.size w w' := by
  have HT := Hide.mk h
  clear h
  obtain ⟨A, c, hv⟩ := HT.out.row.slice
  have e1 : IntKind.u64.wrap (t.l.length : Int) = (t.l.length : Int) := by rw [IntKind.wrap_u64]; omega
  have e2 : IntKind.u64.wrap (t.gone + (t.l.length : Int)) = t.gone + (t.l.length : Int) := by rw [IntKind.wrap_u64]; omega
  go_enter Try.func14, Try.ntmps14
  go_wp2_with fail
  refine (there_yes base g v t _ HT.out).mono ?_
  rintro e w1 ⟨rfl, hb⟩
  have k3 := (blk_cell (HT.out.below hb).blk 3).trans (show (tcells t v)[3]? = some (.int .u64 t.gone) from rfl)
  have k4 := (blk_cell (HT.out.below hb).blk 4).trans (show (tcells t v)[4]? = some v from rfl)
  rw [hv] at k4
  have HB := Hide.mk hb
  clear hb
  go_wp2_with fail
  refine Plan.region_plan (fun w' => w'.cell? ⟨g, 3, none⟩ = some (.int .u64 t.gone) ∧ w'.cell? ⟨g, 4, none⟩ = some (.slice A t.l.length c)) [] [(0, 0, some 6), (1, 0, some 7), (2, 0, some 8), (3, 0, some 9), (4, 0, some 10), (5, 0, some 11), (6, 0, some 12), (7, 0, some 13), (8, 0, some 14), (9, 0, some 15), (10, 0, some 16), (11, 0, some 2)] (by kernel_rfl) (by kernel_rfl) (by decide) ⟨k3, k4⟩ (fun wz ewz hS => ?_)
  have HBz := Hide.mk (below_of_drew ewz HB.out)
  clear ewz HB k3 k4
  (repeat (first | (refine Plan.plan_take (v := ?_) (a' := ?_) rfl ?_ ?_ ?_ ?_; rotate_left 2; (· rfl); (· (intro w' hs; go_simp; with_reducible rfl)); (· (simp only [Act.put, List.setIfInBounds_toArray, List.set_cons_zero, List.set_cons_succ]; rfl))) | (refine Plan.plan_skip (a' := ?_) rfl ?_ ?_ ?_; rotate_left 1; (· rfl); (· (simp only [Act.put, List.setIfInBounds_toArray, List.set_cons_zero, List.set_cons_succ]; rfl))) | (refine Plan.plan_pure (v := ?_) (a' := ?_) rfl ?_ ?_ ?_ ?_; rotate_left 2; (· rfl); (· (intro w'; go_simp; with_reducible rfl)); (· (simp only [Act.put, List.setIfInBounds_toArray, List.set_cons_zero, List.set_cons_succ]; rfl)))))
  refine Plan.plan_nil ?_
  clear hS
  go_wp2_with fail
  go_ret
  exact ⟨rfl, HBz.out⟩
set_option maxHeartbeats 1000000 in
set_option maxRecDepth 100000 in
theorem get_any (base g : Nat) (v : Value) (t : TS) (n : Int) (w : World) (h : Tab w base g v t) (hg : 0 ≤ t.gone ∧ t.gone + t.l.length ≤ 4611686018427387904) (hn : 0 ≤ n) (hn1 : n ≤ 18446744073709551615) :
    Calls Try.prog 17 #[.pointer (some ⟨g, 0, none⟩), .int .u64 n] w fun e w' => e = .returned (GetV t n) ∧ Below w.heap.size w w' := by
  have HT := Hide.mk h
  clear h
  go_enter Try.func17, Try.ntmps17
  go_wp2_with (first | ((with_reducible refine gate_dst (N := 4) rfl ?_); refine box_event ?hg (N := 4) ?hd (cs := fa [([], [])]) (t := 23) ?hr ?_; (case hd => rfl); (case hg => rfl); (case hr => kernel_rfl); intro g4 hg w1 hbox hb; have BKg4 := Hide.mk hbox; have HB1 := Hide.mk hb; have GEg4 : w.heap.size ≤ g4 := (by rw [hg]; exact Nat.le_refl _); clear hbox hb hg))
  have HT1 := Hide.mk (HT.out.below HB1.out)
  refine (there_yes base g v t _ HT1.out).mono ?_
  rintro e w2 ⟨rfl, hb2⟩
  have HB2 := Hide.mk (below_step HB1.out hb2)
  have BK4 := Hide.mk (blk_below BKg4.out hb2)
  have HT2 := Hide.mk (HT1.out.below hb2)
  clear hb2 HB1 HT1 BKg4
  have k3 := (blk_cell HT2.out.blk 3).trans (show (tcells t v)[3]? = some (.int .u64 t.gone) from rfl)
  by_cases hlo : n < t.gone
  · have HF : Hide (¬ (t.gone ≤ n ∧ n < t.gone + t.l.length)) := ⟨by omega⟩
    have d1 : decide (n < t.gone) = true := by simp [hlo]
    go_wp2_with (first | ((with_reducible refine gate_dst (N := 24) rfl ?_); refine Kd.event_run rfl (v := fv ([], [])) ?hr ?_; (case hr => kernel_rfl)) | ((with_reducible refine gate_store (p := 4) (v := .tmp 24) rfl ?_); go_must (refine store_row rfl rfl 23 (.tmp 4) (.tmp 24) rfl g4 rfl (fa [([], [])]) rfl (fa_one _) (by rw [fa_size]; kernel_rfl) _ _ BK4.out rfl ?_); intro w9 hb9 ho9; have BK9 := Hide.mk hb9; have HO9 := Hide.mk ho9; clear hb9 ho9))
    refine bodyPost_ret (results_ct rfl _ _ g4 23 _ (0, 0) _ rfl BK9.out Try.underlying23 rfl (by rw [fa_size]; kernel_rfl)) rfl ?_
    exact ⟨by rw [GetV, if_neg HF.out]; rfl, HO9.out.below HB2.out GEg4⟩
  · have d1 : decide (n < t.gone) = false := by simp [hlo]
    go_wp2_with fail
    refine (came_any base g v t _ HT2.out hg).mono ?_
    rintro e w3 ⟨rfl, hb3⟩
    have HB3 := Hide.mk (below_step HB2.out hb3)
    have BK4' := Hide.mk (blk_below BK4.out hb3)
    have HT3 := Hide.mk (HT2.out.below hb3)
    clear hb3 HB2 HT2 BK4 k3
    have BK4 := BK4'
    clear BK4'
    by_cases hhi : t.gone + (t.l.length : Int) ≤ n
    · have HF : Hide (¬ (t.gone ≤ n ∧ n < t.gone + t.l.length)) := ⟨by omega⟩
      have d2 : decide (t.gone + (t.l.length : Int) ≤ n) = true := by simp [hhi]
      go_wp2_with (first | ((with_reducible refine gate_dst (N := 24) rfl ?_); refine Kd.event_run rfl (v := fv ([], [])) ?hr ?_; (case hr => kernel_rfl)) | ((with_reducible refine gate_store (p := 4) (v := .tmp 24) rfl ?_); go_must (refine store_row rfl rfl 23 (.tmp 4) (.tmp 24) rfl g4 rfl (fa [([], [])]) rfl (fa_one _) (by rw [fa_size]; kernel_rfl) _ _ BK4.out rfl ?_); intro w9 hb9 ho9; have BK9 := Hide.mk hb9; have HO9 := Hide.mk ho9; clear hb9 ho9))
      refine bodyPost_ret (results_ct rfl _ _ g4 23 _ (0, 0) _ rfl BK9.out Try.underlying23 rfl (by rw [fa_size]; kernel_rfl)) rfl ?_
      exact ⟨by rw [GetV, if_neg HF.out]; rfl, HO9.out.below HB3.out GEg4⟩
    · have HF : Hide (t.gone ≤ n ∧ n < t.gone + t.l.length) := ⟨by omega⟩
      have d2 : decide (t.gone + (t.l.length : Int) ≤ n) = false := by simp; omega
      obtain ⟨m, hm⟩ : ∃ m : Nat, m = (n - t.gone).toNat := ⟨_, rfl⟩
      have hml : m < t.l.length := by omega
      have hmi : n - t.gone = (m : Int) := by omega
      have e1 : IntKind.u64.wrap (n - t.gone) = (m : Int) := by rw [IntKind.wrap_u64]; omega
      have e1' : IntKind.u64.wrap (m : Int) = (m : Int) := by rw [IntKind.wrap_u64]; omega
      have hm0 : (0 : Int) ≤ (m : Int) := Int.natCast_nonneg _
      have hm1 : (m : Int) < (t.l.length : Int) := by omega
      have k3 := (blk_cell HT3.out.blk 3).trans (show (tcells t v)[3]? = some (.int .u64 t.gone) from rfl)
      have k4 := (blk_cell HT3.out.blk 4).trans (show (tcells t v)[4]? = some v from rfl)
      obtain ⟨b, o, c, cur, hv, hbb, hbk, hra⟩ := HT3.out.row.range (by omega)
      rw [hv] at k4
      have hx := range_one hra m hml
      have HM := Hide.mk hm
      obtain ⟨x, hxx⟩ : ∃ x, x = t.l.getD m ([], []) := ⟨_, rfl⟩
      rw [← hxx] at hx
      have HXX := Hide.mk hxx
      clear hxx hm hra hbk
      go_wp2_with fail
      refine Plan.region_plan (fun w' => w'.cell? ⟨g, 3, none⟩ = some (.int .u64 t.gone) ∧ w'.cell? ⟨g, 4, none⟩ = some (.slice (some ⟨b, o, none⟩) t.l.length c) ∧ w'.rangeAt b (o + m * 2) [sv x.1, sv x.2]) [12, 13] [(0, 0, some 25), (1, 0, some 26), (2, 0, some 27), (3, 0, some 28), (4, 0, some 29), (5, 0, some 30), (6, 0, some 31), (7, 0, some 32), (8, 0, some 33), (9, 0, some 34), (10, 0, some 35), (11, 0, some 36), (12, 2, none), (13, 2, some 5)] (by kernel_rfl) (by kernel_rfl) (by decide) ⟨k3, k4, hx⟩ (fun wz ewz hS => ?_)
      have HBz := Hide.mk (below_of_drew ewz HB3.out)
      have BK4z := Hide.mk (blk_of_drew ewz BK4.out)
      clear ewz HB3 BK4 k3 k4 hx
      (repeat (first | (refine Plan.plan_take (v := ?_) (a' := ?_) rfl ?_ ?_ ?_ ?_; rotate_left 2; (· rfl); (· (intro w' hs; go_simp; with_reducible rfl)); (· (simp only [Act.put, List.setIfInBounds_toArray, List.set_cons_zero, List.set_cons_succ]; rfl))) | (refine Plan.plan_skip (a' := ?_) rfl ?_ ?_ ?_; rotate_left 1; (· rfl); (· (simp only [Act.put, List.setIfInBounds_toArray, List.set_cons_zero, List.set_cons_succ]; rfl))) | (refine Plan.plan_pure (v := ?_) (a' := ?_) rfl ?_ ?_ ?_ ?_; rotate_left 2; (· rfl); (· (intro w'; go_simp; with_reducible rfl)); (· (simp only [Act.put, List.setIfInBounds_toArray, List.set_cons_zero, List.set_cons_succ]; rfl)))))

      refine Plan.plan_load_mid (a' := ?_) rfl rfl 23 (.tmp 35) rfl b (o + m * 2) rfl [sv (x).1, sv (x).2] _ (fun _ h => h.2.2) Try.underlying23 rfl (by kernel_rfl) ?_ ?_
      rotate_left
      · simp only [Act.put, List.setIfInBounds_toArray, List.set_cons_zero, List.set_cons_succ]
        rfl
      (repeat (first | (refine Plan.plan_take (v := ?_) (a' := ?_) rfl ?_ ?_ ?_ ?_; rotate_left 2; (· rfl); (· (intro w' hs; go_simp; with_reducible rfl)); (· (simp only [Act.put, List.setIfInBounds_toArray, List.set_cons_zero, List.set_cons_succ]; rfl))) | (refine Plan.plan_skip (a' := ?_) rfl ?_ ?_ ?_; rotate_left 1; (· rfl); (· (simp only [Act.put, List.setIfInBounds_toArray, List.set_cons_zero, List.set_cons_succ]; rfl))) | (refine Plan.plan_pure (v := ?_) (a' := ?_) rfl ?_ ?_ ?_ ?_; rotate_left 2; (· rfl); (· (intro w'; go_simp; with_reducible rfl)); (· (simp only [Act.put, List.setIfInBounds_toArray, List.set_cons_zero, List.set_cons_succ]; rfl)))))
      refine Plan.plan_last_row rfl rfl rfl 23 (.tmp 4) (.tmp 36) rfl g4 rfl (fa [x]) rfl (fa_one _) (by rw [fa_size]; kernel_rfl) _ _ BK4z.out rfl ?_
      intro w9 hb9 ho9
      have BK9 := Hide.mk hb9
      have HO9 := Hide.mk ho9
      clear hb9 ho9
      (repeat (first | (refine Plan.plan_take (v := ?_) (a' := ?_) rfl ?_ ?_ ?_ ?_; rotate_left 2; (· rfl); (· (intro w' hs; go_simp; with_reducible rfl)); (· (simp only [Act.put, List.setIfInBounds_toArray, List.set_cons_zero, List.set_cons_succ]; rfl))) | (refine Plan.plan_skip (a' := ?_) rfl ?_ ?_ ?_; rotate_left 1; (· rfl); (· (simp only [Act.put, List.setIfInBounds_toArray, List.set_cons_zero, List.set_cons_succ]; rfl))) | (refine Plan.plan_pure (v := ?_) (a' := ?_) rfl ?_ ?_ ?_ ?_; rotate_left 2; (· rfl); (· (intro w'; go_simp; with_reducible rfl)); (· (simp only [Act.put, List.setIfInBounds_toArray, List.set_cons_zero, List.set_cons_succ]; rfl)))))

      (refine Plan.plan_last_run (v := ?_) (w1 := ?_) (a' := ?_) rfl rfl ?_ ?_ ?_ ?_; rotate_left 3; (· rfl); (· (go_simp; first | (with_reducible rfl) | (constructor <;> with_reducible rfl))); (· (simp only [Act.put, List.setIfInBounds_toArray, List.set_cons_zero, List.set_cons_succ]; rfl)))
      refine Plan.plan_nil ?_
      go_wp2_with fail
      refine bodyPost_ret (results_ct rfl _ _ g4 23 _ (0, 0) _ rfl BK9.out Try.underlying23 rfl (by rw [fa_size]; kernel_rfl)) rfl ?_
      exact ⟨by rw [GetV, if_pos HF.out, ← HM.out, ← HXX.out]; rfl, HO9.out.below HBz.out GEg4⟩
end Go.Proofs.Ytcjakeopbjokoaa.Tb
