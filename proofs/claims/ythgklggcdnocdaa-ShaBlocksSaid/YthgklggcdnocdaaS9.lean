/- The law's own walk: both blocks come out alike. -/
import Derived.Test.YthgklggcdnocdaaS8
import Derived.Test.YthgklggcdnocdaaKEq
namespace Go.Proofs.Ythgklggcdnocdaa.Sh
open Go.RowKit Go.Proofs.YthgklggcdnocdaaW.PrintWords Go.Proofs.YthgklggcdnocdaaW.PrintLast Go.Proofs.YthgklggcdnocdaaW.PrintMore Mem
set_option linter.unusedVariables false
set_option linter.unusedSimpArgs false
set_option maxHeartbeats 1000000 in
set_option maxRecDepth 100000 in
theorem blocks_walk (s : S8) (bs : List Int) (w : World) (hb : Bytes bs) (hl : bs.length = 64) : Calls Try.prog 3 #[.agg (ia .u32 s.list), .agg (ia .u8 bs)] w fun e w' => e = .returned (.bool true) ∧ Below w.heap.size w w' := by
  have HL := Hide.mk hl
  have HBy := Hide.mk hb
  clear hl hb
  go_enter Try.func3, Try.ntmps3
  go_wp2_with (first | ((with_reducible refine gate_dst (N := 2) rfl ?_); refine box_event ?hg (N := 2) ?hd (cs := ia .u32 s.list) (t := 23) ?hr ?_; (case hd => rfl); (case hg => rfl); (case hr => kernel_rfl); intro g2 hg w1 hbox hb; have BKg2 := Hide.mk hbox; have HB1 := Hide.mk hb; have GEg2 : w.heap.size ≤ g2 := (by rw [hg]; exact Nat.le_refl _); clear hbox hb hg) | ((with_reducible refine gate_dst (N := 3) rfl ?_); refine box_event ?hg (N := 3) ?hd (cs := ia .u8 bs) (t := 24) ?hr ?_; (case hd => rfl); (case hg => rfl); (case hr => kernel_rfl); intro g3 hg w2 hbox hb; have Lg2g3 : g2 < g3 := (by rw [hg]; exact blk_lt BKg2.out); have BKg3 := Hide.mk hbox; have HB2 := Hide.mk (below_step HB1.out hb); have GEg3 : w.heap.size ≤ g3 := (by rw [hg]; exact HB1.out.size); clear HB1; have BKg2' := Hide.mk (blk_below BKg2.out hb); clear BKg2; have BKg2 := BKg2'; clear BKg2'; clear hbox hb hg))
  refine Plan.region_plan (fun w' => w'.heap[g2]? = some (.cells (ia .u32 s.list) 23 (0, 0)) ∧ w'.heap[g3]? = some (.cells (ia .u8 bs) 24 (0, 0))) [] [(0, 0, some 5), (1, 0, some 6), (3, 0, some 8), (4, 0, some 9), (2, 1, some 7), (5, 1, some 10), (6, 0, some 11), (7, 0, some 4)] (by kernel_rfl) (by kernel_rfl) (by decide) ⟨blk_drew BKg2.out, blk_drew BKg3.out⟩ (fun wz ewz hS => ?_)
  have HBz := Hide.mk (below_of_drew ewz HB2.out)
  clear ewz HB2 BKg2 BKg3
  refine Plan.plan_load_row (a' := ?_) rfl rfl 23 (.tmp 2) rfl g2 rfl 23 (ia .u32 s.list) (0, 0) _ (fun _ h => h.1) Try.underlying23 rfl (by kernel_rfl) ?_ ?_
  rotate_left
  · simp only [Act.put, List.setIfInBounds_toArray, List.set_cons_zero, List.set_cons_succ]
    rfl
  refine Plan.plan_load_row (a' := ?_) rfl rfl 24 (.tmp 3) rfl g3 rfl 24 (ia .u8 bs) (0, 0) _ (fun _ h => h.2) Try.underlying24 rfl (by rw [ia_size, HL.out]; kernel_rfl) ?_ ?_
  rotate_left
  · simp only [Act.put, List.setIfInBounds_toArray, List.set_cons_zero, List.set_cons_succ]
    rfl
  refine Plan.plan_load_row (a' := ?_) rfl rfl 23 (.tmp 2) rfl g2 rfl 23 (ia .u32 s.list) (0, 0) _ (fun _ h => h.1) Try.underlying23 rfl (by kernel_rfl) ?_ ?_
  rotate_left
  · simp only [Act.put, List.setIfInBounds_toArray, List.set_cons_zero, List.set_cons_succ]
    rfl
  refine Plan.plan_load_row (a' := ?_) rfl rfl 24 (.tmp 3) rfl g3 rfl 24 (ia .u8 bs) (0, 0) _ (fun _ h => h.2) Try.underlying24 rfl (by rw [ia_size, HL.out]; kernel_rfl) ?_ ?_
  rotate_left
  · simp only [Act.put, List.setIfInBounds_toArray, List.set_cons_zero, List.set_cons_succ]
    rfl
  refine Plan.plan_call rfl Try.func7 (by kernel_rfl) rfl #[.agg (ia .u32 s.list), .agg (ia .u8 bs)] rfl rfl rfl (by (try simp only [List.map_toArray, List.map_cons, List.map_nil]); rfl) ?_
  refine (block_any s bs _ HBy.out HL.out).mono ?_
  rintro e w7 ⟨rfl, hbw7⟩
  have HB7 := Hide.mk (below_step HBz.out hbw7)
  have hS2 : w7.heap[g2]? = some (.cells (ia .u32 s.list) 23 (0, 0)) ∧ w7.heap[g3]? = some (.cells (ia .u8 bs) 24 (0, 0)) := ⟨blk_below hS.1 hbw7, blk_below hS.2 hbw7⟩
  refine ⟨_, rfl, hS2, ?_⟩
  clear hbw7 HBz
  intro a' ha
  simp only [Act.put, List.setIfInBounds_toArray, List.set_cons_zero, List.set_cons_succ] at ha
  subst ha
  refine Plan.plan_call rfl Try.func8 (by kernel_rfl) rfl #[.agg (ia .u32 s.list), .agg (ia .u8 bs)] rfl rfl rfl (by (try simp only [List.map_toArray, List.map_cons, List.map_nil]); rfl) ?_
  refine (refblock_any s bs _ HBy.out HL.out).mono ?_
  rintro e w8 ⟨rfl, hbw8⟩
  have HB8 := Hide.mk (below_step HB7.out hbw8)
  have hS3 : w8.heap[g2]? = some (.cells (ia .u32 s.list) 23 (0, 0)) ∧ w8.heap[g3]? = some (.cells (ia .u8 bs) 24 (0, 0)) := ⟨blk_below hS2.1 hbw8, blk_below hS2.2 hbw8⟩
  refine ⟨_, rfl, hS3, ?_⟩
  clear hbw8 HB7
  intro a' ha
  simp only [Act.put, List.setIfInBounds_toArray, List.set_cons_zero, List.set_cons_succ] at ha
  subst ha
  have hr : (blockF s bs).list.length = 8 := rfl
  generalize (blockF s bs).list = r at hr
  refine Plan.plan_take (v := .bool true) (a' := ?_) rfl ?_ ?_ ?_ ?_
  rotate_left 1
  · rfl
  · intro w' hs
    go_simp
    simp only [eq_ints 9998 Try.underlying23 Try.underlying22 (by kernel_rfl) (by kernel_rfl) _ _ hr hr, Result.andThen_ok, decide_true]
  · simp only [Act.put, List.setIfInBounds_toArray, List.set_cons_zero, List.set_cons_succ]
    rfl
  (repeat (first | (refine Plan.plan_take (v := ?_) (a' := ?_) rfl ?_ ?_ ?_ ?_; rotate_left 2; (· rfl); (· (intro w' hs; go_simp; with_reducible rfl)); (· (simp only [Act.put, List.setIfInBounds_toArray, List.set_cons_zero, List.set_cons_succ]; rfl))) | (refine Plan.plan_skip (a' := ?_) rfl ?_ ?_ ?_; rotate_left 1; (· rfl); (· (simp only [Act.put, List.setIfInBounds_toArray, List.set_cons_zero, List.set_cons_succ]; rfl))) | (refine Plan.plan_pure (v := ?_) (a' := ?_) rfl ?_ ?_ ?_ ?_; rotate_left 2; (· rfl); (· (intro w'; go_simp; with_reducible rfl)); (· (simp only [Act.put, List.setIfInBounds_toArray, List.set_cons_zero, List.set_cons_succ]; rfl)))))
  refine Plan.plan_nil ?_
  go_wp2_with fail
  go_ret
  exact ⟨rfl, HB8.out⟩
end Go.Proofs.Ythgklggcdnocdaa.Sh
