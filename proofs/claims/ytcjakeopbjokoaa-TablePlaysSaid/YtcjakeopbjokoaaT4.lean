/- Find, whole. -/
import Derived.Test.YtcjakeopbjokoaaT3
namespace Go.Proofs.Ytcjakeopbjokoaa.Tb
open Go.RowKit Go.Proofs.YtcjakeopbjokoaaW.PrintWords Go.Proofs.YtcjakeopbjokoaaW.PrintLast Go.Proofs.YtcjakeopbjokoaaW.PrintMore Mem
set_option linter.unusedVariables false
set_option linter.unusedSimpArgs false
theorem range_tbl {w : World} {g : Nat} {l : List F} {t : TypeId} {fr : Nat × Nat} (h : w.heap[g]? = some (.cells (fa l) t fr)) : w.rangeAt g 0 (fc l) := fun j v hj => by
  rw [cell_of_row w g (0 + j) _ _ _ h, Nat.zero_add]
  simpa [fa] using hj
def wholeAt (f : F) : Int := fidx (fun x => decide (f = x)) TBL
def nameAt (f : F) : Int := fidx (fun x => x.1 == f.1) TBL
set_option maxHeartbeats 1000000 in
set_option maxRecDepth 100000 in
theorem find_any (f : F) (w : World) : Calls Try.prog 9 #[fv f] w fun e w' => e = .returned (.tuple #[.int .i64 (wholeAt f), .int .i64 (nameAt f)]) ∧ Below w.heap.size w w' := by
  go_enter Try.func9, Try.ntmps9
  go_wp2_with (first | ((with_reducible refine gate_dst (N := 1) rfl ?_); refine box_event ?hg (N := 1) ?hd (cs := fa [f]) (t := 23) ?hr ?_; (case hd => rfl); (case hg => rfl); (case hr => kernel_rfl); intro g1 hg w1 hbox hb; have BKg1 := Hide.mk hbox; have HB1 := Hide.mk hb; have GEg1 : w.heap.size ≤ g1 := (by rw [hg]; exact Nat.le_refl _); clear hbox hb hg))
  refine (fixed_any _).mono ?_
  rintro e w2 ⟨rfl, hb2⟩
  have HB2 := Hide.mk (below_step HB1.out hb2)
  have BK1 := Hide.mk (blk_below BKg1.out hb2)
  clear hb2 HB1 BKg1
  go_wp2_with (first | ((with_reducible refine gate_dst (N := 4) rfl ?_); refine box_event ?hg (N := 4) ?hd (cs := fa (List.replicate 99 ([], []))) (t := 52) ?hr ?_; (case hd => rfl); (case hg => rfl); (case hr => kernel_rfl); intro g4 hg w3 hbox hb; have Lg1g4 : g1 < g4 := (by rw [hg]; exact blk_lt BK1.out); have BKg4 := Hide.mk hbox; have HB3 := Hide.mk (below_step HB2.out hb); have GEg4 : w.heap.size ≤ g4 := (by rw [hg]; exact HB2.out.size); clear HB2; have BK1' := Hide.mk (blk_below BK1.out hb); clear BK1; have BK1 := BK1'; clear BK1'; clear hbox hb hg) | ((with_reducible refine gate_store (p := 4) (v := .tmp 5) rfl ?_); go_must (refine store_row rfl rfl 52 (.tmp 4) (.tmp 5) rfl g4 rfl (fa TBL) rfl (fa_one _) (by rw [fa_size, TBL_len]; kernel_rfl) _ _ BKg4.out (by rw [fa_size, fa_size, TBL_len]; rfl) ?_); intro w4 hb4 ho4; have BK4 := Hide.mk hb4; have HB4 := Hide.mk (ho4.below HB3.out GEg4); have BK1' := Hide.mk (ho4.blk BK1.out (by omega)); clear hb4 ho4 HB3 BK1 BKg4))
  refine Plan.region_plan (fun w' => w'.heap[g1]? = some (.cells (fa [f]) 23 (0, 0)) ∧ w'.heap[g4]? = some (.cells (fa TBL) 52 (0, 0))) [] [(0, 0, some 6), (1, 0, some 7), (2, 1, some 8), (3, 0, some 2)] (by kernel_rfl) (by kernel_rfl) (by decide) ⟨blk_drew BK1'.out, blk_drew BK4.out⟩ (fun wz ewz hS => ?_)
  have HBz := Hide.mk (below_of_drew ewz HB4.out)
  clear ewz HB4 BK1' BK4
  (repeat (first | (refine Plan.plan_take (v := ?_) (a' := ?_) rfl ?_ ?_ ?_ ?_; rotate_left 2; (· rfl); (· (intro w' hs; go_simp; with_reducible rfl)); (· (simp only [Act.put, List.setIfInBounds_toArray, List.set_cons_zero, List.set_cons_succ]; rfl))) | (refine Plan.plan_skip (a' := ?_) rfl ?_ ?_ ?_; rotate_left 1; (· rfl); (· (simp only [Act.put, List.setIfInBounds_toArray, List.set_cons_zero, List.set_cons_succ]; rfl))) | (refine Plan.plan_pure (v := ?_) (a' := ?_) rfl ?_ ?_ ?_ ?_; rotate_left 2; (· rfl); (· (intro w'; go_simp; with_reducible rfl)); (· (simp only [Act.put, List.setIfInBounds_toArray, List.set_cons_zero, List.set_cons_succ]; rfl)))))
  refine Plan.plan_load_row (a' := ?_) rfl rfl 23 (.tmp 1) rfl g1 rfl 23 (fa [f]) (0, 0) _ (fun _ h => h.1) Try.underlying23 rfl (by kernel_rfl) ?_ ?_
  rotate_left
  · simp only [Act.put, List.setIfInBounds_toArray, List.set_cons_zero, List.set_cons_succ]
    rfl
  (repeat (first | (refine Plan.plan_take (v := ?_) (a' := ?_) rfl ?_ ?_ ?_ ?_; rotate_left 2; (· rfl); (· (intro w' hs; go_simp; with_reducible rfl)); (· (simp only [Act.put, List.setIfInBounds_toArray, List.set_cons_zero, List.set_cons_succ]; rfl))) | (refine Plan.plan_skip (a' := ?_) rfl ?_ ?_ ?_; rotate_left 1; (· rfl); (· (simp only [Act.put, List.setIfInBounds_toArray, List.set_cons_zero, List.set_cons_succ]; rfl))) | (refine Plan.plan_pure (v := ?_) (a' := ?_) rfl ?_ ?_ ?_ ?_; rotate_left 2; (· rfl); (· (intro w'; go_simp; with_reducible rfl)); (· (simp only [Act.put, List.setIfInBounds_toArray, List.set_cons_zero, List.set_cons_succ]; rfl)))))
  refine Plan.plan_call rfl Try.func28 (by kernel_rfl) rfl #[.slice (some ⟨g4, 0, none⟩) 99 99, fv f] rfl rfl rfl (by (try simp only [List.map_toArray, List.map_cons, List.map_nil]); rfl) ?_
  refine (by rw [← TBL_len]; exact index_any TBL f g4 0 TBL.length _ (by rw [TBL_len]; decide) (range_tbl hS.2) (blk_lt hS.2) : Calls Try.prog 28 #[.slice (some ⟨g4, 0, none⟩) 99 99, fv f] _ _).mono ?_
  rintro e w7 ⟨rfl, hb7⟩
  have HB7 := Hide.mk (below_step HBz.out hb7)
  have hS2 : w7.heap[g1]? = some (.cells (fa [f]) 23 (0, 0)) ∧ w7.heap[g4]? = some (.cells (fa TBL) 52 (0, 0)) := ⟨blk_below hS.1 hb7, blk_below hS.2 hb7⟩
  refine ⟨_, rfl, hS2, ?_⟩
  clear hb7 HBz hS
  intro a' ha
  simp only [Act.put, List.setIfInBounds_toArray, List.set_cons_zero, List.set_cons_succ] at ha
  subst ha
  (repeat (first | (refine Plan.plan_take (v := ?_) (a' := ?_) rfl ?_ ?_ ?_ ?_; rotate_left 2; (· rfl); (· (intro w' hs; go_simp; with_reducible rfl)); (· (simp only [Act.put, List.setIfInBounds_toArray, List.set_cons_zero, List.set_cons_succ]; rfl))) | (refine Plan.plan_skip (a' := ?_) rfl ?_ ?_ ?_; rotate_left 1; (· rfl); (· (simp only [Act.put, List.setIfInBounds_toArray, List.set_cons_zero, List.set_cons_succ]; rfl))) | (refine Plan.plan_pure (v := ?_) (a' := ?_) rfl ?_ ?_ ?_ ?_; rotate_left 2; (· rfl); (· (intro w'; go_simp; with_reducible rfl)); (· (simp only [Act.put, List.setIfInBounds_toArray, List.set_cons_zero, List.set_cons_succ]; rfl)))))
  refine Plan.plan_nil ?_
  have BK1 := Hide.mk hS2.1
  have BK4 := Hide.mk hS2.2
  clear hS2
  go_wp2_with fail
  refine (by have := indexFunc_any TBL f g1 g4 0 TBL.length w7 (by rw [TBL_len]; decide) (range_tbl BK4.out) (blk_lt BK4.out) BK1.out; rw [TBL_len] at this; exact this : Calls Try.prog 29 #[.slice (some ⟨g4, 0, none⟩) 99 99, .func (.func 30) #[] #[.pointer (some ⟨g1, 0, none⟩)]] w7 fun e w' => e = .returned (.int .i64 (fidx (fun x => x.1 == f.1) TBL)) ∧ Below w7.heap.size w7 w').mono ?_
  rintro e w8 ⟨rfl, hb8⟩
  have HB8 := Hide.mk (below_step HB7.out hb8)
  clear hb8 HB7 BK1 BK4
  go_wp2_with fail
  go_ret2
  exact ⟨rfl, HB8.out⟩
end Go.Proofs.Ytcjakeopbjokoaa.Tb
