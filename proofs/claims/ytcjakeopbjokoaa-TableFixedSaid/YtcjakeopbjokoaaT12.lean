/- The twin's fixed fields, its Fixed. -/
import Derived.Test.YtcjakeopbjokoaaT4
namespace Go.Proofs.Ytcjakeopbjokoaa.Tb
open Go.RowKit Go.Proofs.YtcjakeopbjokoaaW.PrintWords Go.Proofs.YtcjakeopbjokoaaW.PrintLast Go.Proofs.YtcjakeopbjokoaaW.PrintMore Mem
set_option linter.unusedVariables false
set_option linter.unusedSimpArgs false
theorem oper_run1 {P : Program} {o : Oper} {a : Act} {w w1 : World} {K : Act → World → Prop} {Q : Exit → Act → World → Prop} {v : Value} (hrun : (execOp a.eval o).run P w = .ok (.value v) w1) (h : K (a.put o.dst v) w1) : o.wp P a w K Q := by
  unfold Oper.wp
  rw [hrun]
  exact h
set_option maxHeartbeats 4000000 in
set_option maxRecDepth 100000 in
theorem rfixed_any (w : World) : Calls Try.prog 27 #[] w fun e w' => ∃ g, e = .returned (.slice (some ⟨g, 0, none⟩) 99 99) ∧ w.heap.size ≤ g ∧ w'.heap[g]? = some (.cells (fa TBL) 23 (0, 0)) ∧ Below w.heap.size w w' := by
  go_enter Try.func27, Try.ntmps27
  go_wp2_with fail
  refine oper_run1 (v := .slice (some ⟨w.heap.size, 0, none⟩) 99 99) (w1 := w.alloc (.cells (fa TBL) 23 (0, 0))) (by kernel_rfl) ?_
  have hnew : (w.alloc (.cells (fa TBL) 23 (0, 0))).heap[w.heap.size]? = some (.cells (fa TBL) 23 (0, 0)) := heap_alloc_new w _
  have hb : Below w.heap.size w (w.alloc (.cells (fa TBL) 23 (0, 0))) := below_alloc (Below.refl _ _) _
  generalize w.alloc (.cells (fa TBL) 23 (0, 0)) = w1 at hnew hb
  have BK := Hide.mk hnew
  have HB := Hide.mk hb
  clear hnew hb
  go_wp2_with fail
  go_ret
  exact ⟨w.heap.size, rfl, Nat.le_refl _, BK.out, HB.out⟩
end Go.Proofs.Ytcjakeopbjokoaa.Tb
