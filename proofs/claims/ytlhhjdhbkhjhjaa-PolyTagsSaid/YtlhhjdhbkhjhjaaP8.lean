/- slices.Clone. -/
import Derived.Test.YtlhhjdhbkhjhjaaP7
namespace Go.Proofs.Ytlhhjdhbkhjhjaa.Po
open Go.RowKit Go.Proofs.YtlhhjdhbkhjhjaaW.PrintWords Go.Proofs.YtlhhjdhbkhjhjaaW.PrintLast Go.Proofs.YtlhhjdhbkhjhjaaW.PrintMore Mem Rg
attribute [local go_sem] Oper.semAt_some
set_option linter.unusedVariables false
set_option linter.unusedSimpArgs false
theorem build0 {o : Oper} {a : Act} {w : World} (ho : o.op = .buildSlice 23 0 #[]) :
    (execOp a.eval o).run Try.prog w = .ok (.value (.slice (some ⟨w.heap.size, 0, none⟩) 0 0)) (w.alloc (.cells #[] 5 (0, 0))) := by
  unfold execOp
  simp only [ho, List.map_toArray, List.map_nil]
  kernel_rfl
/-- Bytes behind an empty row of the call's own. -/
theorem appN {w : World} {base : Nat} {v : Value} {ad : Addr} {n c : Nat} {xs : List Int} (ty : TypeId) (h : w.ownsRow base 5 1 v 0 []) (hr : ReadsInt w .u8 (some ad) n xs) (hl : n ≤ 1099511627776) (hbase : base ≤ w.heap.size) :
    ∃ v' w', (Builtin.append_ #[23, 23] ty #[v, .slice (some ad) n c]).run Try.prog w = .ok v' w' ∧ w'.ownsRow base 5 1 v' n (xs.map (Value.int .u8)) ∧ w.grownBy w' v.ownBlock := by
  have hinfo : (Try.prog.info? 5).map (fun i => (i.zero, i.size, i.bytes)) = some (some (.int .u8 0), 1, 1) := by kernel_rfl
  obtain ⟨i, hi, hz⟩ := Option.map_eq_some_iff.1 hinfo
  simp only [Prod.mk.injEq] at hz
  obtain ⟨hz0, hz1, hz2⟩ := hz
  have hnews : ∀ j u, (xs.map (Value.int .u8))[j]? = some u → w.cell? (ad.add j) = some u := fun j u hj => by
    rw [List.getElem?_map] at hj
    obtain ⟨x, hx, rfl⟩ := Option.map_eq_some_iff.1 hj
    have hjl : j < n := by rw [← hr.1]; exact (List.getElem?_eq_some_iff.1 hx).1
    obtain ⟨ad', e, hc⟩ := hr.2.2 (by omega)
    cases e
    rw [hc j hjl, List.getD_eq_getElem?_getD, hx]; rfl
  have h1 : ∀ u ∈ xs.map (Value.int .u8), u.oneCell' = true := by
    intro u hu
    obtain ⟨x, _, rfl⟩ := List.mem_map.1 hu
    rfl
  obtain ⟨v', w', hrn, hown, hg, _, _⟩ := run_append_own_at (P := Try.prog) w base 23 ty 5 i (.int .u8 0) 1 1 Try.underlying23 hi hz0 hz1 hz2 rfl (by decide) v 0 [] h ad n c (xs.map (Value.int .u8)) (by rw [List.length_map, hr.1, Nat.mul_one]) hnews h1 (by simp only [maxLen]; omega) (by omega) hbase
  refine ⟨v', w', hrn, ?_, hg⟩
  rw [Nat.zero_add, List.nil_append] at hown
  exact hown
theorem eqlNil (ad : Addr) (n c : Nat) (w : World) : (binOp .eql 23 (.slice (some ad) n c) (.slice none 0 0)).run Try.prog w = .ok (.bool false) w := by kernel_rfl
theorem own0 (w : World) (base : Nat) (hb : base ≤ w.heap.size) : (w.alloc (.cells #[] 5 (0, 0))).ownsRow base 5 1 (.slice (some ⟨w.heap.size, 0, none⟩) 0 0) 0 [] :=
  ⟨rfl, .inr ⟨w.heap.size, 0, #[], rfl, hb, heap_alloc_new w _, Nat.le_refl _, by decide, rfl, rfl⟩⟩
set_option maxHeartbeats 4000000 in
set_option maxRecDepth 100000 in
theorem clone_any (ad : Addr) (c : Nat) (xs : List Int) (w : World) (hn : xs.length ≤ 1099511627776) (hr : ReadsInt w .u8 (some ad) xs.length xs) : Calls Try.prog 14 #[.slice (some ad) xs.length c] w fun e w' => ∃ v, e = .returned v ∧ w'.ownsRow w.heap.size 5 1 v xs.length (xs.map (Value.int .u8)) ∧ Below w.heap.size w w' := by
  obtain ⟨w1, hw1⟩ : ∃ w1, w.alloc (.cells #[] 5 (0, 0)) = w1 := ⟨_, rfl⟩
  have h1 := own0 w w.heap.size (Nat.le_refl _)
  rw [hw1] at h1
  have hb1 : Below w.heap.size w w1 := by rw [← hw1]; exact below_alloc (Below.refl _ _) _
  obtain ⟨v2, w2, ha, ho, hg⟩ := appN (c := c) 23 h1 (hr.below hb1) hn hb1.size
  have HB2 := Hide.mk (show Below w.heap.size w w2 from hb1.trans ⟨hg.os, hg.tape, hg.output, hg.size, fun q hq => hg.block q (Nat.lt_of_lt_of_le hq hb1.size) (fun e => (by simp [Value.ownBlock] at e; omega))⟩)
  have HA := Hide.mk ha
  have HO := Hide.mk ho
  have HW1 := Hide.mk hw1
  clear hb1 h1 ha ho hg hn hr hw1
  have hE := eqlNil ad xs.length c w
  go_enter Try.func14, Try.ntmps14
  go_wp2_with (first | ((with_reducible refine gate_dst (N := 5) rfl ?_); refine Kd.event_run rfl (v := .slice (some ⟨w.heap.size, 0, none⟩) 0 0) (w1 := w1) ((build0 rfl).trans (by rw [HW1.out])) ?_) | ((with_reducible refine gate_dst (N := 7) rfl ?_); refine Kd.event_run rfl (v := v2) (w1 := w2) (appendStep rfl rfl rfl HA.out) ?_))
  go_ret
  exact ⟨_, rfl, HO.out, HB2.out⟩
end Go.Proofs.Ytlhhjdhbkhjhjaa.Po
