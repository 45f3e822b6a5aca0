/- Stores within a region that draws its order. Words of this seat's proofs; no statement. -/
import Derived.Test.YtlhhjdhbkhjhjaaKPlan
import Derived.Test.YtlhhjdhbkhjhjaaKMem
namespace Go.Proofs.Ytlhhjdhbkhjhjaa.Plan
open Go.RowKit Go.Proofs.YtlhhjdhbkhjhjaaW.PrintLast Go.Proofs.YtlhhjdhbkhjhjaaW.PrintWords Mem
section
variable {P : Program} {ops : Array Oper} {Q : Exit → Act → World → Prop} {S : World → Prop}
theorem run_cell {oi : Oper} {a : Act} {w : World} (ty : TypeId) (x y : Operand) (ho : oi.op = .store ty x y) (g i : Nat) (hx : a.eval x = .pointer (some ⟨g, i, none⟩)) (v : Value) (hy : a.eval y = v) (hv : v.cells = #[v]) (hv1 : v.oneCell' = true)
    (hsz : (P.info? ty).map (·.size) = some 1) (cur : Array Value) (e : TypeId) (hb : w.heap[g]? = some (.cells cur e (0, 0))) (hlt : i < cur.size) : (execOp a.eval oi).run P w = .ok .skip (w.setCell ⟨g, i, none⟩ v) := by
  have hr := run_store_run (P := P) (w := w) (g := g) (o := i) ty v [v] hb (by rw [hv]) (by simpa using hsz) (by simp; omega) (by simpa using hv1)
  unfold execOp
  simp only [ho, hx, hy, Sem.run_bind, hr, Result.andThen_ok, Sem.run_pure]
  rfl
/-- One of ds: a store of one cell. -/
theorem plan_last_cell {j : Nat} {oi : Oper} {r : List (Nat × Nat × Option Tmp)} {a : Act} {w : World} (hi : ops[j]? = some oi) (hd : oi.dst = none) (hw : Region.wanted oi (yielded ops a.tmps) = true) (ty : TypeId) (x y : Operand) (ho : oi.op = .store ty x y) (g i : Nat)
    (hx : a.eval x = .pointer (some ⟨g, i, none⟩)) (v : Value) (hy : a.eval y = v) (hv : v.cells = #[v]) (hv1 : v.oneCell' = true) (hsz : (P.info? ty).map (·.size) = some 1) (cur : Array Value) (e : TypeId) (hb : w.heap[g]? = some (.cells cur e (0, 0))) (hlt : i < cur.size)
    (h : ∀ w1, w1.heap[g]? = some (.cells (cur.setIfInBounds i v) e (0, 0)) → Only g w w1 → wpPlan P ops Q S r a w1) : wpPlan P ops Q S ((j, 2, none) :: r) a w :=
  plan_last_store hi hd hw (run_cell ty x y ho g i hx v hy hv hv1 hsz cur e hb hlt) rfl (h _ (blk_set hb i v) (Only.setCell w g i v))
/-- A store of one cell, S holds behind it. -/
theorem plan_cell {j : Nat} {oi : Oper} {r : List (Nat × Nat × Option Tmp)} {a : Act} {w : World} (hi : ops[j]? = some oi) (hd : oi.dst = none) (hw : Region.wanted oi (yielded ops a.tmps) = true) (ty : TypeId) (x y : Operand) (ho : oi.op = .store ty x y) (g i : Nat)
    (hx : a.eval x = .pointer (some ⟨g, i, none⟩)) (v : Value) (hy : a.eval y = v) (hv : v.cells = #[v]) (hv1 : v.oneCell' = true) (hsz : (P.info? ty).map (·.size) = some 1) (cur : Array Value) (e : TypeId) (hb : w.heap[g]? = some (.cells cur e (0, 0))) (hlt : i < cur.size)
    (h : ∀ w1, w1.heap[g]? = some (.cells (cur.setIfInBounds i v) e (0, 0)) → Only g w w1 → S w1 ∧ wpPlan P ops Q S r a w1) : wpPlan P ops Q S ((j, 1, none) :: r) a w :=
  have hh := h _ (blk_set hb i v) (Only.setCell w g i v)
  plan_store hi hd hw (run_cell ty x y ho g i hx v hy hv hv1 hsz cur e hb hlt) hh.1 rfl hh.2
theorem run_row {oi : Oper} {a : Act} {w : World} (ty : TypeId) (x y : Operand) (ho : oi.op = .store ty x y) (g : Nat) (hx : a.eval x = .pointer (some ⟨g, 0, none⟩)) (cs : Array Value) (hy : a.eval y = .agg cs) (h1 : ∀ v ∈ cs.toList, v.oneCell' = true)
    (hsz : (P.info? ty).map (·.size) = some cs.size) (cur : Array Value) (e : TypeId) (hb : w.heap[g]? = some (.cells cur e (0, 0))) (hs : cs.size = cur.size) : (execOp a.eval oi).run P w = .ok .skip (w.setCells g 0 cs.toList) := by
  have hr := run_store_run (P := P) (w := w) (g := g) (o := 0) ty (.agg cs) cs.toList hb (by simp [Value.cells]) (by simpa using hsz) (by simp; omega) h1
  unfold execOp
  simp only [ho, hx, hy, Sem.run_bind, hr, Result.andThen_ok, Sem.run_pure]
theorem row_cells {w : World} {g : Nat} {cs cur : Array Value} {e : TypeId} (hb : w.heap[g]? = some (.cells cur e (0, 0))) (hs : cs.size = cur.size) : (w.setCells g 0 cs.toList).heap[g]? = some (.cells cs e (0, 0)) := by
  obtain ⟨cur', h2, h3, h4⟩ := setCells_row (g := g) (e := e) cs.toList 0 w cur hb (by simp; omega)
  have e1 : cur' = cs := by
    apply Array.toList_inj.1
    rw [h4]
    simp [hs]
  rw [h2, e1]
/-- One of ds: a store of a whole array or struct. -/
theorem plan_last_row {j : Nat} {oi : Oper} {r : List (Nat × Nat × Option Tmp)} {a : Act} {w : World} (hi : ops[j]? = some oi) (hd : oi.dst = none) (hw : Region.wanted oi (yielded ops a.tmps) = true) (ty : TypeId) (x y : Operand) (ho : oi.op = .store ty x y) (g : Nat)
    (hx : a.eval x = .pointer (some ⟨g, 0, none⟩)) (cs : Array Value) (hy : a.eval y = .agg cs) (h1 : ∀ v ∈ cs.toList, v.oneCell' = true) (hsz : (P.info? ty).map (·.size) = some cs.size) (cur : Array Value) (e : TypeId) (hb : w.heap[g]? = some (.cells cur e (0, 0))) (hs : cs.size = cur.size)
    (h : ∀ w1, w1.heap[g]? = some (.cells cs e (0, 0)) → Only g w w1 → wpPlan P ops Q S r a w1) : wpPlan P ops Q S ((j, 2, none) :: r) a w :=
  plan_last_store hi hd hw (run_row ty x y ho g hx cs hy h1 hsz cur e hb hs) rfl (h _ (row_cells hb hs) (Only.setCells w g 0 _))
theorem plan_row {j : Nat} {oi : Oper} {r : List (Nat × Nat × Option Tmp)} {a : Act} {w : World} (hi : ops[j]? = some oi) (hd : oi.dst = none) (hw : Region.wanted oi (yielded ops a.tmps) = true) (ty : TypeId) (x y : Operand) (ho : oi.op = .store ty x y) (g : Nat)
    (hx : a.eval x = .pointer (some ⟨g, 0, none⟩)) (cs : Array Value) (hy : a.eval y = .agg cs) (h1 : ∀ v ∈ cs.toList, v.oneCell' = true) (hsz : (P.info? ty).map (·.size) = some cs.size) (cur : Array Value) (e : TypeId) (hb : w.heap[g]? = some (.cells cur e (0, 0))) (hs : cs.size = cur.size)
    (h : ∀ w1, w1.heap[g]? = some (.cells cs e (0, 0)) → Only g w w1 → S w1 ∧ wpPlan P ops Q S r a w1) : wpPlan P ops Q S ((j, 1, none) :: r) a w :=
  have hh := h _ (row_cells hb hs) (Only.setCells w g 0 _)
  plan_store hi hd hw (run_row ty x y ho g hx cs hy h1 hsz cur e hb hs) hh.1 rfl hh.2
/-- A load of a whole array or struct. -/
theorem plan_load_row {j : Nat} {d : Option Tmp} {oi : Oper} {r : List (Nat × Nat × Option Tmp)} {a a' : Act} {w : World} (hi : ops[j]? = some oi) (hw : Region.wanted oi (yielded ops a.tmps) = true) (ty : TypeId) (x : Operand) (ho : oi.op = .load ty x) (g : Nat)
    (hx : a.eval x = .pointer (some ⟨g, 0, none⟩)) (t : TypeId) (cs : Array Value) (fr : Nat × Nat) (dd : TypeDesc) (hg : ∀ w', S w' → w'.heap[g]? = some (.cells cs t fr)) (hu : P.underlying ty = some dd) (hd : (match dd with | .struct _ | .array _ _ => true | _ => false) = true)
    (hsz : (P.info? ty).map (·.size) = some cs.size) (ha : a.put d (.agg cs) = a') (h : wpPlan P ops Q S r a' w) : wpPlan P ops Q S ((j, 0, d) :: r) a w :=
  plan_take hi hw (fun w' hS => by
    unfold execOp
    simp only [ho, hx, Instr.loadAt, Instr.sureAddr, Sem.run_bind, Sem.run_pure, Result.andThen_ok, run_loadVar_row w' g t ty cs fr dd (hg w' hS) hu hd hsz]) ha h
/-- An allocation. -/
theorem plan_box {j N : Nat} {oi : Oper} {r : List (Nat × Nat × Option Tmp)} {a : Act} {w : World} {cs : Array Value} {t : TypeId} (hi : ops[j]? = some oi) (hd : oi.dst = some N) (hw : Region.wanted oi (yielded ops a.tmps) = true)
    (hrun : (execOp a.eval oi).run P w = .ok (.value (.pointer (some ⟨w.heap.size, 0, none⟩))) (w.alloc (.cells cs t (0, 0))))
    (h : ∀ g, g = w.heap.size → ∀ w1, w1.heap[g]? = some (.cells cs t (0, 0)) → Below w.heap.size w w1 → S w1 ∧ ∀ a', a.put (some N) (.pointer (some ⟨g, 0, none⟩)) = a' → wpPlan P ops Q S r a' w1) : wpPlan P ops Q S ((j, 1, some N) :: r) a w :=
  have hh := h _ rfl _ (blk_new w _) (below_alloc (Below.refl _ _) _)
  plan_run hi hd hw hrun hh.1 rfl (hh.2 _ rfl)
end
end Go.Proofs.Ytlhhjdhbkhjhjaa.Plan
