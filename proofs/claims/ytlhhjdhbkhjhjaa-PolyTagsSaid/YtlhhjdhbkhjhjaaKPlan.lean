/- A region that draws its order, walked in one fixed order by a plan: each step either yields the same value in every world that meets S, or is the only operation that may come up. Words of this seat's proofs; no statement. -/
import Derived.Test.YtlhhjdhbkhjhjaaWLast
import Derived.Deep.RegionHeld3
namespace Go.Proofs.Ytlhhjdhbkhjhjaa.Plan
open Go.Proofs.YtlhhjdhbkhjhjaaW.PrintLast

section
variable {P : Program} {ops : Array Oper} {Q : Exit → Act → World → Prop} {md : Region.Mode} {S : World → Prop} {ds : List Nat}

/-- The plan's own check: kind 0: taken in every world that meets S; 1: alone, S is shown behind it; 2: alone, one of ds, nothing is shown behind it; 3: yields in every world, taken wherever it may come up. -/
def dstB (ops : Array Oper) (i : Nat) (d : Option Tmp) : Bool := match ops[i]? with | some o => o.dst == d | none => false
theorem dstB_spec {i : Nat} {d : Option Tmp} {oi : Oper} (h : dstB ops i d = true) (hi : ops[i]? = some oi) : oi.dst = d := by
  unfold dstB at h; rw [hi] at h; simpa using h
def planB (md : Region.Mode) (ops : Array Oper) (ds : List Nat) : Bool → List (Nat × Nat × Option Tmp) → Array Bool → Bool
  | _, [], l => Region.ready md ops l == []
  | alive, (i, 0, d) :: r, l => dstB ops i d && alive && Region.noSelect ops && Region.free md ops l i && (Region.ready md ops l).contains i && Region.closedB md ops l && Region.lastB md ops l ds i && planB md ops ds alive r (l.setIfInBounds i true)
  | alive, (i, 1, d) :: r, l => dstB ops i d && alive && (Region.ready md ops l == [i]) && decide (i ∉ ds) && planB md ops ds alive r (l.setIfInBounds i true)
  | _, (i, 2, d) :: r, l => dstB ops i d && (Region.ready md ops l == [i]) && decide (i ∈ ds) && planB md ops ds false r (l.setIfInBounds i true)
  | alive, (i, _, d) :: r, l => dstB ops i d && Region.noSelect ops && Region.free md ops l i && (Region.ready md ops l).contains i && planB md ops ds alive r (l.setIfInBounds i true)

def wpPlan (P : Program) (ops : Array Oper) (Q : Exit → Act → World → Prop) (S : World → Prop) : List (Nat × Nat × Option Tmp) → Act → World → Prop
  | [], a, w => Q .normal a w
  | (i, 0, d) :: r, a, w => ∃ oi v, ops[i]? = some oi ∧ YieldsIf P ops S oi v a ∧ wpPlan P ops Q S r (a.put d v) w
  | (i, 1, _) :: r, a, w => ∃ oi, ops[i]? = some oi ∧ ∀ K : Act → World → Prop, (∀ a' w', S w' → wpPlan P ops Q S r a' w' → K a' w') →
      if Region.wanted oi (yielded ops a.tmps) = true then Oper.wp P oi a w K Q else K (a.put oi.dst undef) w
  | (i, 2, _) :: r, a, w => ∃ oi, ops[i]? = some oi ∧ ∀ K : Act → World → Prop, (∀ a' w', wpPlan P ops Q S r a' w' → K a' w') →
      if Region.wanted oi (yielded ops a.tmps) = true then Oper.wp P oi a w K Q else K (a.put oi.dst undef) w
  | (i, _, d) :: r, a, w => ∃ oi v, ops[i]? = some oi ∧ Yields P ops oi v a ∧ wpPlan P ops Q S r (a.put d v) w

theorem any_of_plan (hQ : ∀ c a a' w, Q (.panic c) a' w → Q (.panic c) a w) : ∀ (plan : List (Nat × Nat × Option Tmp)) (alive : Bool) (fuel : Nat) (l : Array Bool) (a : Act) (w : World), plan.length ≤ fuel →
    planB md ops ds alive plan l = true → (alive = true → S w) → wpPlan P ops Q S plan a w → wpAnyLast P md ops Q S ds fuel l a w := by
  intro plan
  induction plan with
  | nil =>
    intro alive fuel l a w _ hp _ h
    exact wpAnyLast_done (by simpa [planB] using hp) h fuel
  | cons x r ih =>
    obtain ⟨i, k, d⟩ := x
    intro alive fuel l a w hf hp hS h
    obtain ⟨fuel, rfl⟩ : ∃ m, fuel = m + 1 := ⟨fuel - 1, by simp at hf; omega⟩
    have hf' : r.length ≤ fuel := by simpa using hf
    match k, hp, h with
    | 0, hp, h =>
      obtain ⟨oi, v, hi, hy, h⟩ := h
      simp only [planB, Bool.and_eq_true] at hp
      obtain ⟨⟨⟨⟨⟨⟨⟨h0, h1⟩, h2⟩, h3⟩, h4⟩, h5⟩, h6⟩, h7⟩ := hp
      obtain rfl := dstB_spec h0 hi
      exact wpAnyLast_take hi h2 h3 h4 h5 h6 (fun c a w hq => hQ c _ _ _ hq) hy (hS h1) (ih alive fuel _ _ _ hf' h7 hS h)
    | 1, hp, h =>
      obtain ⟨oi, hi, h⟩ := h
      simp only [planB, Bool.and_eq_true, beq_iff_eq, decide_eq_true_eq] at hp
      obtain ⟨⟨⟨⟨_, h1⟩, h2⟩, h3⟩, h4⟩ := hp
      exact wpAnyLast_ready h2 (by simp) (AllReadyL.cons hi h3 (fun K hK => h K (fun a' w' hS' hp' => hK.out a' w' hS' (fun hS'' => ih alive fuel _ _ _ hf' h4 (fun _ => hS'') hp'))) AllReadyL.nil)
    | k + 3, hp, h =>
      obtain ⟨oi, v, hi, hy, h⟩ := h
      simp only [planB, Bool.and_eq_true] at hp
      obtain ⟨⟨⟨⟨h0, h1⟩, h2⟩, h3⟩, h4⟩ := hp
      obtain rfl := dstB_spec h0 hi
      exact wpAnyLast_any hi (Region.noSelect_spec h1) (fun c a w hq => hQ c _ _ _ hq) fuel l a w (Region.free_spec hi h2) (by simpa using h3) hy (ih alive fuel _ _ _ hf' h4 hS h)
    | 2, hp, h =>
      obtain ⟨oi, hi, h⟩ := h
      simp only [planB, Bool.and_eq_true, beq_iff_eq, decide_eq_true_eq] at hp
      obtain ⟨⟨⟨_, h2⟩, h3⟩, h4⟩ := hp
      exact wpAnyLast_ready h2 (by simp) (AllReadyL.cons_last hi h3 (fun K hK => h K (fun a' w' hp' => hK.out a' w' (ih false fuel _ _ _ hf' h4 (fun e => by cases e) hp'))) AllReadyL.nil)

/-- The region, by a plan. A panic is not let by. -/
theorem region_plan {id : Nat} {a : Act} {w : World} (S : World → Prop) (ds : List Nat) (plan : List (Nat × Nat × Option Tmp)) (hm : P.follows .mixedOrders = true) (hp : planB .any ops ds true plan (Array.replicate ops.size false) = true)
    (hl : plan.length ≤ ops.size) (hS : S w.drew) (h : ∀ w', w' = w.drew → S w' → wpPlan P ops (NoPanic Q) S plan a w') : (Code.region id ops true).wp P Q a w :=
  wp_region_noPanic (wp_region_last (S := S) (ds := ds) hm (any_of_plan (fun _ _ _ _ hq => hq.elim) plan true _ _ _ _ hl hp (fun _ => hS) (h _ rfl hS)))

theorem plan_nil {a : Act} {w : World} (h : Q .normal a w) : wpPlan P ops (NoPanic Q) S [] a w := h
theorem plan_skip {i : Nat} {d : Option Tmp} {oi : Oper} {r : List (Nat × Nat × Option Tmp)} {a a' : Act} {w : World} (hi : ops[i]? = some oi) (hw : Region.wanted oi (yielded ops a.tmps) = false) (ha : a.put d undef = a') (h : wpPlan P ops Q S r a' w) : wpPlan P ops Q S ((i, 0, d) :: r) a w :=
  ⟨oi, undef, hi, .inr ⟨hw, rfl⟩, by rw [ha]; exact h⟩
theorem plan_take {i : Nat} {d : Option Tmp} {oi : Oper} {v : Value} {r : List (Nat × Nat × Option Tmp)} {a a' : Act} {w : World} (hi : ops[i]? = some oi) (hw : Region.wanted oi (yielded ops a.tmps) = true) (hy : ∀ w', S w' → (execOp a.eval oi).run P w' = .ok (.value v) w') (ha : a.put d v = a') (h : wpPlan P ops Q S r a' w) : wpPlan P ops Q S ((i, 0, d) :: r) a w :=
  ⟨oi, v, hi, .inl ⟨hw, hy⟩, by rw [ha]; exact h⟩
theorem plan_pure {i k : Nat} {d : Option Tmp} {oi : Oper} {v : Value} {r : List (Nat × Nat × Option Tmp)} {a a' : Act} {w : World} (hi : ops[i]? = some oi) (hw : Region.wanted oi (yielded ops a.tmps) = true) (hy : ∀ w', (execOp a.eval oi).run P w' = .ok (.value v) w') (ha : a.put d v = a') (h : wpPlan P ops Q S r a' w) : wpPlan P ops Q S ((i, k + 3, d) :: r) a w :=
  ⟨oi, v, hi, .inl ⟨hw, hy⟩, by rw [ha]; exact h⟩
theorem plan_skip3 {i k : Nat} {d : Option Tmp} {oi : Oper} {r : List (Nat × Nat × Option Tmp)} {a a' : Act} {w : World} (hi : ops[i]? = some oi) (hw : Region.wanted oi (yielded ops a.tmps) = false) (ha : a.put d undef = a') (h : wpPlan P ops Q S r a' w) : wpPlan P ops Q S ((i, k + 3, d) :: r) a w :=
  ⟨oi, undef, hi, .inr ⟨hw, rfl⟩, by rw [ha]; exact h⟩
/-- A call of a Go function. -/
theorem plan_call {i : Nat} {N : Option Tmp} {oi : Oper} {r : List (Nat × Nat × Option Tmp)} {a : Act} {w : World} {f : FuncId} {fn : Func} {as : Array Operand} {ts : Array TypeId} (hi : ops[i]? = some oi) (hf : P.funcs[f]? = some fn) (hname : (fn.name == "runtime.NumGoroutine") = false) (hb : fn.body.isSome = true)
    (args : Array Value) (hw : Region.wanted oi (yielded ops a.tmps) = true) (hN : oi.dst = N) (hop : oi.op = .call { callee := .value (.func f), args := as, argTypes := ts }) (hargs : as.map a.eval = args)
    (h : Calls P f args w fun e w' => ∃ v, e = .returned v ∧ S w' ∧ ∀ a', a.put N v = a' → wpPlan P ops Q S r a' w') : wpPlan P ops Q S ((i, 1, N) :: r) a w :=
  ⟨oi, hi, fun K hK => by
    have hw2 := hw
    refine (if_pos hw2).symm ▸ ?_
    have := goes_ (K := K) (Q := Q) (N := N) (a := a) (w := w) hf hname hb args hw hN hop hargs (h.mono fun e w' ⟨v, he, hS, hh⟩ => ⟨v, he, hK _ _ hS (hh _ rfl)⟩)
    rw [if_pos hw] at this
    exact this⟩
/-- An operation that changes the world, behind which S holds. -/
theorem plan_run {i : Nat} {d : Option Tmp} {oi : Oper} {v : Value} {r : List (Nat × Nat × Option Tmp)} {w1 : World} {a a' : Act} {w : World} (hi : ops[i]? = some oi) (hd : oi.dst = d) (hw : Region.wanted oi (yielded ops a.tmps) = true) (hrun : (execOp a.eval oi).run P w = .ok (.value v) w1) (hS : S w1) (ha : a.put d v = a') (h : wpPlan P ops Q S r a' w1) :
    wpPlan P ops Q S ((i, 1, d) :: r) a w :=
  ⟨oi, hi, fun K hK => by rw [if_pos hw]; unfold Oper.wp; rw [hrun, Oper.upon_value]; subst ha; subst hd; exact hK _ _ hS h⟩
theorem plan_skip1 {i : Nat} {d : Option Tmp} {oi : Oper} {r : List (Nat × Nat × Option Tmp)} {a a' : Act} {w : World} (hi : ops[i]? = some oi) (hd : oi.dst = d) (hw : Region.wanted oi (yielded ops a.tmps) = false) (hS : S w) (ha : a.put d undef = a') (h : wpPlan P ops Q S r a' w) : wpPlan P ops Q S ((i, 1, d) :: r) a w :=
  ⟨oi, hi, fun K hK => by rw [if_neg (by simp [hw])]; subst ha; subst hd; exact hK _ _ hS h⟩
theorem plan_store {i : Nat} {d : Option Tmp} {oi : Oper} {r : List (Nat × Nat × Option Tmp)} {w1 : World} {a a' : Act} {w : World} (hi : ops[i]? = some oi) (hd : oi.dst = d) (hw : Region.wanted oi (yielded ops a.tmps) = true) (hrun : (execOp a.eval oi).run P w = .ok .skip w1) (hS : S w1) (ha : a.put d undef = a') (h : wpPlan P ops Q S r a' w1) :
    wpPlan P ops Q S ((i, 1, d) :: r) a w :=
  ⟨oi, hi, fun K hK => by rw [if_pos hw]; unfold Oper.wp; rw [hrun, Oper.upon_skip]; subst ha; subst hd; exact hK _ _ hS h⟩
/-- One of ds: a store. -/
theorem plan_last_store {i : Nat} {d : Option Tmp} {oi : Oper} {r : List (Nat × Nat × Option Tmp)} {w1 : World} {a a' : Act} {w : World} (hi : ops[i]? = some oi) (hd : oi.dst = d) (hw : Region.wanted oi (yielded ops a.tmps) = true) (hrun : (execOp a.eval oi).run P w = .ok .skip w1) (ha : a.put d undef = a') (h : wpPlan P ops Q S r a' w1) :
    wpPlan P ops Q S ((i, 2, d) :: r) a w :=
  ⟨oi, hi, fun K hK => by rw [if_pos hw]; unfold Oper.wp; rw [hrun, Oper.upon_skip]; subst ha; subst hd; exact hK _ _ h⟩
/-- One of ds: a value. -/
theorem plan_last_run {i : Nat} {d : Option Tmp} {oi : Oper} {v : Value} {r : List (Nat × Nat × Option Tmp)} {w1 : World} {a a' : Act} {w : World} (hi : ops[i]? = some oi) (hd : oi.dst = d) (hw : Region.wanted oi (yielded ops a.tmps) = true) (hrun : (execOp a.eval oi).run P w = .ok (.value v) w1) (ha : a.put d v = a') (h : wpPlan P ops Q S r a' w1) :
    wpPlan P ops Q S ((i, 2, d) :: r) a w :=
  ⟨oi, hi, fun K hK => by rw [if_pos hw]; unfold Oper.wp; rw [hrun, Oper.upon_value]; subst ha; subst hd; exact hK _ _ h⟩
end
end Go.Proofs.Ytlhhjdhbkhjhjaa.Plan
