/- A row loaded from the midst of a block, as a step of a plan. Words of this seat's proofs; no statement. -/
import Derived.Test.YtlhhjdhbkhjhjaaKStep
import Derived.Deep.MidRow
namespace Go.Proofs.Ytlhhjdhbkhjhjaa.Plan
open Go.RowKit
variable {P : Program} {ops : Array Oper} {Q : Exit → Act → World → Prop} {S : World → Prop}
theorem plan_load_mid {j : Nat} {d : Option Tmp} {oi : Oper} {r : List (Nat × Nat × Option Tmp)} {a a' : Act} {w : World} (hi : ops[j]? = some oi) (hw : Region.wanted oi (yielded ops a.tmps) = true) (ty : TypeId) (x : Operand) (ho : oi.op = .load ty x) (b o : Nat)
    (hx : a.eval x = .pointer (some ⟨b, o, none⟩)) (cs : List Value) (dd : TypeDesc) (hg : ∀ w', S w' → w'.rangeAt b o cs) (hu : P.underlying ty = some dd) (hd : dd.isRow = true)
    (hsz : (P.info? ty).map (·.size) = some cs.length) (ha : a.put d (.agg cs.toArray) = a') (h : wpPlan P ops Q S r a' w) : wpPlan P ops Q S ((j, 0, d) :: r) a w :=
  plan_take hi hw (fun w' hS => by
    unfold execOp
    simp only [ho, hx, run_loadAt_mid w' b o ty cs dd (hg w' hS) hu hd hsz, Result.andThen_ok, Sem.run_bind, Sem.run_pure]) ha h
end Go.Proofs.Ytlhhjdhbkhjhjaa.Plan
