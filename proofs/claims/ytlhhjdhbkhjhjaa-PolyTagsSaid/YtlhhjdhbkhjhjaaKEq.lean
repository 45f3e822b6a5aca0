/- Arrays of integers compared. Words of this seat's proofs; no statement. -/
import Derived.Test.YtlhhjdhbkhjhjaaKMem
import Derived.ChangeKeysEq
namespace Go.Proofs.Ytlhhjdhbkhjhjaa.Mem
open Go.RowKit Go.Proofs.YtlhhjdhbkhjhjaaW.PrintWords
theorem eqItems_ints {P : Program} (d : Nat) {e : TypeId} {k k' : IntKind} (he : P.underlying e = some (.int k')) (l1 l2 : List Int) (h : l1.length = l2.length) (w : World) :
    ∀ is : List Nat, (∀ i ∈ is, i < l1.length) → (Op.eqItems (d + 1) e 1 (ia k l1) (ia k l2) is).run P w = .ok (decide (∀ i ∈ is, l1.getD i 0 = l2.getD i 0)) w := by
  have hp : P.plainKey e = true := by simp [Program.plainKey, he]
  intro is
  induction is with
  | nil => intro _; simp [Op.eqItems]
  | cons i is ih =>
    intro hi
    have h1 := hi i (by simp)
    have ih' := ih (fun j hj => hi j (by simp [hj]))
    have p1 := run_part_plain w hp (ia_get k l1 i h1)
    have p2 := run_part_plain w hp (ia_get k l2 i (by omega))
    simp only [Op.eqItems, Nat.mul_one, Sem.run_bind, p1, p2, Result.andThen_ok, run_equalIn_int w d e k k' _ _ he]
    by_cases hx : l1.getD i 0 = l2.getD i 0
    · have hb : (l1.getD i 0 == l2.getD i 0) = true := by rw [hx]; exact beq_self_eq_true _
      have hy : l1[i]?.getD 0 = l2[i]?.getD 0 := by simpa [List.getD_eq_getElem?_getD] using hx
      rw [hb]
      simp only [Bool.not_true, Bool.false_eq_true, if_false]
      rw [ih']
      simp [hy]
    · have hb : (l1.getD i 0 == l2.getD i 0) = false := by rw [beq_eq_false_iff_ne]; exact hx
      rw [hb]
      have hy : ¬(l1[i]?.getD 0 = l2[i]?.getD 0) := by simpa [List.getD_eq_getElem?_getD] using hx
      simp only [Bool.not_false, if_true, Sem.run_pure]
      simp [hy]
theorem eq_ints {P : Program} (d : Nat) {t e : TypeId} {k k' : IntKind} {n : Nat} (ht : P.underlying t = some (.array n e)) (he : P.underlying e = some (.int k')) (hi : (P.info? e).isSome = true) (ce : P.cellsOf e = 1) (l1 l2 : List Int) (h1 : l1.length = n) (h2 : l2.length = n) (w : World) :
    (Op.equalIn (d + 2) t (.agg (ia k l1)) (.agg (ia k l2))).run P w = .ok (decide (l1 = l2)) w := by
  obtain ⟨i, hi⟩ := Option.isSome_iff_exists.1 hi
  rw [run_equalIn_array w (d + 1) _ _ ht hi, ce, eqItems_ints d he l1 l2 (by omega) w _ (fun i hi => by rw [h1]; exact List.mem_range.1 hi)]
  congr 1
  apply decide_eq_decide.2
  constructor
  · intro h
    apply List.ext_getElem (by omega)
    intro j hj1 hj2
    have := h j (List.mem_range.2 (by omega))
    rw [List.getD_eq_getElem?_getD, List.getD_eq_getElem?_getD, List.getElem?_eq_getElem hj1, List.getElem?_eq_getElem hj2] at this
    exact this
  · rintro rfl _ _
    rfl
end Go.Proofs.Ytlhhjdhbkhjhjaa.Mem
