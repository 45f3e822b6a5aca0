/- Words for the reference's Tag. -/
import Derived.Test.YtlhhjdhbkhjhjaaP24
namespace Go.Proofs.Ytlhhjdhbkhjhjaa.Po
open Go.RowKit Go.Proofs.YtlhhjdhbkhjhjaaW.PrintWords Go.Proofs.YtlhhjdhbkhjhjaaW.PrintLast Go.Proofs.YtlhhjdhbkhjhjaaW.PrintMore Mem Rg
attribute [local go_sem] Oper.semAt_some
set_option linter.unusedVariables false
set_option linter.unusedSimpArgs false
theorem minStep {o : Oper} {a : Act} {x y : Operand} {w : World} (p q r : Int) (ho : o.op = .call { callee := .builtin .min, args := #[x, y], argTypes := #[3, 3] }) (hx : a.eval x = .int .i64 p) (hy : a.eval y = .int .i64 q) (hr : (if q < p then q else p) = r) :
    (execOp a.eval o).run Try.prog w = .ok (.value (.int .i64 r)) w := by
  subst hr
  unfold execOp
  simp only [ho, resolve, invoke, builtin, Sem.run_bind, Sem.run_pure, Result.andThen_ok, List.map_toArray, List.map_cons, List.map_nil, hx, hy]
  kernel_rfl
theorem slice2 {o : Oper} {a : Act} {x lo hi : Operand} {w : World} (ad : Addr) (n c i m : Nat) (ho : o.op = .slice 23 x (some lo) (some hi) none) (hx : a.eval x = .slice (some ad) n c) (hlo : a.eval lo = .int .i64 (i : Int)) (hhi : a.eval hi = .int .i64 ((i + m : Nat) : Int)) (hm : 1 ≤ m) (hc : i + m ≤ c) :
    (execOp a.eval o).run Try.prog w = .ok (.value (.slice (some (ad.add i)) m (c - i))) w := by
  have hi' : (Try.prog.info? 5).map (·.size) = some 1 := by kernel_rfl
  obtain ⟨ii, hi', hs⟩ := Option.map_eq_some_iff.1 hi'
  have hu : Try.prog.underlying 23 = some (.slice (Try.prog.elem 23)) := by kernel_rfl
  have he : Try.prog.elem 23 = 5 := by kernel_rfl
  have hr := run_slice_lh (w := w) 23 (some ad) n c hu .i64 .i64 (i : Int) ((i + m : Nat) : Int) (Int.natCast_nonneg _) (by omega) (by omega)
  have hc5 : Try.prog.cellsOf 5 = 1 := by kernel_rfl
  rw [he, run_sizeOf w hi', Result.andThen_ok, hc5] at hr
  have hsl : sliced (some ad) (i : Int).toNat ((i + m : Nat) : Int).toNat c 1 = .slice (some (ad.add i)) m (c - i) := by
    unfold sliced
    rw [Int.toNat_natCast, Int.toNat_natCast, if_neg (by omega), Nat.mul_one]
    simp
  rw [hsl] at hr
  unfold execOp
  simp only [ho, hx, hlo, hhi, Option.map_some, Option.map_none, run_sliceAt_slice (h := hu), hr, Sem.run_bind, Result.andThen_ok, Sem.run_pure]
theorem slice_arr9 {o : Oper} {a : Act} {w : World} (g : Nat) (ho : o.op = .slice 22 (.tmp 2) (some (.const (.int .i64 16))) none none) (hx : a.eval (.tmp 2) = .pointer (some ⟨g, 0, none⟩)) :
    (execOp a.eval o).run Try.prog w = .ok (.value (.slice (some ⟨g, 16, none⟩) 16 16)) w := by
  unfold execOp
  simp only [ho, hx, Option.map_some, Option.map_none]
  kernel_rfl
/-- A round of the reference's Tag. -/
theorem step_eq {key part : List Int} (a : Int) (h0 : 0 ≤ a) (h1 : a < PP) (hk : Bytes key) (hp : Bytes part) (hl : part.length ≤ 16) :
    valB (digits 34 (valB (digits 17 (valB (digits 17 a) + valB (numF part true))) * valB (rL key))) % PP = (a + valB (part ++ [1])) * rF key % PP := by
  have hp1 := part_bd hp hl
  have hr := rF_bd hk
  have e1 : valB (digits 17 a) = a := by rw [valB_digits]; exact Int.emod_eq_of_lt h0 (by unfold PP at h1; omega)
  rw [e1, (numF_val part).1, rL_val]
  have e2 : valB (digits 17 (a + valB (part ++ [1]))) = a + valB (part ++ [1]) := by rw [valB_digits]; exact Int.emod_eq_of_lt (by omega) (by unfold PP at h1; omega)
  rw [e2, valB_digits]
  congr 1
  have h2 : a + valB (part ++ [1]) ≤ 2722258935367507707706996859454145691648 := by unfold PP at h1; omega
  have h3 : rF key ≤ 1361129467683753853853498429727072845824 := by omega
  refine Int.emod_eq_of_lt (Int.mul_nonneg (by omega) hr.1) ?_
  exact Int.lt_of_le_of_lt (Int.mul_le_mul h2 h3 hr.1 (by decide)) (by decide)
theorem last_eq {key : List Int} (a : Int) (h0 : 0 ≤ a) (h1 : a < PP) : (digits 34 (valB (digits 17 a) + valB (numF (key.drop 16) false))).take 16 = digits 16 (a + valB (key.drop 16)) := by
  have e1 : valB (digits 17 a) = a := by rw [valB_digits]; exact Int.emod_eq_of_lt h0 (by unfold PP at h1; omega)
  rw [e1, (numF_val _).2, digits_take 16 34 _ (by decide)]
/-- An array filled from its head. -/
def fil (t : List Int) (j : Nat) : List Int := t.take j ++ List.replicate (16 - j) 0
theorem fil_len {t : List Int} (ht : t.length = 16) {j : Nat} (hj : j ≤ 16) : (fil t j).length = 16 := by rw [fil, List.length_append, List.length_take, List.length_replicate]; omega
theorem fil_set {t : List Int} (ht : t.length = 16) {j : Nat} (hj : j < 16) : (fil t j).set j (t.getD j 0) = fil t (j + 1) := by
  have e1 : (t.take j).length = j := by rw [List.length_take]; omega
  rw [fil, fil, List.set_append_right _ _ (by omega), e1, Nat.sub_self, show 16 - j = (16 - (j + 1)) + 1 by omega, List.replicate_succ, List.set_cons_zero, List.take_add_one, List.getD_eq_getElem?_getD, List.getElem?_eq_getElem (show j < t.length by omega), List.append_assoc]
  rfl
theorem fil_end {t : List Int} (ht : t.length = 16) : fil t 16 = t := by rw [fil, List.take_of_length_le (by omega)]; simp
end Go.Proofs.Ytlhhjdhbkhjhjaa.Po
