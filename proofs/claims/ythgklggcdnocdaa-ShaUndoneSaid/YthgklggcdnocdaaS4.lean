/- Rotations, as the program's library and the references make them. -/
import Derived.Test.YthgklggcdnocdaaPShaSumsx1
import Derived.Test.YthgklggcdnocdaaPShaUndonex1
import Derived.Test.YthgklggcdnocdaaKMem
import Derived.Outline
import Derived.Laws.ShiftsVar
import Derived.Laws.BitsAllLaws
namespace Go.Proofs.Ythgklggcdnocdaa.Sh
open Go.RowKit Go.Proofs.YthgklggcdnocdaaW.PrintWords Go.Proofs.YthgklggcdnocdaaW.PrintLast Go.Proofs.YthgklggcdnocdaaW.PrintMore Mem
set_option linter.unusedVariables false
set_option linter.unusedSimpArgs false
/-- Turned right by n bits. -/
def rotr (x n : Int) : Int := bits .or .u32 (shl .u32 x (32 - n)) (shr .u32 x n)
theorem and31 (n : Nat) (h1 : 1 ≤ n) (h2 : n ≤ 31) : bits .and .u64 (IntKind.u64.wrap (-(n : Int))) 31 = 32 - n := by
  have : ∀ m : Fin 31, bits .and .u64 (IntKind.u64.wrap (-((m.1 + 1 : Nat) : Int))) 31 = 32 - ((m.1 + 1 : Nat) : Int) := by decide +kernel
  have h := this ⟨n - 1, by omega⟩
  simp only [show n - 1 + 1 = n by omega] at h
  exact h
theorem rot_f (x : Int) (n : Nat) (h1 : 1 ≤ n) (h2 : n ≤ 31) : PShaSums.bits_RotateLeft32.f x (-(n : Int)) = some (rotr x n) := by
  unfold PShaSums.bits_RotateLeft32.f
  rw [and31 n h1 h2, if_pos (by omega), if_pos (by rw [IntWalk.u64_in _ (by omega)]; omega), IntWalk.u64_in _ (by omega)]
  unfold rotr
  congr 3
  omega
theorem rot (x : Int) (m n : Int) (h1 : 1 ≤ n) (h2 : n ≤ 31) (hm : m = -n) (w : World) : Calls Try.prog 29 #[.int .u32 x, .int .i64 m] w fun e w' => e = .returned (.int .u32 (rotr x n)) ∧ Drawn0 w w' := by
  obtain ⟨k, rfl⟩ := Int.eq_ofNat_of_zero_le (by omega : 0 ≤ n)
  subst hm
  exact PShaSums.bits_RotateLeft32.calls x _ _ w (rot_f x k (by omega) (by omega))
theorem three_f (x i j k : Int) (hi : 1 ≤ i ∧ i ≤ 31) (hj : 1 ≤ j ∧ j ≤ 31) (hk : 1 ≤ k ∧ k ≤ 31) : PShaSums.sha_three.f x i j k = some (bits .xor .u32 (bits .xor .u32 (rotr x i) (rotr x j)) (rotr x k)) := by
  obtain ⟨i, rfl⟩ := Int.eq_ofNat_of_zero_le (by omega : 0 ≤ i)
  obtain ⟨j, rfl⟩ := Int.eq_ofNat_of_zero_le (by omega : 0 ≤ j)
  obtain ⟨k, rfl⟩ := Int.eq_ofNat_of_zero_le (by omega : 0 ≤ k)
  unfold PShaSums.sha_three.f
  rw [IntWalk.wrap64_in _ (by omega), IntWalk.wrap64_in _ (by omega), IntWalk.wrap64_in _ (by omega), rot_f x i (by omega) (by omega), rot_f x j (by omega) (by omega), rot_f x k (by omega) (by omega)]
  rfl
theorem three (x i j k : Int) (hi : 1 ≤ i ∧ i ≤ 31) (hj : 1 ≤ j ∧ j ≤ 31) (hk : 1 ≤ k ∧ k ≤ 31) (w : World) :
    Calls Try.prog 30 #[.int .u32 x, .int .i64 i, .int .i64 j, .int .i64 k] w fun e w' => e = .returned (.int .u32 (bits .xor .u32 (bits .xor .u32 (rotr x i) (rotr x j)) (rotr x k))) ∧ Drawn0 w w' :=
  PShaSums.sha_three.calls x i j k _ w (three_f x i j k hi hj hk)
theorem or_comm (a b : Int) : bits .or .u32 a b = bits .or .u32 b a := by simp only [bits, BitVec.or_comm]
theorem turn_eq (x n : Int) (h1 : 1 ≤ n) (h2 : n ≤ 31) : (if 0 ≤ n then (if 0 ≤ (wrap64 (32 - n)) then (some (Go.bits .or .u32 (shr .u32 x n) (shl .u32 x (wrap64 (32 - n))))) else none) else none) = some (rotr x n) := by
  rw [if_pos (by omega), IntWalk.wrap64_in _ (by omega), if_pos (by omega), or_comm]; rfl
theorem turn20 (x n : Int) (h1 : 1 ≤ n) (h2 : n ≤ 31) (w : World) : Calls Try.prog 20 #[.int .u32 x, .int .i64 n] w fun e w' => e = .returned (.int .u32 (rotr x n)) ∧ Drawn0 w w' :=
  PShaSums.mailcoachref02_turn.calls x n _ w (turn_eq x n h1 h2)
theorem turn15 (x n : Int) (h1 : 1 ≤ n) (h2 : n ≤ 31) (w : World) : Calls Try.prog 15 #[.int .u32 x, .int .i64 n] w fun e w' => e = .returned (.int .u32 (rotr x n)) ∧ Drawn0 w w' :=
  PShaUndone.mailcoachlaw02_turn.calls x n _ w (turn_eq x n h1 h2)
end Go.Proofs.Ythgklggcdnocdaa.Sh
