/- FlowBack: each number below 2^62 is told again by what it says, and a greater one is refused; for every input, with no condition. -/
import Derived.Test.YtggjkjeenadbfaaPFlowBackx2
import Derived.OpenShut
import Derived.IntWalk
import Derived.Laws.BitsAllLaws
namespace Go.Proofs.Ytggjkjeenadbfaa.Pure
open Go.RowKit Go.Proofs.Ytggjkjeenadbfaa.PFlowBack Go.Proofs.YtggjkjeenadbfaaW.PrintWords Go.Proofs.YtggjkjeenadbfaaW.PrintLast
namespace Back
theorem and1 (a : Int) (h0 : 0 ≤ a) (h1 : a ≤ 18446744073709551615) : bits .and .u64 a 1 = a % 2 := by
  rw [u64_and a 1 h0 (by omega) (by omega) (by omega)]
  have : a.toNat &&& (1 : Int).toNat = a.toNat % 2 := nat_mask1 _
  rw [this]; omega
theorem and2 (a : Int) (h0 : 0 ≤ a) (h1 : a ≤ 18446744073709551615) : bits .and .u64 a 2 = a / 2 % 2 * 2 := by
  rw [u64_and a 2 h0 (by omega) (by omega) (by omega)]
  have : a.toNat &&& (2 : Int).toNat = a.toNat / 2 ^ 1 % 2 * 2 ^ 1 := nat_bit 1 _
  rw [this]; omega
theorem or1 (a : Int) (h0 : 0 ≤ a) (h1 : a ≤ 18446744073709551615) (h : a % 4 = 0) : bits .or .u64 a 1 = a + 1 := by
  rw [u64_or a 1 h0 (by omega) (by omega) (by omega)]
  have : a.toNat ||| (1 : Int).toNat = a.toNat + 1 := nat_join 2 _ _ (by omega) (by decide)
  rw [this]; omega
theorem or2 (a : Int) (h0 : 0 ≤ a) (h1 : a ≤ 18446744073709551615) (h : a % 4 = 0) : bits .or .u64 a 2 = a + 2 := by
  rw [u64_or a 2 h0 (by omega) (by omega) (by omega)]
  have : a.toNat ||| (2 : Int).toNat = a.toNat + 2 := nat_join 2 _ _ (by omega) (by decide)
  rw [this]; omega
theorem or3 (a : Int) (h0 : 0 ≤ a) (h1 : a ≤ 18446744073709551615) (h : a % 4 = 0) : bits .or .u64 (a + 1) 2 = a + 3 := by
  rw [u64_or (a + 1) 2 (by omega) (by omega) (by omega) (by omega)]
  have e1 : (a + 1).toNat = a.toNat ||| 1 := by rw [nat_join 2 _ _ (by omega) (by decide)]; omega
  have : (a + 1).toNat ||| (2 : Int).toNat = a.toNat + 3 := by
    rw [e1, Nat.or_assoc]; exact nat_join 2 _ 3 (by omega) (by decide)
  rw [this]; omega
theorem quo4 (a : Int) (h0 : 0 ≤ a) (h1 : a ≤ 18446744073709551615) : IntKind.u64.wrap (Int.tdiv a 4) = a / 4 := IntWalk.u64_quo a 4 ⟨h0, h1, by decide⟩
theorem times4 (a : Int) (h0 : 0 ≤ a) (h1 : a ≤ 1152921504606846975) : IntKind.u64.wrap (a * 4) = a * 4 := IntWalk.u64_in _ (by omega)
theorem lives_ok (k : Nat) : mailcoachlaw14_lives.f (k + 1) = some true := by
  have h : mailcoachlaw14_lives.f 1 = some true := by decide +kernel
  exact at_rounds mailcoachlaw14_lives.mono (by omega) h
theorem back (a : Int) (h0 : 0 ≤ a) (h1 : a ≤ 4611686018427387903) : flow_ID.f (a % 2 != 0) (a / 2 % 2 * 2 != 0) (a / 4) = some (a, 0) := by
  unfold flow_ID.f
  rw [if_neg (by omega), times4 _ (by omega) (by omega), or1 _ (by omega) (by omega) (by omega), or3 (a / 4 * 4) (by omega) (by omega) (by omega), or2 (a / 4 * 4) (by omega) (by omega) (by omega)]
  rcases Int.emod_two_eq a with h | h <;> rcases Int.emod_two_eq (a / 2) with g | g <;> rw [h, g]
  · rw [if_neg (by decide), if_neg (by decide)]; congr 2; omega
  · rw [if_neg (by decide), if_pos (by decide)]; congr 2; omega
  · rw [if_pos (by decide), if_neg (by decide)]; congr 2; omega
  · rw [if_pos (by decide), if_pos (by decide)]; congr 2; omega
theorem refused (s o : Bool) (n : Int) (h : 1152921504606846975 < n) : flow_ID.f s o n = some (0, 1) := by
  unfold flow_ID.f; rw [if_pos h]
end Back

/-- FlowBack, over numbers. -/
theorem FlowBack : mailcoachlaw14_FlowBack.Pure := by
  intro a0 wf
  have hb : 0 ≤ a0 ∧ a0 ≤ 18446744073709551615 := bounds_u64 wf
  refine ⟨1, ?_⟩
  unfold mailcoachlaw14_FlowBack.f flow_Stream.f
  simp only [Option.bind_some]
  rw [Back.and1 a0 hb.1 hb.2, Back.and2 a0 hb.1 hb.2, Back.quo4 a0 hb.1 hb.2]
  by_cases h : a0 > 4611686018427387903
  · rw [Back.refused _ _ _ (by omega)]; simp only [Option.bind_some, if_true]
    rw [if_pos h, Back.lives_ok 0]; rfl
  · rw [Back.back a0 hb.1 (by omega)]; simp only [Option.bind_some, if_true]
    rw [if_neg h, Back.lives_ok 0]; rfl

end Go.Proofs.Ytggjkjeenadbfaa.Pure
