/- FlowStreams: what any stream's number says, and which number says it, is the chapter's answer; for every input, with no condition. -/
import Derived.Test.YtggjkjeenadbfaaPFlowStreamsx2
import Derived.OpenShut
import Derived.IntWalk
import Derived.Laws.BitsAllLaws
namespace Go.Proofs.Ytggjkjeenadbfaa.Pure
open Go.RowKit Go.Proofs.Ytggjkjeenadbfaa.PFlowStreams Go.Proofs.YtggjkjeenadbfaaW.PrintWords Go.Proofs.YtggjkjeenadbfaaW.PrintLast
namespace Streams
theorem and1 (a : Int) (h0 : 0 ≤ a) (h1 : a ≤ 18446744073709551615) : bits .and .u64 a 1 = a % 2 := by
  rw [u64_and a 1 h0 (by omega) (by omega) (by omega)]
  have : a.toNat &&& (1 : Int).toNat = a.toNat % 2 := nat_mask1 _
  rw [this]; omega
theorem and2 (a : Int) (h0 : 0 ≤ a) (h1 : a ≤ 18446744073709551615) : bits .and .u64 a 2 = a / 2 % 2 * 2 := by
  rw [u64_and a 2 h0 (by omega) (by omega) (by omega)]
  have : a.toNat &&& (2 : Int).toNat = a.toNat / 2 ^ 1 % 2 * 2 ^ 1 := nat_bit 1 _
  rw [this]; omega
theorem or1 (a : Int) (h0 : 0 ≤ a) (h1 : a ≤ 18446744073709551615) (h : a % 4 = 0) : bits .or .u64 a 1 = a + 1 := by
  rw [u64_or a 1 h0 (by omega) (by omega) (by omega)]
  have : a.toNat ||| (1 : Int).toNat = a.toNat + 1 := nat_join 2 _ _ (by omega) (by decide)
  rw [this]; omega
theorem or2 (a : Int) (h0 : 0 ≤ a) (h1 : a ≤ 18446744073709551615) (h : a % 4 = 0) : bits .or .u64 a 2 = a + 2 := by
  rw [u64_or a 2 h0 (by omega) (by omega) (by omega)]
  have : a.toNat ||| (2 : Int).toNat = a.toNat + 2 := nat_join 2 _ _ (by omega) (by decide)
  rw [this]; omega
theorem or3 (a : Int) (h0 : 0 ≤ a) (h1 : a ≤ 18446744073709551615) (h : a % 4 = 0) : bits .or .u64 (a + 1) 2 = a + 3 := by
  rw [u64_or (a + 1) 2 (by omega) (by omega) (by omega) (by omega)]
  have e1 : (a + 1).toNat = a.toNat ||| 1 := by rw [nat_join 2 _ _ (by omega) (by decide)]; omega
  have : (a + 1).toNat ||| (2 : Int).toNat = a.toNat + 3 := by
    rw [e1, Nat.or_assoc]; exact nat_join 2 _ 3 (by omega) (by decide)
  rw [this]; omega
theorem quo4 (a : Int) (h0 : 0 ≤ a) (h1 : a ≤ 18446744073709551615) : IntKind.u64.wrap (Int.tdiv a 4) = a / 4 := IntWalk.u64_quo a 4 ⟨h0, h1, by decide⟩
theorem times4 (a : Int) (h0 : 0 ≤ a) (h1 : a ≤ 1152921504606846975) : IntKind.u64.wrap (a * 4) = a * 4 := IntWalk.u64_in _ (by omega)
theorem ids (s o : Bool) (n : Int) (h0 : 0 ≤ n) : flow_ID.f s o n = mailcoachref14_ID.f s o n := by
  unfold flow_ID.f mailcoachref14_ID.f
  by_cases h : n > 1152921504606846975
  · rw [if_pos h, if_pos h]
  · rw [if_neg h, if_neg h]
    have e4 := times4 n h0 (by omega)
    have f4 : IntKind.u64.wrap (4 * n) = n * 4 := by rw [IntWalk.u64_in _ (by omega)]; omega
    rw [e4, f4, or1 (n * 4) (by omega) (by omega) (by omega), or3 (n * 4) (by omega) (by omega) (by omega), or2 (n * 4) (by omega) (by omega) (by omega)]
    have g1 : IntKind.u64.wrap (n * 4 + 1) = n * 4 + 1 := IntWalk.u64_in _ (by omega)
    have g2 : IntKind.u64.wrap (n * 4 + 2) = n * 4 + 2 := IntWalk.u64_in _ (by omega)
    have g3 : IntKind.u64.wrap (n * 4 + 1 + 2) = n * 4 + 3 := by rw [IntWalk.u64_in _ (by omega)]; omega
    rw [g1, g2, g3]
theorem lives_ok (k : Nat) : mailcoachlaw14_lives.f (k + 1) = some true := by
  have h : mailcoachlaw14_lives.f 1 = some true := by decide +kernel
  exact at_rounds mailcoachlaw14_lives.mono (by omega) h
theorem some_id (s o : Bool) (n : Int) : ∃ r, flow_ID.f s o n = some r := by
  unfold flow_ID.f; repeat' split
  all_goals exact ⟨_, rfl⟩
end Streams

/-- FlowStreams, over numbers. -/
theorem FlowStreams : mailcoachlaw14_FlowStreams.Pure := by
  intro a0 a1 a2 wf
  have hb : 0 ≤ a0 ∧ a0 ≤ 18446744073709551615 := bounds_u64 wf
  refine ⟨1, ?_⟩
  obtain ⟨r, hr⟩ := Streams.some_id a1 a2 a0
  unfold mailcoachlaw14_FlowStreams.f
  rw [← Streams.ids a1 a2 a0 hb.1, hr]
  unfold flow_Stream.f mailcoachref14_Stream.f
  simp only [Option.bind_some, if_true]
  rw [Streams.and1 a0 hb.1 hb.2, Streams.and2 a0 hb.1 hb.2]
  have e1 : ((a0 % 2 != 0) == (a0 % 2 == 1)) = true := by
    rcases Int.emod_two_eq a0 with h | h <;> rw [h] <;> decide
  have e2 : ((a0 / 2 % 2 * 2 != 0) == (a0 / 2 % 2 * 2 == 2)) = true := by
    rcases Int.emod_two_eq (a0 / 2) with h | h <;> rw [h] <;> decide
  rw [if_pos e1, if_pos e2, Streams.lives_ok 0]; rfl

end Go.Proofs.Ytggjkjeenadbfaa.Pure
