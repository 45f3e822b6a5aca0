/- FlowCredits, over numbers: any credit is spent, left, raised, used and offered as the chapter says; for every credit and every two numbers, with no condition. -/
import Derived.Test.YtggjkjeenadbfaaPFlowCreditsx5
import Derived.OpenShut
import Derived.IntWalk
namespace Go.Proofs.Ytggjkjeenadbfaa.Pure
open Go.RowKit Go.Proofs.Ytggjkjeenadbfaa.PFlowCredits Go.Proofs.YtggjkjeenadbfaaW.PrintWords Go.Proofs.YtggjkjeenadbfaaW.PrintLast Go.Proofs.YtggjkjeenadbfaaW.PrintMore
namespace Credits
theorem lives_ok (k : Nat) : mailcoachlaw14_lives.f (k + 1) = some true := by
  have h : mailcoachlaw14_lives.f 1 = some true := by decide +kernel
  exact at_rounds mailcoachlaw14_lives.mono (by omega) h
theorem may_eq (a b : Int) : mailcoachref14_may.f a b = flow_Credit_may.f a b := rfl
theorem left_eq (a b : Int) : mailcoachref14_Left.f a b = flow_Left.f a b := rfl
theorem raise_eq (a b n : Int) : mailcoachref14_Raise.f a b n = flow_Raise.f a b n := rfl
theorem came_eq (k : Nat) (a b n : Int) : mailcoachref14_Came.f (k + 1) a b n = flow_Came.f (k + 1) a b n := rfl
theorem offer_eq (k : Nat) (a b n m : Int) : mailcoachref14_Offer.f (k + 1) a b n m = flow_Offer.f (k + 1) a b n m := rfl
theorem may_some (a b : Int) : flow_Credit_may.f a b = some true ∨ flow_Credit_may.f a b = some false := by
  unfold flow_Credit_may.f
  split
  · cases decide (b ≤ a) <;> simp
  · simp
theorem spend_eq (k : Nat) (a b n : Int) : mailcoachref14_Spend.f (k + 1) a b n = flow_Spend.f (k + 1) a b n := by
  unfold mailcoachref14_Spend.f flow_Spend.f
  rw [may_eq]
  rcases may_some a b with h | h <;> rw [h] <;> simp only [Option.bind_some, if_true, mailcoachref14_Spend.j0, flow_Spend.j0]
  · have hl : flow_Left.f a b = some (IntKind.u64.wrap (a - b)) := by
      unfold flow_Left.f; rw [h]; simp only [Option.bind_some, if_true]
    rw [hl]; simp only [Option.bind_some]
  · rw [if_neg (by decide), if_neg (by decide)]
theorem left_some (a b : Int) : ∃ r, flow_Left.f a b = some r := by
  unfold flow_Left.f
  rcases may_some a b with h | h <;> rw [h] <;> simp only [Option.bind_some] <;> split <;> exact ⟨_, rfl⟩
theorem spend_some (k : Nat) (a b n : Int) : ∃ x y z, flow_Spend.f (k + 1) a b n = some (x, y, z) := by
  rw [← spend_eq]
  unfold mailcoachref14_Spend.f
  rw [may_eq]
  rcases may_some a b with h | h <;> rw [h] <;> simp only [Option.bind_some, mailcoachref14_Spend.j0, if_true]
  · repeat' split
    all_goals exact ⟨_, _, _, rfl⟩
  · rw [if_neg (by decide)]; exact ⟨_, _, _, rfl⟩
theorem raise_some (a b n : Int) : ∃ x y z, flow_Raise.f a b n = some (x, y, z) := by
  unfold flow_Raise.f
  rcases may_some a b with h | h <;> rw [h] <;> simp only [Option.bind_some] <;> repeat' split
  all_goals exact ⟨_, _, _, rfl⟩
theorem came_some (k : Nat) (a b n : Int) : ∃ x y z, flow_Came.f (k + 1) a b n = some (x, y, z) := by
  unfold flow_Came.f
  rcases may_some a b with h | h <;> rw [h] <;> simp only [Option.bind_some, flow_Came.j0, if_true]
  · repeat' split
    all_goals exact ⟨_, _, _, rfl⟩
  · rw [if_neg (by decide)]; exact ⟨_, _, _, rfl⟩
theorem offer_some (k : Nat) (a b n m : Int) : ∃ x y, flow_Offer.f (k + 1) a b n m = some (x, y) := by
  unfold flow_Offer.f
  rcases may_some a b with h | h <;> rw [h] <;> simp only [Option.bind_some, flow_Offer.j0] <;> repeat' split
  all_goals exact ⟨_, _, rfl⟩
end Credits

/-- FlowCredits, over numbers. -/
theorem FlowCredits (a b n m : Int) : mailcoachlaw14_FlowCredits.f 2 a b n m = some true := by
  obtain ⟨s0, s1, s2, hs⟩ := Credits.spend_some 1 a b n
  obtain ⟨r0, r1, r2, hr⟩ := Credits.raise_some a b n
  obtain ⟨c0, c1, c2, hc⟩ := Credits.came_some 1 a b n
  obtain ⟨o0, o1, ho⟩ := Credits.offer_some 1 a b n m
  obtain ⟨l, hl⟩ := Credits.left_some a b
  have hs' := Credits.spend_eq 1 a b n
  have hc' := Credits.came_eq 1 a b n
  have ho' := Credits.offer_eq 1 a b n m
  rw [hs] at hs'
  rw [hc] at hc'
  rw [ho] at ho'
  have e2 : (1 + 1 : Nat) = 2 := rfl
  rw [e2] at hs hc ho hs' hc' ho'
  unfold mailcoachlaw14_FlowCredits.f mailcoachlaw14_of.f
  rw [hs]; simp only [Option.bind_some]
  rw [hr]; simp only [Option.bind_some]
  rw [hc]; simp only [Option.bind_some]
  rw [ho]; simp only [Option.bind_some]
  rw [hs']; simp only [Option.bind_some]
  rw [Credits.raise_eq, hr]; simp only [Option.bind_some]
  rw [hc']; simp only [Option.bind_some]
  rw [ho']; simp only [Option.bind_some, if_true]
  have e1 : (o1 != o1) = false := by simp
  have e3 : (o0 != o0) = false := by simp
  rw [e1, e3]
  simp only [mailcoachlaw14_FlowCredits.j0, mailcoachlaw14_of.f, Option.bind_some]
  rw [Credits.left_eq, hl]; simp only [Option.bind_some, if_true, beq_self_eq_true, Bool.and_self]
  rw [Credits.lives_ok 0]
  rfl

end Go.Proofs.Ytggjkjeenadbfaa.Pure
