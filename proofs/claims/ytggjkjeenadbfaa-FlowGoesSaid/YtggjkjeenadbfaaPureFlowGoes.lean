/- FlowGoes: whatever the window and the number of rounds, the sender that sends as much as it may and the reader that reads it all and offers what is worth while never stand still; for every input, with no condition. -/
import Derived.Test.YtggjkjeenadbfaaPFlowGoesx3
import Derived.OpenShut
import Derived.IntWalk
namespace Go.Proofs.Ytggjkjeenadbfaa.Pure
open Go.RowKit Go.Proofs.Ytggjkjeenadbfaa.PFlowGoes Go.Proofs.YtggjkjeenadbfaaW.PrintWords Go.Proofs.YtggjkjeenadbfaaW.PrintLast Go.Proofs.YtggjkjeenadbfaaW.PrintMore
namespace Goes
theorem may_ok (l u : Int) (h : u ≤ l) (hl : l ≤ 4611686018427387903) : flow_Credit_may.f l u = some true := by
  unfold flow_Credit_may.f; rw [if_pos hl, decide_eq_true h]
theorem left_ok (l u : Int) (h0 : 0 ≤ u) (h : u ≤ l) (hl : l ≤ 4611686018427387903) : flow_Left.f l u = some (l - u) := by
  unfold flow_Left.f; rw [may_ok l u h hl]; simp only [Option.bind_some, if_true]; rw [IntWalk.u64_in _ (by omega)]
theorem spend_ok (k : Nat) (l u n : Int) (h0 : 0 ≤ u) (hn : 0 ≤ n) (h : u + n ≤ l) (hl : l ≤ 4611686018427387903) : flow_Spend.f (k + 1) l u n = some (l, u + n, 0) := by
  unfold flow_Spend.f; rw [may_ok l u (by omega) hl]; simp only [Option.bind_some, if_true]
  simp only [flow_Spend.j0]; rw [if_neg (by simp; omega), left_ok l u h0 (by omega) hl]; simp only [Option.bind_some]
  rw [if_neg (by omega), IntWalk.u64_in _ (by omega)]
theorem came_ok (k : Nat) (l u n : Int) (h : u ≤ n) (hn : n ≤ l) (hl : l ≤ 4611686018427387903) : flow_Came.f (k + 1) l u n = some (l, n, 0) := by
  unfold flow_Came.f; rw [may_ok l u (by omega) hl]; simp only [Option.bind_some, if_true]
  simp only [flow_Came.j0]; rw [if_neg (by simp; omega), if_neg (by omega)]
  have : mx u n = n := by unfold mx; split <;> omega
  rw [this]
theorem raise_ok (l u n : Int) (h : u ≤ l) (hn : l ≤ n) (hl : n ≤ 4611686018427387903) : flow_Raise.f l u n = some (n, u, 0) := by
  unfold flow_Raise.f; rw [may_ok l u h (by omega)]; simp only [Option.bind_some, if_true]
  rw [if_neg (by omega)]
  have : mx l n = n := by unfold mx; split <;> omega
  rw [this]
theorem offer_ok (k : Nat) (l w : Int) (h0 : 0 ≤ l) (hw : 0 < w) (hl : l + w ≤ 2000000000) : flow_Offer.f (k + 1) l l l w = some (l + w, true) := by
  unfold flow_Offer.f; rw [may_ok l l (by omega) (by omega)]; simp only [Option.bind_some, if_true]
  rw [if_neg (by omega)]
  simp only [flow_Offer.j0]
  have e1 : IntKind.u64.wrap (l + w) = l + w := IntWalk.u64_in _ (by omega)
  have e2 : mn (l + w) 4611686018427387903 = l + w := by unfold mn; split <;> omega
  have e3 : IntKind.u64.wrap (l + w - l) = w := by rw [IntWalk.u64_in _ (by omega)]; omega
  have e4 : IntKind.u64.wrap (2 * w) = 2 * w := IntWalk.u64_in _ (by omega)
  rw [if_neg (by simp; omega), e1, e2, if_neg (by omega), e3, e4, if_neg (by omega)]
theorem lives_ok (k : Nat) : mailcoachlaw14_lives.f (k + 1) = some true := by
  have h : mailcoachlaw14_lives.f 1 = some true := by decide +kernel
  exact at_rounds mailcoachlaw14_lives.mono (by omega) h
theorem goes (r w : Int) (hw : 0 < w) (hw' : w ≤ 65536) (hr : r ≤ 255) (hr0 : 0 ≤ r) (d : Nat) : ∀ (k : Nat) (i u : Int), 0 ≤ i → i ≤ r → r - i = d → 2 * d + 1 < k → 0 ≤ u → u ≤ i * 65536 →
    mailcoachlaw14_FlowGoes.l0 k r w i (u + w) u (u + w) u = some true := by
  have er : wrap64 r = r := IntWalk.wrap64_in r (by omega)
  induction d with
  | zero =>
    intro k i u hi0 hi hd hk hu0 hu
    obtain ⟨k, rfl⟩ : ∃ m, k = m + 2 := ⟨k - 2, by omega⟩
    simp only [mailcoachlaw14_FlowGoes.l0]
    rw [er, if_neg (by omega), lives_ok k]; rfl
  | succ d ih =>
    intro k i u hi0 hi hd hk hu0 hu
    obtain ⟨k, rfl⟩ : ∃ m, k = m + 3 := ⟨k - 3, by omega⟩
    have h := ih (k + 1) (i + 1) (u + w) (by omega) (by omega) (by omega) (by omega) (by omega) (by omega)
    have e1 : (u + w) - u = w := by omega
    have e2 : wrap64 (i + 1) = i + 1 := IntWalk.wrap64_in _ (by omega)
    simp only [mailcoachlaw14_FlowGoes.l0]
    rw [er, if_pos (by omega), left_ok (u + w) u hu0 (by omega) (by omega), e1]; simp only [Option.bind_some]
    rw [if_neg (by omega), spend_ok _ (u + w) u w hu0 (by omega) (by omega) (by omega)]; simp only [Option.bind_some]
    rw [came_ok _ (u + w) u (u + w) (by omega) (by omega) (by omega)]; simp only [Option.bind_some, if_true]
    simp only [mailcoachlaw14_FlowGoes.j1]
    rw [if_neg (by decide), offer_ok k (u + w) w (by omega) hw (by omega)]; simp only [Option.bind_some, if_true]
    rw [raise_ok (u + w) (u + w) (u + w + w) (by omega) (by omega) (by omega)]; simp only [Option.bind_some, if_true]
    rw [e2]; exact h
end Goes

/-- FlowGoes, over numbers. -/
theorem FlowGoes : mailcoachlaw14_FlowGoes.Pure := by
  intro a0 a1 h0 h1
  have b0 := bounds_u16 h0
  have b1 : 0 ≤ a1 ∧ a1 ≤ 255 := bounds_u8 h1
  refine ⟨2 * a1.toNat + 2, ?_⟩
  unfold mailcoachlaw14_FlowGoes.f
  have e0 : IntKind.u64.wrap a0 = a0 := IntWalk.u64_in _ (by omega)
  have e1 : IntKind.u64.wrap (a0 + 1) = a0 + 1 := IntWalk.u64_in _ (by omega)
  rw [e0, e1]
  have := Goes.goes a1 (a0 + 1) (by omega) (by omega) (by omega) (by omega) a1.toNat (2 * a1.toNat + 2) 0 0 (by omega) (by omega) (by omega) (by omega) (by omega) (by omega)
  simpa using this

end Go.Proofs.Ytggjkjeenadbfaa.Pure
