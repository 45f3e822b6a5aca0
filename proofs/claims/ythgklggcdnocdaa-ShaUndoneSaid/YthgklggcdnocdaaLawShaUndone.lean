/- ShaUndone: what a block does to a state, but for the state that is added at the end, can be undone round by round; for every state and every block, with no condition. -/
import Derived.Test.YthgklggcdnocdaaRows
import Derived.Test.YthgklggcdnocdaaS18
import Derived.Test.YthgklggcdnocdaaKOpen
import Derived.WalkKit
import Derived.ProofKit
import Derived.OpenShut
import Derived.ChangeOld
import Derived.Below
import Derived.Carry
namespace Go.Proofs.Ythgklggcdnocdaa.shaUndone
open Go.ChangeShapes Go.WideShapes Go.ChangeAt Go.RowKit
set_option linter.unusedVariables false
theorem own : ownKnob Try.prog.godebug = none := by kernel_rfl
theorem laidOut : laidOutB Try.prog = true := by kernel_rfl
theorem cells22 : Try.prog.cellsOf 22 = 1 := by kernel_rfl
theorem cells5 : Try.prog.cellsOf 5 = 1 := by kernel_rfl
theorem cells23 : Try.prog.cellsOf 23 = 8 := by kernel_rfl
theorem cells24 : Try.prog.cellsOf 24 = 64 := by kernel_rfl
theorem eight : ∀ zs : List Int, zs.length = 8 → ∃ s : Sh.S8, s.list = zs
  | [a, b, c, d, e, f, g, h], _ => ⟨⟨a, b, c, d, e, f, g, h⟩, rfl⟩
def wit : Array Value := #[.agg #[.int .u32 0, .int .u32 0, .int .u32 0, .int .u32 0, .int .u32 0, .int .u32 0, .int .u32 0, .int .u32 0], .agg #[.int .u8 0, .int .u8 0, .int .u8 0, .int .u8 0, .int .u8 0, .int .u8 0, .int .u8 0, .int .u8 0, .int .u8 0, .int .u8 0, .int .u8 0, .int .u8 0, .int .u8 0, .int .u8 0, .int .u8 0, .int .u8 0, .int .u8 0, .int .u8 0, .int .u8 0, .int .u8 0, .int .u8 0, .int .u8 0, .int .u8 0, .int .u8 0, .int .u8 0, .int .u8 0, .int .u8 0, .int .u8 0, .int .u8 0, .int .u8 0, .int .u8 0, .int .u8 0, .int .u8 0, .int .u8 0, .int .u8 0, .int .u8 0, .int .u8 0, .int .u8 0, .int .u8 0, .int .u8 0, .int .u8 0, .int .u8 0, .int .u8 0, .int .u8 0, .int .u8 0, .int .u8 0, .int .u8 0, .int .u8 0, .int .u8 0, .int .u8 0, .int .u8 0, .int .u8 0, .int .u8 0, .int .u8 0, .int .u8 0, .int .u8 0, .int .u8 0, .int .u8 0, .int .u8 0, .int .u8 0, .int .u8 0, .int .u8 0, .int .u8 0, .int .u8 0]]
set_option maxHeartbeats 2000000 in
set_option maxRecDepth 100000 in
theorem lifted (os : Os) (started : os.Started) (H : Type) (enc : TypeId × Value → H) :
    ReturnsInHanded {} Try.checked os 6 .any (Rows.shaUndoneSpec.pre6 enc Try.prog Try.f6 Rows.shaUndoneRow.domain false) (Rows.shaUndoneSpec.post enc Try.prog Try.f6 false true false false) := by
  refine returnsInHanded_of_change (C := Try.checked) own started (by kernel_rfl) Try.func6
    (ChangeSpec.witness6 (enc := enc) (C := Try.checked) false ⟨#[], wit, []⟩ 8 (by kernel_rfl) (by kernel_rfl) (by kernel_rfl) (by kernel_rfl)) ?_
  intro W base args ds gs before hval0 hW hcnd _
  have hval : ∀ (j : Nat) t v, Try.f6.params[j]? = some t → args[j]? = some v → Value.okWide Try.prog W .any base t v := hval0
  have hW' := hW
  obtain ⟨p, q, hA0, hV, rfl, hfz, hnd⟩ := hW
  have hA : DataW.TrodAll enc Try.prog W 0 (fun _ => true) true Try.f6.params.toList args.toList ds p := hA0
  rw [Try.params6] at hA hval
  obtain ⟨v0, vs0, d0, ds0, p0, q0, hargs, rfl, rfl, h0, r0⟩ := trodAll_cons hA
  obtain ⟨v1, vs1, d1, ds1, p1, q1, rfl, rfl, rfl, h1, r1⟩ := trodAll_cons r0
  obtain ⟨rfl, rfl, rfl⟩ := trodAll_nil r1
  obtain rfl : args = #[v0, v1] := by cases args; simp_all
  obtain ⟨rfl, rfl⟩ := trodVars_none hV
  have k0 := h0
  have k1 := h1
  obtain ⟨zs, hz, rfl, wz⟩ := Open.open_array Try.underlying23 Try.underlying22 cells22 cells23 (hval 0 23 v0 rfl rfl) h0
  obtain ⟨bs, hb, rfl, wb⟩ := Open.open_array Try.underlying24 Try.underlying5 cells5 cells24 (hval 1 24 v1 rfl rfl) h1
  have lt0 : ∀ x ∈ p0, x.block < W.heap.size := by obtain ⟨m, hm⟩ := k0; exact DataW.trod_lt m _ _ _ hm
  have lt1 : ∀ x ∈ p1, x.block < W.heap.size := by obtain ⟨m, hm⟩ := k1; exact DataW.trod_lt m _ _ _ hm
  have hby : Sh.Bytes bs := fun x hx => by have := bounds_u8 (wb x hx); exact ⟨this.1, this.2⟩
  clear hA0 hval0
  obtain ⟨s, rfl⟩ := eight zs hz
  have hz8 : ∀ k, k < 8 → 0 ≤ s.list.getD k 0 ∧ s.list.getD k 0 < 4294967296 := fun k hk => by
    have hm : s.list.getD k 0 ∈ s.list := by rw [List.getD_eq_getElem?_getD, List.getElem?_eq_getElem (show k < s.list.length from hk)]; exact List.getElem_mem _
    have := bounds_u32 (wz _ hm)
    omega
  have hok : Sh.S8ok s := ⟨hz8 0 (by decide), hz8 1 (by decide), hz8 2 (by decide), hz8 3 (by decide), hz8 4 (by decide), hz8 5 (by decide), hz8 6 (by decide), hz8 7 (by decide)⟩
  refine (Sh.undone_walk s bs W hok hby hb).mono fun e W' ⟨he, bel⟩ => ?_
  subst he
  exact ⟨_, rfl, _, _, _, [], _, [], hW', trodAll_mk1 (shut_bool Try.underlying4 _), (trodAll_cons_mk (Below.trod laidOut (by kernel_rfl) (of_decide_eq_true (by kernel_rfl)) k0 bel lt0) (trodAll_cons_mk (Below.trod laidOut (by kernel_rfl) (of_decide_eq_true (by kernel_rfl)) k1 bel lt1) trodAll_mk0)), rfl, bel.frame _, fun h => by cases h⟩
theorem over : Rows.shaUndoneRow.holds Try.pinned (OpenSpec.ofChange Rows.shaUndoneSpec) :=
  OpenClaim.holds_of_wide 6 Try.f6 rfl rfl rfl rfl rfl rfl rfl ⟨rfl, rfl, rfl, rfl, rfl⟩ rfl rfl rfl rfl rfl (by kernel_rfl) Try.func6 (by kernel_rfl)
    (of_decide_eq_true (by kernel_rfl)) (by unfold Func.isWrapper; first | (rw [if_pos (by decide +kernel)]; kernel_rfl) | (rw [if_neg (by decide +kernel)]; exact ⟨rfl, rfl⟩))
    (fun os started H enc _ => lifted os started H enc)
theorem proved : Rows.ShaUndoneSaid := over
#print axioms proved
end Go.Proofs.Ythgklggcdnocdaa.shaUndone
namespace Go.Proofs.Ythgklggcdnocdaa
/-- The row, under a short name, for the claim. -/
theorem shaUndone_holds : Rows.ShaUndoneSaid := shaUndone.proved
end Go.Proofs.Ythgklggcdnocdaa
