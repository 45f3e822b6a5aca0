/- FlowSpends: however credit is spent and raised, what is used never is above the limit, and what is left and used are the limit together; for every limit and every list, with no condition. -/
import Derived.Test.YtggjkjeenadbfaaRows
import Derived.Test.YtggjkjeenadbfaaSpWalk
import Derived.Test.YtggjkjeenadbfaaKOpen
import Derived.WalkKit
import Derived.ProofKit
import Derived.OpenShut
import Derived.ChangeOld
import Derived.Below
import Derived.Carry
namespace Go.Proofs.Ytggjkjeenadbfaa.flowSpends
open Go.ChangeShapes Go.WideShapes Go.ChangeAt Go.RowKit
set_option linter.unusedVariables false
theorem own : ownKnob Try.prog.godebug = none := by kernel_rfl
theorem laidOut : laidOutB Try.prog = true := by kernel_rfl
theorem cells29 : Try.prog.cellsOf 29 = 2 := by kernel_rfl
theorem cells28 : Try.prog.cellsOf 28 = 1 := by kernel_rfl
/-- The slice of pairs, as the walk is told of it. -/
theorem pairs {H : Type} {enc : TypeId × Value → H} {W : World} {a0 : Option Addr} {len cap : Nat} {d : DataW H} {p : List MemPlace}
    (h : DataW.Trod enc Try.prog W 0 (fun _ => true) true 23 (.slice a0 len cap) d p) : ∃ z, Sp.Pairs W a0 len z := by
  obtain ⟨fuel, hf⟩ := h
  rcases Open.slice_cells Try.underlying23 (by simpa [Value.cells] using hf) with ⟨_, rfl, _⟩ | ⟨ad, rfl, _, _, _, hx⟩
  · exact ⟨fun _ => 0, fun _ => (by decide : (0 : Int) ≤ 0 ∧ (0 : Int) ≤ 65535), fun h => by omega⟩
  · have each : ∀ j, j < 2 * len → ∃ n, W.cell? (ad.add j) = some (.int .u16 n) ∧ 0 ≤ n ∧ n ≤ 65535 := by
      intro j hj
      obtain ⟨cs, n, y, hl, hc, ht⟩ := hx (j / 2) (by omega)
      rw [cells29] at hl hc
      obtain ⟨zs, hz, rfl, hw⟩ := Open.trod_ints Try.underlying29 Try.underlying28 cells28 cells29 ht
      have h1 := hc (j % 2) (by omega)
      have h2 : (List.map (Value.int .u16) zs)[j % 2]? = some (.int .u16 (zs[j % 2]'(by omega))) := by simp
      rw [h2, Addr.add_add] at h1
      have e : j / 2 * 2 + j % 2 = j := by omega
      rw [e] at h1
      have := bounds_u16 (hw _ (List.getElem_mem (by omega : j % 2 < zs.length)))
      exact ⟨_, h1, this.1, this.2⟩
    by_cases h0 : len = 0
    · exact ⟨fun _ => 0, fun _ => (by decide : (0 : Int) ≤ 0 ∧ (0 : Int) ≤ 65535), fun h => by omega⟩
    · obtain ⟨n0, hn0, _⟩ := each 0 (by omega)
      have hs := Open.spot_none hn0
      have each' : ∀ j, ∃ n : Int, (0 ≤ n ∧ n ≤ 65535) ∧ (j < 2 * len → W.cell? (ad.add j) = some (.int .u16 n)) := by
        intro j
        by_cases hj : j < 2 * len
        · obtain ⟨n, hn, hb⟩ := each j hj
          exact ⟨n, hb, fun _ => hn⟩
        · exact ⟨0, by decide, fun h => absurd h hj⟩
      refine ⟨fun j => Classical.choose (each' j), fun j => (Classical.choose_spec (each' j)).1, fun _ => ⟨ad.block, ad.off, by rw [← hs], fun j hj => ?_⟩⟩
      have e : (⟨ad.block, ad.off + j, none⟩ : Addr) = ad.add j := by rw [← Open.add_at, ← hs]
      rw [e]
      exact (Classical.choose_spec (each' j)).2 hj
set_option maxRecDepth 100000 in
theorem lifted (os : Os) (started : os.Started) (H : Type) (enc : TypeId × Value → H) :
    ReturnsInHanded {} Try.checked os 3 .any (Rows.flowSpendsSpec.pre6 enc Try.prog Try.f3 Rows.flowSpendsRow.domain false) (Rows.flowSpendsSpec.post enc Try.prog Try.f3 false true false false) := by
  refine returnsInHanded_of_change (C := Try.checked) own started (by kernel_rfl) Try.func3
    (ChangeSpec.witness6 (enc := enc) (C := Try.checked) false ⟨#[], #[.int .u32 0, .slice none 0 0], []⟩ 8 (by kernel_rfl) (by kernel_rfl) (by kernel_rfl) (by kernel_rfl)) ?_
  intro W base args ds gs before hval0 hW hcnd _
  have hval : ∀ (j : Nat) t v, Try.f3.params[j]? = some t → args[j]? = some v → Value.okWide Try.prog W .any base t v := hval0
  have hW' := hW
  obtain ⟨p, q, hA0, hV, rfl, hfz, hnd⟩ := hW
  have hA : DataW.TrodAll enc Try.prog W 0 (fun _ => true) true Try.f3.params.toList args.toList ds p := hA0
  rw [Try.params3] at hA hval
  obtain ⟨v0, vs0, d0, ds0, p0, q0, hargs, rfl, rfl, h0, r0⟩ := trodAll_cons hA
  obtain ⟨v1, vs1, d1, ds1, p1, q1, rfl, rfl, rfl, h1, r1⟩ := trodAll_cons r0
  obtain ⟨rfl, rfl, rfl⟩ := trodAll_nil r1
  obtain rfl : args = #[v0, v1] := by cases args; simp_all
  obtain ⟨rfl, rfl⟩ := trodVars_none hV
  obtain ⟨n, rfl, rfl, rfl, w1⟩ := open_int Try.underlying22 (hval 0 22 v0 rfl rfl) h0
  obtain ⟨a0, len, cap, rfl⟩ := okWide_slice Try.underlying23 (hval 1 23 v1 rfl rfl)
  have k1 := h1
  have lt1 : ∀ x ∈ p1, x.block < W.heap.size := by obtain ⟨m, hm⟩ := k1; exact DataW.trod_lt m _ _ _ hm
  obtain ⟨z, hz⟩ := pairs h1
  have hb := bounds_u32 w1
  clear hA0 hval0
  refine (Sp.walk n a0 len cap z W hb.1 hb.2 hz).mono fun e W' ⟨he, bel⟩ => ?_
  subst he
  exact ⟨_, rfl, _, _, _, [], _, [], hW', trodAll_mk1 (shut_bool Try.underlying4 _), (trodAll_cons_mk (shut_int Try.underlying22 w1) (trodAll_cons_mk (Below.trod laidOut (by kernel_rfl) (of_decide_eq_true (by kernel_rfl)) k1 bel lt1) trodAll_mk0)), rfl, bel.frame _, fun h => by cases h⟩
theorem over : Rows.flowSpendsRow.holds Try.pinned (OpenSpec.ofChange Rows.flowSpendsSpec) :=
  OpenClaim.holds_of_wide 3 Try.f3 rfl rfl rfl rfl rfl rfl rfl ⟨rfl, rfl, rfl, rfl, rfl⟩ rfl rfl rfl rfl rfl (by kernel_rfl) Try.func3 (by kernel_rfl)
    (of_decide_eq_true (by kernel_rfl)) (by unfold Func.isWrapper; first | (rw [if_pos (by decide +kernel)]; kernel_rfl) | (rw [if_neg (by decide +kernel)]; exact ⟨rfl, rfl⟩))
    (fun os started H enc _ => lifted os started H enc)
theorem proved : Rows.FlowSpendsSaid := over
#print axioms proved
end Go.Proofs.Ytggjkjeenadbfaa.flowSpends
namespace Go.Proofs.Ytggjkjeenadbfaa
/-- The row, under a short name, for the claim. -/
theorem flowSpends_holds : Rows.FlowSpendsSaid := flowSpends.proved
end Go.Proofs.Ytggjkjeenadbfaa
