/- A list of fields that came in, opened, with how much of it there can be. -/
import Derived.Test.YtcjakeopbjokoaaT16
import Derived.Test.YtcjakeopbjokoaaT17
import Derived.Deep.SlicePairs
import Derived.SizedLaws
namespace Go.Proofs.Ytcjakeopbjokoaa.Tb
open Go.ChangeShapes Go.WideShapes Go.RowKit Go.Deep
set_option linter.unusedVariables false
theorem c9 : Try.prog.cellsOf 9 = 1 := by kernel_rfl
theorem c23 : Try.prog.cellsOf 23 = 2 := by kernel_rfl
theorem b23 : Try.prog.bytesOf 23 = 32 := by kernel_rfl
theorem weights_all {H : Type} {P : Program} {e : TypeId} : ∀ {ds : List (DataW H)} {d : DataW H} {n : Nat}, d ∈ ds → n ∈ d.weights P e → n ∈ DataW.weightsAll P e ds
  | x :: ds, d, n, hd, hn => by
    simp only [DataW.weightsAll, List.mem_append]
    rcases List.mem_cons.1 hd with rfl | hd
    · exact .inl hn
    · exact .inr (weights_all hd hn)
def bts : Value → List UInt8
  | .string s => s.data.toList
  | _ => []
section
variable {H : Type} {enc : TypeId × Value → H} {w : World}
theorem fields_open {a0 : Option Addr} {len cap : Nat} {d : DataW H} {p : List MemPlace} (h : DataW.Trod enc Try.prog w 0 (fun _ => true) true 31 (.slice a0 len cap) d p) (hw : ∀ n ∈ d.weights Try.prog 31, n ≤ reachBytes) :
    ∃ l : List F, l.length = len ∧ RF w a0 l ∧ l.length ≤ 4398046511000 ∧ ∀ f ∈ l, f.1.length ≤ 1125899906842624 ∧ f.2.length ≤ 1125899906842624 := by
  obtain ⟨fuel, hf⟩ := h
  rcases open_slice_pairs Try.underlying31 Try.underlying23 c23 rfl rfl c9 c9 (by simpa [Value.cells] using hf) with ⟨h1, _⟩ | ⟨a, len', cap', m, n, V0, V1, D0, D1, P0, P1, hcs, _, _, _, hm, hx, hi⟩
  · simp at h1
    obtain ⟨rfl, rfl, rfl⟩ := h1
    exact ⟨[], rfl, .inl rfl, by decide, by simp⟩
  · simp at hcs
    obtain ⟨rfl, rfl, rfl⟩ := hcs
    simp only [Prod.mk.injEq] at hx
    obtain ⟨rfl, _⟩ := hx
    have hlm : len ≤ m := by
      rw [hm]
      split <;> omega
    have each : ∀ i, i < len → (V0 i = sv (bts (V0 i)) ∧ D0 i = .lit (.string (bts (V0 i)))) ∧ (V1 i = sv (bts (V1 i)) ∧ D1 i = .lit (.string (bts (V1 i)))) := by
      intro i hil
      obtain ⟨_, _, h3, h4⟩ := hi i (by omega)
      obtain ⟨s, e1, e2, _⟩ := DataW.trod_string Try.underlying9 h3
      obtain ⟨s', e1', e2', _⟩ := DataW.trod_string Try.underlying9 h4
      simp only [List.cons.injEq, and_true] at e1 e1'
      simp only [Prod.mk.injEq] at e2 e2'
      rw [e1, e1', e2.1, e2'.1]
      exact ⟨⟨by simp [sv, bts], rfl⟩, ⟨by simp [sv, bts], rfl⟩⟩
    have hsz : (len + (m - len)) * 32 ≤ reachBytes := by
      refine hw _ ?_
      simp [DataW.weights, Try.underlying31, b23]
    have hstr : ∀ i, i < len → (bts (V0 i)).length ≤ reachBytes ∧ (bts (V1 i)).length ≤ reachBytes := by
      intro i hil
      have hmem : (DataW.agg [D0 i, D1 i] : DataW H) ∈ (List.range len).map fun i => DataW.agg [D0 i, D1 i] := List.mem_map.2 ⟨i, List.mem_range.2 hil, rfl⟩
      have hin : ∀ n ∈ (DataW.agg [D0 i, D1 i] : DataW H).weights Try.prog 23, n ≤ reachBytes := fun n hn => hw n (by
        have := weights_all hmem hn
        simp only [DataW.weights, Try.underlying31, List.mem_cons, List.mem_append]
        exact .inr (.inl this))
      rw [(each i hil).1.2, (each i hil).2.2] at hin
      exact ⟨hin _ (by simp [DataW.weights, Try.underlying23, DataW.weightsEach]), hin _ (by simp [DataW.weights, Try.underlying23, DataW.weightsEach])⟩
    have hrb : reachBytes = 140737488351232 := rfl
    refine ⟨(List.range len).map fun i => (bts (V0 i), bts (V1 i)), by simp, ?_, by simp; omega, ?_⟩
    · by_cases h0 : len = 0
      · left; subst h0; rfl
      · right
        have hs := Go.Proofs.Ytcjakeopbjokoaa.Open.spot_none (w := w) (v := V0 0) (ad := a) (by have := (hi 0 (by omega)).1; simpa using this)
        refine ⟨a.block, a.off, by rw [← hs], fun j v hj => ?_⟩
        have hjl : j < 2 * len := by
          have := List.getElem?_eq_some_iff.1 hj
          obtain ⟨h1, _⟩ := this
          rw [fc_len] at h1
          simpa [Nat.mul_comm] using h1
        have hil : j / 2 < len := by omega
        have hget : ((List.range len).map fun i => (bts (V0 i), bts (V1 i))).getD (j / 2) ([], []) = (bts (V0 (j / 2)), bts (V1 (j / 2))) := by
          rw [List.getD_eq_getElem?_getD, List.getElem?_map, List.getElem?_range hil]; rfl
        have e : (⟨a.block, a.off + j, none⟩ : Addr) = a.add j := by rw [← Go.Proofs.Ytcjakeopbjokoaa.Open.add_at, ← hs]
        rw [e]
        obtain ⟨h1, h2, _⟩ := hi (j / 2) (by omega)
        have g := fc_get ((List.range len).map fun i => (bts (V0 i), bts (V1 i))) (j / 2) (by simpa using hil)
        rw [hget] at g
        rcases Nat.mod_two_eq_zero_or_one j with h | h
        · have ej : j = 2 * (j / 2) := by omega
          rw [ej, g.1] at hj
          cases hj
          rw [show a.add j = a.add (j / 2 * 2) by rw [show j / 2 * 2 = j by omega], h1, (each _ hil).1.1]
          simp [bts, sv]
        · have ej : j = 2 * (j / 2) + 1 := by omega
          rw [ej, g.2] at hj
          cases hj
          rw [show a.add j = a.add (j / 2 * 2 + 1) by rw [show j / 2 * 2 + 1 = j by omega], h2, (each _ hil).2.1]
          simp [bts, sv]
    · intro f hf
      obtain ⟨i, hi1, rfl⟩ := List.mem_map.1 hf
      have := hstr i (List.mem_range.1 hi1)
      exact ⟨by show (bts (V0 i)).length ≤ _; omega, by show (bts (V1 i)).length ≤ _; omega⟩
end
end Go.Proofs.Ytcjakeopbjokoaa.Tb
