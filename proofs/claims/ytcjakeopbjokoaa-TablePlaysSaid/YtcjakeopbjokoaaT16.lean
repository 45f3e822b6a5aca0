/- A field that came in, opened. -/
import Derived.Test.YtcjakeopbjokoaaT5
import Derived.Test.YtcjakeopbjokoaaKOpen
import Derived.ChangeSame
import Derived.ChangeMaps5
namespace Go.Proofs.Ytcjakeopbjokoaa.Tb
open Go.ChangeShapes Go.WideShapes Go.RowKit
section
variable {H : Type} {enc : TypeId × Value → H} {w : World} {base : Nat} {spare : Nat → Bool} {held : Bool}
theorem trod_str {t : TypeId} {fuel : Nat} {cs : List Value} {x : DataW H × List MemPlace} (ht : Try.prog.underlying t = some .string) (h : DataW.trod enc Try.prog w base spare held fuel t cs = some x) : ∃ l : List UInt8, cs = [sv l] ∧ l.length ≤ maxLen := by
  obtain ⟨s, h1, h2, h3⟩ := DataW.trod_string ht h
  refine ⟨s.data.toList, ?_, ?_⟩
  · subst h1; simp [sv]
  · rw [Array.length_toList]; exact h3
theorem trod_field {fuel : Nat} {cs : List Value} {x : DataW H × List MemPlace} (h : DataW.trod enc Try.prog w base spare held fuel 23 cs = some x) : ∃ f : F, cs = [sv f.1, sv f.2] ∧ f.1.length ≤ maxLen ∧ f.2.length ≤ maxLen := by
  obtain ⟨y0, y1, n, _, hl, h0, h1⟩ := trod_struct2 Try.underlying23 h
  obtain ⟨a, ha, ha2⟩ := trod_str Try.underlying9 h0
  obtain ⟨b, hb, hb2⟩ := trod_str Try.underlying9 h1
  have c9 : Try.prog.cellsOf 9 = 1 := by kernel_rfl
  have c23 : Try.prog.cellsOf 23 = 2 := by kernel_rfl
  rw [c23] at hl
  match cs, hl with
  | [u, v], _ =>
    have e1 : u = sv a := by simpa [c9] using ha
    have e2 : v = sv b := by simpa [c9] using hb
    exact ⟨(a, b), by rw [e1, e2], ha2, hb2⟩
end
end Go.Proofs.Ytcjakeopbjokoaa.Tb
