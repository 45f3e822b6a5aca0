/- A slice of bytes that came in, opened. Words of this seat's proofs; no statement. -/
import Derived.Test.YtlhhjdhbkhjhjaaKOpen
import Derived.Test.YtlhhjdhbkhjhjaaWWords
namespace Go.Proofs.Ytlhhjdhbkhjhjaa.Open
open Go.ChangeShapes Go.WideShapes Go.RowKit Go.Deep Go.Proofs.YtlhhjdhbkhjhjaaW.PrintWords
section
variable {H : Type} {enc : TypeId × Value → H} {P : Program} {w : World} {base : Nat} {spare : Nat → Bool} {held : Bool}
theorem bytes_open {t e : TypeId} {a0 : Option Addr} {len cap : Nat} {d : DataW H} {p : List MemPlace} (ht : P.underlying t = some (.slice e)) (he : P.underlying e = some (.int .u8)) (ce : P.cellsOf e = 1)
    (h : DataW.Trod enc P w base spare held t (.slice a0 len cap) d p) : ∃ xs : List Int, xs.length = len ∧ len ≤ cap ∧ ReadsInt w .u8 a0 len xs ∧ ∀ x ∈ xs, 0 ≤ x ∧ x ≤ 255 := by
  obtain ⟨fuel, hf⟩ := h
  rcases slice_cells ht (by simpa [Value.cells] using hf) with ⟨rfl, rfl, rfl⟩ | ⟨ad, rfl, _, hl, hc, hx⟩
  · exact ⟨[], rfl, Nat.le_refl _, ⟨rfl, by decide, fun h => absurd h (Nat.lt_irrefl 0)⟩, fun x hx => by cases hx⟩
  · have each : ∀ i, i < len → ∃ z : Int, w.cell? (ad.add i) = some (.int .u8 z) ∧ 0 ≤ z ∧ z ≤ 255 := by
      intro i hi
      obtain ⟨cs, n, y, h1, h2, h3⟩ := hx i hi
      rw [ce] at h1 h2
      obtain ⟨z, rfl, _, hw⟩ := DataW.trod_int he h3
      have h4 := h2 0 (by decide)
      have hb := bounds_u8 hw
      rw [Addr.add_add, show i * 1 + 0 = i by omega] at h4
      exact ⟨z, h4, hb.1, hb.2⟩
    refine ⟨(List.range len).map fun i => (match w.cell? (ad.add i) with | some (.int _ z) => z | _ => 0 : Int), by simp, hl, ⟨by simp, by simp only [maxLen] at hc; omega, fun _ => ⟨ad, rfl, fun j hj => ?_⟩⟩, ?_⟩
    · obtain ⟨z, hz, _⟩ := each j hj
      rw [List.getD_eq_getElem?_getD, List.getElem?_map, List.getElem?_range hj]
      simp only [Option.map_some, Option.getD_some, hz]
    · intro x hx
      obtain ⟨i, hi, rfl⟩ := List.mem_map.1 hx
      obtain ⟨z, hz, h1, h2⟩ := each i (List.mem_range.1 hi)
      rw [hz]; exact ⟨h1, h2⟩
end
end Go.Proofs.Ytlhhjdhbkhjhjaa.Open
