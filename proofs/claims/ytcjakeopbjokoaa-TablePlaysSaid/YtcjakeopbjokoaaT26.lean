/- A list of acts that came in, opened, with how much of it there can be. -/
import Derived.Test.YtcjakeopbjokoaaT19
import Derived.Test.YtcjakeopbjokoaaT24
namespace Go.Proofs.Ytcjakeopbjokoaa.Tb
open Go.ChangeShapes Go.WideShapes Go.RowKit Go.Deep
set_option linter.unusedVariables false
theorem c46 : Try.prog.cellsOf 46 = 4 := by kernel_rfl
theorem c5 : Try.prog.cellsOf 5 = 1 := by kernel_rfl
theorem c3 : Try.prog.cellsOf 3 = 1 := by kernel_rfl
section
variable {H : Type} {enc : TypeId × Value → H} {w : World} {base : Nat} {spare : Nat → Bool} {held : Bool}
theorem field_open {fuel : Nat} {cs : List Value} {x : DataW H × List MemPlace} (h : DataW.trod enc Try.prog w base spare held fuel 23 cs = some x) : ∃ f : F, cs = [sv f.1, sv f.2] ∧ x.1 = .agg [.lit (.string f.1), .lit (.string f.2)] := by
  obtain ⟨y0, y1, n, hx, hl, h0, h1⟩ := trod_struct2 Try.underlying23 h
  obtain ⟨s, e1, e2, _⟩ := DataW.trod_string Try.underlying9 h0
  obtain ⟨s', e1', e2', _⟩ := DataW.trod_string Try.underlying9 h1
  rw [c23] at hl
  rw [c9] at e1 e1'
  match cs, hl with
  | [u, v], _ =>
    have h1 : u = .string s := by simpa using e1
    have h2 : v = .string s' := by simpa using e1'
    refine ⟨(s.data.toList, s'.data.toList), by rw [h1, h2]; simp [sv], by rw [hx, e2, e2']⟩
theorem act_open {fuel : Nat} {cs : List Value} {x : DataW H × List MemPlace} (h : DataW.trod enc Try.prog w base spare held fuel 46 cs = some x) (hw : ∀ n ∈ x.1.weights Try.prog 46, n ≤ reachBytes) :
    ∃ a : Ac, cs = acl a ∧ (0 ≤ a.k ∧ a.k ≤ 255) ∧ a.f.1.length ≤ reachBytes ∧ a.f.2.length ≤ reachBytes := by
  obtain ⟨xs, n, _, rfl, hl, hlen, hf⟩ := DataW.trod_struct Try.underlying46 h
  have hlen : xs.length = 3 := hlen
  rw [c46] at hl
  match xs, hlen with
  | [x0, x1, x2], _ =>
    have h0 : DataW.trod enc Try.prog w base spare held n 5 ((cs.drop 0).take (Try.prog.cellsOf 5)) = some x0 := hf 0 _ rfl
    have h1 : DataW.trod enc Try.prog w base spare held n 23 ((cs.drop 1).take (Try.prog.cellsOf 23)) = some x1 := hf 1 _ rfl
    have h2 : DataW.trod enc Try.prog w base spare held n 3 ((cs.drop 3).take (Try.prog.cellsOf 3)) = some x2 := hf 2 _ rfl
    rw [c5] at h0
    rw [c23] at h1
    rw [c3] at h2
    obtain ⟨z, e0, _, hz⟩ := DataW.trod_int Try.underlying5 h0
    obtain ⟨f, e1, hf1⟩ := field_open h1
    obtain ⟨m, e2, _, _⟩ := DataW.trod_int Try.underlying3 h2
    match cs, hl with
    | [u0, u1, u2, u3], _ =>
      have g0 : u0 = .int .u8 z := by simpa using e0
      have g1 : u1 = sv f.1 ∧ u2 = sv f.2 := by simpa using e1
      have g3 : u3 = .int .i64 m := by simpa using e2
      have hb := bounds_u8 hz
      have hw' : ∀ n ∈ DataW.weights Try.prog 23 (.agg [.lit (.string f.1), .lit (.string f.2)] : DataW H), n ≤ reachBytes := fun n hn => hw n (by
        simp only [DataW.weights, Try.underlying46]
        simp only [List.map_cons, List.map_nil, DataW.weightsEach, List.mem_append]
        refine .inr (.inl ?_)
        rw [hf1]; exact hn)
      refine ⟨⟨z, f, m⟩, by rw [g0, g1.1, g1.2, g3]; rfl, ⟨hb.1, hb.2⟩, ?_, ?_⟩
      · exact hw' _ (by simp [DataW.weights, Try.underlying23, DataW.weightsEach])
      · exact hw' _ (by simp [DataW.weights, Try.underlying23, DataW.weightsEach])
end
section
variable {H : Type} {enc : TypeId × Value → H} {w : World}
theorem acts_open {a0' : Option Addr} {len cap : Nat} {d : DataW H} {p : List MemPlace} (h : DataW.Trod enc Try.prog w 0 (fun _ => true) true 44 (.slice a0' len cap) d p) (hw : ∀ n ∈ d.weights Try.prog 44, n ≤ reachBytes) :
    ∃ l : List Ac, l.length = len ∧ RAc w a0' l ∧ l.length ≤ 4398046511000 ∧ ∀ a ∈ l, (0 ≤ a.k ∧ a.k ≤ 255) ∧ a.f.1.length ≤ 1125899906842624 ∧ a.f.2.length ≤ 1125899906842624 := by
  have b46 : Try.prog.bytesOf 46 = 48 := by kernel_rfl
  obtain ⟨fuel, hf⟩ := h
  rcases open_slice Try.underlying44 hf with ⟨hcs, _⟩ | ⟨ad, l, c, m, n, D, Pl, hcs, _, _, _, hm, hx, hi⟩
  · simp [Value.cells] at hcs
    obtain ⟨rfl, rfl, rfl⟩ := hcs
    exact ⟨[], rfl, .inl rfl, by decide, by simp⟩
  · simp [Value.cells] at hcs
    obtain ⟨rfl, rfl, rfl⟩ := hcs
    simp only [Prod.mk.injEq] at hx
    obtain ⟨rfl, _⟩ := hx
    have hlm : len ≤ m := by
      rw [hm]
      split <;> omega
    have hsz : (len + (m - len)) * 48 ≤ reachBytes := by
      refine hw _ ?_
      simp [DataW.weights, Try.underlying44, b46]
    have each : ∀ i, i < len → ∃ a : Ac, (∀ j, j < 4 → w.cell? ((ad.add (i * 4)).add j) = (acl a)[j]?) ∧ (0 ≤ a.k ∧ a.k ≤ 255) ∧ a.f.1.length ≤ reachBytes ∧ a.f.2.length ≤ reachBytes := by
      intro i hil
      obtain ⟨cs, h1, h2⟩ := hi i (by omega)
      obtain ⟨_, h3, h4⟩ := World.cells?_some h1
      rw [c46] at h4
      have hmem : D i ∈ (List.range len).map D := List.mem_map.2 ⟨i, List.mem_range.2 hil, rfl⟩
      obtain ⟨a, ha, hk, hl1, hl2⟩ := act_open h2 (fun n hn => hw n (by
        have := weights_all hmem hn
        simp only [DataW.weights, Try.underlying44, List.mem_cons, List.mem_append]
        exact .inr (.inl this)))
      exact ⟨a, fun j hj => by rw [← ha]; exact h4 j hj, hk, hl1, hl2⟩
    have each' : ∀ i, ∃ a : Ac, i < len → (∀ j, j < 4 → w.cell? ((ad.add (i * 4)).add j) = (acl a)[j]?) ∧ (0 ≤ a.k ∧ a.k ≤ 255) ∧ a.f.1.length ≤ reachBytes ∧ a.f.2.length ≤ reachBytes := by
      intro i
      by_cases hil : i < len
      · obtain ⟨a, ha⟩ := each i hil
        exact ⟨a, fun _ => ha⟩
      · exact ⟨a0, fun h => absurd h hil⟩
    have hrb : reachBytes = 140737488351232 := rfl
    have hget : ∀ k, k < len → ((List.range len).map fun i => Classical.choose (each' i)).getD k a0 = Classical.choose (each' k) := fun k hk => by
      rw [List.getD_eq_getElem?_getD, List.getElem?_map, List.getElem?_range hk]; rfl
    refine ⟨(List.range len).map fun i => Classical.choose (each' i), by simp, ?_, by simp; omega, ?_⟩
    · by_cases h0 : len = 0
      · left; subst h0; rfl
      · right
        have hz : w.cell? (ad.add 0) = some (.int .u8 (Classical.choose (each' 0)).k) := (Classical.choose_spec (each' 0) (by omega)).1 0 (by decide)
        have hs := Go.Proofs.Ytcjakeopbjokoaa.Open.spot_none hz
        refine ⟨ad.block, ad.off, by rw [← hs], fun k hk j v hj => ?_⟩
        have hk : k < len := by simpa using hk
        rw [hget k hk] at hj
        have hj4 : j < 4 := (List.getElem?_eq_some_iff.1 hj).1
        have h2 := (Classical.choose_spec (each' k) hk).1 j hj4
        rw [hj, Addr.add_add] at h2
        have e : (⟨ad.block, ad.off + k * 4 + j, none⟩ : Addr) = ad.add (k * 4 + j) := by rw [Nat.add_assoc, ← Go.Proofs.Ytcjakeopbjokoaa.Open.add_at, ← hs]
        rw [e]; exact h2
    · intro a ha
      obtain ⟨i, hi1, rfl⟩ := List.mem_map.1 ha
      have := (Classical.choose_spec (each' i) (List.mem_range.1 hi1)).2
      exact ⟨this.1, by omega, by omega⟩
end
end Go.Proofs.Ytcjakeopbjokoaa.Tb
