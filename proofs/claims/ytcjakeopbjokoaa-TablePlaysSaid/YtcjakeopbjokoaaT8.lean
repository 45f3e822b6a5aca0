/- A table's append; what Add makes, in plain words. -/
import Derived.Test.YtcjakeopbjokoaaT7
import Derived.Maps.AppendAt
import Derived.ArgAppend
namespace Go.Proofs.Ytcjakeopbjokoaa.Tb
open Go.RowKit Go.Proofs.YtcjakeopbjokoaaW.PrintWords Go.Proofs.YtcjakeopbjokoaaW.PrintLast Go.Proofs.YtcjakeopbjokoaaW.PrintMore Mem
set_option linter.unusedVariables false
set_option linter.unusedSimpArgs false
theorem fc_snoc (l : List F) (f : F) : fc (l ++ [f]) = fc l ++ [sv f.1, sv f.2] := by simp [fc]
theorem tot_snoc (l : List F) (f : F) : tot (l ++ [f]) = tot l + fsz f := by
  induction l with
  | nil => show fsz f + 0 = 0 + fsz f; omega
  | cons x l ih => show fsz x + tot (l ++ [f]) = fsz x + tot l + fsz f; omega
theorem ls_append {w : World} {base b3 : Nat} {v : Value} {l : List F} {ty : TypeId} (h : LS w base v l) (f : F) (hb : w.rangeAt b3 0 [sv f.1, sv f.2]) (hl : l.length ≤ 4398046511102) (hbase : base ≤ w.heap.size) :
    ∃ v' w', (Builtin.append_ #[31, 31] ty #[v, .slice (some ⟨b3, 0, none⟩) 1 1]).run Try.prog w = .ok v' w' ∧ LS w' base v' (l ++ [f]) ∧ w.grownBy w' v.ownBlock ∧ (v'.ownBlock = v.ownBlock ∨ ∃ b, v'.ownBlock = some b ∧ w.heap.size ≤ b) := by
  have hinfo : (Try.prog.info? 23).map (fun i => (i.zero, i.size, i.bytes)) = some (some (fv ([], [])), 2, 32) := by kernel_rfl
  obtain ⟨i, hi, hz⟩ := Option.map_eq_some_iff.1 hinfo
  simp only [Prod.mk.injEq] at hz
  obtain ⟨hz0, hz1, hz2⟩ := hz
  have hnews : ∀ j u, [sv f.1, sv f.2][j]? = some u → w.cell? ((⟨b3, 0, none⟩ : Addr).add j) = some u := fun j u hj => by rw [Addr.add_mid]; exact hb j u hj
  have h1 : ∀ u ∈ [sv f.1, sv f.2], u.oneCell' = true := by
    intro u hu
    simp only [List.mem_cons, List.not_mem_nil, or_false] at hu
    rcases hu with rfl | rfl <;> rfl
  have hlen : (l ++ [f]).length = l.length + 1 := by simp
  rcases h with ho | ⟨b, o, cur, rfl, hbb, hbk, hr⟩
  · obtain ⟨v', w', hr, hown, hg, _, hat⟩ := run_append_own_at (P := Try.prog) w base 31 ty 23 i (fv ([], [])) 2 32 Try.underlying31 hi hz0 hz1 hz2 rfl (by decide) v l.length (fc l) ho ⟨b3, 0, none⟩ 1 1 [sv f.1, sv f.2] rfl hnews h1 (by simp only [maxLen]; omega) (by omega) hbase
    refine ⟨v', w', hr, .inl ?_, hg, ?_⟩
    · rw [hlen, fc_snoc]; exact hown
    · rcases hat with hat | hat
      · exact .inl hat
      · exact .inr ⟨_, hat, Nat.le_refl _⟩
  · obtain ⟨v', w', hr, hown, hg⟩ := run_append_arg_grows (P := Try.prog) w 31 ty 23 i (fv ([], [])) 2 32 Try.underlying31 hi hz0 hz1 hz2 rfl (by decide) ⟨b, o, none⟩ l.length l.length (fc l) (by rw [fc_len]; omega) (fun j u hj => by rw [Addr.add_mid]; exact hr j u hj) ⟨b3, 0, none⟩ 1 1 [sv f.1, sv f.2] rfl hnews (by omega) (by simp only [maxLen]; omega) (by omega)
    refine ⟨v', w', hr, .inl ?_, ⟨hg.os, hg.tape, hg.output, hg.size, fun k hk _ => hg.block k hk (by simp)⟩, ?_⟩
    · rw [hlen, fc_snoc]; exact own_weaken hown hbase
    · obtain ⟨g', cap', he, hb', _⟩ := hown.form (by omega)
      exact .inr ⟨g', by rw [he]; rfl, hb'⟩
theorem fitsG_spec (room n : Int) (hn : n ≤ room) : ∀ (l : List F) (s g : Int), s = tot l → (fitsG room n s g l).room = room ∧ (fitsG room n s g l).size = tot (fitsG room n s g l).l ∧ (fitsG room n s g l).size + n ≤ room ∧ ∃ k, k ≤ l.length ∧ (fitsG room n s g l).l = l.drop k ∧ (fitsG room n s g l).gone = g + k ∧ tot (l.drop k) ≤ tot l
  | [], s, g, hs => ⟨rfl, hs, by have : s = 0 := hs; show s + n ≤ room; omega, 0, Nat.le_refl _, rfl, by show g = g + ((0 : Nat) : Int); omega, Int.le_refl _⟩
  | f :: l, s, g, hs => by
    have hs' : s = fsz f + tot l := hs
    by_cases h : room < s + n
    · have e : fitsG room n s g (f :: l) = fitsG room n (s - fsz f) (g + 1) l := if_pos h
      rw [e]
      obtain ⟨h1, h2, h3, k, h4, h5, h6, h7⟩ := fitsG_spec room n hn l (s - fsz f) (g + 1) (by omega)
      have hp := fsz_pos f
      exact ⟨h1, h2, h3, k + 1, by simpa using h4, by rw [h5]; rfl, by rw [h6]; push_cast; omega, by show tot (l.drop k) ≤ fsz f + tot l; omega⟩
    · have e : fitsG room n s g (f :: l) = ⟨room, s, g, f :: l⟩ := if_neg h
      rw [e]
      exact ⟨rfl, hs, by show s + n ≤ room; omega, 0, Nat.zero_le _, rfl, by show g = g + ((0 : Nat) : Int); omega, Int.le_refl _⟩
theorem fitsT_spec {t : TS} (h : TOk t) (n : Int) (hn : n ≤ t.room) (hn0 : 0 ≤ n) : TOk (fitsT t n) ∧ (fitsT t n).room = t.room ∧ (fitsT t n).size + n ≤ t.room ∧ ∃ k, k ≤ t.l.length ∧ (fitsT t n).l = t.l.drop k ∧ (fitsT t n).gone = t.gone + k := by
  obtain ⟨h1, h2, h3, k, h4, h5, h6, h7⟩ := fitsG_spec t.room n hn t.l t.size t.gone h.size
  refine ⟨⟨h2, ?_, ?_, ?_, ?_, ?_⟩, h1, h3, k, h4, h5, h6⟩
  · show tot (fitsG t.room n t.size t.gone t.l).l ≤ 4096
    rw [h5]; have := h.small; omega
  · show 0 ≤ (fitsG t.room n t.size t.gone t.l).room
    rw [h1]; exact h.room0
  · show (fitsG t.room n t.size t.gone t.l).room ≤ 4096
    rw [h1]; exact h.room1
  · show 0 ≤ (fitsG t.room n t.size t.gone t.l).gone
    rw [h6]; have := h.gone0; omega
  · show (fitsG t.room n t.size t.gone t.l).gone + ((fitsG t.room n t.size t.gone t.l).l.length : Int) ≤ _
    rw [h6, h5, List.length_drop]; have := h.gone1; omega
def addT (t : TS) (f : F) : TS := if t.room < fsz f then t else ⟨(fitsT t (fsz f)).room, (fitsT t (fsz f)).size + fsz f, (fitsT t (fsz f)).gone, (fitsT t (fsz f)).l ++ [f]⟩
def addC (t : TS) (f : F) : Int := if t.room < fsz f then 6 else 0
theorem addT_ok {t : TS} (h : TOk t) (f : F) (hg : t.gone + t.l.length + 1 ≤ 4611686018427387904) : TOk (addT t f) ∧ (addT t f).room = t.room := by
  by_cases hc : t.room < fsz f
  · rw [addT, if_pos hc]; exact ⟨h, rfl⟩
  · rw [addT, if_neg hc]
    have hp := fsz_pos f
    obtain ⟨h1, h2, h3, k, h4, h5, h6⟩ := fitsT_spec h (fsz f) (by omega) (by omega)
    refine ⟨⟨?_, ?_, h1.room0, h1.room1, h1.gone0, ?_⟩, h2⟩
    · show _ = tot (_ ++ [f])
      rw [tot_snoc, ← h1.size]
    · show tot (_ ++ [f]) ≤ 4096
      rw [tot_snoc, ← h1.size]; have := h.room1; omega
    · show (fitsT t (fsz f)).gone + (((fitsT t (fsz f)).l ++ [f]).length : Int) ≤ _
      rw [h6, h5, List.length_append, List.length_drop]; simp; omega
end Go.Proofs.Ytcjakeopbjokoaa.Tb
