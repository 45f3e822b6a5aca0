/- TablePlays: both tables in memory; the acts. -/
import Derived.Test.YtcjakeopbjokoaaT23
namespace Go.Proofs.Ytcjakeopbjokoaa.Tb
open Go.RowKit Go.Proofs.YtcjakeopbjokoaaW.PrintWords Go.Proofs.YtcjakeopbjokoaaW.PrintLast Go.Proofs.YtcjakeopbjokoaaW.PrintMore Mem
set_option linter.unusedVariables false
set_option linter.unusedSimpArgs false
/-- An act: its kind, its field, its number. -/
structure Ac where
  k : Int
  f : F
  n : Int
def acl (a : Ac) : List Value := [.int .u8 a.k, sv a.f.1, sv a.f.2, .int .i64 a.n]
def a0 : Ac := ⟨0, ([], []), 0⟩
def RAc (w : World) (a : Option Addr) (l : List Ac) : Prop := l = [] ∨ ∃ b o, a = some ⟨b, o, none⟩ ∧ ∀ k, k < l.length → w.rangeAt b (o + k * 4) (acl (l.getD k a0))
theorem rac_at {w : World} {a : Option Addr} {l : List Ac} (h : RAc w a l) (k : Nat) (hk : k < l.length) : ∃ b o, a = some ⟨b, o, none⟩ ∧ b < w.heap.size ∧ w.rangeAt b (o + k * 4) (acl (l.getD k a0)) := by
  rcases h with rfl | ⟨b, o, rfl, hr⟩
  · cases hk
  · exact ⟨b, o, rfl, World.block_lt_of_cell? w _ (hr k hk 0 _ rfl), hr k hk⟩
theorem acl_one (a : Ac) : ∀ v ∈ (acl a).toArray.toList, v.oneCell' = true := by
  intro v hv
  simp only [acl, List.mem_cons, List.not_mem_nil, or_false] at hv
  rcases hv with rfl | rfl | rfl | rfl <;> rfl
theorem getD_memA {l : List Ac} {k : Nat} (hk : k < l.length) : l.getD k a0 ∈ l := by
  rw [List.getD_eq_getElem?_getD, List.getElem?_eq_getElem hk]
  exact List.getElem_mem hk
theorem getV_form (t : TS) (n : Int) : ∃ y e, GetV t n = .tuple #[fv y, .int .i64 e] := by
  unfold GetV
  split
  · exact ⟨_, _, rfl⟩
  · exact ⟨_, _, rfl⟩
theorem neStep2 {o : Oper} {a : Act} {x y : Operand} {f g : F} {w : World} (ho : o.op = .binOp .neq 23 x y 23) (hx : a.eval x = .agg (fa [f])) (hy : a.eval y = .agg (fa [g])) : (execOp a.eval o).run Try.prog w = .ok (.value (.bool (!decide (f = g)))) w := neStep ho hx hy
/-- Both tables, apart from one another. -/
structure Pt (w wr : World) (g gr : Nat) (v v2 : Value) (t t2 : TS) : Prop where
  tab : Tab wr w.heap.size g v t
  rtab : RTab wr w.heap.size gr v2 t2
  ne : g ≠ gr
  n1 : v.ownBlock ≠ some gr
  n2 : v2.ownBlock ≠ some g
  n3 : ∀ k, v.ownBlock = some k → v2.ownBlock ≠ some k
  low : Below w.heap.size w wr
section
variable {w wr wn : World} {g gr q : Nat} {v v1 v2 : Value} {t t1 t2 : TS}
theorem Pt.lt (h : Pt w wr g gr v v2 t t2) : ∀ k, (k = g ∨ k = gr ∨ v.ownBlock = some k ∨ v2.ownBlock = some k) → k < wr.heap.size := by
  rintro k (rfl | rfl | hk | hk)
  · exact h.tab.lt
  · exact h.rtab.lt
  · exact (h.tab.row.lt k hk).2
  · exact (h.rtab.row.lt k hk).2
theorem Pt.below (h : Pt w wr g gr v v2 t t2) (hb : Below wr.heap.size wr wn) : Pt w wn g gr v v2 t t2 := ⟨h.tab.below hb, h.rtab.below hb, h.ne, h.n1, h.n2, h.n3, below_step h.low hb⟩
theorem Pt.drew (h : Pt w wr g gr v v2 t t2) (e : wn = wr.drew) : Pt w wn g gr v v2 t t2 := h.below (below_of_drew e (Below.refl _ _))
theorem Pt.only (h : Pt w wr g gr v v2 t t2) (ho : Only q wr wn) (hq : w.heap.size ≤ q) (hn : ∀ k, (k = g ∨ k = gr ∨ v.ownBlock = some k ∨ v2.ownBlock = some k) → k ≠ q) : Pt w wn g gr v v2 t t2 :=
  ⟨h.tab.kept fun k hk => ho.other k (hn k (by rcases hk with hk | hk; exact .inl hk; exact .inr (.inr (.inl hk)))), h.rtab.kept fun k hk => ho.other k (hn k (by rcases hk with hk | hk; exact .inr (.inl hk); exact .inr (.inr (.inr hk)))), h.ne, h.n1, h.n2, h.n3, ho.below h.low hq⟩
theorem Pt.updA (h : Pt w wr g gr v v2 t t2) (hT : Tab wn w.heap.size g v1 t1) (hU : Upd g v wr wn) (hv : v1.ownBlock = v.ownBlock ∨ v1.ownBlock = none ∨ ∃ b, v1.ownBlock = some b ∧ wr.heap.size ≤ b) : Pt w wn g gr v1 v2 t1 t2 := by
  refine ⟨hT, h.rtab.kept fun k hk => ?_, h.ne, fun e => ?_, h.n2, fun k hk e => ?_, hU.below h.low h.tab.low (fun k hk => (h.tab.row.lt k hk).1) h.low.size⟩
  · rcases hk with rfl | hk
    · exact hU.block _ h.rtab.lt (Ne.symm h.ne) (fun e => h.n1 e.symm)
    · exact hU.block k (h.rtab.row.lt k hk).2 (fun e => h.n2 (by rw [hk, e])) (fun e => h.n3 k e.symm hk)
  · rcases hv with hv | hv | ⟨b, hv, hb⟩
    · exact h.n1 (hv ▸ e)
    · rw [hv] at e; cases e
    · rw [hv] at e; cases e
      have := h.rtab.lt; omega
  · rcases hv with hv | hv | ⟨b, hv, hb⟩
    · exact h.n3 k (hv ▸ hk) e
    · rw [hv] at hk; cases hk
    · rw [hv] at hk; cases hk
      have := (h.rtab.row.lt _ e).2; omega
theorem Pt.updB (h : Pt w wr g gr v v2 t t2) (hT : RTab wn w.heap.size gr v1 t1) (hU : Upd gr v2 wr wn) (hv : v1.ownBlock = v2.ownBlock ∨ v1.ownBlock = none ∨ ∃ b, v1.ownBlock = some b ∧ wr.heap.size ≤ b) : Pt w wn g gr v v1 t t1 := by
  refine ⟨h.tab.kept fun k hk => ?_, hT, h.ne, h.n1, fun e => ?_, fun k hk e => ?_, hU.below h.low h.rtab.low (fun k hk => (h.rtab.row.lt k hk).1) h.low.size⟩
  · rcases hk with rfl | hk
    · exact hU.block _ h.tab.lt h.ne (fun e => h.n2 e.symm)
    · exact hU.block k (h.tab.row.lt k hk).2 (fun e => h.n1 (by rw [hk, e])) (fun e => h.n3 k hk e.symm)
  · rcases hv with hv | hv | ⟨b, hv, hb⟩
    · exact h.n2 (hv ▸ e)
    · rw [hv] at e; cases e
    · rw [hv] at e; cases e
      have := h.tab.lt; omega
  · rcases hv with hv | hv | ⟨b, hv, hb⟩
    · exact h.n3 k hk (hv ▸ e)
    · rw [hv] at e; cases e
    · rw [hv] at e; cases e
      have := (h.tab.row.lt _ hk).2; omega
theorem range_upd {g2 b o : Nat} {cs : List Value} (h : wr.rangeAt b o cs) (hU : Upd g2 v wr wn) (hb : b < wr.heap.size) (h1 : b ≠ g2) (h2 : v.ownBlock ≠ some b) : wn.rangeAt b o cs := fun j u hj =>
  (World.cell?_of_block (a := ⟨b, o + j, none⟩) (hU.block b hb h1 (fun e => h2 e.symm))).trans (h j u hj)
end
theorem addT_cnt {t : TS} (h : TOk t) (f : F) (m : Int) (hm : t.gone + (t.l.length : Int) ≤ m) : (addT t f).gone + ((addT t f).l.length : Int) ≤ m + 1 := by
  by_cases hc : t.room < fsz f
  · rw [addT, if_pos hc]; omega
  · rw [addT, if_neg hc]
    have hp := fsz_pos f
    obtain ⟨h1, h2, h3, k, h4, h5, h6⟩ := fitsT_spec h (fsz f) (by omega) (by omega)
    show (fitsT t (fsz f)).gone + (((fitsT t (fsz f)).l ++ [f]).length : Int) ≤ _
    rw [h5, h6, List.length_append, List.length_drop]
    simp
    omega
end Go.Proofs.Ytcjakeopbjokoaa.Tb
