/- TableLast: the table and what came, in memory and in plain words. -/
import Derived.Test.YtcjakeopbjokoaaT9
namespace Go.Proofs.Ytcjakeopbjokoaa.Tb
open Go.RowKit Go.Proofs.YtcjakeopbjokoaaW.PrintWords Go.Proofs.YtcjakeopbjokoaaW.PrintLast Go.Proofs.YtcjakeopbjokoaaW.PrintMore Mem
set_option linter.unusedVariables false
set_option linter.unusedSimpArgs false
/-- One field out of a list of fields in memory. -/
theorem rf_at {w : World} {a : Option Addr} {l : List F} (h : RF w a l) (k : Nat) (hk : k < l.length) : ∃ b o, a = some ⟨b, o, none⟩ ∧ b < w.heap.size ∧ w.rangeAt b (o + k * 2) [sv (l.getD k ([], [])).1, sv (l.getD k ([], [])).2] := by
  rcases h with rfl | ⟨b, o, rfl, hr⟩
  · cases hk
  · have h1 := range_one hr k hk
    exact ⟨b, o, rfl, World.block_lt_of_cell? w _ (h1 0 _ rfl), h1⟩
theorem getD_mem {l : List F} {k : Nat} (hk : k < l.length) : l.getD k ([], []) ∈ l := by
  rw [List.getD_eq_getElem?_getD, List.getElem?_eq_getElem hk]
  exact List.getElem_mem hk
theorem neStep {o : Oper} {a : Act} {x y : Operand} {f g : F} {w : World} (ho : o.op = .binOp .neq 23 x y 23) (hx : a.eval x = .agg (fa [f])) (hy : a.eval y = .agg #[sv g.1, sv g.2]) : (execOp a.eval o).run Try.prog w = .ok (.value (.bool (!decide (f = g)))) w := by
  unfold execOp
  simp only [ho, hx, hy, Sem.run_bind, run_neq_struct, eqF2 9996, Result.andThen_ok, Sem.run_pure]
  go_simp
/-- The table's block and row, and the row of what came, in memory. -/
structure Mm (w wr : World) (g : Nat) (v vc : Value) (t : TS) (c : List F) : Prop where
  tab : Tab wr w.heap.size g v t
  row : LS wr w.heap.size vc c
  ne1 : vc.ownBlock ≠ some g
  ne2 : ∀ k, vc.ownBlock = some k → v.ownBlock ≠ some k
  low : Below w.heap.size w wr
theorem Mm.lt {w wr : World} {g : Nat} {v vc : Value} {t : TS} {c : List F} (h : Mm w wr g v vc t c) : ∀ k, (k = g ∨ v.ownBlock = some k ∨ vc.ownBlock = some k) → k < wr.heap.size := by
  rintro k (rfl | hk | hk)
  · exact h.tab.lt
  · exact (h.tab.row.lt k hk).2
  · exact (h.row.lt k hk).2
theorem Mm.below {w wr wn : World} {g : Nat} {v vc : Value} {t : TS} {c : List F} (h : Mm w wr g v vc t c) (hb : Below wr.heap.size wr wn) : Mm w wn g v vc t c :=
  ⟨h.tab.below hb, h.row.kept fun k hk => hb.block _ (h.row.lt k hk).2, h.ne1, h.ne2, below_step h.low hb⟩
theorem Mm.drew {w wr wn : World} {g : Nat} {v vc : Value} {t : TS} {c : List F} (h : Mm w wr g v vc t c) (e : wn = wr.drew) : Mm w wn g v vc t c := h.below (below_of_drew e (Below.refl _ _))
theorem Mm.only {w wr wn : World} {g q : Nat} {v vc : Value} {t : TS} {c : List F} (h : Mm w wr g v vc t c) (ho : Only q wr wn) (hq : w.heap.size ≤ q) (hn : ∀ k, (k = g ∨ v.ownBlock = some k ∨ vc.ownBlock = some k) → k ≠ q) : Mm w wn g v vc t c :=
  ⟨h.tab.kept fun k hk => ho.other k (hn k (by rcases hk with hk | hk; exact .inl hk; exact .inr (.inl hk))), h.row.kept fun k hk => ho.other k (hn k (.inr (.inr hk))), h.ne1, h.ne2, ho.below h.low hq⟩
theorem Mm.upd {w wr wn : World} {g : Nat} {v v1 vc : Value} {t t1 : TS} {c : List F} (h : Mm w wr g v vc t c) (hT : Tab wn w.heap.size g v1 t1) (hU : Upd g v wr wn) (hv : v1.ownBlock = v.ownBlock ∨ ∃ b, v1.ownBlock = some b ∧ wr.heap.size ≤ b) : Mm w wn g v1 vc t1 c := by
  refine ⟨hT, h.row.kept fun k hk => hU.block k (h.row.lt k hk).2 (fun e => h.ne1 (by rw [hk, e])) (fun e => h.ne2 k hk e.symm), h.ne1, fun k hk e => ?_, hU.below h.low h.tab.low (fun k hk => (h.tab.row.lt k hk).1) h.low.size⟩
  rcases hv with hv | ⟨b, hv, hb⟩
  · exact h.ne2 k hk (hv ▸ e)
  · rw [hv] at e; cases e
    have := (h.row.lt _ hk).2
    omega
theorem Mm.grow {w wr wn : World} {g : Nat} {v vc vd : Value} {t : TS} {c d : List F} (h : Mm w wr g v vc t c) (hr : LS wn w.heap.size vd d) (hg : wr.grownBy wn vc.ownBlock) (hv : vd.ownBlock = vc.ownBlock ∨ ∃ b, vd.ownBlock = some b ∧ wr.heap.size ≤ b) : Mm w wn g v vd t d := by
  refine ⟨h.tab.kept fun k hk => ?_, hr, fun e => ?_, fun k hk e => ?_, (Upd.of_grown (g := g) hg).below h.low h.tab.low (fun k hk => (h.row.lt k hk).1) h.low.size⟩
  · rcases hk with rfl | hk
    · exact hg.block _ h.tab.lt (fun e => h.ne1 e.symm)
    · exact hg.block _ (h.tab.row.lt k hk).2 (fun e => h.ne2 k e.symm hk)
  · rcases hv with hv | ⟨b, hv, hb⟩
    · exact h.ne1 (hv ▸ e)
    · rw [hv] at e; cases e
      have := h.tab.lt; omega
  · rcases hv with hv | ⟨b, hv, hb⟩
    · exact h.ne2 k (hv ▸ hk) e
    · rw [hv] at hk; cases hk
      have := (h.tab.row.lt _ e).2; omega
/-- What is there are the last of those that came. -/
structure Rl (t : TS) (m : Int) (c : List F) : Prop where
  ok : TOk t
  room : t.room = m
  cl : t.gone + (t.l.length : Int) = (c.length : Int)
  tl : t.l = c.drop t.gone.toNat
  sz : t.size ≤ m
theorem Rl.add {t : TS} {m : Int} {c : List F} (h : Rl t m c) (f : F) (hf : fsz f ≤ m) (hc : c.length + 1 ≤ 4611686018427387904) : Rl (addT t f) m (c ++ [f]) := by
  have hcl := h.cl
  have hno : ¬ t.room < fsz f := by rw [h.room]; omega
  obtain ⟨h1, h2⟩ := addT_ok h.ok f (by omega)
  obtain ⟨k1, k2, k3, k, k4, k5, k6⟩ := fitsT_spec h.ok (fsz f) (by omega) (by have := fsz_pos f; omega)
  have e1 : (addT t f).l = t.l.drop k ++ [f] := by rw [addT, if_neg hno]; show (fitsT t (fsz f)).l ++ [f] = _; rw [k5]
  have e2 : (addT t f).gone = t.gone + k := by rw [addT, if_neg hno]; exact k6
  have hg := h.ok.gone0
  refine ⟨h1, h2.trans h.room, ?_, ?_, by rw [addT, if_neg hno, ← h.room]; exact k3⟩
  · rw [e1, e2]; simp; omega
  · rw [e1, e2, show (t.gone + (k : Int)).toNat = t.gone.toNat + k by omega, h.tl, List.drop_drop, List.drop_append_of_le_length (by omega)]
theorem Rl.get {t : TS} {m : Int} {c : List F} (h : Rl t m c) (j : Nat) (hj : j < c.length) : GetV t (j : Int) = if t.gone ≤ (j : Int) then .tuple #[fv (c.getD j ([], [])), .int .i64 0] else .tuple #[fv ([], []), .int .i64 10] := by
  have hcl := h.cl
  have hg := h.ok.gone0
  by_cases h1 : t.gone ≤ (j : Int)
  · rw [GetV, if_pos ⟨h1, by omega⟩, if_pos h1, h.tl]
    have : ((j : Int) - t.gone).toNat = j - t.gone.toNat := by omega
    rw [this, List.getD_eq_getElem?_getD, List.getElem?_drop, List.getD_eq_getElem?_getD, show t.gone.toNat + (j - t.gone.toNat) = j by omega]
  · rw [GetV, if_neg (fun h => h1 h.1), if_neg h1]
theorem tot_take_lo (c : List F) (i n : Nat) (h : i < n) : tot ((c.take (i + 1)).drop n) = 0 := by
  rw [List.drop_eq_nil_of_le (by rw [List.length_take]; omega)]; rfl
theorem tot_take_lo' (c : List F) (i n : Nat) (h : i ≤ n) : tot ((c.take i).drop n) = 0 := by
  rw [List.drop_eq_nil_of_le (by rw [List.length_take]; omega)]; rfl
theorem tot_take_hi (c : List F) (i n : Nat) (h : n ≤ i) (hi : i < c.length) : tot ((c.take (i + 1)).drop n) = tot ((c.take i).drop n) + fsz (c.getD i ([], [])) := by
  rw [List.take_add_one, List.getElem?_eq_getElem hi, List.drop_append_of_le_length (by rw [List.length_take]; omega)]
  show tot ((c.take i).drop n ++ [c[i]]) = _
  rw [tot_snoc, List.getD_eq_getElem?_getD, List.getElem?_eq_getElem hi]; rfl
theorem tot_app (a b : List F) : tot (a ++ b) = tot a + tot b := by
  induction a with
  | nil => show tot b = 0 + tot b; omega
  | cons x a ih => show fsz x + tot (a ++ b) = fsz x + tot a + tot b; omega
theorem tot_take_le (c : List F) (i n : Nat) : tot ((c.take i).drop n) ≤ tot (c.drop n) := by
  rw [List.drop_take]
  have h := tot_app ((c.drop n).take (i - n)) ((c.drop n).drop (i - n))
  rw [List.take_append_drop] at h
  have := tot_nonneg ((c.drop n).drop (i - n))
  omega
end Go.Proofs.Ytcjakeopbjokoaa.Tb
