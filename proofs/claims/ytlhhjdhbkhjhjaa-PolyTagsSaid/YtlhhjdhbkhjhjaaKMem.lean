/- Memory for the walks: arrays of integers in blocks of the call's own, stores as events, whole arrays loaded and stored. Words of this seat's proofs; no statement. -/
import Derived.Test.YtlhhjdhbkhjhjaaWWords
import Derived.Laws.Rows
import Derived.Below
import Derived.Deep.MidRow
namespace Go.Proofs.Ytlhhjdhbkhjhjaa.Mem
open Go.RowKit Go.Proofs.YtlhhjdhbkhjhjaaW.PrintWords

/-- A fact that the walk's simp doesn't look into. -/
structure Hide (p : Prop) : Prop where mk :: (out : p)

/-- The cells of an array of integers. -/
def ia (k : IntKind) (l : List Int) : Array Value := (l.map (Value.int k)).toArray
theorem ia_size (k : IntKind) (l : List Int) : (ia k l).size = l.length := by simp [ia]
theorem ia_get (k : IntKind) (l : List Int) (i : Nat) (h : i < l.length) : (ia k l)[i]? = some (.int k (l.getD i 0)) := by
  simp [ia, h]
theorem ia_set (k : IntKind) (l : List Int) (i : Nat) (x : Int) : (ia k l).setIfInBounds i (.int k x) = ia k (l.set i x) := by
  simp [ia, List.map_set]
theorem ia_one (k : IntKind) (l : List Int) : ∀ v ∈ l.map (Value.int k), v.oneCell' = true := by
  intro v hv
  obtain ⟨x, _, rfl⟩ := List.mem_map.1 hv
  rfl

theorem drawn_heap {w w1 : World} (h : Drawn0 w w1) : w1.heap = w.heap := by obtain ⟨⟨n, rfl⟩⟩ := h; rfl
theorem blk_of_drew {w w1 : World} {g : Nat} {o : Obj} (e : w1 = w.drew) (h : w.heap[g]? = some o) : w1.heap[g]? = some o := by subst e; exact h
theorem below_of_drew {w0 w w1 : World} {B : Nat} (e : w1 = w.drew) (h : Below B w0 w) : Below B w0 w1 := by subst e; exact below_drew h
theorem cell_of_drew {w w1 : World} {a : Addr} {v : Value} (e : w1 = w.drew) (h : w.cell? a = some v) : w1.cell? a = some v := by subst e; exact h
theorem blk_of_heap {w w1 : World} {g : Nat} {o : Obj} (e : w1.heap = w.heap) (h : w.heap[g]? = some o) : w1.heap[g]? = some o := by rw [e]; exact h
/-- Only block g may have changed. -/
structure Only (g : Nat) (w w1 : World) : Prop where
  os : w1.os = w.os
  tape : w1.tape = w.tape
  output : w1.output = w.output
  size : w1.heap.size = w.heap.size
  other : ∀ i, i ≠ g → w1.heap[i]? = w.heap[i]?

section
variable {g B : Nat} {w0 w w1 : World}
theorem Only.below (h : Only g w w1) (hb : Below B w0 w) (hg : B ≤ g) : Below B w0 w1 :=
  ⟨h.os.trans hb.os, h.tape.trans hb.tape, h.output.trans hb.output, by rw [h.size]; exact hb.size, fun k hk => (h.other k (by omega)).trans (hb.block k hk)⟩
theorem Only.blk (h : Only g w w1) {i : Nat} {o : Obj} (hi : w.heap[i]? = some o) (hne : i ≠ g) : w1.heap[i]? = some o := (h.other i hne).trans hi
theorem Only.own (h : Only g w w1) {base : Nat} {e : TypeId} {size n : Nat} {v : Value} {xs : List Value} (ho : w.ownsRow base e size v n xs) (hne : v.ownBlock ≠ some g) : w1.ownsRow base e size v n xs :=
  own_move ho fun k hk => h.other k (fun e => hne (by rw [hk, e]))
theorem Only.cell (h : Only g w w1) {a : Addr} {v : Value} (hc : w.cell? a = some v) (hne : a.block ≠ g) : w1.cell? a = some v := by
  unfold World.cell? at hc ⊢
  rw [h.other _ hne]; exact hc
theorem Only.setCell (w : World) (g i : Nat) (v : Value) : Only g w (w.setCell ⟨g, i, none⟩ v) :=
  ⟨rfl, rfl, rfl, by simp, fun k hk => Below.heap_setCell w ⟨g, i, none⟩ v k hk⟩
theorem Only.setCells (w : World) (g o : Nat) (vs : List Value) : Only g w (w.setCells g o vs) :=
  have h := setCells_same g vs o w
  ⟨h.1, h.2.1, h.2.2.1, h.2.2.2, fun k hk => setCells_far vs o k hk⟩
theorem reads_only (h : Only g w w1) {k : IntKind} {A : Option Addr} {n : Nat} {xs : List Int} (hr : ReadsInt w k A n xs) (hne : ∀ ad, A = some ad → ad.block ≠ g) : ReadsInt w1 k A n xs :=
  ⟨hr.1, hr.2.1, fun hp => by
    obtain ⟨ad, e, hc⟩ := hr.2.2 hp
    exact ⟨ad, e, fun j hj => h.cell (hc j hj) (by rw [add_block]; exact hne ad e)⟩⟩
theorem below_blk (hb : Below w.heap.size w w1) {i : Nat} {o : Obj} (hi : w.heap[i]? = some o) : w1.heap[i]? = some o := blk_below hi hb
end

theorem reads_of_blk {w : World} {g : Nat} {k : IntKind} {l : List Int} {t : TypeId} (h : w.heap[g]? = some (.cells (ia k l) t (0, 0))) (hl : l.length ≤ 9223372036854775807) : ReadsInt w k (some ⟨g, 0, none⟩) l.length l :=
  ⟨rfl, hl, fun _ => ⟨_, rfl, fun j hj => by rw [add_plain, blk_cell h, ia_get k l j hj]⟩⟩
section
variable {P : Program} {ops : Array Oper} {rest : List Oper} {o : Oper} {a : Act} {Q : Exit → Act → World → Prop} {w : World}
/-- A store of one cell. -/
theorem store_cell (hgd : o.guard = none) (hd : o.dst = none) (ty : TypeId) (x y : Operand) (ho : o.op = .store ty x y) (g i : Nat) (hx : a.eval x = .pointer (some ⟨g, i, none⟩)) (v : Value) (hy : a.eval y = v) (hv : v.cells = #[v]) (hv1 : v.oneCell' = true)
    (hi : (P.info? ty).map (·.size) = some 1) (cur : Array Value) (e : TypeId) (hb : w.heap[g]? = some (.cells cur e (0, 0))) (hlt : i < cur.size)
    (h : ∀ w1, w1.heap[g]? = some (.cells (cur.setIfInBounds i v) e (0, 0)) → Only g w w1 → wpList P ops Q rest a w1) : wpList P ops Q (o :: rest) a w := by
  have hr := run_store_run (P := P) (w := w) (g := g) (o := i) ty v [v] hb (by rw [hv]) (by simpa using hi) (by simp; omega) (by simpa using hv1)
  refine wpList_plain hgd fun K hK => ?_
  unfold Oper.wp execOp
  simp only [ho, hx, hy, Sem.run_bind, hr, Result.andThen_ok, Sem.run_pure]
  rw [Oper.upon_skip, hd]
  exact hK _ _ (h _ (blk_set hb i v) (Only.setCell w g i v))
/-- A store of a whole array. -/
theorem store_row (hgd : o.guard = none) (hd : o.dst = none) (ty : TypeId) (x y : Operand) (ho : o.op = .store ty x y) (g : Nat) (hx : a.eval x = .pointer (some ⟨g, 0, none⟩)) (cs : Array Value) (hy : a.eval y = .agg cs) (h1 : ∀ v ∈ cs.toList, v.oneCell' = true)
    (hi : (P.info? ty).map (·.size) = some cs.size) (cur : Array Value) (e : TypeId) (hb : w.heap[g]? = some (.cells cur e (0, 0))) (hs : cs.size = cur.size)
    (h : ∀ w1, w1.heap[g]? = some (.cells cs e (0, 0)) → Only g w w1 → wpList P ops Q rest a w1) : wpList P ops Q (o :: rest) a w := by
  have hr := run_store_run (P := P) (w := w) (g := g) (o := 0) ty (.agg cs) cs.toList hb (by simp [Value.cells]) (by simpa using hi) (by simp; omega) h1
  refine wpList_plain hgd fun K hK => ?_
  unfold Oper.wp execOp
  simp only [ho, hx, hy, Sem.run_bind, hr, Result.andThen_ok, Sem.run_pure]
  rw [Oper.upon_skip, hd]
  refine hK _ _ (h _ ?_ (Only.setCells w g 0 _))
  obtain ⟨cur', h2, h3, h4⟩ := setCells_row (g := g) (e := e) cs.toList 0 w cur hb (by simp; omega)
  have e1 : cur' = cs := by
    apply Array.toList_inj.1
    rw [h4]
    simp [hs]
  rw [h2, e1]
end
end Go.Proofs.Ytlhhjdhbkhjhjaa.Mem
