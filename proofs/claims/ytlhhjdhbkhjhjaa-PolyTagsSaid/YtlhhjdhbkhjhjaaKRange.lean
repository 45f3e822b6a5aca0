/- A range over an iterator that writes cells of its own: one law. Words of this seat's proofs; no statement. -/
import Derived.RangeFuncStops
import Derived.RangeFuncOwn
import Derived.RangeFuncLeaves
import Derived.RangeFuncCalls
import Derived.ControlIn
import Derived.Below
import Derived.WalkKit
import Derived.OwnWalkIn
import Derived.TacticsInMore
import Derived.LoopNIn
import Derived.LoopIn
import Derived.Shelf.Abstract
namespace Go.Proofs.Ytlhhjdhbkhjhjaa.Rg
open Go.RowKit
set_option linter.unusedVariables false
/-- What a step keeps: every block below n but those named. -/
structure Keep (n : Nat) (ex : Nat → Prop) (W W' : World) : Prop where
  os : W'.os = W.os
  tape : W'.tape = W.tape
  output : W'.output = W.output
  size : W.heap.size ≤ W'.heap.size
  block : ∀ k, k < n → ¬ ex k → W'.heap[k]? = W.heap[k]?
theorem Keep.refl (n : Nat) (ex : Nat → Prop) (W : World) : Keep n ex W W := ⟨rfl, rfl, rfl, Nat.le_refl _, fun _ _ _ => rfl⟩
theorem Keep.trans {n : Nat} {ex : Nat → Prop} {A B C : World} (h : Keep n ex A B) (k : Keep n ex B C) : Keep n ex A C :=
  ⟨k.os.trans h.os, k.tape.trans h.tape, k.output.trans h.output, Nat.le_trans h.size k.size, fun i hi he => (k.block i hi he).trans (h.block i hi he)⟩
theorem Keep.weaken {n m : Nat} {ex fx : Nat → Prop} {A B : World} (h : Keep n ex A B) (hm : m ≤ n) (hx : ∀ k, k < m → ex k → fx k) : Keep m fx A B :=
  ⟨h.os, h.tape, h.output, h.size, fun i hi he => h.block i (by omega) (fun e => he (hx i hi e))⟩
theorem Keep.of_below {n : Nat} {ex : Nat → Prop} {A B : World} (h : Below A.heap.size A B) (hn : n ≤ A.heap.size) : Keep n ex A B :=
  ⟨h.os, h.tape, h.output, h.size, fun i hi _ => h.block i (by omega)⟩
theorem Keep.putObj (W : World) (l : Nat) (o : Obj) (n : Nat) {ex : Nat → Prop} (hl : n ≤ l ∨ ex l) : Keep n ex W (W.putObj l o) :=
  ⟨rfl, rfl, rfl, by simp, fun k hk he => World.putObj_heap_other (fun e => by
    rcases hl with hl | hl
    · omega
    · exact he (e ▸ hl))⟩
theorem Keep.setCell (W : World) (a : Addr) (v : Value) (n : Nat) {ex : Nat → Prop} (hl : n ≤ a.block ∨ ex a.block) : Keep n ex W (W.setCell a v) :=
  ⟨rfl, rfl, rfl, (KeepsWalks.setCell W a v).size, fun k hk he => Below.heap_setCell W a v k (fun e => by
    rcases hl with hl | hl
    · omega
    · exact he (e ▸ hl))⟩
theorem Keep.below {n : Nat} {ex : Nat → Prop} {A B C : World} {m : Nat} (h : Keep n ex B C) (hb : Below m A B) (hm : m ≤ n) (hx : ∀ k, ex k → m ≤ k) : Below m A C :=
  hb.trans ⟨h.os, h.tape, h.output, h.size, fun k hk => h.block k (by omega) (fun e => by have := hx k e; omega)⟩
/-- One call of yield with one value; the round goes on. -/
def Yld (P : Program) (l : Nat) (v : Value) (W : World) (R : World → Prop) : Prop :=
  YieldAt Fence.wide 9 P l #[v] W fun e W' => e = .returned (.bool true) ∧ R W'
theorem round_any {n m : Nat} {P : Program} {l f : Nat} {tmps : Array Value} {assign body : Code} {w : World} {R : Ending → World → Prop} (h : RoundIn Fence.wide n P l f tmps assign body w R) : RoundIn Fence.wide m P l f tmps assign body w R :=
  ⟨h.1, fun c cs _ => h.2 c cs (room_wide _)⟩
theorem round_in {n m l2 : Nat} {P : Program} {l f : Nat} {tmps : Array Value} {assign body : Code} {w : World} {R : Ending → World → Prop} (h : RoundIn Fence.wide n P l f tmps assign body w R) : RoundIn (Fence.wide.inRound l2) m P l f tmps assign body w R :=
  ⟨h.1, fun c cs _ => h.2 c cs (room_wide _)⟩
theorem call_in {m l2 : Nat} {P : Program} {f : Nat} {args : Array Value} {w : World} {R : Ending → World → Prop} (h : Calls P f args w R) : CallsIn (Fence.wide.inRound l2) m P f args w R :=
  CallsIn.inRound l2 (callsIn_wide.2 h)
theorem call_wide {m : Nat} {P : Program} {f : Nat} {args : Array Value} {w : World} {R : Ending → World → Prop} (h : Calls P f args w R) : CallsIn Fence.wide m P f args w R :=
  callsIn_wide.2 h
theorem range_w {α : Type} {P : Program} {g : Operand} {p q : Tmp} {assign body : Code} {Q : Exit → Act → World → Prop} {a : Act} {w : World} {gf : Nat} {lb : Array Value}
    (ex kp : Nat → Prop) (hex : ∀ k, ex k → k < w.heap.size) (hkp : ∀ k, kp k → k < w.heap.size)
    (hg : a.eval g = .func (.func gf) #[] lb) (eg : ∀ args w, (callFunc gf args).run P w = .ok (.enter gf args) w)
    (Arg : α → Value → World → Prop) (hArg : ∀ x v W l o, Arg x v W → (∃ r, W.heap[l]? = some (.loop r)) → Arg x v (W.putObj l o))
    (I : List α → World → Prop) (S : List α → Prop)
    (hI : ∀ pre W W', I pre W → w.heap.size ≤ W.heap.size → Keep w.heap.size ex W W' → I pre W') (h0 : I [] w)
    (hit : ∀ (l : Nat) (J : List α → World → Prop) (W : World), Below w.heap.size w W → w.heap.size ≤ l → l < W.heap.size →
      (∀ pre W1 W2, J pre W1 → Keep W.heap.size ex W1 W2 → J pre W2) →
      (∀ pre x v W1, J pre W1 → Arg x v W1 → Yld P l v W1 fun W' => J (pre ++ [x]) W' ∧ Keep W1.heap.size (fun k => k = l ∨ kp k) W1 W') →
      J [] W → Calls P gf (#[.func (.yield l) #[] #[]] ++ lb) W fun e W' => (∃ v, e = .returned v) ∧ ∃ xs, S xs ∧ J xs W')
    (hassign : ∀ (l : Nat) (v : Value) (W : World) (K : Act → World → Prop), K { tmps := (a.tmps.setIfInBounds p v).setIfInBounds q v, defers := [] } W → assign.wpIn (Fence.wide.inRound l) 9 P (Exit.then K (fun _ _ _ => False)) { tmps := a.tmps.setIfInBounds p v, defers := [] } W)
    (hbody : ∀ (l : Nat) (pre : List α) (x : α) (v : Value) (W : World), I pre W → Arg x v W → w.heap.size ≤ W.heap.size → body.wpIn (Fence.wide.inRound l) 9 P (fun e _ W' => e = .normal ∧ I (pre ++ [x]) W' ∧ Keep W.heap.size kp W W') { tmps := (a.tmps.setIfInBounds p v).setIfInBounds q v, defers := [] } W)
    (hdone : ∀ (D : Nat) (xs : List α) (W : World), w.heap.size ≤ D → S xs → I xs W → W.heap[D]? = some (.deferred (some [])) → Q .normal { a with defers := { target := .collected D, args := #[] } :: a.defers } W) :
    (Code.rangeFunc g #[p] assign body).wp P Q a w := by
  refine (wpIn_wide (n := 9)).1 (wpIn_rangeFunc fun fn hfn => ?_)
  obtain ⟨rec, hrec⟩ : ∃ rec : LoopState → Option Code → Loop, rec = fun st pe => { state := st, pending := pe, fn, tmps := a.tmps, params := #[p], assign, body, defers := w.heap.size } := ⟨_, rfl⟩
  obtain ⟨W1, hW1⟩ : ∃ W1, (w.alloc (.deferred (some []))).alloc (.loop (rec .ready none)) = W1 := ⟨_, rfl⟩
  have hs1 : W1.heap.size = w.heap.size + 2 := by rw [← hW1]; simp
  have hL1 : W1.heap[w.heap.size + 1]? = some (.loop (rec .ready none)) := by
    rw [← hW1]; have := World.alloc_heap_new (w.alloc (.deferred (some []))) (.loop (rec .ready none)); rwa [World.size_alloc] at this
  have hK1 : W1.heap[w.heap.size]? = some (.deferred (some [])) := by
    rw [← hW1]; exact (Below.heap_alloc _ _ _ (by simp)).trans (World.alloc_heap_new w _)
  have hb1 : Below w.heap.size w W1 := by
    rw [← hW1]; exact (((Below.refl _ w).alloc (Nat.le_refl _) _).alloc (by simp) _)
  have hnl : ∀ k, ex k ∨ kp k → k ≠ w.heap.size + 1 ∧ k ≠ w.heap.size := fun k hk => by
    have : k < w.heap.size := by rcases hk with hk | hk; exact hex k hk; exact hkp k hk
    omega
  refine ⟨w.heap.size + 1, [{ target := .collected w.heap.size, args := #[] }], W1, { target := .fn (.func gf) lb, args := #[.func (.yield (w.heap.size + 1)) #[] #[]] }, W1, gf,
    #[.func (.yield (w.heap.size + 1)) #[] #[]] ++ lb, W1, ?_, ?_, fun _ _ => trivial, ?_, fun _ => by decide, ?_⟩
  · rw [← hW1, hrec]; exact run_enterLoop_outer _ _ _ _ _
  · simp only [resolve, hg]
    simp [go_sem]
  · simp [invoke, go_sem, eg]
  · refine callsIn_wide.2 ((hit (w.heap.size + 1)
      (fun pre W => I pre W ∧ W.heap[w.heap.size + 1]? = some (.loop (rec .ready none)) ∧ W.heap[w.heap.size]? = some (.deferred (some [])))
      W1 hb1 (by omega) (by omega) ?_ ?_ ⟨hI _ _ _ h0 (Nat.le_refl _) (Keep.of_below hb1 (Nat.le_refl _)), hL1, hK1⟩).mono ?_)
    · rintro pre A B ⟨hi, hl, hk⟩ hkeep
      have hlt : w.heap.size + 1 < A.heap.size := (Array.getElem?_eq_some_iff.1 hl).1
      exact ⟨hI _ _ _ hi (by omega) (hkeep.weaken (by omega) (fun _ _ h => h)),
        (hkeep.block _ (by omega) (fun e => (hnl _ (.inl e)).1 rfl)).trans hl, (hkeep.block _ (by omega) (fun e => (hnl _ (.inl e)).2 rfl)).trans hk⟩
    · rintro pre x v W ⟨hi, hl, hk⟩ harg
      have hlt : w.heap.size + 1 < W.heap.size := (Array.getElem?_eq_some_iff.1 hl).1
      have hy := run_yield (P := P) (args := #[v]) hl (by rw [hrec]; rfl)
      rw [hrec] at hy
      refine ⟨fn, _, assign, body, hy, roundIn_of_wpIn hfn ?_⟩
      rw [show (#[p].zip #[v]).foldl (fun tmps (x : Tmp × Value) => tmps.setIfInBounds x.1 x.2) a.tmps = a.tmps.setIfInBounds p v from by simp]
      refine hassign _ v W _ ⟨_, run_beginRound hl (by rw [hrec]), ?_⟩
      obtain ⟨W2, hW2⟩ : ∃ W2, W.putObj (w.heap.size + 1) (.loop { rec .ready none with state := .busy }) = W2 := ⟨_, rfl⟩
      have hk12 : Keep w.heap.size ex W W2 := by rw [← hW2]; exact Keep.putObj _ _ _ _ (.inl (by omega))
      have hk12' : Keep W.heap.size (fun k => k = w.heap.size + 1 ∨ kp k) W W2 := by rw [← hW2]; exact Keep.putObj _ _ _ _ (.inr (.inl rfl))
      have hl2 : W2.heap[w.heap.size + 1]? = some (.loop { rec .ready none with state := .busy }) := by rw [← hW2]; exact World.putObj_heap_same hlt
      have hk2 : W2.heap[w.heap.size]? = some (.deferred (some [])) := by rw [← hW2]; exact (World.putObj_heap_other (by omega)).trans hk
      have harg2 : Arg x v W2 := by rw [← hW2]; exact hArg _ _ _ _ _ harg ⟨_, hl⟩
      rw [hW2]
      refine wpIn_mono (hbody _ pre x v W2 (hI _ _ _ hi (by omega) hk12) harg2 (Nat.le_trans (by omega) hk12.size)) ?_
      rintro e a3 W3 ⟨rfl, hi3, hkp3⟩
      have hs2 : W.heap.size ≤ W2.heap.size := hk12.size
      have hl3 : W3.heap[w.heap.size + 1]? = some (.loop { rec .ready none with state := .busy }) := (hkp3.block _ (by omega) (fun e => (hnl _ (.inr e)).1 rfl)).trans hl2
      have hk3 : W3.heap[w.heap.size]? = some (.deferred (some [])) := (hkp3.block _ (by omega) (fun e => (hnl _ (.inr e)).2 rfl)).trans hk2
      have hr := run_endRound (P := P) none hl3
      rw [hrec] at hr
      have hlt3 : w.heap.size + 1 < W3.heap.size := (Array.getElem?_eq_some_iff.1 hl3).1
      refine ⟨_, _, hr, rfl, ⟨hI _ _ _ hi3 (by omega) (Keep.putObj _ _ _ _ (.inl (by omega))), ?_, (World.putObj_heap_other (by omega)).trans hk3⟩, ?_⟩
      · rw [hrec]; exact World.putObj_heap_same hlt3
      · exact hk12'.trans ((hkp3.weaken hs2 (fun _ _ h => .inr h)).trans (Keep.putObj _ _ _ _ (.inr (.inl rfl))))
    · rintro e W2 ⟨⟨v, rfl⟩, xs, hS, hi, hl, hk⟩
      have hlt : w.heap.size + 1 < W2.heap.size := (Array.getElem?_eq_some_iff.1 hl).1
      exact ⟨none, _, by have := run_endLoop (P := P) hl (by rw [hrec]; simp); rw [hrec] at this; exact this, hdone _ xs _ (Nat.le_refl _) hS (hI _ _ _ hi (by omega) (Keep.putObj _ _ _ _ (.inl (by omega)))) ((World.putObj_heap_other (by omega)).trans hk)⟩
/-! Steps of a walk inside a round. -/
section
variable {F : Fence} {n : Nat} {P : Program} {ops : Array Oper} {Q : Exit → Act → World → Prop} {a : Act} {w w1 : World} {rest : List Oper} {o : Oper}
theorem in_run (hgd : o.guard = none) (hab : o.about P w a.eval = none) {v : Value} (hop : ∀ c, o.op ≠ .defer c) (hrun : (execOp a.eval o).run P w = .ok (.value v) w1) (h : wpListIn F n P ops Q rest (a.put o.dst v) w1) : wpListIn F n P ops Q (o :: rest) a w := by
  refine wpListIn_plain hgd fun K hK => ⟨fun f hf => (by rw [hab] at hf; cases hf), ?_⟩
  rw [Oper.semAt_eq F.round _ _ hop, hrun]
  exact hK _ _ h
theorem in_skip (hgd : o.guard = none) (hab : o.about P w a.eval = none) (hop : ∀ c, o.op ≠ .defer c) (hrun : (execOp a.eval o).run P w = .ok .skip w1) (h : wpListIn F n P ops Q rest (a.put o.dst undef) w1) : wpListIn F n P ops Q (o :: rest) a w := by
  refine wpListIn_plain hgd fun K hK => ⟨fun f hf => (by rw [hab] at hf; cases hf), ?_⟩
  rw [Oper.semAt_eq F.round _ _ hop, hrun]
  exact hK _ _ h
theorem gate_in {N : Tmp} (_hN : o.dst = some N) (h : wpListIn F n P ops Q (o :: rest) a w) : wpListIn F n P ops Q (o :: rest) a w := h
theorem gate_in_store {t : TypeId} {p : Tmp} {v : Operand} (_ho : o.op = .store t (.tmp p) v) (h : wpListIn F n P ops Q (o :: rest) a w) : wpListIn F n P ops Q (o :: rest) a w := h
end
end Go.Proofs.Ytlhhjdhbkhjhjaa.Rg
