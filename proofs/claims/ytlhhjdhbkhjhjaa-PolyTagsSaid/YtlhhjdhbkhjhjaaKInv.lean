/- A region that draws its order, inside a fence or a round: by an invariant over what has been done. Words of this seat's proofs; no statement. -/
import Derived.Test.YtlhhjdhbkhjhjaaKRange
import Derived.OrdersIn
namespace Go.Proofs.Ytlhhjdhbkhjhjaa.Rg
open Go.RowKit
set_option linter.unusedVariables false
set_option linter.unusedSimpArgs false
section
variable {F : Fence} {n : Nat} {P : Program} {ops : Array Oper} {Q : Exit → Act → World → Prop}
/-- What has been done, and one more. -/
def upd (L : Nat → Bool) (i : Nat) : Nat → Bool := fun j => if j = i then true else L j
/-- Which operations each one waits for. -/
def depsOf (md : Region.Mode) (ops : Array Oper) : List (List Nat) := ops.toList.map fun o => (o.after.toList.filter (Region.binds md ·)).map (·.on)
/-- They all stand ahead. -/
def backB : Nat → List (List Nat) → Bool
  | _, [] => true
  | i, d :: r => d.all (· < i) && backB (i + 1) r
theorem backB_spec : ∀ (ds : List (List Nat)) (i k : Nat), backB i ds = true → ∀ j ∈ ds.getD k [], j < i + k
  | [], _, _, _, j, h => by simp at h
  | d :: r, i, 0, hb, j, h => by
    simp only [backB, Bool.and_eq_true, List.all_eq_true, decide_eq_true_eq] at hb
    exact hb.1 j (by simpa using h)
  | d :: r, i, k + 1, hb, j, h => by
    simp only [backB, Bool.and_eq_true] at hb
    have := backB_spec r (i + 1) k hb.2 j (by simpa using h)
    omega
theorem count_lt {p q : Nat → Bool} {i : Nat} (hpq : ∀ j, q j = true → p j = true) (hp : p i = true) (hq : q i = false) : ∀ l : List Nat, i ∈ l → l.countP q < l.countP p
  | [], h => by cases h
  | x :: l, h => by
    have hle : l.countP q ≤ l.countP p := List.countP_mono_left fun j _ => hpq j
    rw [List.countP_cons, List.countP_cons]
    rcases List.mem_cons.1 h with rfl | h
    · simp only [hp, hq, if_true, Bool.false_eq_true, if_false]; omega
    · have := count_lt hpq hp hq l h
      by_cases hx : q x = true
      · simp only [hx, hpq x hx, if_true]; omega
      · have hx' : q x = false := by simpa using hx
        simp only [hx', Bool.false_eq_true, if_false]
        split <;> omega
theorem deps_get (md : Region.Mode) (ops : Array Oper) (i : Nat) (o : Oper) (h : ops[i]? = some o) : (depsOf md ops).getD i [] = (o.after.toList.filter (Region.binds md ·)).map (·.on) := by
  unfold depsOf
  rw [List.getD_eq_getElem?_getD, List.getElem?_map, Array.getElem?_toList, h]
  rfl
theorem any_inv {md : Region.Mode} (deps : List (List Nat)) (hd : depsOf md ops = deps) (hb : backB 0 deps = true) (I : (Nat → Bool) → Act → World → Prop)
    (hstep : ∀ i, i < ops.size → ∀ (L : Nat → Bool) (a : Act) (w : World), L i = false → (∀ j ∈ deps.getD i [], L j = true) → I L a w → wpOpIn F n P ops Q i (I (upd L i)) a w)
    (hdone : ∀ (L : Nat → Bool) (a : Act) (w : World), (∀ i, i < ops.size → L i = true) → I L a w → Q .normal a w) :
    ∀ (fuel : Nat) (listed : Array Bool) (a : Act) (w : World), listed.size = ops.size → (List.range ops.size).countP (fun j => !listed.getD j false) ≤ fuel → I (fun j => listed.getD j false) a w → wpAnyIn F n P md ops Q fuel listed a w := by
  have hall : ∀ (listed : Array Bool), listed.size = ops.size → Region.ready md ops listed = [] → ∀ k i, i < k → i < ops.size → listed.getD i false = true := by
    intro listed hs hr k
    induction k with
    | zero => intro i h; omega
    | succ k ih =>
      intro i hik hi
      by_cases hlt : i < k
      · exact ih i hlt hi
      · obtain ⟨o, ho⟩ : ∃ o, ops[i]? = some o := ⟨_, Array.getElem?_eq_getElem hi⟩
        cases hl : listed.getD i false with
        | true => rfl
        | false =>
          have : i ∈ Region.ready md ops listed := mem_ready.2 ⟨by
            have h' : i < listed.size := by omega
            simp [h'] at hl ⊢
            exact hl, o, ho, fun e he hbd => by
            have hm : e.on ∈ deps.getD i [] := by
              rw [← hd, deps_get md ops i o ho]
              exact List.mem_map.2 ⟨e, List.mem_filter.2 ⟨by simpa using he, hbd⟩, rfl⟩
            have := backB_spec deps 0 i hb _ hm
            exact ih e.on (by omega) (by omega)⟩
          rw [hr] at this
          cases this
  intro fuel
  induction fuel with
  | zero =>
    intro listed a w hs hc hI
    have h0 : ∀ i, i < ops.size → listed.getD i false = true := fun i hi => by
      cases hl : listed.getD i false with
      | true => rfl
      | false =>
        have : 0 < (List.range ops.size).countP (fun j => !listed.getD j false) := List.countP_pos_iff.2 ⟨i, List.mem_range.2 hi, by simp only [hl]; rfl⟩
        omega
    refine ⟨?_, hdone _ a w h0 hI⟩
    cases hr : Region.ready md ops listed with
    | nil => rfl
    | cons x r =>
      have hx : x ∈ Region.ready md ops listed := by rw [hr]; exact List.mem_cons_self ..
      obtain ⟨h1, o, ho, _⟩ := mem_ready.1 hx
      have hlt : x < ops.size := (Array.getElem?_eq_some_iff.1 ho).1
      have h2 := h0 x hlt
      have h' : x < listed.size := by omega
      simp [h'] at h1 h2
      rw [h1] at h2
      cases h2
  | succ fuel ih =>
    intro listed a w hs hc hI
    refine ⟨fun hr => hdone _ a w (fun i hi => hall listed hs hr (i + 1) i (by omega) hi) hI, fun i hi => ?_⟩
    obtain ⟨h1, o, ho, hd1⟩ := mem_ready.1 hi
    have hlt : i < ops.size := (Array.getElem?_eq_some_iff.1 ho).1
    have h' : i < listed.size := by omega
    have hli : listed.getD i false = false := by
      simp [h'] at h1 ⊢
      exact h1
    have hst := hstep i hlt (fun j => listed.getD j false) a w hli (fun j hj => by
      rw [← hd, deps_get md ops i o ho] at hj
      obtain ⟨e, he, rfl⟩ := List.mem_map.1 hj
      obtain ⟨he, hbd⟩ := List.mem_filter.1 he
      exact hd1 e (by simpa using he) hbd) hI
    refine wpOpIn_mono (fun a' w' h => ?_) hst
    have hu : (fun j => (listed.setIfInBounds i true).getD j false) = upd (fun j => listed.getD j false) i := by
      funext j
      unfold upd
      by_cases e : j = i
      · subst e
        simp [h']
      · rw [if_neg e]
        by_cases hj : j < listed.size
        · simp [hj, Ne.symm e]
        · simp [hj]
    refine ih (listed.setIfInBounds i true) a' w' (by simpa using hs) ?_ (by rw [hu]; exact h)
    have := count_lt (p := fun j => !listed.getD j false) (q := fun j => !(listed.setIfInBounds i true).getD j false) (i := i) (fun j hj => by
      have hj' := hj
      rw [congrFun hu j] at hj'
      unfold upd at hj'
      split at hj'
      · simp at hj'
      · exact hj') (by simp only [hli]; rfl) (by rw [congrFun hu i]; simp [upd]) (List.range ops.size) (List.mem_range.2 hlt)
    omega
/-- The region, by an invariant. -/
theorem region_inv {id : Nat} {a : Act} {w : World} (deps : List (List Nat)) (hm : P.follows .mixedOrders = true) (hd : depsOf .any ops = deps) (hb : backB 0 deps = true) (I : (Nat → Bool) → Act → World → Prop)
    (h0 : I (fun _ => false) a w.drew)
    (hstep : ∀ i, i < ops.size → ∀ (L : Nat → Bool) (a : Act) (w : World), L i = false → (∀ j ∈ deps.getD i [], L j = true) → I L a w → wpOpIn F n P ops Q i (I (upd L i)) a w)
    (hdone : ∀ (L : Nat → Bool) (a : Act) (w : World), (∀ i, i < ops.size → L i = true) → I L a w → Q .normal a w) : (Code.region id ops true).wpIn F n P Q a w := by
  refine wpIn_region_any hm (any_inv deps hd hb I hstep hdone _ _ _ _ (by simp) ?_ ?_)
  · have : (List.range ops.size).countP (fun j => !(Array.replicate ops.size false).getD j false) ≤ (List.range ops.size).length := List.countP_le_length
    simpa using this
  · have : (fun j => (Array.replicate ops.size false).getD j false) = fun _ => false := by
      funext j
      by_cases hj : j < ops.size <;> simp [hj]
    rw [this]
    exact h0
/-- One operation of a region, walked as a list of one. -/
def endQ (K : Act → World → Prop) (Q : Exit → Act → World → Prop) : Exit → Act → World → Prop
  | .normal, a, w => K a w
  | e, a, w => Q e a w
theorem upon_endQ {o : Oper} {a : Act} {K : Act → World → Prop} {r : Result Next} (h : o.uponIn F n P a K (endQ K Q) r) : o.uponIn F n P a K Q r := by
  cases r with
  | ok x w' => cases x <;> exact h
  | halt x w' => cases x <;> exact h
theorem op_list {i : Nat} {o : Oper} {K : Act → World → Prop} {a : Act} {w : World} (ho : ops[i]? = some o) (h : wpListIn F n P ops (endQ K Q) [o] a w) : wpOpIn F n P ops Q i K a w := by
  unfold wpOpIn
  rw [ho]
  unfold wpListIn at h
  dsimp only
  split
  · rename_i hw
    rw [if_pos hw] at h
    exact ⟨h.1, upon_endQ h.2⟩
  · rename_i hw
    rw [if_neg hw] at h
    exact h
end
end Go.Proofs.Ytlhhjdhbkhjhjaa.Rg
