/- The reference's numbers as lists: place for place; no function of the program is walked here. -/
import Derived.Test.YtlhhjdhbkhjhjaaP13
import Derived.Test.YtlhhjdhbkhjhjaaP2
namespace Go.Proofs.Ytlhhjdhbkhjhjaa.Po
open Go.RowKit Go.Proofs.YtlhhjdhbkhjhjaaW.PrintWords Go.Proofs.YtlhhjdhbkhjhjaaW.PrintLast Go.Proofs.YtlhhjdhbkhjhjaaW.PrintMore Mem Rg
attribute [local go_sem] Oper.semAt_some
set_option linter.unusedVariables false
set_option linter.unusedSimpArgs false
theorem valB_zeros : ∀ n : Nat, valB (List.replicate n 0) = 0
  | 0 => rfl
  | n + 1 => by rw [List.replicate_succ, valB, valB_zeros n]; rfl
theorem valB_set : ∀ (l : List Int) (i : Nat) (x : Int), i < l.length → valB (l.set i x) = valB l + 256 ^ i * (x - l.getD i 0)
  | [], _, _, h => by simp at h
  | y :: l, 0, x, _ => by simp [valB]; omega
  | y :: l, i + 1, x, h => by
    rw [List.set_cons_succ, valB, valB, valB_set l i x (by simpa using h), List.getD_cons_succ, Int.pow_succ, Int.mul_comm (256 ^ i) 256, Int.mul_assoc]
    omega
theorem wrap_in (x : Int) (h0 : 0 ≤ x) (h1 : x < 18446744073709551616) : IntKind.u64.wrap x = x := IntWalk.u64_in _ (by omega)
/-- Words that are not too great. -/
def Sm (B : Int) (l : List Int) : Prop := ∀ i, 0 ≤ l.getD i 0 ∧ l.getD i 0 ≤ B
theorem Sm.of_bytes {l : List Int} (h : Bytes l) : Sm 255 l := fun i => bytes_get h i
theorem Sm.mono {B C : Int} {l : List Int} (h : Sm B l) (hc : B ≤ C) : Sm C l := fun i => ⟨(h i).1, Int.le_trans (h i).2 hc⟩
theorem Sm.set {B : Int} {l : List Int} (h : Sm B l) (p : Nat) {x : Int} (h0 : 0 ≤ x) (h1 : x ≤ B) : Sm B (l.set p x) := fun j => set_bd h ⟨h0, h1⟩ j
theorem zeros_sm (n : Nat) : Sm 0 (List.replicate n 0) := fun i => by
  rw [List.getD_eq_getElem?_getD, List.getElem?_replicate]
  split <;> decide
theorem drop_getD (l : List Int) (i : Nat) (h : i < l.length) : l.drop i = l.getD i 0 :: l.drop (i + 1) := by
  rw [List.drop_eq_getElem_cons h, List.getD_eq_getElem?_getD, List.getElem?_eq_getElem h]
  rfl
theorem plz_len' (n m : List Int) (i : Nat) : (plz n m i).length = n.length := plz_len n m i
theorem plz_val' (n m : List Int) : ∀ i, i ≤ n.length → i ≤ m.length → valB (plz n m i) = valB n + valB (m.take i)
  | 0, _, _ => by simp [plz, valB]
  | i + 1, h1, h2 => by
    rw [plz, valB_set _ _ _ (by rw [plz_len]; omega), plz_val' n m i (by omega) (by omega), valB_take m i (by omega)]
    rw [show (plz n m i).getD i 0 + m.getD i 0 - (plz n m i).getD i 0 = m.getD i 0 by omega]
    omega
theorem plz_after (n m : List Int) (j : Nat) : ∀ i, i ≤ j → (plz n m i).getD j 0 = n.getD j 0
  | 0, _ => rfl
  | i + 1, h => by rw [plz, set_getD_ne _ _ (by omega)]; exact plz_after n m j i (by omega)
theorem plz_smC {n m : List Int} {B C : Int} (hn : Sm B n) (hm : Sm C m) (hC : 0 ≤ C) : ∀ i, Sm (B + C) (plz n m i)
  | 0 => hn.mono (by omega)
  | i + 1 => by
    rw [plz, plz_after n m i i (Nat.le_refl _)]
    have h1 := hn i
    have h2 := hm i
    exact (plz_smC hn hm hC i).set i (by omega) (by omega)
/-- What is above two bits, place for place, five times. -/
def hl : List Int → List Int
  | [] => []
  | x :: l => 5 * (x / 4 + l.getD 0 0 % 4 * 64) :: hl l
theorem hl_len : ∀ l, (hl l).length = l.length
  | [] => rfl
  | x :: l => by rw [hl, List.length_cons, List.length_cons, hl_len l]
theorem hl_get : ∀ (l : List Int) (j : Nat), j < l.length → (hl l).getD j 0 = 5 * (l.getD j 0 / 4 + l.getD (j + 1) 0 % 4 * 64)
  | [], _, h => by simp at h
  | x :: l, 0, _ => by rw [hl]; simp
  | x :: l, j + 1, h => by rw [hl, List.getD_cons_succ, List.getD_cons_succ, List.getD_cons_succ, hl_get l j (by simpa using h)]
theorem hl_val : ∀ l : List Int, valB (hl l) = 5 * (valB l / 4)
  | [] => rfl
  | [x] => by simp [hl, valB]
  | x :: y :: l => by
    have e : valB (y :: l) = y + 256 * valB l := rfl
    have e2 : valB (x :: y :: l) = x + 256 * valB (y :: l) := rfl
    rw [hl, valB, hl_val (y :: l), e2, e, List.getD_cons_zero]
    omega
theorem hl_sm {l : List Int} (h : Bytes l) : Sm 1275 (hl l) := fun j => by
  by_cases hj : j < l.length
  · rw [hl_get l j hj]
    have h1 := bytes_get h j
    have h2 := bytes_get h (j + 1)
    omega
  · rw [List.getD_eq_getElem?_getD, List.getElem?_eq_none (by rw [hl_len]; omega)]
    decide
/-- The first places copied. -/
def cp (a : List Int) (i : Nat) : List Int := a.take i ++ List.replicate (34 - i) 0
theorem cp_len {a : List Int} (ha : a.length = 34) {i : Nat} (hi : i ≤ 34) : (cp a i).length = 34 := by rw [cp, List.length_append, List.length_take, List.length_replicate]; omega
theorem cp_set {a : List Int} (ha : a.length = 34) {i : Nat} (hi : i < 34) : (cp a i).set i (a.getD i 0) = cp a (i + 1) := by
  have e1 : (a.take i).length = i := by rw [List.length_take]; omega
  rw [cp, cp, List.set_append_right _ _ (by omega), e1, Nat.sub_self, show 34 - i = (34 - (i + 1)) + 1 by omega, List.replicate_succ, List.set_cons_zero, List.take_add_one, List.getD_eq_getElem?_getD, List.getElem?_eq_getElem (show i < a.length by omega), List.append_assoc]
  rfl
theorem drop_get (a : List Int) (s j : Nat) : (a.drop s).getD j 0 = a.getD (s + j) 0 := by
  rw [List.getD_eq_getElem?_getD, List.getElem?_drop, List.getD_eq_getElem?_getD]
/-- What is above 130 bits, five times, and what is below. -/
def foldV (v : Int) : Int := v % 1361129467683753853853498429727072845824 + 5 * (v / 1361129467683753853853498429727072845824)
/-- A row of the product, place for place. -/
def rowz (z : List Int) (i : Nat) (b : List Int) (x : Int) : Nat → List Int
  | 0 => z
  | k + 1 => (rowz z i b x k).set (i + k) ((rowz z i b x k).getD (i + k) 0 + x * b.getD k 0)
theorem rowz_len (z : List Int) (i : Nat) (b : List Int) (x : Int) : ∀ k, (rowz z i b x k).length = z.length
  | 0 => rfl
  | k + 1 => by rw [rowz, List.length_set]; exact rowz_len z i b x k
theorem rowz_after (z : List Int) (i : Nat) (b : List Int) (x : Int) (j : Nat) : ∀ k, i + k ≤ j → (rowz z i b x k).getD j 0 = z.getD j 0
  | 0, _ => rfl
  | k + 1, h => by rw [rowz, set_getD_ne _ _ (by omega)]; exact rowz_after z i b x j k (by omega)
theorem rowz_val (z : List Int) (i : Nat) (b : List Int) (x : Int) : ∀ k, i + k ≤ z.length → k ≤ b.length → valB (rowz z i b x k) = valB z + 256 ^ i * (x * valB (b.take k))
  | 0, _, _ => by simp [rowz, valB]
  | k + 1, h1, h2 => by
    rw [rowz, valB_set _ _ _ (by rw [rowz_len]; omega), rowz_val z i b x k (by omega) (by omega), valB_take b k (by omega)]
    generalize (rowz z i b x k).getD (i + k) 0 = g
    rw [Int.pow_add]
    grind
theorem mul_bd {x y : Int} (hx : 0 ≤ x ∧ x ≤ 255) (hy : 0 ≤ y ∧ y ≤ 255) : 0 ≤ x * y ∧ x * y ≤ 65025 :=
  ⟨Int.mul_nonneg hx.1 hy.1, Int.mul_le_mul hx.2 hy.2 hy.1 (by decide)⟩
theorem rowz_sm {z b : List Int} {i : Nat} {x B : Int} (hz : Sm B z) (hx : 0 ≤ x ∧ x ≤ 255) (hb : Bytes b) : ∀ k, Sm (B + 65025) (rowz z i b x k)
  | 0 => hz.mono (by omega)
  | k + 1 => by
    rw [rowz, rowz_after z i b x (i + k) k (Nat.le_refl _)]
    have h1 := hz (i + k)
    have h2 := mul_bd hx (bytes_get hb k)
    exact (rowz_sm hz hx hb k).set (i + k) (by omega) (by omega)
def mz (a b : List Int) : Nat → List Int
  | 0 => List.replicate 34 0
  | i + 1 => rowz (mz a b i) i b (a.getD i 0) 17
theorem mz_len (a b : List Int) : ∀ i, (mz a b i).length = 34
  | 0 => List.length_replicate
  | i + 1 => by rw [mz, rowz_len]; exact mz_len a b i
theorem mz_val {a b : List Int} (ha : a.length = 17) (hb : b.length = 17) : ∀ i, i ≤ 17 → valB (mz a b i) = valB (a.take i) * valB b
  | 0, _ => by rw [mz, valB_zeros]; simp [valB]
  | i + 1, h => by
    rw [mz, rowz_val _ _ _ _ _ (by rw [mz_len]; omega) (by omega), mz_val ha hb i (by omega), valB_take a i (by omega), List.take_of_length_le (show b.length ≤ 17 by omega)]
    grind
theorem mz_sm {a b : List Int} (ha : Bytes a) (hb : Bytes b) : ∀ i : Nat, Sm (65025 * i) (mz a b i)
  | 0 => zeros_sm 34
  | i + 1 => (rowz_sm (mz_sm ha hb i) (bytes_get ha i) hb 17).mono (by omega)
end Go.Proofs.Ytlhhjdhbkhjhjaa.Po
