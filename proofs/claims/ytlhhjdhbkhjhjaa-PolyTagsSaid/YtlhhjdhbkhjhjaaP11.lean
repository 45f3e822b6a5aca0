/- The tag of bytes, as it is told. -/
import Derived.Test.YtlhhjdhbkhjhjaaP9
namespace Go.Proofs.Ytlhhjdhbkhjhjaa.Po
open Go.RowKit Go.Proofs.YtlhhjdhbkhjhjaaW.PrintWords Go.Proofs.YtlhhjdhbkhjhjaaW.PrintLast Go.Proofs.YtlhhjdhbkhjhjaaW.PrintMore Mem Rg
attribute [local go_sem] Oper.semAt_some
set_option linter.unusedVariables false
set_option linter.unusedSimpArgs false
/-- What a round of Tag makes of the number. -/
def accF (r : Int) (l : List (List Int)) : Int := l.foldl (fun a x => (a + valB (x ++ [1])) * r % PP) 0
theorem accF_snoc (r : Int) (l : List (List Int)) (x : List Int) : accF r (l ++ [x]) = (accF r l + valB (x ++ [1])) * r % PP := by simp [accF]
theorem PP_pos : (0 : Int) < PP := by decide
theorem accF_bd (r : Int) (l : List (List Int)) : 0 ≤ accF r l ∧ accF r l < PP := by
  rcases List.eq_nil_or_concat l with rfl | ⟨l', x, rfl⟩
  · exact ⟨Int.le_refl _, PP_pos⟩
  · rw [List.concat_eq_append, accF_snoc]; exact ⟨Int.emod_nonneg _ (by decide), Int.emod_lt_of_pos _ PP_pos⟩
/-- The bits of the key that are cleared. -/
def clampB (i : Nat) (x : Int) : Int := if i % 4 = 3 then x % 16 else if i % 4 = 0 ∧ 0 < i then x - x % 4 else x
def cl (l : List Int) : Nat → List Int
  | 0 => l
  | i + 1 => (cl l i).set i (clampB i ((cl l i).getD i 0))
theorem cl_len (l : List Int) : ∀ i, (cl l i).length = l.length
  | 0 => rfl
  | i + 1 => by rw [cl, List.length_set]; exact cl_len l i
theorem cl_after (l : List Int) (j : Nat) : ∀ i, i ≤ j → (cl l i).getD j 0 = l.getD j 0
  | 0, _ => rfl
  | i + 1, h => by rw [cl, set_getD_ne _ _ (by omega)]; exact cl_after l j i (by omega)
theorem cl_before (l : List Int) (j : Nat) (hj : j < l.length) : ∀ i, j < i → (cl l i).getD j 0 = clampB j (l.getD j 0)
  | 0, h => absurd h (by omega)
  | i + 1, h => by
    rw [cl]
    by_cases e : i = j
    · subst e
      rw [set_getD_eq _ _ (by rw [cl_len]; exact hj), cl_after l i i (Nat.le_refl _)]
    · rw [set_getD_ne _ _ e]; exact cl_before l j hj i (by omega)
theorem clampB_bd (i : Nat) {x : Int} (h0 : 0 ≤ x) (h1 : x ≤ 255) : 0 ≤ clampB i x ∧ clampB i x ≤ 255 := by
  unfold clampB
  split
  · omega
  · split <;> omega
theorem bytes_of_get {l : List Int} (h : ∀ i, i < l.length → 0 ≤ l.getD i 0 ∧ l.getD i 0 ≤ 255) : Bytes l := fun x hx => by
  obtain ⟨k, hk, rfl⟩ := List.getElem_of_mem hx
  have := h k hk
  rw [List.getD_eq_getElem?_getD, List.getElem?_eq_getElem hk] at this
  exact this
theorem cl_bytes {l : List Int} (h : Bytes l) (n : Nat) : Bytes (cl l n) := bytes_of_get fun i hi => by
  rw [cl_len] at hi
  have hb := bytes_get h i
  by_cases e : i < n
  · rw [cl_before l i hi n e]; exact clampB_bd i hb.1 hb.2
  · rw [cl_after l i n (by omega)]; exact hb
theorem and8_nat : ∀ n : Fin 256, bits .and .u8 (n.val : Int) 15 = (n.val : Int) % 16 ∧ bits .and .u8 (n.val : Int) 252 = (n.val : Int) - (n.val : Int) % 4 := by decide +kernel
theorem and15 (x : Int) (h0 : 0 ≤ x) (h1 : x ≤ 255) : bits .and .u8 x 15 = x % 16 := by
  have := (and8_nat ⟨x.toNat, by omega⟩).1
  simp only at this
  rwa [show ((x.toNat : Nat) : Int) = x by omega] at this
theorem and252 (x : Int) (h0 : 0 ≤ x) (h1 : x ≤ 255) : bits .and .u8 x 252 = x - x % 4 := by
  have := (and8_nat ⟨x.toNat, by omega⟩).2
  simp only at this
  rwa [show ((x.toNat : Nat) : Int) = x by omega] at this
/-- The key's number r. -/
def rF (key : List Int) : Int := valB (cl (key.take 16) 16)
def tagF (key b : List Int) : List Int := digits 16 (accF (rF key) (chs b ((b.length + 15) / 16)) + valB (key.drop 16))
/-- What is carried when bytes are added. -/
def mo (c k : List Int) : Nat → Int
  | 0 => 0
  | i + 1 => (mo c k i + c.getD i 0 + k.getD i 0) / 256
theorem valB_split : ∀ (l : List Int) (n : Nat), n ≤ l.length → valB l = valB (l.take n) + 256 ^ n * valB (l.drop n)
  | l, 0, _ => by simp [valB]
  | [], n + 1, h => by simp at h
  | x :: l, n + 1, h => by
    rw [List.take_succ_cons, List.drop_succ_cons, valB, valB, valB_split l n (by simpa using h), Int.pow_succ, Int.mul_add, Int.mul_comm (256 ^ n) 256, Int.mul_assoc]
    omega
theorem mo_eq {c k : List Int} (hl : c.length = k.length) : ∀ i, i ≤ c.length → mo c k i = (valB (c.take i) + valB (k.take i)) / 256 ^ i
  | 0, _ => by simp [mo, valB]
  | i + 1, h => by
    have hp : (256 : Int) ^ i ≠ 0 := Int.pow_ne_zero (by decide)
    rw [mo, mo_eq hl i (by omega), valB_take c i (by omega), valB_take k i (by omega), Int.pow_succ, ← Int.ediv_ediv_of_nonneg (Int.le_of_lt (Int.pow_pos (by decide)))]
    rw [show valB (c.take i) + 256 ^ i * c.getD i 0 + (valB (k.take i) + 256 ^ i * k.getD i 0) = (valB (c.take i) + valB (k.take i)) + 256 ^ i * (c.getD i 0 + k.getD i 0) by rw [Int.mul_add]; omega, Int.add_mul_ediv_left _ _ hp]
    congr 1
    omega
theorem mo_byte {c k : List Int} (hl : c.length = k.length) (i : Nat) (hi : i < c.length) : (mo c k i + c.getD i 0 + k.getD i 0) % 256 = (valB c + valB k) / 256 ^ i % 256 := by
  have hp : (256 : Int) ^ i ≠ 0 := Int.pow_ne_zero (by decide)
  rw [mo_eq hl i (by omega), valB_split c (i + 1) (by omega), valB_split k (i + 1) (by omega), valB_take c i hi, valB_take k i (by omega), Int.pow_succ]
  rw [show valB (c.take i) + 256 ^ i * c.getD i 0 + 256 ^ i * 256 * valB (c.drop (i + 1)) + (valB (k.take i) + 256 ^ i * k.getD i 0 + 256 ^ i * 256 * valB (k.drop (i + 1))) = (valB (c.take i) + valB (k.take i)) + 256 ^ i * (c.getD i 0 + k.getD i 0 + 256 * (valB (c.drop (i + 1)) + valB (k.drop (i + 1)))) by grind, Int.add_mul_ediv_left _ _ hp]
  omega
theorem mo_bd {c k : List Int} (hc : Bytes c) (hk : Bytes k) : ∀ i, 0 ≤ mo c k i ∧ mo c k i ≤ 1
  | 0 => ⟨Int.le_refl _, show (0 : Int) ≤ 1 by decide⟩
  | i + 1 => by
    have h1 := mo_bd hc hk i
    have h2 := bytes_get hc i
    have h3 := bytes_get hk i
    rw [mo]
    omega
theorem digits_add : ∀ (n : Nat) (v k : Int), digits n (v + 256 ^ n * k) = digits n v
  | 0, _, _ => rfl
  | n + 1, v, k => by
    have e : v + 256 ^ (n + 1) * k = v + 256 * (256 ^ n * k) := by rw [Int.pow_succ, Int.mul_comm (256 ^ n) 256, Int.mul_assoc]
    rw [digits, digits, e, Int.add_mul_emod_self_left, Int.add_mul_ediv_left _ _ (by decide), digits_add n]
theorem digits_bytes : ∀ (n : Nat) (v : Int), Bytes (digits n v)
  | 0, _ => fun x hx => by cases hx
  | n + 1, v => fun x hx => by
    rw [digits] at hx
    rcases List.mem_cons.1 hx with rfl | hx
    · omega
    · exact digits_bytes n _ x hx
theorem emod_split (v M : Int) (hM : 0 < M) : v % (256 * M) = v % 256 + 256 * (v / 256 % M) := by
  have h1 := Int.emod_add_mul_ediv v 256
  have h2 := Int.emod_add_mul_ediv (v / 256) M
  have a0 := Int.emod_nonneg v (show (256 : Int) ≠ 0 by decide)
  have a1 := Int.emod_lt_of_pos v (show (0 : Int) < 256 by decide)
  have b0 := Int.emod_nonneg (v / 256) (show M ≠ 0 by omega)
  have b1 := Int.emod_lt_of_pos (v / 256) hM
  have e : v = (v % 256 + 256 * (v / 256 % M)) + 256 * M * (v / 256 / M) := by
    rw [Int.mul_assoc]
    omega
  generalize v % 256 = a at *
  generalize v / 256 % M = b at *
  generalize v / 256 / M = q at *
  rw [e, Int.add_mul_emod_self_left]
  exact Int.emod_eq_of_lt (by omega) (by omega)
theorem valB_digits : ∀ (n : Nat) (v : Int), valB (digits n v) = v % 256 ^ n
  | 0, v => by simp [digits, valB, Int.emod_one]
  | n + 1, v => by
    rw [digits, valB, valB_digits n, Int.pow_succ, Int.mul_comm (256 ^ n) 256, emod_split v (256 ^ n) (Int.pow_pos (by decide))]
theorem digits_valB : ∀ (l : List Int), Bytes l → digits l.length (valB l) = l
  | [], _ => rfl
  | x :: l, h => by
    have h1 := h x (List.mem_cons_self ..)
    rw [List.length_cons, digits, valB]
    rw [show (x + 256 * valB l) % 256 = x by omega, show (x + 256 * valB l) / 256 = valB l by omega, digits_valB l (fun y hy => h y (List.mem_cons_of_mem _ hy))]
/-- The sum of two numbers, of which one has been cut. -/
theorem digits_cut (n : Nat) (v s : Int) : digits n (valB (digits n v) + s) = digits n (v + s) := by
  rw [valB_digits]
  have h := Int.emod_add_mul_ediv v (256 ^ n)
  have : v + s = (v % 256 ^ n + s) + 256 ^ n * (v / 256 ^ n) := by omega
  rw [this, digits_add]
end Go.Proofs.Ytlhhjdhbkhjhjaa.Po
