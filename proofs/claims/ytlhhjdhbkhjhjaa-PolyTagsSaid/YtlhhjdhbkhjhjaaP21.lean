/- The reference's numbers: fold, mul. -/
import Derived.Test.YtlhhjdhbkhjhjaaP20
import Derived.Test.YtlhhjdhbkhjhjaaR2
import Derived.Test.YtlhhjdhbkhjhjaaR3
namespace Go.Proofs.Ytlhhjdhbkhjhjaa.Po
open Go.RowKit Go.Proofs.YtlhhjdhbkhjhjaaW.PrintWords Go.Proofs.YtlhhjdhbkhjhjaaW.PrintLast Go.Proofs.YtlhhjdhbkhjhjaaW.PrintMore Mem Rg
attribute [local go_sem] Oper.semAt_some
set_option linter.unusedVariables false
set_option linter.unusedSimpArgs false
open PPolyTags
/-! fold -/
theorem plz_smC {n m : List Int} {B C : Int} (hn : Sm B n) (hm : Sm C m) (hC : 0 ≤ C) : ∀ i, Sm (B + C) (plz n m i)
  | 0 => hn.mono (by omega)
  | i + 1 => by
    rw [plz, plz_after n m i i (Nat.le_refl _)]
    have h1 := hn i
    have h2 := hm i
    exact (plz_smC hn hm hC i).set i (by omega) (by omega)
/-- What is above two bits, place for place, five times. -/
def hl : List Int → List Int
  | [] => []
  | x :: l => 5 * (x / 4 + l.getD 0 0 % 4 * 64) :: hl l
theorem hl_len : ∀ l, (hl l).length = l.length
  | [] => rfl
  | x :: l => by rw [hl, List.length_cons, List.length_cons, hl_len l]
theorem hl_get : ∀ (l : List Int) (j : Nat), j < l.length → (hl l).getD j 0 = 5 * (l.getD j 0 / 4 + l.getD (j + 1) 0 % 4 * 64)
  | [], _, h => by simp at h
  | x :: l, 0, _ => by rw [hl]; simp
  | x :: l, j + 1, h => by rw [hl, List.getD_cons_succ, List.getD_cons_succ, List.getD_cons_succ, hl_get l j (by simpa using h)]
theorem hl_val : ∀ l : List Int, valB (hl l) = 5 * (valB l / 4)
  | [] => rfl
  | [x] => by simp [hl, valB]
  | x :: y :: l => by
    have e : valB (y :: l) = y + 256 * valB l := rfl
    have e2 : valB (x :: y :: l) = x + 256 * valB (y :: l) := rfl
    rw [hl, valB, hl_val (y :: l), e2, e, List.getD_cons_zero]
    omega
theorem hl_sm {l : List Int} (h : Bytes l) : Sm 1275 (hl l) := fun j => by
  by_cases hj : j < l.length
  · rw [hl_get l j hj]
    have h1 := bytes_get h j
    have h2 := bytes_get h (j + 1)
    omega
  · rw [List.getD_eq_getElem?_getD, List.getElem?_eq_none (by rw [hl_len]; omega)]
    decide
/-- The first places copied. -/
def cp (a : List Int) (i : Nat) : List Int := a.take i ++ List.replicate (34 - i) 0
theorem cp_len {a : List Int} (ha : a.length = 34) {i : Nat} (hi : i ≤ 34) : (cp a i).length = 34 := by rw [cp, List.length_append, List.length_take, List.length_replicate]; omega
theorem cp_set {a : List Int} (ha : a.length = 34) {i : Nat} (hi : i < 34) : (cp a i).set i (a.getD i 0) = cp a (i + 1) := by
  have e1 : (a.take i).length = i := by rw [List.length_take]; omega
  rw [cp, cp, List.set_append_right _ _ (by omega), e1, Nat.sub_self, show 34 - i = (34 - (i + 1)) + 1 by omega, List.replicate_succ, List.set_cons_zero, List.take_add_one, List.getD_eq_getElem?_getD, List.getElem?_eq_getElem (show i < a.length by omega), List.append_assoc]
  rfl
theorem fold_l0 {a : List Int} (ha : a.length = 34) (hb : Bytes a) (K : Nat) : ∀ (n i : Nat), i + n = 17 → mailcoachref05_fold.l0 (n + 1 + K) a (cp a i) (i : Int) = mailcoachref05_fold.l1 K a ((cp a 17).set 16 (a.getD 16 0 % 4)) 16
  | 0, i, hi => by
    obtain rfl : i = 17 := by omega
    have hc := cp_len ha (i := 17) (by omega)
    rw [show 0 + 1 + K = K + 1 by omega, mailcoachref05_fold.l0, if_neg (by omega), if_pos (by omega), if_pos (by omega)]
    have h16 := (bytes_get hb 16).1
    rw [show rd a 16 = a.getD 16 0 from rfl, Int.tmod_eq_emod_of_nonneg h16]
    rfl
  | n + 1, i, hi => by
    have hc := cp_len ha (i := i) (by omega)
    have hi1 : wrap64 ((i : Int) + 1) = ((i + 1 : Nat) : Int) := by rw [w64 _ (by omega) (by omega)]; omega
    rw [show n + 1 + 1 + K = (n + 1 + K) + 1 by omega, mailcoachref05_fold.l0, if_pos (by omega), if_pos (by omega), if_pos (by omega), if_pos (by omega), rd_nat, hi1, Int.toNat_natCast, cp_set ha (by omega)]
    exact fold_l0 ha hb K n (i + 1) (by omega)
theorem drop_get (a : List Int) (s j : Nat) : (a.drop s).getD j 0 = a.getD (s + j) 0 := by
  rw [List.getD_eq_getElem?_getD, List.getElem?_drop, List.getD_eq_getElem?_getD]
theorem fold_l1 {a z m : List Int} (ha : a.length = 34) (hb : Bytes a) (hm : ∀ i, i < 18 → m.getD i 0 = 5 * (a.getD (16 + i) 0 / 4 + a.getD (16 + i + 1) 0 % 4 * 64)) (hms : Sm 1275 m) (hz : z.length = 34) (hzs : Sm 255 z) (K : Nat) : ∀ (n i : Nat) (s : Int), i + n = 18 → s = 16 + (i : Int) → mailcoachref05_fold.l1 (n + 1 + K) a (plz z m i) s = (mailcoachref05_carried.f K (plz z m 18) 34).bind fun t => some t
  | 0, i, s, hi, hs => by
    obtain rfl : i = 18 := by omega
    rw [show 0 + 1 + K = K + 1 by omega, mailcoachref05_fold.l1, if_neg (by omega)]
  | n + 1, i, s, hi, hs => by
    have hg := hm i (by omega)
    have h1 := plz_smC hzs hms (by decide) i i
    have h2 := bytes_get hb (16 + i)
    have h3 := bytes_get hb (16 + i + 1)
    have hi1 : wrap64 (s + 1) = s + 1 := w64 _ (by omega) (by omega)
    have hi2 : wrap64 (s - 16) = (i : Int) := by rw [w64 _ (by omega) (by omega)]; omega
    have hpl : (plz z m i).length = 34 := by rw [plz_len]; exact hz
    have r1 : rd a s = a.getD (16 + i) 0 := by rw [rd, show s.toNat = 16 + i by omega]
    have r2 : rd a (s + 1) = a.getD (16 + i + 1) 0 := by rw [rd, show (s + 1).toNat = 16 + i + 1 by omega]
    have r3 : rd (plz z m i) (i : Int) = (plz z m i).getD i 0 := rd_nat _ _
    have h0 : ¬ s + 1 < 34 → a.getD (16 + i + 1) 0 = 0 := fun h => by rw [List.getD_eq_getElem?_getD, List.getElem?_eq_none (by omega)]; rfl
    generalize a.getD (16 + i) 0 = x at *
    generalize a.getD (16 + i + 1) 0 = y at *
    have e1 : IntKind.u64.wrap (x / 4) = x / 4 := wrap_in _ (by omega) (by omega)
    have e2 : IntKind.u64.wrap (y % 4 * 64) = y % 4 * 64 := wrap_in _ (by omega) (by omega)
    have e3 : IntKind.u64.wrap (x / 4 + y % 4 * 64) = x / 4 + y % 4 * 64 := wrap_in _ (by omega) (by omega)
    have e4 : IntKind.u64.wrap (5 * (x / 4 + y % 4 * 64)) = m.getD i 0 := by rw [wrap_in _ (by omega) (by omega)]; omega
    have e5 : IntKind.u64.wrap ((plz z m i).getD i 0 + m.getD i 0) = (plz z m i).getD i 0 + m.getD i 0 := wrap_in _ (by omega) (by omega)
    have t1 : Int.tdiv x 4 = x / 4 := Int.tdiv_eq_ediv_of_nonneg (by omega)
    have t2 : Int.tmod y 4 = y % 4 := Int.tmod_eq_emod_of_nonneg (by omega)
    rw [show n + 1 + 1 + K = (n + 1 + K) + 1 by omega, mailcoachref05_fold.l1, hi1, hi2, r1, r2, r3, t1, t2, e1, e2, e3, e4, e5]
    rw [if_pos (show s < 34 by omega), if_pos (show 0 ≤ s by omega), if_pos (show s < (a.length : Int) by omega)]
    by_cases hlt : s + 1 < 34
    · rw [if_pos hlt, if_pos (show 0 ≤ s + 1 by omega), if_pos (show s + 1 < (a.length : Int) by omega), if_pos (show 0 ≤ (i : Int) by omega), if_pos (show (i : Int) < ((plz z m i).length : Int) by omega), Int.toNat_natCast]
      exact fold_l1 ha hb hm hms hz hzs K n (i + 1) (s + 1) (by omega) (by omega)
    · have hy := h0 hlt
      have e6 : IntKind.u64.wrap (5 * (x / 4)) = m.getD i 0 := by rw [wrap_in _ (by omega) (by omega)]; omega
      rw [if_neg hlt, if_pos (show 0 ≤ (i : Int) by omega), if_pos (show (i : Int) < ((plz z m i).length : Int) by omega), e6, e5, Int.toNat_natCast]
      exact fold_l1 ha hb hm hms hz hzs K n (i + 1) (s + 1) (by omega) (by omega)
/-- What is above 130 bits, five times, and what is below. -/
def foldV (v : Int) : Int := v % 1361129467683753853853498429727072845824 + 5 * (v / 1361129467683753853853498429727072845824)
theorem fold_f {a : List Int} (ha : a.length = 34) (hb : Bytes a) (K : Nat) : mailcoachref05_fold.f (K + 72) a = some (digits 34 (foldV (valB a))) := by
  have hc := cp_len ha (i := 17) (by omega)
  have hz : ((cp a 17).set 16 (a.getD 16 0 % 4)).length = 34 := by rw [List.length_set]; exact hc
  have hcb : Sm 255 (cp a 17) := fun j => by
    rw [cp]
    rcases Nat.lt_or_ge j 17 with h | h
    · rw [List.getD_eq_getElem?_getD, List.getElem?_append_left (by rw [List.length_take]; omega), ← List.getD_eq_getElem?_getD]
      exact bytes_get (bytes_take hb 17) j
    · rw [List.getD_eq_getElem?_getD, List.getElem?_append_right (by rw [List.length_take]; omega), List.getElem?_replicate]
      split <;> decide
  have h16 := bytes_get hb 16
  have hzs : Sm 255 ((cp a 17).set 16 (a.getD 16 0 % 4)) := hcb.set 16 (by omega) (by omega)
  unfold mailcoachref05_fold.f
  rw [if_pos (by decide), show K + 72 = 17 + 1 + (18 + 1 + (K + 35)) by omega]
  have h0 := fold_l0 ha hb (18 + 1 + (K + 35)) 17 0 (by omega)
  have hdl : (a.drop 16).length = 18 := by rw [List.length_drop]; omega
  have h1 := fold_l1 (m := hl (a.drop 16)) ha hb (fun i hi => by rw [hl_get _ i (by omega), drop_get, drop_get, Nat.add_assoc]) (hl_sm (bytes_drop hb 16)) hz hzs (K + 35) 18 0 16 (by omega) (by omega)
  have e0 : cp a 0 = List.replicate 34 0 := by simp [cp]
  rw [e0] at h0
  rw [show ((0 : Nat) : Int) = 0 from rfl] at h0
  rw [plz] at h1
  have hhl : (hl (a.drop 16)).length = 18 := by rw [hl_len, List.length_drop]; omega
  rw [h0, h1, carried_f (by rw [plz_len]; omega) ((plz_smC hzs (hl_sm (bytes_drop hb 16)) (by decide) 18).mono (by decide))]
  simp only [Option.bind_some]
  rw [plz_val' _ _ _ (by omega) (by omega), List.take_of_length_le (by omega), hl_val, valB_set _ _ _ (by omega)]
  have hg : (cp a 17).getD 16 0 = a.getD 16 0 := by
    rw [cp, List.getD_eq_getElem?_getD, List.getElem?_append_left (by rw [List.length_take]; omega), List.getElem?_take_of_lt (by omega), ← List.getD_eq_getElem?_getD]
  have hv : valB (cp a 17) = valB (a.take 17) := by rw [cp, valB_append, valB_zeros, Int.mul_zero, Int.add_zero]
  have h17 := valB_take a 16 (by omega)
  have hs := valB_split a 16 (by omega)
  have hd : valB (a.drop 16) = a.getD 16 0 + 256 * valB (a.drop 17) := by rw [drop_getD a 16 (by omega), valB]
  have hbd := valB_bd (a.take 16) (bytes_take hb 16)
  have hl16 : (a.take 16).length = 16 := by rw [List.length_take]; omega
  rw [hl16] at hbd
  rw [hg, hv]
  congr 2
  unfold foldV
  simp only [Int.reducePow, Nat.reduceAdd] at *
  omega
/-! mul -/
/-- A row of the product, place for place. -/
def rowz (z : List Int) (i : Nat) (b : List Int) (x : Int) : Nat → List Int
  | 0 => z
  | k + 1 => (rowz z i b x k).set (i + k) ((rowz z i b x k).getD (i + k) 0 + x * b.getD k 0)
theorem rowz_len (z : List Int) (i : Nat) (b : List Int) (x : Int) : ∀ k, (rowz z i b x k).length = z.length
  | 0 => rfl
  | k + 1 => by rw [rowz, List.length_set]; exact rowz_len z i b x k
theorem rowz_after (z : List Int) (i : Nat) (b : List Int) (x : Int) (j : Nat) : ∀ k, i + k ≤ j → (rowz z i b x k).getD j 0 = z.getD j 0
  | 0, _ => rfl
  | k + 1, h => by rw [rowz, set_getD_ne _ _ (by omega)]; exact rowz_after z i b x j k (by omega)
theorem rowz_val (z : List Int) (i : Nat) (b : List Int) (x : Int) : ∀ k, i + k ≤ z.length → k ≤ b.length → valB (rowz z i b x k) = valB z + 256 ^ i * (x * valB (b.take k))
  | 0, _, _ => by simp [rowz, valB]
  | k + 1, h1, h2 => by
    rw [rowz, valB_set _ _ _ (by rw [rowz_len]; omega), rowz_val z i b x k (by omega) (by omega), valB_take b k (by omega)]
    generalize (rowz z i b x k).getD (i + k) 0 = g
    rw [Int.pow_add]
    grind
theorem mul_bd {x y : Int} (hx : 0 ≤ x ∧ x ≤ 255) (hy : 0 ≤ y ∧ y ≤ 255) : 0 ≤ x * y ∧ x * y ≤ 65025 :=
  ⟨Int.mul_nonneg hx.1 hy.1, Int.mul_le_mul hx.2 hy.2 hy.1 (by decide)⟩
theorem rowz_sm {z b : List Int} {i : Nat} {x B : Int} (hz : Sm B z) (hx : 0 ≤ x ∧ x ≤ 255) (hb : Bytes b) : ∀ k, Sm (B + 65025) (rowz z i b x k)
  | 0 => hz.mono (by omega)
  | k + 1 => by
    rw [rowz, rowz_after z i b x (i + k) k (Nat.le_refl _)]
    have h1 := hz (i + k)
    have h2 := mul_bd hx (bytes_get hb k)
    exact (rowz_sm hz hx hb k).set (i + k) (by omega) (by omega)
def mz (a b : List Int) : Nat → List Int
  | 0 => List.replicate 34 0
  | i + 1 => rowz (mz a b i) i b (a.getD i 0) 17
theorem mz_len (a b : List Int) : ∀ i, (mz a b i).length = 34
  | 0 => List.length_replicate
  | i + 1 => by rw [mz, rowz_len]; exact mz_len a b i
theorem mz_val {a b : List Int} (ha : a.length = 17) (hb : b.length = 17) : ∀ i, i ≤ 17 → valB (mz a b i) = valB (a.take i) * valB b
  | 0, _ => by rw [mz, valB_zeros]; simp [valB]
  | i + 1, h => by
    rw [mz, rowz_val _ _ _ _ _ (by rw [mz_len]; omega) (by omega), mz_val ha hb i (by omega), valB_take a i (by omega), List.take_of_length_le (show b.length ≤ 17 by omega)]
    grind
theorem mz_sm {a b : List Int} (ha : Bytes a) (hb : Bytes b) : ∀ i : Nat, Sm (65025 * i) (mz a b i)
  | 0 => zeros_sm 34
  | i + 1 => (rowz_sm (mz_sm ha hb i) (bytes_get ha i) hb 17).mono (by omega)
theorem mul_l1 {a b z : List Int} (ha : a.length = 17) (hb : b.length = 17) (hab : Bytes a) (hbb : Bytes b) (hz : z.length = 34) (hzs : Sm 1105425 z) (i : Nat) (hi : i < 17) (K : Nat) : ∀ (n k : Nat), k + n = 17 → mailcoachref05_mul.l1 (n + 1 + K) a b (rowz z i b (a.getD i 0) k) (i : Int) (k : Int) = mailcoachref05_mul.l0 K a b (rowz z i b (a.getD i 0) 17) ((i + 1 : Nat) : Int)
  | 0, k, hk => by
    obtain rfl : k = 17 := by omega
    have e : wrap64 ((i : Int) + 1) = ((i + 1 : Nat) : Int) := by rw [w64 _ (by omega) (by omega)]; omega
    rw [show 0 + 1 + K = K + 1 by omega, mailcoachref05_mul.l1, if_neg (by omega), e]
  | n + 1, k, hk => by
    have hl : (rowz z i b (a.getD i 0) k).length = 34 := by rw [rowz_len]; exact hz
    have c1 : (k : Int) < 17 := by omega
    have c2 : 0 ≤ ((i + k : Nat) : Int) := by omega
    have c3 : ((i + k : Nat) : Int) < ((rowz z i b (a.getD i 0) k).length : Int) := by omega
    have c4 : 0 ≤ (i : Int) := by omega
    have c5 : (i : Int) < (a.length : Int) := by omega
    have c6 : 0 ≤ (k : Int) := by omega
    have c7 : (k : Int) < (b.length : Int) := by omega
    have h1 := rowz_sm (i := i) hzs (bytes_get hab i) hbb k (i + k)
    have h2 := mul_bd (bytes_get hab i) (bytes_get hbb k)
    have e1 : wrap64 ((i : Int) + (k : Int)) = ((i + k : Nat) : Int) := by rw [w64 _ (by omega) (by omega)]; omega
    have e2 : wrap64 ((k : Int) + 1) = ((k + 1 : Nat) : Int) := by rw [w64 _ (by omega) (by omega)]; omega
    have r1 : rd (rowz z i b (a.getD i 0) k) ((i + k : Nat) : Int) = (rowz z i b (a.getD i 0) k).getD (i + k) 0 := rd_nat _ _
    have r2 : rd a (i : Int) = a.getD i 0 := rd_nat _ _
    have r3 : rd b (k : Int) = b.getD k 0 := rd_nat _ _
    have e3 : IntKind.u64.wrap (a.getD i 0 * b.getD k 0) = a.getD i 0 * b.getD k 0 := wrap_in _ h2.1 (by omega)
    have e4 : IntKind.u64.wrap ((rowz z i b (a.getD i 0) k).getD (i + k) 0 + a.getD i 0 * b.getD k 0) = (rowz z i b (a.getD i 0) k).getD (i + k) 0 + a.getD i 0 * b.getD k 0 := wrap_in _ (by omega) (by omega)
    have ih := mul_l1 ha hb hab hbb hz hzs i hi K n (k + 1) (by omega)
    rw [rowz] at ih
    rw [show n + 1 + 1 + K = (n + 1 + K) + 1 by omega, mailcoachref05_mul.l1, e1, e2, r1, r2, r3, e3, e4, Int.toNat_natCast]
    rw [if_pos c1, if_pos c2, if_pos c3, if_pos c4, if_pos c5, if_pos c6, if_pos c7]
    exact ih
theorem mul_l0 {a b : List Int} (ha : a.length = 17) (hb : b.length = 17) (hab : Bytes a) (hbb : Bytes b) (K : Nat) : ∀ (n i : Nat), i + n = 17 → mailcoachref05_mul.l0 (19 * n + 1 + K) a b (mz a b i) (i : Int) = (mailcoachref05_carried.f K (mz a b 17) 34).bind fun t => some t
  | 0, i, hi => by
    obtain rfl : i = 17 := by omega
    rw [show 19 * 0 + 1 + K = K + 1 by omega, mailcoachref05_mul.l0, if_neg (by omega)]
  | n + 1, i, hi => by
    have h := mul_l1 ha hb hab hbb (mz_len a b i) ((mz_sm hab hbb i).mono (by omega)) i (by omega) (19 * n + 1 + K) 17 0 (by omega)
    rw [rowz, show ((0 : Nat) : Int) = 0 from rfl] at h
    rw [show 19 * (n + 1) + 1 + K = (17 + 1 + (19 * n + 1 + K)) + 1 by omega, mailcoachref05_mul.l0, if_pos (by omega), h]
    exact mul_l0 ha hb hab hbb K n (i + 1) (by omega)
theorem mul_f {a b : List Int} (ha : a.length = 17) (hb : b.length = 17) (hab : Bytes a) (hbb : Bytes b) (K : Nat) : mailcoachref05_mul.f (K + 359) a b = some (digits 34 (valB a * valB b)) := by
  unfold mailcoachref05_mul.f
  have h := mul_l0 ha hb hab hbb (K + 35) 17 0 (by omega)
  rw [mz, show ((0 : Nat) : Int) = 0 from rfl] at h
  have e : 19 * 17 + 1 + (K + 35) = K + 359 := by omega
  rw [e] at h
  rw [if_pos (by decide), h, carried_f (by rw [mz_len]; omega) ((mz_sm hab hbb 17).mono (by decide))]
  simp only [Option.bind_some]
  rw [mz_val ha hb 17 (Nat.le_refl _), List.take_of_length_le (by omega)]
end Go.Proofs.Ytlhhjdhbkhjhjaa.Po
