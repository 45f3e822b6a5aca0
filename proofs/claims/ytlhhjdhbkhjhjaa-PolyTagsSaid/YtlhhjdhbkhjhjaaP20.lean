/- The reference's numbers: carried, add. -/
import Derived.Test.YtlhhjdhbkhjhjaaP13
import Derived.Test.YtlhhjdhbkhjhjaaP2
import Derived.Test.YtlhhjdhbkhjhjaaR1
namespace Go.Proofs.Ytlhhjdhbkhjhjaa.Po
open Go.RowKit Go.Proofs.YtlhhjdhbkhjhjaaW.PrintWords Go.Proofs.YtlhhjdhbkhjhjaaW.PrintLast Go.Proofs.YtlhhjdhbkhjhjaaW.PrintMore Mem Rg
attribute [local go_sem] Oper.semAt_some
set_option linter.unusedVariables false
set_option linter.unusedSimpArgs false
theorem valB_zeros : ∀ n : Nat, valB (List.replicate n 0) = 0
  | 0 => rfl
  | n + 1 => by rw [List.replicate_succ, valB, valB_zeros n]; rfl
open PPolyTags
theorem valB_set : ∀ (l : List Int) (i : Nat) (x : Int), i < l.length → valB (l.set i x) = valB l + 256 ^ i * (x - l.getD i 0)
  | [], _, _, h => by simp at h
  | y :: l, 0, x, _ => by simp [valB]; omega
  | y :: l, i + 1, x, h => by
    rw [List.set_cons_succ, valB, valB, valB_set l i x (by simpa using h), List.getD_cons_succ, Int.pow_succ, Int.mul_comm (256 ^ i) 256, Int.mul_assoc]
    omega
theorem wrap_in (x : Int) (h0 : 0 ≤ x) (h1 : x < 18446744073709551616) : IntKind.u64.wrap x = x := IntWalk.u64_in _ (by omega)
theorem w64 (x : Int) (h0 : 0 ≤ x) (h1 : x < 9223372036854775808) : wrap64 x = x := IntWalk.wrap64_in _ (by omega)
/-- Words that are not too great. -/
def Sm (B : Int) (l : List Int) : Prop := ∀ i, 0 ≤ l.getD i 0 ∧ l.getD i 0 ≤ B
theorem Sm.of_bytes {l : List Int} (h : Bytes l) : Sm 255 l := fun i => bytes_get h i
theorem Sm.mono {B C : Int} {l : List Int} (h : Sm B l) (hc : B ≤ C) : Sm C l := fun i => ⟨(h i).1, Int.le_trans (h i).2 hc⟩
theorem Sm.set {B : Int} {l : List Int} (h : Sm B l) (p : Nat) {x : Int} (h0 : 0 ≤ x) (h1 : x ≤ B) : Sm B (l.set p x) := fun j => set_bd h ⟨h0, h1⟩ j
theorem zeros_sm (n : Nat) : Sm 0 (List.replicate n 0) := fun i => by
  rw [List.getD_eq_getElem?_getD, List.getElem?_replicate]
  split <;> decide
theorem drop_getD (l : List Int) (i : Nat) (h : i < l.length) : l.drop i = l.getD i 0 :: l.drop (i + 1) := by
  rw [List.drop_eq_getElem_cons h, List.getD_eq_getElem?_getD, List.getElem?_eq_getElem h]
  rfl
theorem rd_nat (l : List Int) (i : Nat) : rd l (i : Int) = l.getD i 0 := by unfold rd; rw [Int.toNat_natCast]
/-! carried -/
theorem carried_l0 {l : List Int} (hl : l.length ≤ 34) (hs : Sm 1152921504606846976 l) (K : Nat) : ∀ (n i : Nat) (x5 : List Int) (m : Int), i + n = 34 → x5.length = i → 0 ≤ m → m ≤ 1152921504606846976 → mailcoachref05_carried.l0 (n + 1 + K) l 34 x5 m (i : Int) = some (x5 ++ digits n (m + valB (l.drop i)))
  | 0, i, x5, m, hi, hx, h0, h1 => by
    rw [show 0 + 1 + K = K + 1 by omega, mailcoachref05_carried.l0, if_neg (by omega)]
    simp [digits]
  | n + 1, i, x5, m, hi, hx, h0, h1 => by
    have hi1 : wrap64 ((i : Int) + 1) = ((i + 1 : Nat) : Int) := by rw [w64 _ (by omega) (by omega)]; omega
    rw [show n + 1 + 1 + K = (n + 1 + K) + 1 by omega, mailcoachref05_carried.l0, if_pos (by omega)]
    by_cases h : i < l.length
    · have hb := hs i
      rw [if_pos (by omega), if_pos (by omega), if_pos (by omega), rd_nat, hi1, wrap_in (m + l.getD i 0) (by omega) (by omega)]
      rw [Int.tmod_eq_emod_of_nonneg (by omega), Int.tdiv_eq_ediv_of_nonneg (by omega), wrap_in _ (by omega) (by omega)]
      rw [carried_l0 hl hs K n (i + 1) _ _ (by omega) (by rw [List.length_append, hx]; rfl) (by omega) (by omega)]
      rw [drop_getD l i h, valB, digits, List.append_assoc, List.singleton_append]
      rw [show (m + (l.getD i 0 + 256 * valB (l.drop (i + 1)))) % 256 = (m + l.getD i 0) % 256 by omega, show (m + (l.getD i 0 + 256 * valB (l.drop (i + 1)))) / 256 = (m + l.getD i 0) / 256 + valB (l.drop (i + 1)) by omega]
    · rw [if_neg (by omega), if_pos (by omega), hi1]
      rw [Int.tmod_eq_emod_of_nonneg (by omega), Int.tdiv_eq_ediv_of_nonneg (by omega), wrap_in _ (by omega) (by omega)]
      rw [carried_l0 hl hs K n (i + 1) _ _ (by omega) (by rw [List.length_append, hx]; rfl) (by omega) (by omega)]
      rw [List.drop_eq_nil_of_le (by omega), List.drop_eq_nil_of_le (by omega), valB, Int.add_zero, Int.add_zero, digits, List.append_assoc, List.singleton_append]
theorem carried_f {l : List Int} (hl : l.length ≤ 34) (hs : Sm 1152921504606846976 l) (K : Nat) : mailcoachref05_carried.f (K + 35) l 34 = some (digits 34 (valB l)) := by
  have := carried_l0 hl hs K 34 0 [] 0 (by omega) rfl (by decide) (by decide)
  unfold mailcoachref05_carried.f
  rw [show 34 + 1 + K = K + 35 by omega] at this
  simpa using this
/-! add: place for place (plz) -/
theorem plz_len' (n m : List Int) (i : Nat) : (plz n m i).length = n.length := plz_len n m i
theorem plz_val' (n m : List Int) : ∀ i, i ≤ n.length → i ≤ m.length → valB (plz n m i) = valB n + valB (m.take i)
  | 0, _, _ => by simp [plz, valB]
  | i + 1, h1, h2 => by
    rw [plz, valB_set _ _ _ (by rw [plz_len]; omega), plz_val' n m i (by omega) (by omega), valB_take m i (by omega)]
    rw [show (plz n m i).getD i 0 + m.getD i 0 - (plz n m i).getD i 0 = m.getD i 0 by omega]
    omega
theorem plz_after (n m : List Int) (j : Nat) : ∀ i, i ≤ j → (plz n m i).getD j 0 = n.getD j 0
  | 0, _ => rfl
  | i + 1, h => by rw [plz, set_getD_ne _ _ (by omega)]; exact plz_after n m j i (by omega)
theorem plz_sm {n m : List Int} {B : Int} (hn : Sm B n) (hm : Sm 255 m) : ∀ i, Sm (B + 255) (plz n m i)
  | 0 => hn.mono (by omega)
  | i + 1 => by
    rw [plz, plz_after n m i i (Nat.le_refl _)]
    have h1 := hn i
    have h2 := hm i
    exact (plz_sm hn hm i).set i (by omega) (by omega)
theorem add_l0 {a b z : List Int} {B : Int} (hB : B ≤ 1000000) (ha : a.length ≤ 34) (hz : z.length = 34) (hzs : Sm B z) (hab : Sm 255 a) (K : Nat) : ∀ (n i : Nat), i + n = a.length → mailcoachref05_add.l0 (n + 1 + K) a b (plz z a i) (i : Int) = mailcoachref05_add.l1 K b (plz z a a.length) 0
  | 0, i, hi => by
    obtain rfl : i = a.length := by omega
    rw [show 0 + 1 + K = K + 1 by omega, mailcoachref05_add.l0, if_neg (by omega)]
  | n + 1, i, hi => by
    have h1 := plz_sm hzs hab i i
    have h2 := hab i
    have hi1 : wrap64 ((i : Int) + 1) = ((i + 1 : Nat) : Int) := by rw [w64 _ (by omega) (by omega)]; omega
    rw [show n + 1 + 1 + K = (n + 1 + K) + 1 by omega, mailcoachref05_add.l0, if_pos (by omega), if_pos (by omega), if_pos (by rw [plz_len]; omega), rd_nat, rd_nat, hi1, wrap_in _ (by omega) (by omega), Int.toNat_natCast]
    exact add_l0 hB ha hz hzs hab K n (i + 1) (by omega)
theorem add_l1 {b z : List Int} {B : Int} (hB : B ≤ 1000000) (hb : b.length ≤ 34) (hz : z.length = 34) (hzs : Sm B z) (hbb : Sm 255 b) (K : Nat) : ∀ (n i : Nat), i + n = b.length → mailcoachref05_add.l1 (n + 1 + K) b (plz z b i) (i : Int) = (mailcoachref05_carried.f K (plz z b b.length) 34).bind fun t => some t
  | 0, i, hi => by
    obtain rfl : i = b.length := by omega
    rw [show 0 + 1 + K = K + 1 by omega, mailcoachref05_add.l1, if_neg (by omega)]
  | n + 1, i, hi => by
    have h1 := plz_sm hzs hbb i i
    have h2 := hbb i
    have hi1 : wrap64 ((i : Int) + 1) = ((i + 1 : Nat) : Int) := by rw [w64 _ (by omega) (by omega)]; omega
    rw [show n + 1 + 1 + K = (n + 1 + K) + 1 by omega, mailcoachref05_add.l1, if_pos (by omega), if_pos (by omega), if_pos (by rw [plz_len]; omega), rd_nat, rd_nat, hi1, wrap_in _ (by omega) (by omega), Int.toNat_natCast]
    exact add_l1 hB hb hz hzs hbb K n (i + 1) (by omega)
theorem add_f {a b : List Int} (ha : a.length ≤ 34) (hb : b.length ≤ 34) (hab : Bytes a) (hbb : Bytes b) (K : Nat) : mailcoachref05_add.f (K + 105) a b = some (digits 34 (valB a + valB b)) := by
  have hz : (List.replicate 34 (0 : Int)).length = 34 := List.length_replicate
  have hp : (plz (List.replicate 34 0) a a.length).length = 34 := by rw [plz_len]; exact hz
  have hs := plz_sm (zeros_sm 34) (Sm.of_bytes hab) a.length
  unfold mailcoachref05_add.f
  rw [if_pos (by decide), show K + 105 = a.length + 1 + (b.length + 1 + (K + (68 - a.length - b.length) + 35)) by omega]
  have h0 := add_l0 (b := b) (B := 0) (by decide) ha hz (zeros_sm 34) (Sm.of_bytes hab) (b.length + 1 + (K + (68 - a.length - b.length) + 35)) a.length 0 (by omega)
  have h1 := add_l1 (B := 0 + 255) (by decide) hb hp hs (Sm.of_bytes hbb) (K + (68 - a.length - b.length) + 35) b.length 0 (by omega)
  have e0 : plz (List.replicate 34 0) a 0 = List.replicate 34 0 := rfl
  have e1 : plz (plz (List.replicate 34 0) a a.length) b 0 = plz (List.replicate 34 0) a a.length := rfl
  rw [e0] at h0
  rw [e1] at h1
  rw [show ((0 : Nat) : Int) = 0 from rfl] at h0 h1
  rw [h0, h1, carried_f (by rw [plz_len]; omega) ((plz_sm hs (Sm.of_bytes hbb) b.length).mono (by decide))]
  simp only [Option.bind_some]
  rw [plz_val' _ _ _ (by omega) (Nat.le_refl _), plz_val' _ _ _ (by omega) (Nat.le_refl _), List.take_length, List.take_length, valB_zeros, Int.zero_add]
end Go.Proofs.Ytlhhjdhbkhjhjaa.Po
