/- Numbers of five words: of bytes. -/
import Derived.Test.YtlhhjdhbkhjhjaaP5
namespace Go.Proofs.Ytlhhjdhbkhjhjaa.Po
open Go.RowKit Go.Proofs.YtlhhjdhbkhjhjaaW.PrintWords Go.Proofs.YtlhhjdhbkhjhjaaW.PrintLast Go.Proofs.YtlhhjdhbkhjhjaaW.PrintMore Mem Rg
attribute [local go_sem] Oper.semAt_some
set_option linter.unusedVariables false
set_option linter.unusedSimpArgs false
/-- Bytes, the lowest first, as one number. -/
def valB : List Int → Int
  | [] => 0
  | x :: l => x + 256 * valB l
def Bytes (l : List Int) : Prop := ∀ x ∈ l, 0 ≤ x ∧ x ≤ 255
def limbs (v : Int) : List Int := [v % 67108864, v / 67108864 % 67108864, v / 4503599627370496 % 67108864, v / 302231454903657293676544 % 67108864, v / 20282409603651670423947251286016 % 67108864]
theorem limbs_norm (v : Int) : Norm (limbs v) := ⟨rfl, by
  simp only [limbs, List.mem_cons, List.not_mem_nil, or_false, forall_eq_or_imp, forall_eq]
  omega⟩
theorem limbs_val (v : Int) (h0 : 0 ≤ v) (h1 : v < 1361129467683753853853498429727072845824) : V5 (limbs v) = v := by
  simp only [limbs, V5]
  omega
theorem valB_take (l : List Int) : ∀ i : Nat, i < l.length → valB (l.take (i + 1)) = valB (l.take i) + 256 ^ i * l.getD i 0 := by
  induction l with
  | nil => intro i h; simp at h
  | cons x l ih =>
    intro i h
    cases i with
    | zero => simp [valB]
    | succ i =>
      rw [List.take_succ_cons, List.take_succ_cons, valB, valB, ih i (by simpa using h), List.getD_cons_succ, Int.pow_succ, Int.mul_add, Int.mul_comm (256 ^ i) 256, Int.mul_assoc]
      omega
theorem valB_bd : ∀ (l : List Int), Bytes l → 0 ≤ valB l ∧ valB l < 256 ^ l.length
  | [], _ => by decide
  | x :: l, h => by
    have h1 := h x (List.mem_cons_self ..)
    have h2 := valB_bd l fun y hy => h y (List.mem_cons_of_mem _ hy)
    rw [valB, List.length_cons, Int.pow_succ]
    omega
theorem bytes_take {l : List Int} (h : Bytes l) (n : Nat) : Bytes (l.take n) := fun x hx => h x (List.mem_of_mem_take hx)
theorem bytes_drop {l : List Int} (h : Bytes l) (n : Nat) : Bytes (l.drop n) := fun x hx => h x (List.mem_of_mem_drop hx)
theorem bytes_get {l : List Int} (h : Bytes l) (i : Nat) : 0 ≤ l.getD i 0 ∧ l.getD i 0 ≤ 255 := by
  rw [List.getD_eq_getElem?_getD]
  by_cases hi : i < l.length
  · rw [List.getElem?_eq_getElem hi]; exact h _ (List.getElem_mem _)
  · rw [List.getElem?_eq_none (by omega)]; decide
theorem or_zero64 (x : Int) (h0 : 0 ≤ x) (h1 : x < 18446744073709551616) : bits .or .u64 0 x = x := by
  have := or_shl 0 x 0 (by decide) (by decide) (by decide) h0 (by simpa using h1)
  simpa using this
def ofLo (v c : Int) (i : Nat) : List Int := (limbs v).set (8 * i / 26) (bits .or .u64 ((limbs v).getD (8 * i / 26) 0) (bits .and .u64 (c * 2 ^ (8 * i % 26)) 67108863))
theorem of_step (v c : Int) (i : Nat) (hi : i ≤ 16) (v0 : 0 ≤ v) (v1 : v < 256 ^ i) (c0 : 0 ≤ c) (c1 : c ≤ 255) (hc : i = 16 → c ≤ 3) :
    (c * 2 ^ (8 * i % 26) ≤ 67108863 → limbs (v + 256 ^ i * c) = ofLo v c i) ∧
    (67108863 < c * 2 ^ (8 * i % 26) → 8 * i / 26 + 1 < 5 ∧ limbs (v + 256 ^ i * c) = (ofLo v c i).set (8 * i / 26 + 1) (bits .or .u64 ((limbs v).getD (8 * i / 26 + 1) 0) (c * 2 ^ (8 * i % 26) / 67108864))) := by
  have hi' : i = 0 ∨ i = 1 ∨ i = 2 ∨ i = 3 ∨ i = 4 ∨ i = 5 ∨ i = 6 ∨ i = 7 ∨ i = 8 ∨ i = 9 ∨ i = 10 ∨ i = 11 ∨ i = 12 ∨ i = 13 ∨ i = 14 ∨ i = 15 ∨ i = 16 := by omega
  rcases hi' with rfl | rfl | rfl | rfl | rfl | rfl | rfl | rfl | rfl | rfl | rfl | rfl | rfl | rfl | rfl | rfl | rfl
  all_goals
    simp only [ofLo, limbs, Nat.reduceMul, Nat.reduceDiv, Nat.reduceMod, Nat.reduceAdd, Nat.reduceSub, List.getD_cons_succ, List.getD_cons_zero, List.set_cons_succ, List.set_cons_zero]
    rw [mask_u64 _ (by omega) (by omega)]
    first
      | rw [show c * 2 ^ 0 % 67108864 = c * 2 ^ 0 by omega, or_shl _ c 0 (by omega) (by omega) (by omega) (by omega) (by omega)]
      | rw [show c * 2 ^ 8 % 67108864 = (c % 2 ^ 18) * 2 ^ 8 by omega, or_shl _ _ 8 (by omega) (by omega) (by omega) (by omega) (by omega)]
      | rw [show c * 2 ^ 16 % 67108864 = (c % 2 ^ 10) * 2 ^ 16 by omega, or_shl _ _ 16 (by omega) (by omega) (by omega) (by omega) (by omega)]
      | rw [show c * 2 ^ 24 % 67108864 = (c % 2 ^ 2) * 2 ^ 24 by omega, or_shl _ _ 24 (by omega) (by omega) (by omega) (by omega) (by omega)]
      | rw [show c * 2 ^ 6 % 67108864 = (c % 2 ^ 20) * 2 ^ 6 by omega, or_shl _ _ 6 (by omega) (by omega) (by omega) (by omega) (by omega)]
      | rw [show c * 2 ^ 14 % 67108864 = (c % 2 ^ 12) * 2 ^ 14 by omega, or_shl _ _ 14 (by omega) (by omega) (by omega) (by omega) (by omega)]
      | rw [show c * 2 ^ 22 % 67108864 = (c % 2 ^ 4) * 2 ^ 22 by omega, or_shl _ _ 22 (by omega) (by omega) (by omega) (by omega) (by omega)]
      | rw [show c * 2 ^ 4 % 67108864 = (c % 2 ^ 22) * 2 ^ 4 by omega, or_shl _ _ 4 (by omega) (by omega) (by omega) (by omega) (by omega)]
      | rw [show c * 2 ^ 12 % 67108864 = (c % 2 ^ 14) * 2 ^ 12 by omega, or_shl _ _ 12 (by omega) (by omega) (by omega) (by omega) (by omega)]
      | rw [show c * 2 ^ 20 % 67108864 = (c % 2 ^ 6) * 2 ^ 20 by omega, or_shl _ _ 20 (by omega) (by omega) (by omega) (by omega) (by omega)]
      | rw [show c * 2 ^ 2 % 67108864 = (c % 2 ^ 24) * 2 ^ 2 by omega, or_shl _ _ 2 (by omega) (by omega) (by omega) (by omega) (by omega)]
      | rw [show c * 2 ^ 10 % 67108864 = (c % 2 ^ 16) * 2 ^ 10 by omega, or_shl _ _ 10 (by omega) (by omega) (by omega) (by omega) (by omega)]
      | rw [show c * 2 ^ 18 % 67108864 = (c % 2 ^ 8) * 2 ^ 18 by omega, or_shl _ _ 18 (by omega) (by omega) (by omega) (by omega) (by omega)]
    refine ⟨fun h => ?_, fun h => ?_⟩
    · simp only [List.cons.injEq, and_true]
      omega
    · first
        | exact absurd h (by omega)
        | (refine ⟨by decide, ?_⟩
           rw [show ∀ a : Int, a = 0 → bits .or .u64 a = bits .or .u64 0 from fun a h => by rw [h], or_zero64 _ (by omega) (by omega)]
           · simp only [List.cons.injEq, and_true]
             omega
           · omega)
set_option maxHeartbeats 4000000 in
set_option maxRecDepth 100000 in
theorem of_any (A : Option Addr) (cap : Nat) (xs : List Int) (w : World) (hby : Bytes xs) (hl : xs.length ≤ 17) (h17 : xs.getD 16 0 ≤ 3) (hr : ReadsInt w .u8 A xs.length xs) : Calls Try.prog 15 #[.slice A xs.length cap] w fun e w' => e = .returned (.agg (ia .u64 (limbs (valB xs)))) ∧ Below w.heap.size w w' := by
  have HB0 := Hide.mk (Below.refl w.heap.size w)
  have HBY := Hide.mk hby
  have HL := Hide.mk hl
  have H17 := Hide.mk h17
  have HR0 := Hide.mk hr
  clear hby hl h17 hr
  go_enter Try.func15, Try.ntmps15
  go_wp2_with (first | ((with_reducible refine gate_dst (N := 2) rfl ?_); refine box_event ?hg (N := 2) ?hd (cs := ia .u64 (List.replicate 5 0)) (t := 39) ?hr ?_; (case hd => rfl); (case hg => rfl); (case hr => kernel_rfl); intro g2 hg w1 hbox hb; have BKg2 := Hide.mk hbox; have HB1' := Hide.mk (below_step HB0.out hb); have GEg2 : w.heap.size ≤ g2 := (by rw [hg]; exact HB0.out.size); clear HB0; have HB1 := HB1'; clear HB1'; clear hbox hb hg))
  go_loopg [9] xs.length (fun gp v wy => ∃ i : Nat, i + gp = xs.length ∧ v = .int .i64 i ∧ wy.heap[g2]? = some (.cells (ia .u64 (limbs (valB (xs.take i)))) 39 (0, 0)) ∧ Below w.heap.size w wy)
  case atStart => exact ⟨0, by omega, rfl, BKg2.out, HB1.out⟩
  case round =>
    clear BKg2 HB1
    obtain ⟨i, hi, rfl, h2, hb⟩ := hrel
    have B2 := Hide.mk h2
    have HB := Hide.mk hb
    clear h2 hb
    by_cases hlt : i < xs.length
    · have hd : decide ((i : Int) < (xs.length : Int)) = true := by simp; omega
      have HI16 : Hide (i ≤ 16) := ⟨by have := HL.out; omega⟩
      have hr := HR0.out.below HB.out
      obtain ⟨ad, rfl, hcell⟩ := hr.2.2 (by omega)
      have cb := hcell i hlt
      clear hcell hr
      have HC := Hide.mk (bytes_get HBY.out i)
      have HV := Hide.mk (valB_bd (xs.take i) (bytes_take HBY.out i))
      have HST := Hide.mk (of_step (valB (xs.take i)) (xs.getD i 0) i HI16.out HV.out.1 (by have := HV.out.2; rwa [List.length_take, Nat.min_eq_left (by omega)] at this) HC.out.1 HC.out.2 (fun e => by rw [e]; exact H17.out))
      rw [← valB_take xs i hlt] at HST
      have hqz := norm_get (limbs_norm (valB (xs.take i))) (8 * i / 26)
      have cz := cell_row B2.out (8 * i / 26) (show _ < 5 by have := HI16.out; omega) rfl
      have HNX := Hide.mk (limbs_norm (valB (xs.take (i + 1))))
      unfold ofLo at HST
      obtain ⟨M, hM⟩ : ∃ M, limbs (valB (xs.take (i + 1))) = M := ⟨_, rfl⟩
      obtain ⟨L, hL⟩ : ∃ L, limbs (valB (xs.take i)) = L := ⟨_, rfl⟩
      have HLL : Hide (L.length = 5) := ⟨by rw [← hL]; rfl⟩
      have HLN : Hide (Norm L) := ⟨by rw [← hL]; exact limbs_norm _⟩
      rw [hM, hL] at HST
      rw [hL] at B2 cz hqz
      have HMM := Hide.mk hM
      clear hL hM
      obtain ⟨c, hc⟩ : ∃ c, xs.getD i 0 = c := ⟨_, rfl⟩
      rw [hc] at HST HC cb
      have c0 := HC.out.1
      have c1 := HC.out.2
      have hi0 : (0 : Int) ≤ (i : Int) := Int.natCast_nonneg _
      have hi1 : (i : Int) < (xs.length : Int) := by omega
      have hi2 : (i : Int) ≤ 16 := by have := HI16.out; omega
      have f1 : IntKind.i64.wrap ((i : Int) + 1) = (i : Int) + 1 := IntWalk.i64_in _ (by omega)
      have f2 : IntKind.i64.wrap (8 * (i : Int)) = ((8 * i : Nat) : Int) := by rw [IntWalk.i64_in _ (by omega)]; omega
      obtain ⟨t, ht⟩ : ∃ t, 8 * i = t := ⟨_, rfl⟩
      have HT := Hide.mk ht
      rw [ht] at f2 HST cz hqz
      have ht2 : (t : Int) ≤ 128 := by omega
      have ht0 : (0 : Int) ≤ (t : Int) := Int.natCast_nonneg _
      have hq0 : (0 : Int) ≤ (t : Int) / 26 := by omega
      have hq1 : (t : Int) / 26 < 5 := by omega
      clear hc ht
      obtain ⟨z, hz⟩ : ∃ z, L.getD (t / 26) 0 = z := ⟨_, rfl⟩
      rw [hz] at HST cz hqz
      have HZ := Hide.mk hz
      clear hz
      obtain ⟨z0, z1⟩ := hqz
      have HWD : Hide (0 ≤ c * 2 ^ (t % 26) ∧ c * 2 ^ (t % 26) ≤ 8556380160) := ⟨by
        have hp : ((2 : Int) ^ (t % 26)) ≤ 33554432 := by
          have h1 : 2 ^ (t % 26) ≤ 2 ^ 25 := Nat.pow_le_pow_right (by decide) (by omega)
          have h2 : ((2 : Int) ^ (t % 26)) = ((2 ^ (t % 26) : Nat) : Int) := by simp
          omega
        have hp0 : (0 : Int) < (2 : Int) ^ (t % 26) := Int.pow_pos (by decide)
        exact ⟨Int.mul_nonneg c0 (by omega), Int.le_trans (Int.mul_le_mul c1 hp (by omega) (by decide)) (by decide)⟩⟩
      have f3 : IntKind.u64.wrap (c * 2 ^ (t % 26)) = c * 2 ^ (t % 26) := IntWalk.u64_in _ (by have := HWD.out; omega)
      have f4 : IntKind.u64.wrap c = c := IntWalk.u64_in _ (by omega)
      have HWQ : Hide (t / 26 < L.length) := ⟨by rw [HLL.out]; omega⟩
      have HFL : Hide (xs.take xs.length = xs) := ⟨List.take_length⟩
      by_cases hwd : c * 2 ^ (t % 26) ≤ 67108863
      · have HS := Hide.mk (HST.out.1 hwd)
        have hdw : decide (67108863 < c * 2 ^ (t % 26)) = false := by simp; omega
        obtain ⟨wd, hwd'⟩ : ∃ wd, c * 2 ^ (t % 26) = wd := ⟨_, rfl⟩
        rw [hwd'] at f3 hdw HS hwd
        simp only [hwd'] at HWD
        clear HST
        go_wp2_with (first | ((with_reducible refine gate_store (p := 28) (v := .tmp 27) rfl ?_); refine store_cell rfl rfl 37 (.tmp 28) (.tmp 27) rfl g2 (t / 26) (by first | rfl | go_simp) (.int .u64 (bits .or .u64 z (bits .and .u64 wd 67108863))) rfl rfl rfl (by kernel_rfl) _ _ B2.out ?hlt ?_; (case hlt => rw [ia_size]; exact HWQ.out); intro w9 hb ho; rw [ia_set, ← HS.out, ← HMM.out] at hb; have B2' := Hide.mk hb; have HB' := Hide.mk (ho.below HB.out GEg2); clear B2 HB; have B2 := B2'; have HB := HB'; clear B2' HB'; clear hb ho))
        go_roundg (gk - 1)
        case measure => omega
        case rel => exact ⟨i + 1, by omega, by go_num, B2.out, HB.out⟩
      · obtain ⟨hq5, hS⟩ := HST.out.2 (by omega)
        have HS := Hide.mk hS
        clear hS HST
        have hdw : decide (67108863 < c * 2 ^ (t % 26)) = true := by simp; omega
        have f5 : IntKind.i64.wrap ((t : Int) / 26 + 1) = (t : Int) / 26 + 1 := IntWalk.i64_in _ (by omega)
        have hq2 : (t : Int) / 26 + 1 < 5 := by omega
        have hq3 : (0 : Int) ≤ (t : Int) / 26 + 1 := by omega
        obtain ⟨wd, hwd'⟩ : ∃ wd, c * 2 ^ (t % 26) = wd := ⟨_, rfl⟩
        rw [hwd'] at f3 hdw HS hwd
        simp only [hwd'] at HWD
        obtain ⟨y, hy⟩ : ∃ y, L.getD (t / 26 + 1) 0 = y := ⟨_, rfl⟩
        rw [hy] at HS
        have HY := Hide.mk hy
        clear hy
        have y0 := norm_get HLN.out (t / 26 + 1)
        rw [HY.out] at y0
        obtain ⟨y0, y1⟩ := y0
        have w0 := HWD.out.1
        have w1 := HWD.out.2
        go_wp2_with (first | ((with_reducible refine gate_store (p := 28) (v := .tmp 27) rfl ?_); refine store_cell rfl rfl 37 (.tmp 28) (.tmp 27) rfl g2 (t / 26) (by first | rfl | go_simp) (.int .u64 (bits .or .u64 z (bits .and .u64 wd 67108863))) rfl rfl rfl (by kernel_rfl) _ _ B2.out ?hlt ?_; (case hlt => rw [ia_size]; exact HWQ.out); intro w9 hb ho; rw [ia_set] at hb; have cy := cell_set hb (t / 26 + 1) (by rw [HLL.out]; omega) (by omega) HY.out; clear cz; have B2' := Hide.mk hb; have HB' := Hide.mk (ho.below HB.out GEg2); clear B2 HB; have B2 := B2'; have HB := HB'; clear B2' HB'; clear hb ho) | ((with_reducible refine gate_store (p := 39) (v := .tmp 38) rfl ?_); refine store_cell rfl rfl 37 (.tmp 39) (.tmp 38) rfl g2 (t / 26 + 1) (by first | rfl | go_simp) (.int .u64 (bits .or .u64 y (wd / 67108864))) rfl rfl rfl (by kernel_rfl) _ _ B2.out ?hlt ?_; (case hlt => rw [ia_size, List.length_set, HLL.out]; omega); intro wA hb ho; rw [ia_set, ← HS.out, ← HMM.out] at hb; have B2' := Hide.mk hb; have HB' := Hide.mk (ho.below HB.out GEg2); clear B2 HB; have B2 := B2'; have HB := HB'; clear B2' HB'; clear hb ho))
        go_roundg (gk - 1)
        case measure => omega
        case rel => exact ⟨i + 1, by omega, by go_num, B2.out, HB.out⟩
    · obtain rfl : i = xs.length := by omega
      rw [show xs.take xs.length = xs from List.take_length] at B2
      have HLN : Hide ((limbs (valB xs)).length = 5) := ⟨rfl⟩
      have hd : decide ((xs.length : Int) < (xs.length : Int)) = false := by simp
      obtain ⟨L, hL⟩ : ∃ L, limbs (valB xs) = L := ⟨_, rfl⟩
      rw [hL] at B2 HLN
      have HLE := Hide.mk hL
      clear hL
      go_wp2_with (first | ((with_reducible refine gate_dst (N := 41) rfl ?_); refine wpList_load_row rfl 39 (.tmp 2) rfl g2 rfl 39 _ (0, 0) _ B2.out Try.underlying39 rfl ?hsz ?_; (case hsz => rw [ia_size, HLN.out]; kernel_rfl)) | ((with_reducible refine gate_store (p := 2) (v := .tmp 41) rfl ?_); go_must (refine store_row rfl rfl 39 (.tmp 2) (.tmp 41) rfl g2 rfl (ia .u64 L) rfl (ia_one _ _) (by rw [ia_size, HLN.out]; kernel_rfl) _ _ B2.out (by rfl) ?_); intro w9 hb ho; have B2' := Hide.mk hb; have HB' := Hide.mk (ho.below HB.out GEg2); clear B2 HB; have B2 := B2'; have HB := HB'; clear B2' HB'; clear hb ho))
      refine bodyPost_ret (results_cell_row rfl _ _ g2 39 _ (0, 0) _ rfl B2.out Try.underlying39 rfl (by rw [ia_size, HLN.out]; kernel_rfl)) rfl ?_
      exact ⟨by rw [HLE.out], HB.out⟩
end Go.Proofs.Ytlhhjdhbkhjhjaa.Po
