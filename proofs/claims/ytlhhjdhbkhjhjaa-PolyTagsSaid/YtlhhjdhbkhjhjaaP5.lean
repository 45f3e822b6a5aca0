/- Numbers of five words: their bytes. -/
import Derived.Test.YtlhhjdhbkhjhjaaP2
namespace Go.Proofs.Ytlhhjdhbkhjhjaa.Po
open Go.RowKit Go.Proofs.YtlhhjdhbkhjhjaaW.PrintWords Go.Proofs.YtlhhjdhbkhjhjaaW.PrintLast Go.Proofs.YtlhhjdhbkhjhjaaW.PrintMore Mem Rg
attribute [local go_sem] Oper.semAt_some
set_option linter.unusedVariables false
set_option linter.unusedSimpArgs false
/-- So many bytes of a number, the lowest first. -/
def digits : Nat → Int → List Int
  | 0, _ => []
  | n + 1, v => v % 256 :: digits n (v / 256)
theorem digits_len : ∀ (n : Nat) (v : Int), (digits n v).length = n
  | 0, _ => rfl
  | n + 1, v => by rw [digits, List.length_cons, digits_len n]
theorem digits_get : ∀ (n : Nat) (v : Int) (i : Nat), i < n → (digits n v).getD i 0 = v / 256 ^ i % 256
  | 0, _, _, h => absurd h (by omega)
  | n + 1, v, 0, _ => by simp [digits]
  | n + 1, v, i + 1, h => by
    rw [digits, List.getD_cons_succ, digits_get n (v / 256) i (by omega), Int.pow_succ, Int.mul_comm, Int.ediv_ediv_of_nonneg (by decide)]
theorem or_shl (a b : Int) (s : Nat) (h0 : 0 ≤ a) (h1 : a < 2 ^ s) (ha64 : a < 18446744073709551616) (hb : 0 ≤ b) (h : b * 2 ^ s < 18446744073709551616) : bits .or .u64 a (b * 2 ^ s) = a + b * 2 ^ s := by
  obtain ⟨a', rfl⟩ := Int.eq_ofNat_of_zero_le h0
  obtain ⟨b', rfl⟩ := Int.eq_ofNat_of_zero_le hb
  have hp : ((2 : Int) ^ s) = ((2 ^ s : Nat) : Int) := by simp
  have hbp : ((b' : Int) * 2 ^ s) = ((2 ^ s * b' : Nat) : Int) := by rw [hp, Nat.mul_comm]; simp
  have ha : a' < 2 ^ s := by rw [hp] at h1; omega
  rw [hbp] at h ⊢
  rw [u64_or _ _ (by omega) (by omega) (by omega) (by omega)]
  rw [Int.toNat_natCast, Int.toNat_natCast, Nat.or_comm, ← Nat.two_pow_add_eq_or_of_lt ha]
  omega
theorem or_num (a b s : Int) (k : Nat) (hs : (2 : Int) ^ k = s) (h0 : 0 ≤ a) (h1 : a < s) (ha : a < 18446744073709551616) (hb : 0 ≤ b) (h : b * s < 18446744073709551616) : bits .or .u64 a (b * s) = a + b * s := by
  subst hs
  exact or_shl a b k h0 h1 ha hb h
theorem byte_two {n : List Int} (hn : Norm n) (i : Nat) (hi : i < 16) (h5 : 8 * i / 26 + 1 < 5) : bits .or .u64 (n.getD (8 * i / 26) 0 / 2 ^ (8 * i % 26)) (IntKind.u64.wrap (n.getD (8 * i / 26 + 1) 0 * 2 ^ (26 - 8 * i % 26))) % 256 = V5 n / 256 ^ i % 256 := by
  obtain ⟨a, b, c, d, e, rfl⟩ := five hn.1
  have hb := hn.2
  simp only [List.mem_cons, List.not_mem_nil, or_false, forall_eq_or_imp, forall_eq] at hb
  have hi' : i = 0 ∨ i = 1 ∨ i = 2 ∨ i = 3 ∨ i = 4 ∨ i = 5 ∨ i = 6 ∨ i = 7 ∨ i = 8 ∨ i = 9 ∨ i = 10 ∨ i = 11 ∨ i = 12 := by omega
  rcases hi' with rfl | rfl | rfl | rfl | rfl | rfl | rfl | rfl | rfl | rfl | rfl | rfl | rfl
  all_goals
    simp only [Nat.reduceMul, Nat.reduceDiv, Nat.reduceMod, Nat.reduceAdd, Nat.reduceSub, List.getD_cons_succ, List.getD_cons_zero]
    rw [IntWalk.u64_in _ (by omega), or_shl _ _ _ (by omega) (by omega) (by omega) (by omega) (by omega)]
    simp only [V5]
    omega
theorem byte_one {n : List Int} (hn : Norm n) (i : Nat) (hi : i < 16) (h5 : ¬ 8 * i / 26 + 1 < 5) : n.getD (8 * i / 26) 0 / 2 ^ (8 * i % 26) % 256 = V5 n / 256 ^ i % 256 := by
  obtain ⟨a, b, c, d, e, rfl⟩ := five hn.1
  have hb := hn.2
  simp only [List.mem_cons, List.not_mem_nil, or_false, forall_eq_or_imp, forall_eq] at hb
  have hi' : i = 13 ∨ i = 14 ∨ i = 15 := by omega
  rcases hi' with rfl | rfl | rfl
  all_goals
    simp only [Nat.reduceMul, Nat.reduceDiv, Nat.reduceMod, Nat.reduceAdd, Nat.reduceSub, List.getD_cons_succ, List.getD_cons_zero, V5]
    omega
theorem fill_set (l : List Int) (n k : Nat) (x : Int) (hk : k < n) (hl : l.length = n) (hx : l.getD k 0 = x) : (l.take k ++ List.replicate (n - k) 0).set k x = l.take (k + 1) ++ List.replicate (n - (k + 1)) 0 := by
  have h1 : (l.take k).length = k := by rw [List.length_take]; omega
  rw [List.set_append_right _ _ (by omega), h1, Nat.sub_self]
  rw [show n - k = (n - (k + 1)) + 1 by omega, List.replicate_succ, List.set_cons_zero]
  have h2 : l.take (k + 1) = l.take k ++ [x] := by
    rw [List.take_add_one, List.getElem?_eq_getElem (by omega)]
    rw [List.getD_eq_getElem?_getD, List.getElem?_eq_getElem (by omega)] at hx
    simp only [Option.getD_some] at hx
    rw [hx]; rfl
  rw [h2, List.append_assoc]; rfl
set_option maxHeartbeats 4000000 in
set_option maxRecDepth 100000 in
theorem bytes_any (n : List Int) (hn : Norm n) (w : World) : Calls Try.prog 20 #[.agg (ia .u64 n)] w fun e w' => e = .returned (.agg (ia .u8 (digits 16 (V5 n)))) ∧ Below w.heap.size w w' := by
  have HB0 := Hide.mk (Below.refl w.heap.size w)
  have HN := Hide.mk hn
  clear hn
  go_enter Try.func20, Try.ntmps20
  go_wp2_with (first | ((with_reducible refine gate_dst (N := 1) rfl ?_); refine box_event ?hg (N := 1) ?hd (cs := ia .u64 n) (t := 39) ?hr ?_; (case hd => rfl); (case hg => rfl); (case hr => kernel_rfl); intro g1 hg w1 hbox hb; have BKg1 := Hide.mk hbox; have HB1' := Hide.mk (below_step HB0.out hb); have GEg1 : w.heap.size ≤ g1 := (by rw [hg]; exact HB0.out.size); clear HB0; have HB1 := HB1'; clear HB1'; clear hbox hb hg) | ((with_reducible refine gate_dst (N := 2) rfl ?_); refine box_event ?hg (N := 2) ?hd (cs := ia .u8 (List.replicate 16 0)) (t := 25) ?hr ?_; (case hd => rfl); (case hg => rfl); (case hr => kernel_rfl); intro g2 hg w2 hbox hb; have Lg1g2 : g1 < g2 := (by rw [hg]; exact blk_lt BKg1.out); have BKg2 := Hide.mk hbox; have HB2' := Hide.mk (below_step HB1.out hb); have GEg2 : w.heap.size ≤ g2 := (by rw [hg]; exact HB1.out.size); clear HB1; have HB2 := HB2'; clear HB2'; have BKg1' := Hide.mk (blk_below BKg1.out hb); clear BKg1; have BKg1 := BKg1'; clear BKg1'; clear hbox hb hg))
  go_loopg [6] 16 (fun gp v wy => ∃ i : Nat, i + gp = 16 ∧ v = .int .i64 i ∧ wy.heap[g1]? = some (.cells (ia .u64 n) 39 (0, 0)) ∧ wy.heap[g2]? = some (.cells (ia .u8 ((digits 16 (V5 n)).take i ++ List.replicate (16 - i) 0)) 25 (0, 0)) ∧ Below w.heap.size w wy)
  case atStart => exact ⟨0, rfl, rfl, BKg1.out, BKg2.out, HB2.out⟩
  case round =>
    clear BKg1 BKg2 HB2
    obtain ⟨i, hi, rfl, h1, h2, hb⟩ := hrel
    have B1 := Hide.mk h1
    have B2 := Hide.mk h2
    have HB := Hide.mk hb
    clear h1 h2 hb
    by_cases hlt : i < 16
    · have hd : decide ((i : Int) < 16) = true := by simp; omega
      have f1 : IntKind.i64.wrap ((i : Int) + 1) = (i : Int) + 1 := IntWalk.i64_in _ (by omega)
      have f2 : IntKind.i64.wrap (8 * (i : Int)) = ((8 * i : Nat) : Int) := by rw [IntWalk.i64_in _ (by omega)]; omega
      have hi0 : (0 : Int) ≤ (i : Int) := Int.natCast_nonneg _
      have hi1 : (i : Int) < 16 := by omega
      have cx := cell_row B1.out (8 * i / 26) (by rw [HN.out.1]; omega) rfl
      have xb := norm_get HN.out (8 * i / 26)
      obtain ⟨t, ht⟩ : ∃ t, 8 * i = t := ⟨_, rfl⟩
      rw [ht] at f2 cx xb
      have HT := Hide.mk ht
      have ht1 : t ≤ 120 := by omega
      have ht2 : (t : Int) ≤ 120 := by omega
      have hq1 : (t : Int) / 26 < 5 := by omega
      have hq0 : (0 : Int) ≤ (t : Int) / 26 := by omega
      clear ht
      generalize hx : n.getD (t / 26) 0 = x at cx xb
      have HX := Hide.mk hx
      obtain ⟨x0, x1⟩ := xb
      have f3 : IntKind.i64.wrap ((t : Int) / 26 + 1) = (t : Int) / 26 + 1 := IntWalk.i64_in _ (by omega)
      clear hx
      by_cases h5 : t / 26 + 1 < 5
      · have hd5 : decide ((t : Int) / 26 + 1 < 5) = true := by simp; omega
        have f4 : IntKind.i64.wrap (26 - (t : Int) % 26) = ((26 - t % 26 : Nat) : Int) := by rw [IntWalk.i64_in _ (by omega)]; omega
        have cy := cell_row B1.out (t / 26 + 1) (by rw [HN.out.1]; exact h5) rfl
        have yb := norm_get HN.out (t / 26 + 1)
        generalize hy : n.getD (t / 26 + 1) 0 = y at cy yb
        have HY := Hide.mk hy
        obtain ⟨y0, y1⟩ := yb
        obtain ⟨sh, hsh⟩ : ∃ sh, 26 - t % 26 = sh := ⟨_, rfl⟩
        rw [hsh] at f4
        have hs0 : (0 : Int) ≤ (sh : Int) := Int.natCast_nonneg _
        have hs1 : (sh : Int) ≤ 26 := by omega
        have hq2 : (t : Int) / 26 + 1 < 5 := by omega
        have hq3 : (0 : Int) ≤ (t : Int) / 26 + 1 := by omega
        have HSH := Hide.mk hsh
        clear hsh hy
        have HF : Hide (bits .or .u64 (x / 2 ^ (t % 26)) (IntKind.u64.wrap (y * 2 ^ sh)) % 256 = V5 n / 256 ^ i % 256) := ⟨by rw [← HX.out, ← HY.out, ← HSH.out, ← HT.out]; exact byte_two HN.out i hlt (by rw [HT.out]; exact h5)⟩
        go_wp2_with (first | ((with_reducible refine gate_store (p := 36) (v := .tmp 35) rfl ?_); refine store_cell rfl rfl 5 (.tmp 36) (.tmp 35) rfl g2 (i) (by first | rfl | go_simp) (.int .u8 (bits .or .u64 (x / 2 ^ (t % 26)) (IntKind.u64.wrap (y * 2 ^ sh)) % 256)) rfl rfl rfl (by kernel_rfl) _ _ B2.out ?hlt ?_; (case hlt => rw [ia_size, List.length_append, List.length_take, digits_len, List.length_replicate]; omega); intro w9 hb ho; rw [ia_set, fill_set (digits 16 (V5 n)) 16 i _ hlt (digits_len _ _) ((digits_get 16 (V5 n) i hlt).trans HF.out.symm)] at hb; have B2' := Hide.mk hb; have HB' := Hide.mk (ho.below HB.out GEg2); clear B2 HB; have B2 := B2'; have HB := HB'; clear B2' HB'; have B1' := Hide.mk (ho.blk B1.out (by omega)); clear B1; have B1 := B1'; clear B1'; clear hb ho))
        go_roundg (gk - 1)
        case measure => omega
        case rel => exact ⟨i + 1, by omega, by go_num, B1.out, B2.out, HB.out⟩
      · have hd5 : decide ((t : Int) / 26 + 1 < 5) = false := by simp; omega
        have HF : Hide (x / 2 ^ (t % 26) % 256 = V5 n / 256 ^ i % 256) := ⟨by rw [← HX.out, ← HT.out]; exact byte_one HN.out i hlt (by rw [HT.out]; exact h5)⟩
        go_wp2_with (first | ((with_reducible refine gate_store (p := 36) (v := .tmp 35) rfl ?_); refine store_cell rfl rfl 5 (.tmp 36) (.tmp 35) rfl g2 (i) (by first | rfl | go_simp) (.int .u8 (x / 2 ^ (t % 26) % 256)) rfl rfl rfl (by kernel_rfl) _ _ B2.out ?hlt ?_; (case hlt => rw [ia_size, List.length_append, List.length_take, digits_len, List.length_replicate]; omega); intro w9 hb ho; rw [ia_set, fill_set (digits 16 (V5 n)) 16 i _ hlt (digits_len _ _) ((digits_get 16 (V5 n) i hlt).trans HF.out.symm)] at hb; have B2' := Hide.mk hb; have HB' := Hide.mk (ho.below HB.out GEg2); clear B2 HB; have B2 := B2'; have HB := HB'; clear B2' HB'; have B1' := Hide.mk (ho.blk B1.out (by omega)); clear B1; have B1 := B1'; clear B1'; clear hb ho))
        go_roundg (gk - 1)
        case measure => omega
        case rel => exact ⟨i + 1, by omega, by go_num, B1.out, B2.out, HB.out⟩
    · obtain rfl : i = 16 := by omega
      rw [show ((16 : Nat) : Int) = 16 from rfl]
      have HE : Hide ((digits 16 (V5 n)).take 16 ++ List.replicate (16 - 16) 0 = digits 16 (V5 n)) := ⟨by rw [List.take_of_length_le (by rw [digits_len]; omega)]; simp⟩
      rw [HE.out] at B2
      go_wp2_with (first | ((with_reducible refine gate_dst (N := 38) rfl ?_); refine wpList_load_row rfl 25 (.tmp 2) rfl g2 rfl 25 _ (0, 0) _ B2.out Try.underlying25 rfl ?hsz ?_; (case hsz => rw [ia_size, digits_len]; kernel_rfl)) | ((with_reducible refine gate_store (p := 2) (v := .tmp 38) rfl ?_); go_must (refine store_row rfl rfl 25 (.tmp 2) (.tmp 38) rfl g2 rfl (ia .u8 (digits 16 (V5 n))) rfl (ia_one _ _) (by rw [ia_size, digits_len]; kernel_rfl) _ _ B2.out (by rfl) ?_); intro w9 hb ho; have B2' := Hide.mk hb; have HB' := Hide.mk (ho.below HB.out GEg2); clear B2 HB; have B2 := B2'; have HB := HB'; clear B2' HB'; have B1' := Hide.mk (ho.blk B1.out (by omega)); clear B1; have B1 := B1'; clear B1'; clear hb ho))
      refine bodyPost_ret (results_cell_row rfl _ _ g2 25 _ (0, 0) _ rfl B2.out Try.underlying25 rfl (by rw [ia_size, digits_len]; kernel_rfl)) rfl ?_
      exact ⟨rfl, HB.out⟩
end Go.Proofs.Ytlhhjdhbkhjhjaa.Po
