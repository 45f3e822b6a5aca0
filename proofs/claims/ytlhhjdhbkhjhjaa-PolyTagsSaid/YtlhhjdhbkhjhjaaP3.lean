/- Numbers of five words: times. -/
import Derived.Test.YtlhhjdhbkhjhjaaP2
namespace Go.Proofs.Ytlhhjdhbkhjhjaa.Po
open Go.RowKit Go.Proofs.YtlhhjdhbkhjhjaaW.PrintWords Go.Proofs.YtlhhjdhbkhjhjaaW.PrintLast Go.Proofs.YtlhhjdhbkhjhjaaW.PrintMore Mem Rg
attribute [local go_sem] Oper.semAt_some
set_option linter.unusedVariables false
set_option linter.unusedSimpArgs false
/-- Where a product of two words goes, and how often. -/
def tstep (x y : Int) (i k : Nat) (o : List Int) : List Int :=
  if i + k < 5 then o.set (i + k) (o.getD (i + k) 0 + x * y) else o.set (i + k - 5) (o.getD (i + k - 5) 0 + 5 * x * y)
def tin (m : List Int) (x : Int) (i : Nat) (o : List Int) : Nat → List Int
  | 0 => o
  | k + 1 => tstep x (m.getD k 0) i k (tin m x i o k)
def tout (n m : List Int) : Nat → List Int
  | 0 => List.replicate 5 0
  | i + 1 => tin m (n.getD i 0) i (tout n m i) 5
theorem tin_len (m : List Int) (x : Int) (i : Nat) (o : List Int) : ∀ k, (tin m x i o k).length = o.length
  | 0 => rfl
  | k + 1 => by
    rw [tin, tstep]
    split <;> rw [List.length_set] <;> exact tin_len m x i o k
theorem tout_len (n m : List Int) : ∀ i, (tout n m i).length = 5
  | 0 => rfl
  | i + 1 => by rw [tout, tin_len]; exact tout_len n m i
theorem prod_bd {x y : Int} (hx : 0 ≤ x ∧ x ≤ 67108863) (hy : 0 ≤ y ∧ y ≤ 67108863) : 0 ≤ x * y ∧ x * y ≤ 4503599493152769 ∧ 0 ≤ 5 * x * y ∧ 5 * x * y ≤ 22517997465763845 := by
  have h1 := Int.mul_nonneg hx.1 hy.1
  have h2 : x * y ≤ 67108863 * 67108863 := Int.mul_le_mul hx.2 hy.2 hy.1 (by decide)
  rw [show (5 * x * y : Int) = 5 * (x * y) from Int.mul_assoc 5 x y]
  omega
theorem set_bd {o : List Int} {B : Int} {p : Nat} {x : Int} (h : ∀ j, 0 ≤ o.getD j 0 ∧ o.getD j 0 ≤ B) (hx : 0 ≤ x ∧ x ≤ B) (j : Nat) : 0 ≤ (o.set p x).getD j 0 ∧ (o.set p x).getD j 0 ≤ B := by
  by_cases e : p = j
  · subst e
    by_cases hp : p < o.length
    · rw [set_getD_eq _ _ hp]; exact hx
    · rw [List.set_eq_of_length_le (by omega)]; exact h p
  · rw [set_getD_ne _ _ e]; exact h j
theorem tstep_bd {o : List Int} {x y B : Int} (i k : Nat) (hx : 0 ≤ x ∧ x ≤ 67108863) (hy : 0 ≤ y ∧ y ≤ 67108863) (h : ∀ j, 0 ≤ o.getD j 0 ∧ o.getD j 0 ≤ B) (j : Nat) : 0 ≤ (tstep x y i k o).getD j 0 ∧ (tstep x y i k o).getD j 0 ≤ B + 22517997465763845 := by
  have hp := prod_bd hx hy
  have h' : ∀ j, 0 ≤ o.getD j 0 ∧ o.getD j 0 ≤ B + 22517997465763845 := fun j => by have := h j; omega
  unfold tstep
  split
  · exact set_bd h' (by have := h (i + k); omega) j
  · exact set_bd h' (by have := h (i + k - 5); omega) j
theorem tin_bd {m o : List Int} {x B : Int} (i : Nat) (hm : Norm m) (hx : 0 ≤ x ∧ x ≤ 67108863) (h : ∀ j, 0 ≤ o.getD j 0 ∧ o.getD j 0 ≤ B) : ∀ (k j : Nat), 0 ≤ (tin m x i o k).getD j 0 ∧ (tin m x i o k).getD j 0 ≤ B + 22517997465763845 * k
  | 0, j => by have := h j; rw [tin]; omega
  | k + 1, j => by
    have := tstep_bd i k hx (norm_get hm k) (tin_bd i hm hx h k) j
    rw [tin]
    omega
theorem tout_bd {n m : List Int} (hn : Norm n) (hm : Norm m) : ∀ (i j : Nat), 0 ≤ (tout n m i).getD j 0 ∧ (tout n m i).getD j 0 ≤ 112589987328819225 * i
  | 0, j => by
    have : (tout n m 0).getD j 0 = 0 := by
      show (List.replicate 5 (0 : Int)).getD j 0 = 0
      rw [List.getD_eq_getElem?_getD, List.getElem?_replicate]
      split <;> rfl
    rw [this]; omega
  | i + 1, j => by
    have := tin_bd i hm (norm_get hn i) (tout_bd hn hm i) 5 j
    rw [tout]
    omega
theorem times_ring (a b c d e a' b' c' d' e' : Int) : V5 [a * a' + 5 * b * e' + 5 * c * d' + 5 * d * c' + 5 * e * b', a * b' + b * a' + 5 * c * e' + 5 * d * d' + 5 * e * c', a * c' + b * b' + c * a' + 5 * d * e' + 5 * e * d', a * d' + b * c' + c * b' + d * a' + 5 * e * e', a * e' + b * d' + c * c' + d * b' + e * a'] = V5 [a, b, c, d, e] * V5 [a', b', c', d', e'] - (b * e' + c * d' + d * c' + e * b' + 67108864 * (c * e' + d * d' + e * c') + 4503599627370496 * (d * e' + e * d') + 302231454903657293676544 * (e * e')) * PP := by
  simp only [V5, PP]
  grind
theorem times_val {n m : List Int} (hn : Norm n) (hm : Norm m) : Small (tout n m 5) ∧ V5 (tout n m 5) % PP = (V5 n * V5 m) % PP := by
  refine ⟨⟨tout_len n m 5, fun x hx => ?_⟩, ?_⟩
  · obtain ⟨k, hk, rfl⟩ := List.getElem_of_mem hx
    have := tout_bd hn hm 5 k
    rw [List.getD_eq_getElem?_getD, List.getElem?_eq_getElem hk] at this
    simp only [Option.getD_some] at this
    omega
  · obtain ⟨a, b, c, d, e, rfl⟩ := five hn.1
    obtain ⟨a', b', c', d', e', rfl⟩ := five hm.1
    have hv : tout [a, b, c, d, e] [a', b', c', d', e'] 5 = [a * a' + 5 * b * e' + 5 * c * d' + 5 * d * c' + 5 * e * b', a * b' + b * a' + 5 * c * e' + 5 * d * d' + 5 * e * c', a * c' + b * b' + c * a' + 5 * d * e' + 5 * e * d', a * d' + b * c' + c * b' + d * a' + 5 * e * e', a * e' + b * d' + c * c' + d * b' + e * a'] := by
      simp [tout, tin, tstep, List.replicate]
    rw [hv, times_ring]
    exact Int.sub_mul_emod_self_right _ _ _
set_option maxHeartbeats 4000000 in
set_option maxRecDepth 100000 in
theorem times_any (n m : List Int) (hn : Norm n) (hm : Norm m) (w : World) : Calls Try.prog 18 #[.agg (ia .u64 n), .agg (ia .u64 m)] w fun e w' => (∃ r, e = .returned (.agg (ia .u64 r)) ∧ Norm r ∧ V5 r % PP = (V5 n * V5 m) % PP) ∧ Below w.heap.size w w' := by
  have HB0 := Hide.mk (Below.refl w.heap.size w)
  have HN := Hide.mk hn
  have HM := Hide.mk hm
  clear hn hm
  go_enter Try.func18, Try.ntmps18
  go_wp2_with (first | ((with_reducible refine gate_dst (N := 2) rfl ?_); refine box_event ?hg (N := 2) ?hd (cs := ia .u64 n) (t := 39) ?hr ?_; (case hd => rfl); (case hg => rfl); (case hr => kernel_rfl); intro g2 hg w1 hbox hb; have BKg2 := Hide.mk hbox; have HB1' := Hide.mk (below_step HB0.out hb); have GEg2 : w.heap.size ≤ g2 := (by rw [hg]; exact HB0.out.size); clear HB0; have HB1 := HB1'; clear HB1'; clear hbox hb hg) | ((with_reducible refine gate_dst (N := 3) rfl ?_); refine box_event ?hg (N := 3) ?hd (cs := ia .u64 m) (t := 39) ?hr ?_; (case hd => rfl); (case hg => rfl); (case hr => kernel_rfl); intro g3 hg w2 hbox hb; have Lg2g3 : g2 < g3 := (by rw [hg]; exact blk_lt BKg2.out); have BKg3 := Hide.mk hbox; have HB2' := Hide.mk (below_step HB1.out hb); have GEg3 : w.heap.size ≤ g3 := (by rw [hg]; exact HB1.out.size); clear HB1; have HB2 := HB2'; clear HB2'; have BKg2' := Hide.mk (blk_below BKg2.out hb); clear BKg2; have BKg2 := BKg2'; clear BKg2'; clear hbox hb hg) | ((with_reducible refine gate_dst (N := 4) rfl ?_); refine box_event ?hg (N := 4) ?hd (cs := ia .u64 (List.replicate 5 0)) (t := 39) ?hr ?_; (case hd => rfl); (case hg => rfl); (case hr => kernel_rfl); intro g4 hg w3 hbox hb; have Lg2g4 : g2 < g4 := (by rw [hg]; exact blk_lt BKg2.out); have Lg3g4 : g3 < g4 := (by rw [hg]; exact blk_lt BKg3.out); have BKg4 := Hide.mk hbox; have HB3' := Hide.mk (below_step HB2.out hb); have GEg4 : w.heap.size ≤ g4 := (by rw [hg]; exact HB2.out.size); clear HB2; have HB3 := HB3'; clear HB3'; have BKg2' := Hide.mk (blk_below BKg2.out hb); clear BKg2; have BKg2 := BKg2'; clear BKg2'; have BKg3' := Hide.mk (blk_below BKg3.out hb); clear BKg3; have BKg3 := BKg3'; clear BKg3'; clear hbox hb hg) | ((with_reducible refine gate_dst (N := 9) rfl ?_); refine wpList_load_row rfl 39 (.tmp 2) rfl g2 rfl 39 _ (0, 0) _ BKg2.out Try.underlying39 rfl ?hsz ?_; (case hsz => rw [ia_size, HN.out.1]; kernel_rfl)))
  go_loopg [10] 5 (fun gp v wy => ∃ i : Nat, i + gp = 5 ∧ v = .int .i64 i ∧ wy.heap[g2]? = some (.cells (ia .u64 n) 39 (0, 0)) ∧ wy.heap[g3]? = some (.cells (ia .u64 m) 39 (0, 0)) ∧ wy.heap[g4]? = some (.cells (ia .u64 (tout n m i)) 39 (0, 0)) ∧ Below w.heap.size w wy)
  case atStart => exact ⟨0, rfl, rfl, BKg2.out, BKg3.out, BKg4.out, HB3.out⟩
  case round =>
    clear BKg2 BKg3 BKg4 HB3
    obtain ⟨i, hi, rfl, h2, h3, h4, hb⟩ := hrel
    have B2 := Hide.mk h2
    have B3 := Hide.mk h3
    have B4 := Hide.mk h4
    have HB := Hide.mk hb
    clear h2 h3 h4 hb
    by_cases hlt : i < 5
    · have hd : decide ((i : Int) < 5) = true := by simp; omega
      have hI := index5 n HN.out.1 i hlt wr
      have HO := Hide.mk (tout_bd HN.out HM.out i)
      have HOL := Hide.mk (tout_len n m i)
      have HTS : Hide (tout n m (i + 1) = tin m (n.getD i 0) i (tout n m i) 5) := ⟨rfl⟩
      have HXR := Hide.mk (norm_get HN.out i)
      generalize tout n m i = o at B4 HO HOL HTS
      generalize n.getD i 0 = x at hI HTS HXR
      obtain ⟨x0, x1⟩ := HXR.out
      have f1 : IntKind.i64.wrap ((i : Int) + 1) = (i : Int) + 1 := IntWalk.i64_in _ (by omega)
      have hi0 : (0 : Int) ≤ (i : Int) := Int.natCast_nonneg _
      have hi1 : (i : Int) < 5 := by omega
      go_wp2_with (first | ((with_reducible refine gate_dst (N := 14) rfl ?_); refine wpList_load_row rfl 39 (.tmp 3) rfl g3 rfl 39 _ (0, 0) _ B3.out Try.underlying39 rfl ?hsz ?_; (case hsz => rw [ia_size, HM.out.1]; kernel_rfl)))
      go_loopg [15] 5 (fun gp v wy => ∃ k : Nat, k + gp = 5 ∧ v = .int .i64 k ∧ wy.heap[g2]? = some (.cells (ia .u64 n) 39 (0, 0)) ∧ wy.heap[g3]? = some (.cells (ia .u64 m) 39 (0, 0)) ∧ wy.heap[g4]? = some (.cells (ia .u64 (tin m x i o k)) 39 (0, 0)) ∧ Below w.heap.size w wy)
      case atStart => exact ⟨0, rfl, rfl, B2.out, B3.out, B4.out, HB.out⟩
      case round =>
        clear B2 B3 B4 HB hI
        obtain ⟨k, hk, rfl, h2, h3, h4, hb⟩ := hrel
        have B2 := Hide.mk h2
        have B3 := Hide.mk h3
        have B4 := Hide.mk h4
        have HB := Hide.mk hb
        clear h2 h3 h4 hb
        by_cases hltk : k < 5
        · have hdk : decide ((k : Int) < 5) = true := by simp; omega
          have hIk := index5 m HM.out.1 k hltk wr
          have hyr := norm_get HM.out k
          have HLL : Hide ((tin m x i o k).length = 5) := ⟨(tin_len _ _ _ _ _).trans HOL.out⟩
          have HTB := Hide.mk (tin_bd (m := m) (x := x) i HM.out HXR.out HO.out k)
          have HS0 : Hide (tin m x i o (k + 1) = tstep x (m.getD k 0) i k (tin m x i o k)) := ⟨rfl⟩
          have HSW : Hide (tin m x i o k = tin m x i o k) := ⟨rfl⟩
          generalize m.getD k 0 = y at hIk hyr HS0
          have hp := prod_bd HXR.out hyr
          generalize tin m x i o k = O at B4 HLL HTB HS0 HSW
          obtain ⟨y0, y1⟩ := hyr
          obtain ⟨p0, p1, p2, p3⟩ := hp
          have f2 : IntKind.i64.wrap ((k : Int) + 1) = (k : Int) + 1 := IntWalk.i64_in _ (by omega)
          have f3 : IntKind.i64.wrap ((i : Int) + (k : Int)) = (((i + k : Nat)) : Int) := by rw [IntWalk.i64_in _ (by omega)]; omega
          have hk0 : (0 : Int) ≤ (k : Int) := Int.natCast_nonneg _
          have hk1 : (k : Int) < 5 := by omega
          by_cases hik : i + k < 5
          · have HS : Hide (tin m x i o (k + 1) = O.set (i + k) (O.getD (i + k) 0 + x * y)) := ⟨by rw [HS0.out, tstep, if_pos hik]⟩
            have zb := HTB.out (i + k)
            have ci := cell_row B4.out (i + k) (by rw [HLL.out]; exact hik) rfl
            generalize O.getD (i + k) 0 = z at ci HS zb
            obtain ⟨z0, z1⟩ := zb
            obtain ⟨t, ht⟩ : ∃ t, i + k = t := ⟨_, rfl⟩
            rw [ht] at f3 ci HS hik
            have ht0 : (0 : Int) ≤ (t : Int) := Int.natCast_nonneg _
            have ht1 : (t : Int) < 5 := by omega
            have hdt : decide ((t : Int) < 5) = true := by simp; omega
            have f4 : IntKind.u64.wrap (x * y) = x * y := IntWalk.u64_in _ (by omega)
            have f5 : IntKind.u64.wrap (z + x * y) = z + x * y := IntWalk.u64_in _ (by omega)
            clear ht
            go_wp2_with (first | ((with_reducible refine gate_store (p := 32) (v := .tmp 31) rfl ?_); refine store_cell rfl rfl 37 (.tmp 32) (.tmp 31) rfl g4 (t) (by first | rfl | go_simp) (.int .u64 (z + x * y)) rfl rfl rfl (by kernel_rfl) _ _ B4.out ?hlt ?_; (case hlt => rw [ia_size, HLL.out]; omega); intro w9 hb ho; rw [ia_set, ← HS.out] at hb; have B4' := Hide.mk hb; have HB' := Hide.mk (ho.below HB.out GEg4); clear B4 HB; have B4 := B4'; have HB := HB'; clear B4' HB'; have B2' := Hide.mk (ho.blk B2.out (by omega)); clear B2; have B2 := B2'; clear B2'; have B3' := Hide.mk (ho.blk B3.out (by omega)); clear B3; have B3 := B3'; clear B3'; clear hb ho))
            go_roundg (gk - 1)
            case measure => omega
            case rel => exact ⟨k + 1, by omega, by go_num, B2.out, B3.out, B4.out, HB.out⟩
          · have HS : Hide (tin m x i o (k + 1) = O.set (i + k - 5) (O.getD (i + k - 5) 0 + 5 * x * y)) := ⟨by rw [HS0.out, tstep, if_neg hik]⟩
            have zb := HTB.out (i + k - 5)
            have ci := cell_row B4.out (i + k - 5) (by rw [HLL.out]; omega) rfl
            generalize O.getD (i + k - 5) 0 = z at ci HS zb
            obtain ⟨z0, z1⟩ := zb
            obtain ⟨t, ht⟩ : ∃ t, i + k - 5 = t := ⟨_, rfl⟩
            obtain ⟨u, hu⟩ : ∃ u, i + k = u := ⟨_, rfl⟩
            rw [hu] at f3
            rw [ht] at ci HS
            have ht0 : (0 : Int) ≤ (t : Int) := Int.natCast_nonneg _
            have ht1 : (t : Int) < 5 := by omega
            have hdu : decide ((u : Int) < 5) = false := by simp; omega
            have f6 : IntKind.i64.wrap ((u : Int) - 5) = (t : Int) := by rw [IntWalk.i64_in _ (by omega)]; omega
            have f4 : IntKind.u64.wrap (5 * x) = 5 * x := IntWalk.u64_in _ (by omega)
            have f4' : IntKind.u64.wrap (5 * x * y) = 5 * x * y := IntWalk.u64_in _ (by omega)
            have f5 : IntKind.u64.wrap (z + 5 * x * y) = z + 5 * x * y := IntWalk.u64_in _ (by omega)
            have HTU := Hide.mk (And.intro ht hu)
            clear ht hu
            go_wp2_with (first | ((with_reducible refine gate_store (p := 44) (v := .tmp 43) rfl ?_); refine store_cell rfl rfl 37 (.tmp 44) (.tmp 43) rfl g4 (t) (by first | rfl | go_simp) (.int .u64 (z + 5 * x * y)) rfl rfl rfl (by kernel_rfl) _ _ B4.out ?hlt ?_; (case hlt => rw [ia_size, HLL.out]; omega); intro w9 hb ho; rw [ia_set, ← HS.out] at hb; have B4' := Hide.mk hb; have HB' := Hide.mk (ho.below HB.out GEg4); clear B4 HB; have B4 := B4'; have HB := HB'; clear B4' HB'; have B2' := Hide.mk (ho.blk B2.out (by omega)); clear B2; have B2 := B2'; clear B2'; have B3' := Hide.mk (ho.blk B3.out (by omega)); clear B3; have B3 := B3'; clear B3'; clear hb ho))
            go_roundg (gk - 1)
            case measure => omega
            case rel => exact ⟨k + 1, by omega, by go_num, B2.out, B3.out, B4.out, HB.out⟩
        · obtain rfl : k = 5 := by omega
          rw [show ((5 : Nat) : Int) = 5 from rfl]
          rw [← HTS.out] at B4
          go_wp2_with fail
          go_roundg (5 - (i + 1))
          case measure => omega
          case rel => exact ⟨i + 1, by omega, by go_num, B2.out, B3.out, B4.out, HB.out⟩
    · obtain rfl : i = 5 := by omega
      rw [show ((5 : Nat) : Int) = 5 from rfl]
      have HV := Hide.mk (times_val HN.out HM.out)
      generalize tout n m 5 = s at B4 HV
      have GEg4' := GEg4
      go_wp2_with (first | ((with_reducible refine gate_dst (N := 47) rfl ?_); refine wpList_load_row rfl 39 (.tmp 4) rfl g4 rfl 39 _ (0, 0) _ B4.out Try.underlying39 rfl ?hsz ?_; (case hsz => rw [ia_size, HV.out.1.1]; kernel_rfl)))
      refine (carried_any s HV.out.1 _).mono ?_
      rintro e w4 ⟨⟨r, rfl, hr, hv⟩, hb⟩
      have HR := Hide.mk (And.intro hr (hv.trans HV.out.2))
      have HB' := Hide.mk (below_step HB.out hb)
      have B4' := Hide.mk (blk_below B4.out hb)
      clear hr hv hb HB B4 B2 B3
      have HB := HB'
      have B4 := B4'
      clear HB' B4'
      go_wp2_with (first | ((with_reducible refine gate_store (p := 4) (v := .tmp 48) rfl ?_); go_must (refine store_row rfl rfl 39 (.tmp 4) (.tmp 48) rfl g4 rfl (ia .u64 r) rfl (ia_one _ _) (by rw [ia_size, HR.out.1.1]; kernel_rfl) _ _ B4.out (by rw [ia_size, ia_size, HR.out.1.1, HV.out.1.1]) ?_); intro w9 hb ho; have B4' := Hide.mk hb; have HB' := Hide.mk (ho.below HB.out GEg4); clear B4 HB; have B4 := B4'; have HB := HB'; clear B4' HB'; clear hb ho))
      refine bodyPost_ret (results_cell_row rfl _ _ g4 39 _ (0, 0) _ rfl B4.out Try.underlying39 rfl (by rw [ia_size, HR.out.1.1]; kernel_rfl)) rfl ?_
      exact ⟨⟨r, rfl, HR.out⟩, HB.out⟩
end Go.Proofs.Ytlhhjdhbkhjhjaa.Po
