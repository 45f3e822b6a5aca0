/- Numbers of five words: what is carried. -/
import Derived.Test.YtlhhjdhbkhjhjaaProg
import Derived.Test.YtlhhjdhbkhjhjaaKMid
import Derived.Test.YtlhhjdhbkhjhjaaKRange
import Derived.Test.YtlhhjdhbkhjhjaaKEq
import Derived.Test.YtlhhjdhbkhjhjaaWMore
import Derived.Test.YtlhhjdhbkhjhjaaWLast
import Derived.Test.YtlhhjdhbkhjhjaaWWords
import Derived.WalkMore
import Derived.Deep.LoopGhost
import Derived.Maps.AppendAt
import Derived.Outline
import Derived.Laws.ShiftsVar
import Derived.Laws.BitsAllLaws
import Derived.Laws.Bits64
import Derived.LoopTactic
import Derived.LoopN
import Derived.WalkSpells
import Derived.WalkLawsBesides
import Derived.KernelRfl
import Derived.Deep.DeepMust
namespace Go.Proofs.Ytlhhjdhbkhjhjaa.Po
open Go.RowKit Go.Proofs.YtlhhjdhbkhjhjaaW.PrintWords Go.Proofs.YtlhhjdhbkhjhjaaW.PrintLast Go.Proofs.YtlhhjdhbkhjhjaaW.PrintMore Mem Rg
attribute [local go_sem] Oper.semAt_some
set_option linter.unusedVariables false
set_option linter.unusedSimpArgs false

/-- Five words, the lowest first, as one number. -/
def V5 : List Int → Int
  | [] => 0
  | x :: l => x + 67108864 * V5 l
def PP : Int := 1361129467683753853853498429727072845819
/-- Each word is below 2^26. -/
def Norm (l : List Int) : Prop := l.length = 5 ∧ ∀ x ∈ l, 0 ≤ x ∧ x ≤ 67108863
def Small (l : List Int) : Prop := l.length = 5 ∧ ∀ x ∈ l, 0 ≤ x ∧ x < 2305843009213693952
theorem five {l : List Int} (h : l.length = 5) : ∃ a b c d e, l = [a, b, c, d, e] := by
  match l, h with
  | [a, b, c, d, e], _ => exact ⟨a, b, c, d, e, rfl⟩
/-- A word is carried. -/
def cstep (i : Nat) (l : List Int) : List Int :=
  if i < 4 then (l.set i (l.getD i 0 % 67108864)).set (i + 1) (l.getD (i + 1) 0 + l.getD i 0 / 67108864)
  else (l.set i (l.getD i 0 % 67108864)).set 0 (l.getD 0 0 + 5 * (l.getD i 0 / 67108864))
def cs : Nat → List Int → List Int
  | 0, l => l
  | i + 1, l => cstep i (cs i l)
theorem cs_len (l : List Int) : ∀ i, (cs i l).length = l.length
  | 0 => rfl
  | i + 1 => by
    rw [cs, cstep]
    split <;> simp [cs_len l i]
theorem cs_bd {l : List Int} (h : Small l) (i : Nat) (hi : i ≤ 4) : (∀ j, 0 ≤ (cs i l).getD j 0) ∧ (∀ j, (cs i l).getD j 0 < 2305843009213693952 + 68719476736) ∧ (1 ≤ i → (cs i l).getD 0 0 < 67108864) := by
  obtain ⟨a, b, c, d, e, rfl⟩ := five h.1
  have hb := h.2
  simp only [List.mem_cons, List.not_mem_nil, or_false, forall_eq_or_imp, forall_eq] at hb
  have hz : ∀ j, 0 ≤ (cs i [a, b, c, d, e]).getD j 0 ∧ (cs i [a, b, c, d, e]).getD j 0 < 2305843009213693952 + 68719476736 := by
    intro j
    have hj : j = 0 ∨ j = 1 ∨ j = 2 ∨ j = 3 ∨ j = 4 ∨ 5 ≤ j := by omega
    have hi' : i = 0 ∨ i = 1 ∨ i = 2 ∨ i = 3 ∨ i = 4 := by omega
    rcases hj with rfl | rfl | rfl | rfl | rfl | hj
    case inr.inr.inr.inr.inr =>
      rw [List.getD_eq_getElem?_getD, List.getElem?_eq_none (by rw [cs_len]; exact hj)]
      decide
    all_goals
      rcases hi' with rfl | rfl | rfl | rfl | rfl <;> simp [cs, cstep] <;> omega
  refine ⟨fun j => (hz j).1, fun j => (hz j).2, fun h1 => ?_⟩
  have hi' : i = 1 ∨ i = 2 ∨ i = 3 ∨ i = 4 := by omega
  rcases hi' with rfl | rfl | rfl | rfl <;> simp [cs, cstep] <;> omega
theorem cs_val {l : List Int} (h : Small l) : ∃ q, 0 ≤ q ∧ V5 (cs 5 l) = V5 l - q * PP ∧ Small (cs 5 l) ∧ (q = 0 → Norm (cs 5 l)) := by
  obtain ⟨a, b, c, d, e, rfl⟩ := five h.1
  have hb := h.2
  simp only [List.mem_cons, List.not_mem_nil, or_false, forall_eq_or_imp, forall_eq] at hb
  have hv : cs 5 [a, b, c, d, e] = [a % 67108864 + 5 * ((e + (d + (c + (b + a / 67108864) / 67108864) / 67108864) / 67108864) / 67108864), (b + a / 67108864) % 67108864, (c + (b + a / 67108864) / 67108864) % 67108864, (d + (c + (b + a / 67108864) / 67108864) / 67108864) % 67108864, (e + (d + (c + (b + a / 67108864) / 67108864) / 67108864) / 67108864) % 67108864] := by
    simp [cs, cstep]
  rw [hv]
  obtain ⟨h1, e1⟩ : ∃ h1, a / 67108864 = h1 := ⟨_, rfl⟩
  obtain ⟨h2, e2⟩ : ∃ h2, (b + h1) / 67108864 = h2 := ⟨_, rfl⟩
  obtain ⟨h3, e3⟩ : ∃ h3, (c + h2) / 67108864 = h3 := ⟨_, rfl⟩
  obtain ⟨h4, e4⟩ : ∃ h4, (d + h3) / 67108864 = h4 := ⟨_, rfl⟩
  obtain ⟨h5, e5⟩ : ∃ h5, (e + h4) / 67108864 = h5 := ⟨_, rfl⟩
  simp only [e1, e2, e3, e4, e5]
  refine ⟨h5, by omega, ?_, ⟨rfl, ?_⟩, fun h0 => ⟨rfl, ?_⟩⟩
  · simp only [V5, PP]
    omega
  · simp only [List.mem_cons, List.not_mem_nil, or_false, forall_eq_or_imp, forall_eq]
    omega
  · simp only [List.mem_cons, List.not_mem_nil, or_false, forall_eq_or_imp, forall_eq]
    omega
theorem V5_nonneg {l : List Int} (h : Small l) : 0 ≤ V5 l := by
  obtain ⟨a, b, c, d, e, rfl⟩ := five h.1
  have hb := h.2
  simp only [List.mem_cons, List.not_mem_nil, or_false, forall_eq_or_imp, forall_eq] at hb
  simp only [V5]
  omega
/-- The number in a block. -/
def numS (g : Nat) (w : World) : Nat := match w.heap[g]? with | some (.cells cs _ _) => (V5 (cs.toList.map intOf)).toNat | _ => 0
theorem numS_eq {g : Nat} {w : World} {l : List Int} {t : TypeId} (h : w.heap[g]? = some (.cells (ia .u64 l) t (0, 0))) : numS g w = (V5 l).toNat := by
  unfold numS
  rw [h]
  simp only [ia, List.map_map]
  rw [show (intOf ∘ Value.int .u64) = id from funext fun x => rfl, List.map_id]
theorem set_getD_ne (l : List Int) {i j : Nat} (x : Int) (h : i ≠ j) : (l.set i x).getD j 0 = l.getD j 0 := by
  simp [List.getD_eq_getElem?_getD, List.getElem?_set, h]
theorem set_getD_eq (l : List Int) {i : Nat} (x : Int) (h : i < l.length) : (l.set i x).getD i 0 = x := by
  simp [List.getD_eq_getElem?_getD, List.getElem?_set, h]
theorem cell_set {w : World} {g i : Nat} {k : IntKind} {l : List Int} {t : TypeId} {x y : Int} (hb : w.heap[g]? = some (.cells (ia k (l.set i x)) t (0, 0))) (j : Nat) (hj : j < l.length) (hne : i ≠ j) (hy : l.getD j 0 = y) : w.cell? ⟨g, j, none⟩ = some (.int k y) := by
  rw [← hy, ← set_getD_ne l x hne]
  exact (blk_cell hb j).trans (ia_get _ _ _ (by rw [List.length_set]; exact hj))
theorem cell_row {w : World} {g : Nat} {k : IntKind} {l : List Int} {t : TypeId} {y : Int} (hb : w.heap[g]? = some (.cells (ia k l) t (0, 0))) (j : Nat) (hj : j < l.length) (hy : l.getD j 0 = y) : w.cell? ⟨g, j, none⟩ = some (.int k y) := by
  rw [← hy]
  exact (blk_cell hb j).trans (ia_get _ _ _ hj)
theorem mask_u64 (x : Int) (h0 : 0 ≤ x) (h1 : x < 18446744073709551616) : bits .and .u64 x 67108863 = x % 67108864 := by
  rw [show x = ((x.toNat : Nat) : Int) by omega]
  rw [u64_and _ 67108863 (by omega) (by omega) (by decide) (by decide)]
  rw [show (67108863 : Int).toNat = 2 ^ 26 - 1 from rfl, Nat.and_two_pow_sub_one_eq_mod]
  omega
theorem index5 (l : List Int) (hl : l.length = 5) (k : Nat) (hk : k < 5) (w : World) : (Instr.index 39 (.agg (ia .u64 l)) (.int .i64 (k : Int))).run Try.prog w = .ok (.int .u64 (l.getD k 0)) w := by
  obtain ⟨a, b, c, d, e, rfl⟩ := five hl
  have hk' : k = 0 ∨ k = 1 ∨ k = 2 ∨ k = 3 ∨ k = 4 := by omega
  rcases hk' with rfl | rfl | rfl | rfl | rfl <;> rfl
set_option maxHeartbeats 4000000 in
set_option maxRecDepth 100000 in
theorem carried_any (l : List Int) (hl : Small l) (w : World) : Calls Try.prog 29 #[.agg (ia .u64 l)] w fun e w' => (∃ r, e = .returned (.agg (ia .u64 r)) ∧ Norm r ∧ V5 r % PP = V5 l % PP) ∧ Below w.heap.size w w' := by
  have HB0 := Hide.mk (Below.refl w.heap.size w)
  have HL := Hide.mk hl
  clear hl
  go_enter Try.func29, Try.ntmps29
  go_wp2_with (first | ((with_reducible refine gate_dst (N := 1) rfl ?_); refine box_event ?hg (N := 1) ?hd (cs := ia .u64 l) (t := 39) ?hr ?_; (case hd => rfl); (case hg => rfl); (case hr => kernel_rfl); intro g1 hg w1 hbox hb; have BKg1 := Hide.mk hbox; have HB1' := Hide.mk (below_step HB0.out hb); have GEg1 : w.heap.size ≤ g1 := (by rw [hg]; exact HB0.out.size); clear HB0; have HB1 := HB1'; clear HB1'; clear hbox hb hg) | ((with_reducible refine gate_dst (N := 2) rfl ?_); refine box_event ?hg (N := 2) ?hd (cs := ia .u64 (List.replicate 5 0)) (t := 39) ?hr ?_; (case hd => rfl); (case hg => rfl); (case hr => kernel_rfl); intro g2 hg w2 hbox hb; have Lg1g2 : g1 < g2 := (by rw [hg]; exact blk_lt BKg1.out); have BKg2 := Hide.mk hbox; have HB2' := Hide.mk (below_step HB1.out hb); have GEg2 : w.heap.size ≤ g2 := (by rw [hg]; exact HB1.out.size); clear HB1; have HB2 := HB2'; clear HB2'; have BKg1' := Hide.mk (blk_below BKg1.out hb); clear BKg1; have BKg1 := BKg1'; clear BKg1'; clear hbox hb hg))
  simp only [Act.put, List.setIfInBounds_toArray, List.set_cons_zero, List.set_cons_succ]
  go_step3
  go_wp2_with fail
  go_step3
  go_wp2_with fail
  go_loopg [7] (V5 l).toNat (fun gq _ wr => ∃ m, (V5 m).toNat = gq ∧ wr.heap[g1]? = some (.cells (ia .u64 m) 39 (0, 0)) ∧ wr.heap[g2]? = some (.cells (ia .u64 (List.replicate 5 0)) 39 (0, 0)) ∧ Small m ∧ V5 m % PP = V5 l % PP ∧ Below w.heap.size w wr)
  case atStart => exact ⟨l, rfl, BKg1.out, BKg2.out, HL.out, rfl, HB2.out⟩
  case round =>
    clear BKg1 BKg2 HB2
    obtain ⟨m, hq, h1, h2, hm, hv, hb⟩ := hrel
    have B1 := Hide.mk h1
    have B2 := Hide.mk h2
    have HM := Hide.mk hm
    have HV := Hide.mk hv
    have HB := Hide.mk hb
    have HQ := Hide.mk hq
    have HM5 : Hide (∀ i, (cs i m).length = 5) := ⟨fun i => (cs_len m i).trans hm.1⟩
    clear h1 h2 hm hv hb hq
    go_wp2_with fail
    go_loopg [7] 5 (fun gp v7 wy => ∃ i : Nat, i + gp = 5 ∧ v7 = .int .i64 i ∧ wy.heap[g1]? = some (.cells (ia .u64 (cs i m)) 39 (0, 0)) ∧ wy.heap[g2]? = some (.cells (ia .u64 (List.replicate 5 0)) 39 (0, 0)) ∧ Below w.heap.size w wy)
    case atStart => exact ⟨0, rfl, rfl, B1.out, B2.out, HB.out⟩
    case round =>
      clear B1 B2 HB
      obtain ⟨i, hi, rfl, h1, h2, hb⟩ := hrel
      have B1 := Hide.mk h1
      have B2 := Hide.mk h2
      have HB := Hide.mk hb
      clear h1 h2 hb
      by_cases hlt : i < 5
      · have hd : decide ((i : Int) < 5) = true := by simp; omega
        have HBD := Hide.mk (cs_bd HM.out i (by omega))
        have HS : Hide (cs (i + 1) m = cstep i (cs i m)) := ⟨rfl⟩
        have HLL := Hide.mk (HM5.out i)
        obtain ⟨L, hL⟩ : ∃ L, cs i m = L := ⟨_, rfl⟩
        rw [hL] at B1 HBD HS HLL
        clear hL
        have x0 := HBD.out.1 i
        have x1 := HBD.out.2.1 i
        have ci : wr.cell? ⟨g1, i, none⟩ = some (.int .u64 (L.getD i 0)) := (blk_cell B1.out _).trans (ia_get _ _ _ (by rw [HLL.out]; omega))
        have f1 : IntKind.i64.wrap ((i : Int) + 1) = (i : Int) + 1 := IntWalk.i64_in _ (by omega)
        have hi0 : (0 : Int) ≤ (i : Int) := Int.natCast_nonneg _
        have hi1 : (i : Int) < 5 := by omega
        by_cases h4 : i < 4
        · have hd4 : decide ((i : Int) + 1 < 5) = true := by simp; omega
          have y0 := HBD.out.1 (i + 1)
          have y1 := HBD.out.2.1 (i + 1)
          have HY : Hide (cs (i + 1) m = (L.set i (L.getD i 0 % 67108864)).set (i + 1) (L.getD (i + 1) 0 + L.getD i 0 / 67108864)) := ⟨by rw [HS.out, cstep, if_pos h4]⟩
          obtain ⟨y, hy⟩ : ∃ y, L.getD (i + 1) 0 = y := ⟨_, rfl⟩
          obtain ⟨x, hx⟩ : ∃ x, L.getD i 0 = x := ⟨_, rfl⟩
          rw [hy] at y0 y1 HY
          rw [hx] at ci x0 x1 HY
          have HYY := Hide.mk hy
          have HXX := Hide.mk hx
          clear hx hy
          have HMK := Hide.mk (mask_u64 x x0 (by omega))
          have f2 : IntKind.u64.wrap (y + x / 67108864) = y + x / 67108864 := IntWalk.u64_in _ (by omega)
          go_wp2_with (first | ((with_reducible refine gate_store (p := 18) (v := .tmp 17) rfl ?_); refine store_cell rfl rfl 37 (.tmp 18) (.tmp 17) rfl g1 (i) (by first | rfl | go_simp) (.int .u64 (bits .and .u64 x 67108863)) rfl rfl rfl (by kernel_rfl) _ _ B1.out ?hlt ?_; (case hlt => rw [ia_size, HLL.out]; omega); intro w9 hb ho; rw [ia_set, HMK.out] at hb; have ci1 := cell_set hb (i + 1) (by rw [HLL.out]; omega) (by omega) HYY.out; clear ci; have B1' := Hide.mk hb; have HB' := Hide.mk (ho.below HB.out GEg1); clear B1 HB; have B1 := B1'; have HB := HB'; clear B1' HB'; have B2' := Hide.mk (ho.blk B2.out (by omega)); clear B2; have B2 := B2'; clear B2'; clear hb ho) | ((with_reducible refine gate_store (p := 28) (v := .tmp 27) rfl ?_); refine store_cell rfl rfl 37 (.tmp 28) (.tmp 27) rfl g1 (i + 1) (by first | rfl | go_simp) (.int .u64 (y + x / 67108864)) rfl rfl rfl (by kernel_rfl) _ _ B1.out ?hlt ?_; (case hlt => rw [ia_size, List.length_set, HLL.out]; omega); intro wA hb ho; rw [ia_set, ← HY.out] at hb; have B1' := Hide.mk hb; have HB' := Hide.mk (ho.below HB.out GEg1); clear B1 HB; have B1 := B1'; have HB := HB'; clear B1' HB'; have B2' := Hide.mk (ho.blk B2.out (by omega)); clear B2; have B2 := B2'; clear B2'; clear hb ho))
          go_roundg (gk - 1)
          case measure => omega
          case rel => exact ⟨i + 1, by omega, by go_num, B1.out, B2.out, HB.out⟩
        · obtain rfl : i = 4 := by omega
          have hd4 : decide (((4 : Nat) : Int) + 1 < 5) = false := by decide
          have y0 := HBD.out.1 0
          have y1 := HBD.out.2.1 0
          have y2 := HBD.out.2.2 (by omega)
          have HY : Hide (cs (4 + 1) m = (L.set 4 (L.getD 4 0 % 67108864)).set 0 (L.getD 0 0 + 5 * (L.getD 4 0 / 67108864))) := ⟨by rw [HS.out, cstep, if_neg h4]⟩
          obtain ⟨y, hy⟩ : ∃ y, L.getD 0 0 = y := ⟨_, rfl⟩
          obtain ⟨x, hx⟩ : ∃ x, L.getD 4 0 = x := ⟨_, rfl⟩
          rw [hy] at y0 y1 y2 HY
          rw [hx] at ci x0 x1 HY
          have HYY := Hide.mk hy
          have HXX := Hide.mk hx
          clear hx hy
          have HMK := Hide.mk (mask_u64 x x0 (by omega))
          have f2 : IntKind.u64.wrap (5 * (x / 67108864)) = 5 * (x / 67108864) := IntWalk.u64_in _ (by omega)
          have f3 : IntKind.u64.wrap (y + 5 * (x / 67108864)) = y + 5 * (x / 67108864) := IntWalk.u64_in _ (by omega)
          go_wp2_with (first | ((with_reducible refine gate_store (p := 18) (v := .tmp 17) rfl ?_); refine store_cell rfl rfl 37 (.tmp 18) (.tmp 17) rfl g1 (4) (by first | rfl | go_simp) (.int .u64 (bits .and .u64 x 67108863)) rfl rfl rfl (by kernel_rfl) _ _ B1.out ?hlt ?_; (case hlt => rw [ia_size, HLL.out]; omega); intro w9 hb ho; rw [ia_set, HMK.out] at hb; have ci1 := cell_set hb 0 (by rw [HLL.out]; omega) (by omega) HYY.out; clear ci; have B1' := Hide.mk hb; have HB' := Hide.mk (ho.below HB.out GEg1); clear B1 HB; have B1 := B1'; have HB := HB'; clear B1' HB'; have B2' := Hide.mk (ho.blk B2.out (by omega)); clear B2; have B2 := B2'; clear B2'; clear hb ho) | ((with_reducible refine gate_store (p := 34) (v := .tmp 33) rfl ?_); refine store_cell rfl rfl 37 (.tmp 34) (.tmp 33) rfl g1 (0) (by first | rfl | go_simp) (.int .u64 (y + 5 * (x / 67108864))) rfl rfl rfl (by kernel_rfl) _ _ B1.out ?hlt ?_; (case hlt => rw [ia_size, List.length_set, HLL.out]; omega); intro wA hb ho; rw [ia_set, ← HY.out] at hb; have B1' := Hide.mk hb; have HB' := Hide.mk (ho.below HB.out GEg1); clear B1 HB; have B1 := B1'; have HB := HB'; clear B1' HB'; have B2' := Hide.mk (ho.blk B2.out (by omega)); clear B2; have B2 := B2'; clear B2'; clear hb ho))
          go_roundg (gk - 1)
          case measure => omega
          case rel => exact ⟨4 + 1, by omega, by go_num, B1.out, B2.out, HB.out⟩
      · obtain rfl : i = 5 := by omega
        rw [show ((5 : Nat) : Int) = 5 from rfl]
        obtain ⟨q, hq0, hqv, hqs, hqn⟩ := cs_val HM.out
        have HC := Hide.mk (And.intro hq0 (And.intro hqv (And.intro hqs hqn)))
        have HLL := Hide.mk (HM5.out 5)
        have HN0 := Hide.mk (V5_nonneg HM.out)
        have HN1 := Hide.mk (V5_nonneg hqs)
        clear hq0 hqv hqs hqn
        obtain ⟨L, hL⟩ : ∃ L, cs 5 m = L := ⟨_, rfl⟩
        rw [hL] at B1 HC HLL HN1
        clear hL HM5
        go_wp2_with (first | ((with_reducible refine gate_dst (N := 36) rfl ?_); refine wpList_load_row rfl 39 (.tmp 1) rfl g1 rfl 39 _ (0, 0) _ B1.out Try.underlying39 rfl ?hsz ?_; (case hsz => rw [ia_size, HLL.out]; kernel_rfl)))
        go_loopg [37] 5 (fun gp v7 wy => ∃ i : Nat, i + gp = 5 ∧ v7 = .int .i64 i ∧ (∀ j, j < i → L.getD j 0 ≤ 67108863) ∧ wr = wy)
        case atStart => exact ⟨0, rfl, rfl, fun j hj => absurd hj (by omega), rfl⟩
        case round =>
          obtain ⟨i, hi, rfl, hj, rfl⟩ := hrel
          have HJ := Hide.mk hj
          clear hj
          by_cases hlt5 : i < 5
          · have hd : decide ((i : Int) < 5) = true := by simp; omega
            have hI := index5 L HLL.out i hlt5 wr
            obtain ⟨x, hx⟩ : ∃ x, L.getD i 0 = x := ⟨_, rfl⟩
            rw [hx] at hI
            have HX := Hide.mk hx
            clear hx
            have hi0 : (0 : Int) ≤ (i : Int) := Int.natCast_nonneg _
            have hi1 : (i : Int) < 5 := by omega
            have f1 : IntKind.i64.wrap ((i : Int) + 1) = (i : Int) + 1 := IntWalk.i64_in _ (by omega)
            by_cases hgt : x ≤ 67108863
            · have hd2 : decide (67108863 < x) = false := by simp; omega
              go_wp2_with fail
              go_roundg (gk - 1)
              case measure => omega
              case rel => exact ⟨i + 1, by omega, by go_num, fun j hj => (by
                by_cases e : j = i
                · rw [e, HX.out]; exact hgt
                · exact HJ.out j (by omega)), rfl⟩
            · have hd2 : decide (67108863 < x) = true := by simp; omega
              go_wp2_with fail
              have HQ0 : Hide (1 ≤ q) := ⟨by
                have h0 := HC.out.1
                by_cases e : q = 0
                · obtain ⟨hl5, hbd⟩ := HC.out.2.2.2 e
                  have hle := hbd (L.getD i 0) (by
                    rw [List.getD_eq_getElem?_getD, List.getElem?_eq_getElem (by omega)]
                    exact List.getElem_mem _)
                  rw [HX.out] at hle
                  omega
                · omega⟩
              have hvv := HC.out.2.1
              have hmod : V5 L % PP = V5 m % PP := by rw [hvv]; exact Int.sub_mul_emod_self_right _ _ _
              have hlt2 : (V5 L).toNat < (V5 m).toNat := by
                have h1 := HN0.out
                have h2 := HN1.out
                have h3 := HQ0.out
                have : 1 * PP ≤ q * PP := Int.mul_le_mul_of_nonneg_right h3 (by decide)
                unfold PP at this hvv
                omega
              go_roundg ((V5 L).toNat)
              case measure => have := HQ.out; omega
              case rel => exact ⟨L, rfl, B1.out, B2.out, HC.out.2.2.1, hmod.trans HV.out, HB.out⟩
          · obtain rfl : i = 5 := by omega
            rw [show ((5 : Nat) : Int) = 5 from rfl]
            have HNM : Hide (Norm L) := ⟨HLL.out, fun x hx => by
              obtain ⟨k, hk, rfl⟩ := List.getElem_of_mem hx
              have h1 := HJ.out k (by have := HLL.out; omega)
              rw [List.getD_eq_getElem?_getD, List.getElem?_eq_getElem hk] at h1
              exact ⟨(HC.out.2.2.1.2 _ (List.getElem_mem _)).1, h1⟩⟩
            have HMOD : Hide (V5 L % PP = V5 l % PP) := ⟨by rw [← HV.out, HC.out.2.1]; exact Int.sub_mul_emod_self_right _ _ _⟩
            go_wp2_with (first | ((with_reducible refine gate_dst (N := 43) rfl ?_); refine wpList_load_row rfl 39 (.tmp 1) rfl g1 rfl 39 _ (0, 0) _ B1.out Try.underlying39 rfl ?hsz ?_; (case hsz => rw [ia_size, HLL.out]; kernel_rfl)) | ((with_reducible refine gate_store (p := 2) (v := .tmp 43) rfl ?_); go_must (refine store_row rfl rfl 39 (.tmp 2) (.tmp 43) rfl g2 rfl (ia .u64 L) rfl (ia_one _ _) (by rw [ia_size, HLL.out]; kernel_rfl) _ _ B2.out (by rw [ia_size, ia_size, HLL.out]; rfl) ?_); intro w9 hb ho; have B2' := Hide.mk hb; have HB' := Hide.mk (ho.below HB.out GEg2); clear B2 HB; have B2 := B2'; have HB := HB'; clear B2' HB'; clear hb ho))
            try rw [Exit.noGoto_ret]
            refine bodyPost_ret (results_cell_row rfl _ _ g2 39 _ (0, 0) _ rfl B2.out Try.underlying39 rfl (by rw [ia_size, HLL.out]; kernel_rfl)) rfl ?_
            exact ⟨⟨L, rfl, HNM.out, HMOD.out⟩, HB.out⟩
end Go.Proofs.Ytlhhjdhbkhjhjaa.Po
