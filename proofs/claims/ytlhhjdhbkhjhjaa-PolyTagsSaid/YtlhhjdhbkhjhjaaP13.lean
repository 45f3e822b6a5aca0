/- A tag, the sum of two numbers of sixteen bytes. -/
import Derived.Test.YtlhhjdhbkhjhjaaP12
namespace Go.Proofs.Ytlhhjdhbkhjhjaa.Po
open Go.RowKit Go.Proofs.YtlhhjdhbkhjhjaaW.PrintWords Go.Proofs.YtlhhjdhbkhjhjaaW.PrintLast Go.Proofs.YtlhhjdhbkhjhjaaW.PrintMore Mem Rg
attribute [local go_sem] Oper.semAt_some
set_option linter.unusedVariables false
set_option linter.unusedSimpArgs false
/-- The sum of two, byte for byte in the first one's place. -/
def sz (a b : List Int) : Nat → List Int
  | 0 => a
  | i + 1 => (sz a b i).set i ((mo a b i + a.getD i 0 + b.getD i 0) % 256)
theorem sz_len (a b : List Int) : ∀ i, (sz a b i).length = a.length
  | 0 => rfl
  | i + 1 => by rw [sz, List.length_set]; exact sz_len a b i
theorem sz_after (a b : List Int) (j : Nat) : ∀ i, i ≤ j → (sz a b i).getD j 0 = a.getD j 0
  | 0, _ => rfl
  | i + 1, h => by rw [sz, set_getD_ne _ _ (by omega)]; exact sz_after a b j i (by omega)
theorem sz_before (a b : List Int) (j : Nat) (hj : j < a.length) : ∀ i, j < i → (sz a b i).getD j 0 = (mo a b j + a.getD j 0 + b.getD j 0) % 256
  | 0, h => absurd h (by omega)
  | i + 1, h => by
    rw [sz]
    by_cases e : i = j
    · subst e; rw [set_getD_eq _ _ (by rw [sz_len]; exact hj)]
    · rw [set_getD_ne _ _ e]; exact sz_before a b j hj i (by omega)
theorem list_ext_getD {a b : List Int} (hl : a.length = b.length) (h : ∀ i, i < a.length → a.getD i 0 = b.getD i 0) : a = b := by
  apply List.ext_getElem hl
  intro i h1 h2
  have := h i h1
  rwa [List.getD_eq_getElem?_getD, List.getD_eq_getElem?_getD, List.getElem?_eq_getElem h1, List.getElem?_eq_getElem h2] at this
theorem sz_all {a b : List Int} (ha : a.length = 16) (hb : b.length = 16) : sz a b 16 = digits 16 (valB a + valB b) :=
  list_ext_getD (by rw [sz_len, digits_len, ha]) fun i hi => by
    rw [sz_len] at hi
    rw [sz_before a b i hi 16 (by omega), digits_get 16 _ i (by omega), mo_byte (ha.trans hb.symm) i hi]
set_option maxHeartbeats 4000000 in
set_option maxRecDepth 100000 in
theorem oft_any (key : List Int) (hk : key.length = 32) (hkb : Bytes key) (A : Option Addr) (cap : Nat) (xs : List Int) (w : World) (hby : Bytes xs) (hn : xs.length ≤ 4194304) (hc : xs.length ≤ cap) (hr : ReadsInt w .u8 A xs.length xs) : Calls Try.prog 13 #[.agg (ia .u8 key), .slice A xs.length cap] w fun e w' => e = .returned (.agg (ia .u8 (tagF key xs))) ∧ Below w.heap.size w w' := by
  have HK := Hide.mk hk
  have HKB := Hide.mk hkb
  have HBY := Hide.mk hby
  have HN := Hide.mk hn
  have HC := Hide.mk hc
  have HR := Hide.mk hr
  clear hk hkb hby hn hc hr
  have HB0 := Hide.mk (Below.refl w.heap.size w)
  go_enter Try.func13, Try.ntmps13
  go_wp2_with (first | ((with_reducible refine gate_dst (N := 2) rfl ?_); refine box_event ?hg (N := 2) ?hd (cs := ia .u8 key) (t := 22) ?hr ?_; (case hd => rfl); (case hg => rfl); (case hr => kernel_rfl); intro g2 hg w1 hbox hb; have BKg2 := Hide.mk hbox; have HB1' := Hide.mk (below_step HB0.out hb); have GEg2 : w.heap.size ≤ g2 := (by rw [hg]; exact HB0.out.size); clear HB0; have HB1 := HB1'; clear HB1'; clear hbox hb hg) | ((with_reducible refine gate_dst (N := 4) rfl ?_); refine box_event ?hg (N := 4) ?hd (cs := ia .u8 (List.replicate 16 0)) (t := 25) ?hr ?_; (case hd => rfl); (case hg => rfl); (case hr => kernel_rfl); intro g4 hg w2 hbox hb; have Lg2g4 : g2 < g4 := (by rw [hg]; exact blk_lt BKg2.out); have BKg4 := Hide.mk hbox; have HB2' := Hide.mk (below_step HB1.out hb); have GEg4 : w.heap.size ≤ g4 := (by rw [hg]; exact HB1.out.size); clear HB1; have HB2 := HB2'; clear HB2'; have BKg2' := Hide.mk (blk_below BKg2.out hb); clear BKg2; have BKg2 := BKg2'; clear BKg2'; clear hbox hb hg) | ((with_reducible refine gate_dst (N := 8) rfl ?_); refine wpList_load_row rfl 22 (.tmp 2) rfl g2 rfl 22 _ (0, 0) _ BKg2.out Try.underlying22 rfl ?hsz ?_; (case hsz => rw [ia_size, HK.out]; kernel_rfl)))
  refine (tag_any key HK.out HKB.out A cap xs _ HBY.out HN.out HC.out (HR.out.below HB2.out)).mono ?_
  rintro e w3 ⟨rfl, hb⟩
  have HB3 := Hide.mk (below_step HB2.out hb)
  have K4 := Hide.mk (blk_below BKg4.out hb)
  clear hb HB2 BKg2 BKg4
  have HTL : Hide ((tagF key xs).length = 16) := ⟨digits_len _ _⟩
  obtain ⟨TF, hTF⟩ : ∃ TF, tagF key xs = TF := ⟨_, rfl⟩
  rw [hTF] at HTL ⊢
  have HTE := Hide.mk hTF
  clear hTF
  go_wp2_with (first | ((with_reducible refine gate_dst (N := 5) rfl ?_); refine box_event ?hg (N := 5) ?hd (cs := ia .u8 (List.replicate 16 0)) (t := 25) ?hr ?_; (case hd => rfl); (case hg => rfl); (case hr => kernel_rfl); intro g5 hg w5 hbox hb; have Lg4g5 : g4 < g5 := (by rw [hg]; exact blk_lt K4.out); have BKg5 := Hide.mk hbox; have HB5' := Hide.mk (below_step HB3.out hb); have GEg5 : w.heap.size ≤ g5 := (by rw [hg]; exact HB3.out.size); clear HB3; have HB5 := HB5'; clear HB5'; have K4' := Hide.mk (blk_below K4.out hb); clear K4; have K4 := K4'; clear K4'; clear hbox hb hg) | ((with_reducible refine gate_store (p := 5) (v := .tmp 11) rfl ?_); go_must (refine store_row rfl rfl 25 (.tmp 5) (.tmp 11) rfl g5 rfl (ia .u8 TF) rfl (ia_one _ _) (by rw [ia_size, HTL.out]; kernel_rfl) _ _ BKg5.out (by rw [ia_size, ia_size, HTL.out]; rfl) ?_); intro w6 hb ho; have BKg5' := Hide.mk hb; have HB5' := Hide.mk (ho.below HB5.out GEg5); clear BKg5 HB5; have BKg5 := BKg5'; have HB5 := HB5'; clear BKg5' HB5'; have K4' := Hide.mk (ho.blk K4.out (by omega)); clear K4; have K4 := K4'; clear K4'; clear hb ho) | ((with_reducible refine gate_dst (N := 13) rfl ?_); refine wpList_load_row rfl 25 (.tmp 5) rfl g5 rfl 25 _ (0, 0) _ BKg5.out Try.underlying25 rfl ?hsz ?_; (case hsz => rw [ia_size, HTL.out]; kernel_rfl)) | ((with_reducible refine gate_store (p := 4) (v := .tmp 13) rfl ?_); go_must (refine store_row rfl rfl 25 (.tmp 4) (.tmp 13) rfl g4 rfl (ia .u8 TF) rfl (ia_one _ _) (by rw [ia_size, HTL.out]; kernel_rfl) _ _ K4.out (by rw [ia_size, ia_size, HTL.out]; rfl) ?_); intro w7 hb ho; have K4' := Hide.mk hb; have HB5' := Hide.mk (ho.below HB5.out GEg4); clear K4 HB5; have K4 := K4'; have HB5 := HB5'; clear K4' HB5'; clear hb ho))
  refine bodyPost_ret (results_cell_row rfl _ _ g4 25 _ (0, 0) _ rfl K4.out Try.underlying25 rfl (by rw [ia_size, HTL.out]; kernel_rfl)) rfl ?_
  exact ⟨by rw [HTE.out], HB5.out⟩
set_option maxHeartbeats 4000000 in
set_option maxRecDepth 100000 in
theorem sum_any (a b : List Int) (ha : a.length = 16) (hb : b.length = 16) (hab : Bytes a) (hbb : Bytes b) (w : World) : Calls Try.prog 12 #[.agg (ia .u8 a), .agg (ia .u8 b)] w fun e w' => e = .returned (.agg (ia .u8 (digits 16 (valB a + valB b)))) ∧ Below w.heap.size w w' := by
  have HA := Hide.mk (And.intro ha hab)
  have HBB := Hide.mk (And.intro hb hbb)
  clear ha hb hab hbb
  have HB0 := Hide.mk (Below.refl w.heap.size w)
  go_enter Try.func12, Try.ntmps12
  go_wp2_with (first | ((with_reducible refine gate_dst (N := 2) rfl ?_); refine box_event ?hg (N := 2) ?hd (cs := ia .u8 a) (t := 25) ?hr ?_; (case hd => rfl); (case hg => rfl); (case hr => kernel_rfl); intro g2 hg w1 hbox hb; have BKg2 := Hide.mk hbox; have HB1' := Hide.mk (below_step HB0.out hb); have GEg2 : w.heap.size ≤ g2 := (by rw [hg]; exact HB0.out.size); clear HB0; have HB1 := HB1'; clear HB1'; clear hbox hb hg) | ((with_reducible refine gate_dst (N := 3) rfl ?_); refine box_event ?hg (N := 3) ?hd (cs := ia .u8 b) (t := 25) ?hr ?_; (case hd => rfl); (case hg => rfl); (case hr => kernel_rfl); intro g3 hg w2 hbox hb; have Lg2g3 : g2 < g3 := (by rw [hg]; exact blk_lt BKg2.out); have BKg3 := Hide.mk hbox; have HB2' := Hide.mk (below_step HB1.out hb); have GEg3 : w.heap.size ≤ g3 := (by rw [hg]; exact HB1.out.size); clear HB1; have HB2 := HB2'; clear HB2'; have BKg2' := Hide.mk (blk_below BKg2.out hb); clear BKg2; have BKg2 := BKg2'; clear BKg2'; clear hbox hb hg) | ((with_reducible refine gate_dst (N := 4) rfl ?_); refine box_event ?hg (N := 4) ?hd (cs := ia .u8 (List.replicate 16 0)) (t := 25) ?hr ?_; (case hd => rfl); (case hg => rfl); (case hr => kernel_rfl); intro g4 hg w3 hbox hb; have Lg2g4 : g2 < g4 := (by rw [hg]; exact blk_lt BKg2.out); have Lg3g4 : g3 < g4 := (by rw [hg]; exact blk_lt BKg3.out); have BKg4 := Hide.mk hbox; have HB3' := Hide.mk (below_step HB2.out hb); have GEg4 : w.heap.size ≤ g4 := (by rw [hg]; exact HB2.out.size); clear HB2; have HB3 := HB3'; clear HB3'; have BKg2' := Hide.mk (blk_below BKg2.out hb); clear BKg2; have BKg2 := BKg2'; clear BKg2'; have BKg3' := Hide.mk (blk_below BKg3.out hb); clear BKg3; have BKg3 := BKg3'; clear BKg3'; clear hbox hb hg))
  go_loopg [5, 6] 16 (fun gp v5 v6 wy => ∃ i : Nat, i + gp = 16 ∧ v5 = .int .i64 (mo a b i) ∧ v6 = .int .i64 i ∧ wy.heap[g2]? = some (.cells (ia .u8 (sz a b i)) 25 (0, 0)) ∧ wy.heap[g3]? = some (.cells (ia .u8 b) 25 (0, 0)) ∧ wy.heap[g4]? = some (.cells (ia .u8 (List.replicate 16 0)) 25 (0, 0)) ∧ Below w.heap.size w wy)
  case atStart => exact ⟨0, rfl, rfl, rfl, BKg2.out, BKg3.out, BKg4.out, HB3.out⟩
  case round =>
    clear BKg2 BKg3 BKg4 HB3
    obtain ⟨i, hi, rfl, rfl, h2, h3, h4, hb⟩ := hrel
    have B2 := Hide.mk h2
    have B3 := Hide.mk h3
    have B4 := Hide.mk h4
    have HB := Hide.mk hb
    have HLL : Hide ((sz a b i).length = 16) := ⟨(sz_len _ _ _).trans HA.out.1⟩
    clear h2 h3 h4 hb
    by_cases hlt : i < 16
    · have hd : decide ((i : Int) < 16) = true := by simp; omega
      have cx := cell_row B2.out i (by rw [HLL.out]; exact hlt) (sz_after a b i i (Nat.le_refl _))
      have cy := cell_row B3.out i (by rw [HBB.out.1]; exact hlt) rfl
      have HS : Hide (sz a b (i + 1) = (sz a b i).set i ((mo a b i + a.getD i 0 + b.getD i 0) % 256)) := ⟨rfl⟩
      have HM1 : Hide (mo a b (i + 1) = (mo a b i + a.getD i 0 + b.getD i 0) / 256) := ⟨rfl⟩
      have xb := bytes_get HA.out.2 i
      have yb := bytes_get HBB.out.2 i
      have mb := mo_bd HA.out.2 HBB.out.2 i
      obtain ⟨x, hx⟩ : ∃ x, a.getD i 0 = x := ⟨_, rfl⟩
      obtain ⟨y, hy⟩ : ∃ y, b.getD i 0 = y := ⟨_, rfl⟩
      obtain ⟨M, hM⟩ : ∃ M, mo a b i = M := ⟨_, rfl⟩
      rw [hM]
      rw [hx, hy, hM] at HS HM1
      rw [hx] at cx xb
      rw [hy] at cy yb
      rw [hM] at mb
      clear hx hy hM
      obtain ⟨x0, x1⟩ := xb
      obtain ⟨y0, y1⟩ := yb
      obtain ⟨M0, M1⟩ := mb
      have f1 : IntKind.i64.wrap ((i : Int) + 1) = (i : Int) + 1 := IntWalk.i64_in _ (by omega)
      have f2 : IntKind.i64.wrap (M + x) = M + x := IntWalk.i64_in _ (by omega)
      have f3 : IntKind.i64.wrap (M + x + y) = M + x + y := IntWalk.i64_in _ (by omega)
      have f4 : IntKind.i64.wrap x = x := IntWalk.i64_in _ (by omega)
      have f5 : IntKind.i64.wrap y = y := IntWalk.i64_in _ (by omega)
      have hi0 : (0 : Int) ≤ (i : Int) := Int.natCast_nonneg _
      have hi1 : (i : Int) < 16 := by omega
      have hs0 : (0 : Int) ≤ M + x + y := by omega
      go_wp2_with fail
      refine Plan.region_plan (fun w' => w'.cell? ⟨g2, i, none⟩ = some (.int .u8 x) ∧ w'.cell? ⟨g3, i, none⟩ = some (.int .u8 y)) [] [(0, 0, some 11), (1, 0, some 12), (2, 0, some 13), (3, 0, some 14), (4, 0, some 15), (5, 0, some 16), (6, 0, some 17), (7, 0, some 18), (8, 0, some 19), (9, 0, some 20), (10, 0, some 21), (11, 0, some 5)] (by kernel_rfl) (by kernel_rfl) (by decide) ⟨cx, cy⟩ (fun wz ewz hS => ?_)
      have HBz := Hide.mk (below_of_drew ewz HB.out)
      have B2z := Hide.mk (blk_of_drew ewz B2.out)
      have B3z := Hide.mk (blk_of_drew ewz B3.out)
      have B4z := Hide.mk (blk_of_drew ewz B4.out)
      clear ewz cx cy B2 B3 B4 HB
      have B2 := B2z
      have B3 := B3z
      have B4 := B4z
      have HB := HBz
      clear B2z B3z B4z HBz
      (repeat (first | (refine Plan.plan_take (v := ?_) (a' := ?_) rfl ?_ ?_ ?_ ?_; rotate_left 2; (· rfl); (· (intro w' hs; go_simp; with_reducible rfl)); (· (simp only [Act.put, List.setIfInBounds_toArray, List.set_cons_zero, List.set_cons_succ]; rfl))) | (refine Plan.plan_skip (a' := ?_) rfl ?_ ?_ ?_; rotate_left 1; (· rfl); (· (simp only [Act.put, List.setIfInBounds_toArray, List.set_cons_zero, List.set_cons_succ]; rfl))) | (refine Plan.plan_pure (v := ?_) (a' := ?_) rfl ?_ ?_ ?_ ?_; rotate_left 2; (· rfl); (· (intro w'; go_simp; with_reducible rfl)); (· (simp only [Act.put, List.setIfInBounds_toArray, List.set_cons_zero, List.set_cons_succ]; rfl)))))
      refine Plan.plan_nil ?_
      clear hS
      go_wp2_with (first | ((with_reducible refine gate_store (p := 26) (v := .tmp 25) rfl ?_); refine store_cell rfl rfl 5 (.tmp 26) (.tmp 25) rfl g2 (i) (by first | rfl | go_simp) (.int .u8 ((M + x + y) % 256)) rfl rfl rfl (by kernel_rfl) _ _ B2.out ?hlt ?_; (case hlt => rw [ia_size, HLL.out]; exact hlt); intro w9 hb ho; rw [ia_set, ← HS.out] at hb; have B2' := Hide.mk hb; have HB' := Hide.mk (ho.below HB.out GEg2); clear B2 HB; have B2 := B2'; have HB := HB'; clear B2' HB'; have B3' := Hide.mk (ho.blk B3.out (by omega)); clear B3; have B3 := B3'; clear B3'; have B4' := Hide.mk (ho.blk B4.out (by omega)); clear B4; have B4 := B4'; clear B4'; clear hb ho))
      go_roundg (gk - 1)
      case measure => omega
      case rel => exact ⟨i + 1, by omega, by rw [HM1.out], by go_num, B2.out, B3.out, B4.out, HB.out⟩
    · obtain rfl : i = 16 := by omega
      rw [show ((16 : Nat) : Int) = 16 from rfl]
      have HE := Hide.mk (sz_all HA.out.1 HBB.out.1)
      obtain ⟨R, hR⟩ : ∃ R, sz a b 16 = R := ⟨_, rfl⟩
      rw [hR] at B2 HLL HE
      clear hR
      go_wp2_with (first | ((with_reducible refine gate_dst (N := 29) rfl ?_); refine wpList_load_row rfl 25 (.tmp 2) rfl g2 rfl 25 _ (0, 0) _ B2.out Try.underlying25 rfl ?hsz ?_; (case hsz => rw [ia_size, HLL.out]; kernel_rfl)) | ((with_reducible refine gate_store (p := 4) (v := .tmp 29) rfl ?_); go_must (refine store_row rfl rfl 25 (.tmp 4) (.tmp 29) rfl g4 rfl (ia .u8 R) rfl (ia_one _ _) (by rw [ia_size, HLL.out]; kernel_rfl) _ _ B4.out (by rw [ia_size, ia_size, HLL.out]; rfl) ?_); intro w7 hb ho; have B4' := Hide.mk hb; have HB' := Hide.mk (ho.below HB.out GEg4); clear B4 HB; have B4 := B4'; have HB := HB'; clear B4' HB'; clear hb ho))
      refine bodyPost_ret (results_cell_row rfl _ _ g4 25 _ (0, 0) _ rfl B4.out Try.underlying25 rfl (by rw [ia_size, HLL.out]; kernel_rfl)) rfl ?_
      exact ⟨by rw [HE.out], HB.out⟩
end Go.Proofs.Ytlhhjdhbkhjhjaa.Po
