/- The reference's add, fold, mul, walked. -/
import Derived.Test.YtlhhjdhbkhjhjaaP21
namespace Go.Proofs.Ytlhhjdhbkhjhjaa.Po
open Go.RowKit Go.Proofs.YtlhhjdhbkhjhjaaW.PrintWords Go.Proofs.YtlhhjdhbkhjhjaaW.PrintLast Go.Proofs.YtlhhjdhbkhjhjaaW.PrintMore Mem Rg
attribute [local go_sem] Oper.semAt_some
set_option linter.unusedVariables false
set_option linter.unusedSimpArgs false
theorem make34 {o : Oper} {a : Act} {w : World} (ho : o.op = .makeSlice 47 (.const (.int .i64 34)) (.const (.int .i64 34))) :
    (execOp a.eval o).run Try.prog w = .ok (.value (.slice (some ⟨w.heap.size, 0, none⟩) 34 34)) (w.alloc (.cells (ia .u64 (List.replicate 34 0)) 37 (0, 0))) := by
  unfold execOp
  simp only [ho]
  kernel_rfl
theorem reads_cell {w w1 : World} {A : Option Addr} {n : Nat} {l : List Int} (h : ReadsInt w .u64 A n l) (hb : Below w.heap.size w w1) (i : Nat) (hi : i < n) : ∃ ad, A = some ad ∧ w1.cell? (ad.add i) = some (.int .u64 (l.getD i 0)) := by
  obtain ⟨ad, rfl, hcell⟩ := h.2.2 (by omega)
  have hc0 := hcell i hi
  have hadl : ad.block < w.heap.size := by have := World.block_lt_of_cell? w _ hc0; rwa [add_block] at this
  exact ⟨ad, rfl, (hb.cell (p := ad.add i) (by rw [add_block]; exact hadl)).trans hc0⟩
theorem reads34 {w : World} {g : Nat} {l : List Int} (h : w.heap[g]? = some (.cells (ia .u64 l) 37 (0, 0))) (hl : l.length = 34) : ReadsInt w .u64 (some ⟨g, 0, none⟩) 34 l := by
  have := reads_of_blk h (by rw [hl]; decide)
  rwa [hl] at this
theorem cp_sm {a : List Int} (hb : Bytes a) : Sm 255 ((cp a 17).set 16 (a.getD 16 0 % 4)) := by
  have hcb : Sm 255 (cp a 17) := fun j => by
    rw [cp]
    rcases Nat.lt_or_ge j (a.take 17).length with h | h
    · rw [List.getD_eq_getElem?_getD, List.getElem?_append_left h, ← List.getD_eq_getElem?_getD]
      exact bytes_get (bytes_take hb 17) j
    · rw [List.getD_eq_getElem?_getD, List.getElem?_append_right h, List.getElem?_replicate]
      split <;> decide
  have h16 := bytes_get hb 16
  exact hcb.set 16 (by omega) (by omega)
theorem fold_val {a : List Int} (ha : a.length = 34) (hb : Bytes a) : valB (plz ((cp a 17).set 16 (a.getD 16 0 % 4)) (hl (a.drop 16)) 18) = foldV (valB a) := by
  have hc := cp_len ha (i := 17) (by omega)
  have hhl : (hl (a.drop 16)).length = 18 := by rw [hl_len, List.length_drop]; omega
  rw [plz_val' _ _ _ (by rw [List.length_set]; omega) (by omega), List.take_of_length_le (by omega), hl_val, valB_set _ _ _ (by omega)]
  have hg : (cp a 17).getD 16 0 = a.getD 16 0 := by
    rw [cp, List.getD_eq_getElem?_getD, List.getElem?_append_left (by rw [List.length_take]; omega), List.getElem?_take_of_lt (by omega), ← List.getD_eq_getElem?_getD]
  have hv : valB (cp a 17) = valB (a.take 17) := by rw [cp, valB_append, valB_zeros, Int.mul_zero, Int.add_zero]
  have h17 := valB_take a 16 (by omega)
  have hs := valB_split a 16 (by omega)
  have hd : valB (a.drop 16) = a.getD 16 0 + 256 * valB (a.drop 17) := by rw [drop_getD a 16 (by omega), valB]
  have hbd := valB_bd (a.take 16) (bytes_take hb 16)
  have hl16 : (a.take 16).length = 16 := by rw [List.length_take]; omega
  have h16 := bytes_get hb 16
  rw [hl16] at hbd
  rw [hg, hv]
  unfold foldV
  simp only [Int.reducePow, Nat.reduceAdd] at *
  omega
set_option maxHeartbeats 4000000 in
set_option maxRecDepth 100000 in
theorem add_any (A B : Option Addr) (c d : Nat) (n m : Nat) (a b : List Int) (w : World) (ha : a.length = n) (hn : n ≤ 34) (hab : Bytes a) (hc : n ≤ c) (hra : ReadsInt w .u64 A n a) (hb : b.length = m) (hm : m ≤ 34) (hbb : Bytes b) (hd : m ≤ d) (hrb : ReadsInt w .u64 B m b) : Calls Try.prog 23 #[.slice A n c, .slice B m d] w fun e w' => ∃ g f, e = .returned (.slice (some ⟨g, 0, none⟩) 34 f) ∧ 34 ≤ f ∧ w.heap.size ≤ g ∧ RowW w' g (digits 34 (valB a + valB b)) ∧ Below w.heap.size w w' := by
  have HAL := Hide.mk ha
  have HBL := Hide.mk hb
  have HAB := Hide.mk hab
  have HBB := Hide.mk hbb
  have HRA := Hide.mk hra
  have HRB := Hide.mk hrb
  have HZS : Hide (Sm 0 (List.replicate 34 0)) := ⟨zeros_sm 34⟩
  have HZL : Hide ((List.replicate 34 (0 : Int)).length = 34) := ⟨List.length_replicate⟩
  have HZV : Hide (valB (List.replicate 34 0) = 0) := ⟨valB_zeros 34⟩
  clear ha hb hab hbb hc hd hra hrb
  go_enter Try.func23, Try.ntmps23
  go_wp2_with (first | ((with_reducible refine gate_dst (N := 8) rfl ?_); refine Kd.event_run rfl (v := .slice (some ⟨w.heap.size, 0, none⟩) 34 34) (w1 := w.alloc (.cells (ia .u64 (List.replicate 34 0)) 37 (0, 0))) (make34 rfl) ?_; have BKg := Hide.mk (heap_alloc_new w (.cells (ia .u64 (List.replicate 34 0)) 37 (0, 0))); have HB := Hide.mk (below_alloc (Below.refl w.heap.size w) (.cells (ia .u64 (List.replicate 34 0)) 37 (0, 0))); obtain ⟨g, hg⟩ : ∃ g, g = w.heap.size := ⟨_, rfl⟩; have GEg : w.heap.size ≤ g := (by omega); generalize w.alloc (.cells (ia .u64 (List.replicate 34 0)) 37 (0, 0)) = w7 at BKg HB ⊢; rw [← hg] at BKg; rw [← hg]; clear hg))
  obtain ⟨Z, hZ⟩ : ∃ Z : List Int, List.replicate 34 0 = Z := ⟨_, rfl⟩
  rw [hZ] at BKg HZS HZL HZV
  clear hZ
  go_loopg [6] n (fun gp v wy => ∃ i : Nat, i + gp = n ∧ v = .int .i64 i ∧ wy.heap[g]? = some (.cells (ia .u64 (plz Z a i)) 37 (0, 0)) ∧ Below w.heap.size w wy)
  case atStart => exact ⟨0, by omega, rfl, BKg.out, HB.out⟩
  case round =>
    clear BKg HB
    obtain ⟨i, hi, rfl, hg, hb⟩ := hrel
    have BKg := Hide.mk hg
    have HB := Hide.mk hb
    clear hg hb
    by_cases hlt : i < n
    · have hd : decide ((i : Int) < (n : Int)) = true := by simp; omega
      have hd' : decide (i < n) = true := by simp; omega
      have hi0 : (0 : Int) ≤ (i : Int) := Int.natCast_nonneg _
      have hi1 : (i : Int) < (n : Int) := by omega
      have hi2 : (i : Int) < 34 := by omega
      have f1 : IntKind.i64.wrap ((i : Int) + 1) = (i : Int) + 1 := IntWalk.i64_in _ (by omega)
      obtain ⟨ad, rfl, ca⟩ := reads_cell HRA.out HB.out i hlt
      have HLL : Hide ((plz Z a i).length = 34) := ⟨by rw [plz_len]; exact HZL.out⟩
      have cz := blk_cell BKg.out i
      rw [ia_get _ _ _ (by rw [HLL.out]; omega)] at cz
      have HX := Hide.mk (Sm.of_bytes HAB.out i)
      have HZ := Hide.mk (plz_smC HZS.out (Sm.of_bytes HAB.out) (by decide) i i)
      have HS : Hide (plz Z a (i + 1) = (plz Z a i).set i ((plz Z a i).getD i 0 + a.getD i 0)) := ⟨rfl⟩
      generalize a.getD i 0 = x at ca HX HS
      generalize (plz Z a i).getD i 0 = z at cz HZ HS
      obtain ⟨x0, x1⟩ := HX.out
      obtain ⟨z0, z1⟩ := HZ.out
      have HV : Hide (IntKind.u64.wrap (z + x) = z + x) := ⟨wrap_in _ (by omega) (by omega)⟩
      go_wp2_with fail
      refine Plan.region_plan (fun w' => w'.cell? ⟨g, i, none⟩ = some (.int .u64 z) ∧ w'.cell? (ad.add i) = some (.int .u64 x)) [12] [(0, 0, some 15), (1, 0, some 16), (2, 0, some 17), (3, 0, some 18), (4, 0, some 19), (5, 0, some 20), (6, 0, some 21), (7, 0, some 22), (8, 0, some 23), (9, 0, some 24), (10, 0, some 25), (11, 0, some 26), (12, 2, none)] (by kernel_rfl) (by kernel_rfl) (by decide) ⟨cz, ca⟩ (fun wz ewz hS => ?_)
      have HBz := Hide.mk (below_of_drew ewz HB.out)
      have Bz := Hide.mk (blk_of_drew ewz BKg.out)
      clear ewz cz ca BKg HB
      (repeat (first | (refine Plan.plan_take (v := ?_) (a' := ?_) rfl ?_ ?_ ?_ ?_; rotate_left 2; (· rfl); (· (intro w' hs; go_simp; with_reducible rfl)); (· (simp only [Act.put, List.setIfInBounds_toArray, List.set_cons_zero, List.set_cons_succ]; rfl))) | (refine Plan.plan_skip (a' := ?_) rfl ?_ ?_ ?_; rotate_left 1; (· rfl); (· (simp only [Act.put, List.setIfInBounds_toArray, List.set_cons_zero, List.set_cons_succ]; rfl))) | (refine Plan.plan_pure (v := ?_) (a' := ?_) rfl ?_ ?_ ?_ ?_; rotate_left 2; (· rfl); (· (intro w'; go_simp; with_reducible rfl)); (· (simp only [Act.put, List.setIfInBounds_toArray, List.set_cons_zero, List.set_cons_succ]; rfl)))))
      refine Plan.plan_last_cell rfl rfl rfl 37 (.tmp 26) (.tmp 25) rfl g i rfl (.int .u64 (IntKind.u64.wrap (z + x))) rfl rfl rfl (by kernel_rfl) _ _ Bz.out (by rw [ia_size, HLL.out]; omega) ?_
      intro w5 hb5 ho5
      rw [ia_set, HV.out, ← HS.out] at hb5
      have BK5 := Hide.mk hb5
      have HB5 := Hide.mk (ho5.below HBz.out GEg)
      clear hb5 ho5 Bz HBz hS
      refine Plan.plan_nil ?_
      go_wp2_with fail
      go_roundg (gk - 1)
      case measure => omega
      case rel => exact ⟨i + 1, by omega, by go_num, BK5.out, HB5.out⟩
    · obtain rfl : i = n := by omega
      have hd : decide ((i : Int) < (i : Int)) = false := by simp
      have HV1 : Hide (valB (plz Z a i) = valB a) := ⟨by rw [plz_val' _ _ _ (by rw [HZL.out]; omega) (by rw [HAL.out]; exact Nat.le_refl _), List.take_of_length_le (by rw [HAL.out]; exact Nat.le_refl _), HZV.out, Int.zero_add]⟩
      have HYL : Hide ((plz Z a i).length = 34) := ⟨by rw [plz_len]; exact HZL.out⟩
      have HYS : Hide (Sm 255 (plz Z a i)) := ⟨(plz_smC HZS.out (Sm.of_bytes HAB.out) (by decide) i).mono (by decide)⟩
      generalize plz Z a i = Y at BKg HV1 HYL HYS
      clear hi hlt HZS HZL HZV HRA
      have HZL := HYL
      have HZS := HYS
      clear HYL HYS
      go_wp2_with fail
      go_loopg [7] m (fun gp v wy => ∃ i : Nat, i + gp = m ∧ v = .int .i64 i ∧ wy.heap[g]? = some (.cells (ia .u64 (plz Y b i)) 37 (0, 0)) ∧ Below w.heap.size w wy)
      case atStart => exact ⟨0, by omega, rfl, BKg.out, HB.out⟩
      case round =>
        clear BKg HB hd
        obtain ⟨i, hi, rfl, hg, hb⟩ := hrel
        have BKg := Hide.mk hg
        have HB := Hide.mk hb
        clear hg hb
        by_cases hlt : i < m
        · have hd : decide ((i : Int) < (m : Int)) = true := by simp; omega
          have hd' : decide (i < m) = true := by simp; omega
          have hi0 : (0 : Int) ≤ (i : Int) := Int.natCast_nonneg _
          have hi1 : (i : Int) < (m : Int) := by omega
          have hi2 : (i : Int) < 34 := by omega
          have f1 : IntKind.i64.wrap ((i : Int) + 1) = (i : Int) + 1 := IntWalk.i64_in _ (by omega)
          obtain ⟨ad, rfl, ca⟩ := reads_cell HRB.out HB.out i hlt
          have HLL : Hide ((plz Y b i).length = 34) := ⟨by rw [plz_len]; exact HZL.out⟩
          have cz := blk_cell BKg.out i
          rw [ia_get _ _ _ (by rw [HLL.out]; omega)] at cz
          have HX := Hide.mk (Sm.of_bytes HBB.out i)
          have HZ := Hide.mk (plz_smC HZS.out (Sm.of_bytes HBB.out) (by decide) i i)
          have HS : Hide (plz Y b (i + 1) = (plz Y b i).set i ((plz Y b i).getD i 0 + b.getD i 0)) := ⟨rfl⟩
          generalize b.getD i 0 = x at ca HX HS
          generalize (plz Y b i).getD i 0 = z at cz HZ HS
          obtain ⟨x0, x1⟩ := HX.out
          obtain ⟨z0, z1⟩ := HZ.out
          have HV : Hide (IntKind.u64.wrap (z + x) = z + x) := ⟨wrap_in _ (by omega) (by omega)⟩
          go_wp2_with fail
          refine Plan.region_plan (fun w' => w'.cell? ⟨g, i, none⟩ = some (.int .u64 z) ∧ w'.cell? (ad.add i) = some (.int .u64 x)) [12] [(0, 0, some 33), (1, 0, some 34), (2, 0, some 35), (3, 0, some 36), (4, 0, some 37), (5, 0, some 38), (6, 0, some 39), (7, 0, some 40), (8, 0, some 41), (9, 0, some 42), (10, 0, some 43), (11, 0, some 44), (12, 2, none)] (by kernel_rfl) (by kernel_rfl) (by decide) ⟨cz, ca⟩ (fun wz ewz hS => ?_)
          have HBz := Hide.mk (below_of_drew ewz HB.out)
          have Bz := Hide.mk (blk_of_drew ewz BKg.out)
          clear ewz cz ca BKg HB
          (repeat (first | (refine Plan.plan_take (v := ?_) (a' := ?_) rfl ?_ ?_ ?_ ?_; rotate_left 2; (· rfl); (· (intro w' hs; go_simp; with_reducible rfl)); (· (simp only [Act.put, List.setIfInBounds_toArray, List.set_cons_zero, List.set_cons_succ]; rfl))) | (refine Plan.plan_skip (a' := ?_) rfl ?_ ?_ ?_; rotate_left 1; (· rfl); (· (simp only [Act.put, List.setIfInBounds_toArray, List.set_cons_zero, List.set_cons_succ]; rfl))) | (refine Plan.plan_pure (v := ?_) (a' := ?_) rfl ?_ ?_ ?_ ?_; rotate_left 2; (· rfl); (· (intro w'; go_simp; with_reducible rfl)); (· (simp only [Act.put, List.setIfInBounds_toArray, List.set_cons_zero, List.set_cons_succ]; rfl)))))
          refine Plan.plan_last_cell rfl rfl rfl 37 (.tmp 44) (.tmp 43) rfl g i rfl (.int .u64 (IntKind.u64.wrap (z + x))) rfl rfl rfl (by kernel_rfl) _ _ Bz.out (by rw [ia_size, HLL.out]; omega) ?_
          intro w5 hb5 ho5
          rw [ia_set, HV.out, ← HS.out] at hb5
          have BK5 := Hide.mk hb5
          have HB5 := Hide.mk (ho5.below HBz.out GEg)
          clear hb5 ho5 Bz HBz hS
          refine Plan.plan_nil ?_
          go_wp2_with fail
          go_roundg (gk - 1)
          case measure => omega
          case rel => exact ⟨i + 1, by omega, by go_num, BK5.out, HB5.out⟩
        · obtain rfl : i = m := by omega
          have hd : decide ((i : Int) < (i : Int)) = false := by simp
          have HV2 : Hide (valB (plz Y b i) = valB a + valB b) := ⟨by rw [plz_val' _ _ _ (by rw [HZL.out]; omega) (by rw [HBL.out]; exact Nat.le_refl _), List.take_of_length_le (by rw [HBL.out]; exact Nat.le_refl _), HV1.out]⟩
          have HYL : Hide ((plz Y b i).length = 34) := ⟨by rw [plz_len]; exact HZL.out⟩
          have HYS : Hide (Sm 1152921504606846976 (plz Y b i)) := ⟨(plz_smC HZS.out (Sm.of_bytes HBB.out) (by decide) i).mono (by decide)⟩
          generalize plz Y b i = X at BKg HV2 HYL HYS
          clear hi hlt HZS HZL HRB HV1
          go_wp2_with fail
          refine (refcarried_any (some ⟨g, 0, none⟩) 34 X wr HYL.out HYS.out (Nat.le_refl _) (reads34 BKg.out HYL.out)).mono ?_
          rintro e w8 ⟨g8, f8, rfl, hf, hg8, hrow, hb⟩
          rw [HV2.out] at hrow
          have HROW := Hide.mk hrow
          have HB8 := Hide.mk (below_step HB.out hb)
          have GE8 : w.heap.size ≤ g8 := Nat.le_trans HB.out.size hg8
          clear hrow hb
          go_wp2_with fail
          go_ret
          exact ⟨g8, f8, rfl, hf, GE8, HROW.out, HB8.out⟩
set_option maxHeartbeats 4000000 in
set_option maxRecDepth 100000 in
theorem fold_any (A : Option Addr) (c : Nat) (a : List Int) (w : World) (ha : a.length = 34) (hb : Bytes a) (hc : 34 ≤ c) (hr : ReadsInt w .u64 A 34 a) : Calls Try.prog 31 #[.slice A 34 c] w fun e w' => ∃ B d, e = .returned (.slice B 34 d) ∧ 34 ≤ d ∧ ReadsInt w' .u64 B 34 (digits 34 (foldV (valB a))) ∧ Below w.heap.size w w' := by
  have HAL := Hide.mk ha
  have HAB := Hide.mk hb
  have HRA := Hide.mk hr
  have HC0 : Hide (List.replicate 34 0 = cp a 0) := ⟨by simp [cp]⟩
  clear ha hb hc hr
  go_enter Try.func31, Try.ntmps31
  go_wp2_with (first | ((with_reducible refine gate_dst (N := 7) rfl ?_); refine Kd.event_run rfl (v := .slice (some ⟨w.heap.size, 0, none⟩) 34 34) (w1 := w.alloc (.cells (ia .u64 (List.replicate 34 0)) 37 (0, 0))) (make34 rfl) ?_; have BKg := Hide.mk (heap_alloc_new w (.cells (ia .u64 (List.replicate 34 0)) 37 (0, 0))); have HB := Hide.mk (below_alloc (Below.refl w.heap.size w) (.cells (ia .u64 (List.replicate 34 0)) 37 (0, 0))); obtain ⟨g, hg⟩ : ∃ g, g = w.heap.size := ⟨_, rfl⟩; have GEg : w.heap.size ≤ g := (by omega); generalize w.alloc (.cells (ia .u64 (List.replicate 34 0)) 37 (0, 0)) = w7 at BKg HB ⊢; rw [← hg] at BKg; rw [← hg]; clear hg))
  rw [HC0.out] at BKg
  clear HC0
  go_loopg [4] 17 (fun gp v wy => ∃ i : Nat, i + gp = 17 ∧ v = .int .i64 i ∧ wy.heap[g]? = some (.cells (ia .u64 (cp a i)) 37 (0, 0)) ∧ Below w.heap.size w wy)
  case atStart => exact ⟨0, rfl, rfl, BKg.out, HB.out⟩
  case round =>
    clear BKg HB
    obtain ⟨i, hi, rfl, hg, hb⟩ := hrel
    have BKg := Hide.mk hg
    have HB := Hide.mk hb
    clear hg hb
    by_cases hlt : i < 17
    · have hd : decide ((i : Int) < 17) = true := by simp; omega
      have hi0 : (0 : Int) ≤ (i : Int) := Int.natCast_nonneg _
      have hi1 : (i : Int) < 17 := by omega
      have hi2 : (i : Int) < 34 := by omega
      have f1 : IntKind.i64.wrap ((i : Int) + 1) = (i : Int) + 1 := IntWalk.i64_in _ (by omega)
      obtain ⟨ad, rfl, ca⟩ := reads_cell HRA.out HB.out i (by omega)
      have HLL : Hide ((cp a i).length = 34) := ⟨cp_len HAL.out (by omega)⟩
      have HS : Hide ((cp a i).set i (a.getD i 0) = cp a (i + 1)) := ⟨cp_set HAL.out (by omega)⟩
      generalize a.getD i 0 = x at ca HS
      go_wp2_with (first | ((with_reducible refine gate_store (p := 18) (v := .tmp 17) rfl ?_); refine store_cell rfl rfl 37 (.tmp 18) (.tmp 17) rfl g i (by first | rfl | go_simp) (.int .u64 x) rfl rfl rfl (by kernel_rfl) _ _ BKg.out ?hlt ?_; (case hlt => rw [ia_size, HLL.out]; omega); intro w9 hb ho; rw [ia_set, HS.out] at hb; have BKg9 := Hide.mk hb; have HB9 := Hide.mk (ho.below HB.out GEg); clear BKg HB hb ho))
      go_roundg (gk - 1)
      case measure => omega
      case rel => exact ⟨i + 1, by omega, by go_num, BKg9.out, HB9.out⟩
    · obtain rfl : i = 17 := by omega
      rw [show ((17 : Nat) : Int) = 17 from rfl]
      obtain ⟨ad, rfl, ca⟩ := reads_cell HRA.out HB.out 16 (by decide)
      have HCL : Hide ((cp a 17).length = 34) := ⟨cp_len HAL.out (by decide)⟩
      have HX := Hide.mk (bytes_get HAB.out 16)
      have HZL : Hide (((cp a 17).set 16 (a.getD 16 0 % 4)).length = 34) := ⟨by rw [List.length_set]; exact HCL.out⟩
      have HZS : Hide (Sm 255 ((cp a 17).set 16 (a.getD 16 0 % 4))) := ⟨cp_sm HAB.out⟩
      have HFV : Hide (valB (plz ((cp a 17).set 16 (a.getD 16 0 % 4)) (hl (a.drop 16)) 18) = foldV (valB a)) := ⟨fold_val HAL.out HAB.out⟩
      obtain ⟨Z, hZ⟩ : ∃ Z, (cp a 17).set 16 (a.getD 16 0 % 4) = Z := ⟨_, rfl⟩
      rw [hZ] at HZL HZS HFV
      generalize a.getD 16 0 = x at ca HX hZ
      have HS := Hide.mk hZ
      obtain ⟨x0, x1⟩ := HX.out
      have ca2 : wr.cell? { block := ad.block, off := ad.off + 16 } = some (.int .u64 x) := ca
      clear hi hlt hZ
      go_wp2_with (first | ((with_reducible refine gate_store (p := 24) (v := .tmp 23) rfl ?_); refine store_cell rfl rfl 37 (.tmp 24) (.tmp 23) rfl g 16 (by first | rfl | go_simp) (.int .u64 (x % 4)) rfl rfl rfl (by kernel_rfl) _ _ BKg.out ?hlt ?_; (case hlt => rw [ia_size, HCL.out]; decide); intro w9 hb ho; rw [ia_set, HS.out] at hb; have BK := Hide.mk hb; have HB9 := Hide.mk (ho.below HB.out GEg); clear BKg HB hb ho ca ca2))
      have HML : Hide ((hl (a.drop 16)).length = 18) := ⟨by rw [hl_len, List.length_drop, HAL.out]⟩
      have HMS : Hide (Sm 1275 (hl (a.drop 16))) := ⟨hl_sm (bytes_drop HAB.out 16)⟩
      have HMG : Hide (∀ k, k < 18 → (hl (a.drop 16)).getD k 0 = 5 * (a.getD (16 + k) 0 / 4 + a.getD (16 + k + 1) 0 % 4 * 64)) := ⟨fun k hk => by rw [hl_get _ k (by rw [List.length_drop, HAL.out]; exact hk), drop_get, drop_get, Nat.add_assoc]⟩
      generalize hl (a.drop 16) = M at HFV HML HMS HMG
      go_loopg [5] 18 (fun gp v wy => ∃ k s : Nat, k + gp = 18 ∧ s = 16 + k ∧ v = .int .i64 s ∧ wy.heap[g]? = some (.cells (ia .u64 (plz Z M k)) 37 (0, 0)) ∧ Below w.heap.size w wy)
      case atStart => exact ⟨0, 16, rfl, rfl, rfl, BK.out, HB9.out⟩
      case round =>
        clear BK HB9
        obtain ⟨k, s, hk, hs, rfl, hg, hb⟩ := hrel
        have BKg := Hide.mk hg
        have HB := Hide.mk hb
        have HSK := Hide.mk hs
        have hs1 : s ≤ 16 + k := Nat.le_of_eq hs
        have hs2 : 16 + k ≤ s := Nat.le_of_eq hs.symm
        clear hg hb hs
        by_cases hlt : k < 18
        · have hd : decide ((s : Int) < 34) = true := by simp; omega
          have hi0 : (0 : Int) ≤ (s : Int) := Int.natCast_nonneg _
          have hk0 : (0 : Int) ≤ (k : Int) := Int.natCast_nonneg _
          have hi1 : (s : Int) < 34 := by omega
          have hk1 : (k : Int) < 34 := by omega
          have f1 : IntKind.i64.wrap ((s : Int) + 1) = (s : Int) + 1 := IntWalk.i64_in _ (by omega)
          have f2 : IntKind.i64.wrap ((s : Int) - 16) = (k : Int) := by rw [IntWalk.i64_in _ (by omega)]; omega
          have f3 : (s : Int) - 16 = (k : Int) := by omega
          obtain ⟨ad', hab, cs⟩ := reads_cell HRA.out HB.out s (by omega)
          cases hab
          have HLL : Hide ((plz Z M k).length = 34) := ⟨by rw [plz_len]; exact HZL.out⟩
          have cz := blk_cell BKg.out k
          rw [ia_get _ _ _ (by rw [HLL.out]; omega)] at cz
          have HXS := Hide.mk (bytes_get HAB.out s)
          have HYS := Hide.mk (bytes_get HAB.out (s + 1))
          have HZZ := Hide.mk (plz_smC HZS.out HMS.out (by decide) k k)
          have HG : Hide (M.getD k 0 = 5 * (a.getD s 0 / 4 + a.getD (s + 1) 0 % 4 * 64)) := ⟨by rw [HMG.out k hlt, ← HSK.out]⟩
          have HS : Hide (plz Z M (k + 1) = (plz Z M k).set k ((plz Z M k).getD k 0 + M.getD k 0)) := ⟨rfl⟩
          have HN : Hide (¬ s + 1 < 34 → a.getD (s + 1) 0 = 0) := ⟨fun h => by rw [List.getD_eq_getElem?_getD, List.getElem?_eq_none (by rw [HAL.out]; omega)]; rfl⟩
          have HCY : Hide (s + 1 < 34 → wr.cell? (ad.add (s + 1)) = some (.int .u64 (a.getD (s + 1) 0))) := ⟨fun h => by
            obtain ⟨ad2, hab2, cs2⟩ := reads_cell HRA.out HB.out (s + 1) h
            cases hab2
            exact cs2⟩
          generalize a.getD s 0 = xs at cs HXS HG
          generalize a.getD (s + 1) 0 = ys at HYS HG HN HCY
          generalize (plz Z M k).getD k 0 = z at cz HZZ HS
          generalize M.getD k 0 = mk at HG HS
          obtain ⟨p0, p1⟩ := HXS.out
          obtain ⟨y0, y1⟩ := HYS.out
          obtain ⟨z0, z1⟩ := HZZ.out
          by_cases hlast : s + 1 < 34
          · have hd2 : decide ((s : Int) + 1 < 34) = true := by simp; omega
            have cy := HCY.out hlast
            rw [Addr.add, if_neg (Nat.succ_ne_zero s)] at cy
            have hj0 : (0 : Int) ≤ (s : Int) + 1 := by omega
            have hj1 : (s : Int) + 1 < 34 := by omega
            have HV : Hide (z + 5 * (xs / 4 + ys % 4 * 64) = z + mk) := ⟨by rw [HG.out]⟩
            go_wp2_with (first | ((with_reducible refine gate_store (p := 57) (v := .tmp 56) rfl ?_); refine store_cell rfl rfl 37 (.tmp 57) (.tmp 56) rfl g k (by first | rfl | go_simp) (.int .u64 (z + 5 * (xs / 4 + ys % 4 * 64))) rfl rfl rfl (by kernel_rfl) _ _ BKg.out ?hlt ?_; (case hlt => rw [ia_size, HLL.out]; omega); intro w9 hb ho; rw [ia_set, HV.out, ← HS.out] at hb; have BK9 := Hide.mk hb; have HB9 := Hide.mk (ho.below HB.out GEg); clear BKg HB hb ho))
            go_roundg (gk - 1)
            case measure => omega
            case rel => exact ⟨k + 1, s + 1, by omega, by omega, by go_num, BK9.out, HB9.out⟩
          · have hd2 : decide ((s : Int) + 1 < 34) = false := by simp; omega
            have HV : Hide (z + 5 * (xs / 4) = z + mk) := ⟨by rw [HG.out, HN.out hlast]; simp⟩
            go_wp2_with (first | ((with_reducible refine gate_store (p := 57) (v := .tmp 56) rfl ?_); refine store_cell rfl rfl 37 (.tmp 57) (.tmp 56) rfl g k (by first | rfl | go_simp) (.int .u64 (z + 5 * (xs / 4))) rfl rfl rfl (by kernel_rfl) _ _ BKg.out ?hlt ?_; (case hlt => rw [ia_size, HLL.out]; omega); intro w9 hb ho; rw [ia_set, HV.out, ← HS.out] at hb; have BK9 := Hide.mk hb; have HB9 := Hide.mk (ho.below HB.out GEg); clear BKg HB hb ho))
            go_roundg (gk - 1)
            case measure => omega
            case rel => exact ⟨k + 1, s + 1, by omega, by omega, by go_num, BK9.out, HB9.out⟩
        · obtain rfl : k = 18 := by omega
          obtain rfl : s = 34 := by omega
          rw [show ((34 : Nat) : Int) = 34 from rfl]
          have HYL : Hide ((plz Z M 18).length = 34) := ⟨by rw [plz_len]; exact HZL.out⟩
          have HYS : Hide (Sm 1152921504606846976 (plz Z M 18)) := ⟨(plz_smC HZS.out HMS.out (by decide) 18).mono (by decide)⟩
          generalize plz Z M 18 = X at BKg HFV HYL HYS
          clear hk hlt hs1 hs2 HSK
          go_wp2_with fail
          refine (refcarried_any (some ⟨g, 0, none⟩) 34 X wr HYL.out HYS.out (Nat.le_refl _) (reads34 BKg.out HYL.out)).mono ?_
          rintro e w8 ⟨g8, f8, rfl, hf, hg8, hrow, hb⟩
          rw [HFV.out] at hrow
          have HROW := Hide.mk (hrow.reads (by rw [digits_len]; decide))
          have HB8 := Hide.mk (below_step HB.out hb)
          clear hrow hb hg8
          go_wp2_with fail
          go_ret
          exact ⟨some ⟨g8, 0, none⟩, f8, rfl, hf, by have := HROW.out; rwa [digits_len] at this, HB8.out⟩
set_option maxHeartbeats 4000000 in
set_option maxRecDepth 100000 in
theorem mul_any (A B : Option Addr) (c d : Nat) (a b : List Int) (w : World) (ha : a.length = 17) (hab : Bytes a) (hc : 17 ≤ c) (hra : ReadsInt w .u64 A 17 a) (hb : b.length = 17) (hbb : Bytes b) (hd : 17 ≤ d) (hrb : ReadsInt w .u64 B 17 b) : Calls Try.prog 25 #[.slice A 17 c, .slice B 17 d] w fun e w' => ∃ D f, e = .returned (.slice D 34 f) ∧ 34 ≤ f ∧ ReadsInt w' .u64 D 34 (digits 34 (valB a * valB b)) ∧ Below w.heap.size w w' := by
  have HAL := Hide.mk ha
  have HBL := Hide.mk hb
  have HAB := Hide.mk hab
  have HBB := Hide.mk hbb
  have HRA := Hide.mk hra
  have HRB := Hide.mk hrb
  clear ha hb hab hbb hc hd hra hrb
  go_enter Try.func25, Try.ntmps25
  go_wp2_with (first | ((with_reducible refine gate_dst (N := 8) rfl ?_); refine Kd.event_run rfl (v := .slice (some ⟨w.heap.size, 0, none⟩) 34 34) (w1 := w.alloc (.cells (ia .u64 (List.replicate 34 0)) 37 (0, 0))) (make34 rfl) ?_; have BKg := Hide.mk (heap_alloc_new w (.cells (ia .u64 (List.replicate 34 0)) 37 (0, 0))); have HB := Hide.mk (below_alloc (Below.refl w.heap.size w) (.cells (ia .u64 (List.replicate 34 0)) 37 (0, 0))); obtain ⟨g, hg⟩ : ∃ g, g = w.heap.size := ⟨_, rfl⟩; have GEg : w.heap.size ≤ g := (by omega); generalize w.alloc (.cells (ia .u64 (List.replicate 34 0)) 37 (0, 0)) = w7 at BKg HB ⊢; rw [← hg] at BKg; rw [← hg]; clear hg))
  go_loopg [6] 17 (fun gp v wy => ∃ i : Nat, i + gp = 17 ∧ v = .int .i64 i ∧ wy.heap[g]? = some (.cells (ia .u64 (mz a b i)) 37 (0, 0)) ∧ Below w.heap.size w wy)
  case atStart => exact ⟨0, rfl, rfl, BKg.out, HB.out⟩
  case round =>
    clear BKg HB
    obtain ⟨i, hi, rfl, hg, hb⟩ := hrel
    have BKg := Hide.mk hg
    have HB := Hide.mk hb
    clear hg hb
    by_cases hlt : i < 17
    · have hd : decide ((i : Int) < 17) = true := by simp; omega
      have hi0 : (0 : Int) ≤ (i : Int) := Int.natCast_nonneg _
      have hi1 : (i : Int) < 17 := by omega
      have f1 : IntKind.i64.wrap ((i : Int) + 1) = (i : Int) + 1 := IntWalk.i64_in _ (by omega)
      have HZL : Hide ((mz a b i).length = 34) := ⟨mz_len a b i⟩
      have HZS : Hide (Sm 1105425 (mz a b i)) := ⟨(mz_sm HAB.out HBB.out i).mono (by omega)⟩
      have HXB := Hide.mk (bytes_get HAB.out i)
      have HCA : Hide (∀ wy, Below w.heap.size w wy → ∃ ad, A = some ad ∧ wy.cell? (ad.add i) = some (.int .u64 (a.getD i 0))) := ⟨fun wy h => reads_cell HRA.out h i hlt⟩
      have HZE : Hide (mz a b (i + 1) = rowz (mz a b i) i b (a.getD i 0) 17) := ⟨rfl⟩
      generalize a.getD i 0 = x at HXB HCA HZE
      generalize mz a b i = Z at BKg HZL HZS HZE
      obtain ⟨x0, x1⟩ := HXB.out
      obtain ⟨gq, rfl⟩ : ∃ q, gk = q + 1 := ⟨gk - 1, by omega⟩
      go_wp2_with fail
      go_loopg [7] 17 (fun gp v wy => ∃ k : Nat, k + gp = 17 ∧ v = .int .i64 k ∧ wy.heap[g]? = some (.cells (ia .u64 (rowz Z i b x k)) 37 (0, 0)) ∧ Below w.heap.size w wy)
      case atStart => exact ⟨0, rfl, rfl, BKg.out, HB.out⟩
      case round =>
        clear BKg HB
        obtain ⟨k, hk, rfl, hg, hb⟩ := hrel
        have BKg := Hide.mk hg
        have HB := Hide.mk hb
        clear hg hb
        by_cases hltk : k < 17
        · have hdk : decide ((k : Int) < 17) = true := by simp; omega
          have hk0 : (0 : Int) ≤ (k : Int) := Int.natCast_nonneg _
          have hk1 : (k : Int) < 17 := by omega
          have f2 : IntKind.i64.wrap ((k : Int) + 1) = (k : Int) + 1 := IntWalk.i64_in _ (by omega)
          obtain ⟨ad, rfl, ca⟩ := HCA.out wr HB.out
          obtain ⟨bd, rfl, cb⟩ := reads_cell HRB.out HB.out k hltk
          have HLL : Hide ((rowz Z i b x k).length = 34) := ⟨by rw [rowz_len]; exact HZL.out⟩
          have cz := blk_cell BKg.out (i + k)
          rw [ia_get _ _ _ (by rw [HLL.out]; omega)] at cz
          have HY := Hide.mk (bytes_get HBB.out k)
          have HZ := Hide.mk (rowz_sm (i := i) HZS.out HXB.out HBB.out k (i + k))
          have HS : Hide (rowz Z i b x (k + 1) = (rowz Z i b x k).set (i + k) ((rowz Z i b x k).getD (i + k) 0 + x * b.getD k 0)) := ⟨rfl⟩
          generalize b.getD k 0 = y at cb HY HS
          generalize (rowz Z i b x k).getD (i + k) 0 = z at cz HZ HS
          obtain ⟨p, hp⟩ : ∃ p, i + k = p := ⟨_, rfl⟩
          rw [hp] at cz HS
          have f3 : IntKind.i64.wrap ((i : Int) + (k : Int)) = (p : Int) := by rw [IntWalk.i64_in _ (by omega)]; omega
          have hp0 : (0 : Int) ≤ (p : Int) := Int.natCast_nonneg _
          have hp1 : (p : Int) < 34 := by omega
          have HP : Hide (p < 34) := ⟨by omega⟩
          clear hp
          have hxy := mul_bd HXB.out HY.out
          have HV : Hide (IntKind.u64.wrap (z + IntKind.u64.wrap (x * y)) = z + x * y) := ⟨by
            rw [wrap_in (x * y) hxy.1 (by omega)]
            exact wrap_in _ (by have := HZ.out; omega) (by have := HZ.out; omega)⟩
          clear hxy
          go_wp2_with fail
          refine Plan.region_plan (fun w' => w'.cell? ⟨g, p, none⟩ = some (.int .u64 z) ∧ w'.cell? (ad.add i) = some (.int .u64 x) ∧ w'.cell? (bd.add k) = some (.int .u64 y)) [21] [(0, 0, some 17), (1, 0, some 18), (2, 0, some 19), (3, 0, some 20), (4, 0, some 21), (5, 0, some 22), (6, 0, some 23), (7, 0, some 24), (8, 0, some 25), (9, 0, some 26), (10, 0, some 27), (11, 0, some 28), (12, 0, some 29), (13, 0, some 30), (14, 0, some 31), (15, 0, some 32), (16, 0, some 33), (17, 0, some 34), (18, 0, some 35), (19, 0, some 36), (20, 0, some 37), (21, 2, none)] (by kernel_rfl) (by kernel_rfl) (by decide) ⟨cz, ca, cb⟩ (fun wz ewz hS => ?_)
          have HBz := Hide.mk (below_of_drew ewz HB.out)
          have Bz := Hide.mk (blk_of_drew ewz BKg.out)
          clear ewz cz ca cb BKg HB
          (repeat (first | (refine Plan.plan_take (v := ?_) (a' := ?_) rfl ?_ ?_ ?_ ?_; rotate_left 2; (· rfl); (· (intro w' hs; go_simp; with_reducible rfl)); (· (simp only [Act.put, List.setIfInBounds_toArray, List.set_cons_zero, List.set_cons_succ]; rfl))) | (refine Plan.plan_skip (a' := ?_) rfl ?_ ?_ ?_; rotate_left 1; (· rfl); (· (simp only [Act.put, List.setIfInBounds_toArray, List.set_cons_zero, List.set_cons_succ]; rfl))) | (refine Plan.plan_pure (v := ?_) (a' := ?_) rfl ?_ ?_ ?_ ?_; rotate_left 2; (· rfl); (· (intro w'; go_simp; with_reducible rfl)); (· (simp only [Act.put, List.setIfInBounds_toArray, List.set_cons_zero, List.set_cons_succ]; rfl)))))
          refine Plan.plan_last_cell rfl rfl rfl 37 (.tmp 37) (.tmp 36) rfl g p rfl (.int .u64 (IntKind.u64.wrap (z + IntKind.u64.wrap (x * y)))) rfl rfl rfl (by kernel_rfl) _ _ Bz.out (by rw [ia_size, HLL.out]; exact HP.out) ?_
          intro w5 hb5 ho5
          rw [ia_set, HV.out, ← HS.out] at hb5
          have BK5 := Hide.mk hb5
          have HB5 := Hide.mk (ho5.below HBz.out GEg)
          clear hb5 ho5 Bz HBz hS f3
          refine Plan.plan_nil ?_
          go_wp2_with fail
          go_roundg (gk - 1)
          case measure => omega
          case rel => exact ⟨k + 1, by omega, by go_num, BK5.out, HB5.out⟩
        · obtain rfl : k = 17 := by omega
          rw [show ((17 : Nat) : Int) = 17 from rfl]
          rw [← HZE.out] at BKg
          go_wp2_with fail
          go_roundg gq
          case measure => omega
          case rel => exact ⟨i + 1, by omega, by go_num, BKg.out, HB.out⟩
    · obtain rfl : i = 17 := by omega
      rw [show ((17 : Nat) : Int) = 17 from rfl]
      have HV : Hide (valB (mz a b 17) = valB a * valB b) := ⟨by rw [mz_val HAL.out HBL.out 17 (Nat.le_refl _), List.take_of_length_le (by rw [HAL.out]; exact Nat.le_refl _)]⟩
      have HYL : Hide ((mz a b 17).length = 34) := ⟨mz_len a b 17⟩
      have HYS : Hide (Sm 1152921504606846976 (mz a b 17)) := ⟨(mz_sm HAB.out HBB.out 17).mono (by decide)⟩
      generalize mz a b 17 = X at BKg HV HYL HYS
      clear hi hlt
      go_wp2_with fail
      refine (refcarried_any (some ⟨g, 0, none⟩) 34 X wr HYL.out HYS.out (Nat.le_refl _) (reads34 BKg.out HYL.out)).mono ?_
      rintro e w8 ⟨g8, f8, rfl, hf, hg8, hrow, hb⟩
      rw [HV.out] at hrow
      have HROW := Hide.mk (hrow.reads (by rw [digits_len]; decide))
      have HB8 := Hide.mk (below_step HB.out hb)
      clear hrow hb hg8
      go_wp2_with fail
      go_ret
      exact ⟨some ⟨g8, 0, none⟩, f8, rfl, hf, by have := HROW.out; rwa [digits_len] at this, HB8.out⟩
end Go.Proofs.Ytlhhjdhbkhjhjaa.Po
