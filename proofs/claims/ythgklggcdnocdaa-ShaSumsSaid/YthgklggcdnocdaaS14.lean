/- ShaSums, the walk: the sum of any bytes is the documented one, or they are refused; they stay as they were. -/
import Derived.Test.YthgklggcdnocdaaS13
import Derived.Test.YthgklggcdnocdaaKEq
namespace Go.Proofs.Ythgklggcdnocdaa.Sh
open Go.RowKit Go.Proofs.YthgklggcdnocdaaW.PrintWords Go.Proofs.YthgklggcdnocdaaW.PrintLast Go.Proofs.YthgklggcdnocdaaW.PrintMore Mem Rg
set_option linter.unusedVariables false
set_option linter.unusedSimpArgs false
def resF (xs : List Int) : List Int := if xs.length ≤ 1048576 then sumF xs else List.replicate 32 0
def resE (xs : List Int) : Int := if xs.length ≤ 1048576 then 0 else 3
theorem resF_len (xs : List Int) : (resF xs).length = 32 := by unfold resF; split; exact outF_len _; rfl
theorem sum_all (A : Option Addr) (cap : Nat) (xs : List Int) (w : World) (hby : Bytes xs) (hc : xs.length ≤ cap) (hr : ReadsInt w .u8 A xs.length xs) : Calls Try.prog 10 #[.slice A xs.length cap] w fun e w' => e = .returned (.tuple #[.agg (ia .u8 (resF xs)), .int .i64 (resE xs)]) ∧ Below w.heap.size w w' := by
  by_cases h : xs.length ≤ 1048576
  · rw [resF, if_pos h, resE, if_pos h]; exact sum_any A cap xs w hby h hc hr
  · rw [resF, if_neg h, resE, if_neg h]; exact sum_big A cap _ w (by omega)
theorem refsum_all (A : Option Addr) (cap : Nat) (xs : List Int) (w : World) (hby : Bytes xs) (hc : xs.length ≤ cap) (hr : ReadsInt w .u8 A xs.length xs) : Calls Try.prog 11 #[.slice A xs.length cap] w fun e w' => e = .returned (.tuple #[.agg (ia .u8 (resF xs)), .int .i64 (resE xs)]) ∧ Below w.heap.size w w' := by
  by_cases h : xs.length ≤ 1048576
  · rw [resF, if_pos h, resE, if_pos h]; exact refsum_any A cap xs w hby h hc hr
  · rw [resF, if_neg h, resE, if_neg h]; exact refsum_big A cap _ w (by omega)
theorem reads_onlyp {w w1 : World} {g n : Nat} {A : Option Addr} {xs : List Int} (h : Only g w w1) (hr : ReadsInt w .u8 A n xs) (hne : ∀ ad, A = some ad → 0 < n → ad.block ≠ g) : ReadsInt w1 .u8 A n xs := by
  by_cases hp : 0 < n
  · exact reads_only h hr (fun ad e => hne ad e hp)
  · exact ⟨hr.1, hr.2.1, fun h => absurd h hp⟩
theorem eqArr29 {o : Oper} {a : Act} {x y : Operand} {l1 l2 : List Int} {w : World} (ho : o.op = .binOp .eql 29 x y 29) (hx : a.eval x = .agg (ia .u8 l1)) (hy : a.eval y = .agg (ia .u8 l2)) (h1 : l1.length = 32) (h2 : l2.length = 32) : (execOp a.eval o).run Try.prog w = .ok (.value (.bool (decide (l1 = l2)))) w := by
  unfold execOp
  simp only [ho, hx, hy]
  go_simp
  simp only [eq_ints 9998 Try.underlying29 Try.underlying5 (by kernel_rfl) (by kernel_rfl) _ _ h1 h2, Result.andThen_ok]
set_option maxHeartbeats 4000000 in
set_option maxRecDepth 100000 in
theorem sums_walk (A : Option Addr) (cap : Nat) (xs : List Int) (w : World) (hby : Bytes xs) (hc : xs.length ≤ cap) (hr : ReadsInt w .u8 A xs.length xs) : Calls Try.prog 4 #[.slice A xs.length cap] w fun e w' => e = .returned (.bool true) ∧ Below w.heap.size w w' := by
  have HBY := Hide.mk hby
  have HC := Hide.mk hc
  have HR := Hide.mk hr
  clear hby hc hr
  by_cases h : 2097152 < xs.length
  · have hd : decide ((2097152 : Int) < (xs.length : Int)) = true := by simp; omega
    go_enter Try.func4, Try.ntmps4
    go_wp2_with fail
    go_ret
    exact ⟨rfl, Below.refl _ _⟩
  · have hd : decide ((2097152 : Int) < (xs.length : Int)) = false := by simp; omega
    go_enter Try.func4, Try.ntmps4
    go_wp2_with fail
    refine (twin_any A cap xs _ (by omega) HR.out).mono ?_
    rintro e w1 ⟨g, d, rfl, hd1, hrt, hb, hg⟩
    have HB1 := Hide.mk hb
    have HT := Hide.mk hrt
    have HD := Hide.mk hd1
    have HR1 := Hide.mk (HR.out.below hb)
    have HT1 := Hide.mk (show ReadsInt w1 .u8 (some ⟨g, 0, none⟩) xs.length xs from by have := hrt.take_ xs.length (by omega); rwa [List.take_append_of_le_length (by omega), List.take_length] at this)
    have HRL := Hide.mk (resF_len xs)
    clear hb hrt hd1 hg hd HR
    go_wp2_with fail
    refine (sum_all (some ⟨g, 0, none⟩) d xs _ HBY.out (by have := HD.out; omega) HT1.out).mono ?_
    rintro e w2 ⟨rfl, hb⟩
    have HB2 := Hide.mk (below_step HB1.out hb)
    have HT2 := Hide.mk (HT.out.below hb)
    have HR2 := Hide.mk (HR1.out.below hb)
    clear hb HB1 HT HR1 HT1
    go_wp2_with (first | ((with_reducible refine gate_dst (N := 4) rfl ?_); refine box_event ?hg (N := 4) ?hd (cs := ia .u8 (List.replicate 32 0)) (t := 29) ?hr ?_; (case hd => rfl); (case hg => rfl); (case hr => kernel_rfl); intro g4 hg w3 hbox hb; have BKg4 := Hide.mk hbox; have HB3 := Hide.mk (below_step HB2.out hb); have GEg4 : w.heap.size ≤ g4 := (by rw [hg]; exact HB2.out.size); clear HB2; have HT3 := Hide.mk (HT2.out.below hb); have HR3 := Hide.mk (HR2.out.below hb); have NB4 : Hide ((∀ ad, (some ⟨g, 0, none⟩ : Option Addr) = some ad → ad.block ≠ g4) ∧ (∀ ad, A = some ad → 0 < xs.length → ad.block ≠ g4)) := ⟨⟨fun ad e => (by cases e; obtain ⟨ad', e', hcell⟩ := HT2.out.2.2 (by omega); cases e'; have hh := World.block_lt_of_cell? _ _ (hcell 0 (by omega)); rw [add_block] at hh; omega), fun ad e hp => (by obtain ⟨ad', e', hcell⟩ := HR2.out.2.2 hp; rw [e] at e'; cases e'; have hh := World.block_lt_of_cell? _ _ (hcell 0 hp); rw [add_block] at hh; omega)⟩⟩; clear HT2 HR2; have HT2 := HT3; have HR2 := HR3; clear HT3 HR3; clear hbox hb hg) | ((with_reducible refine gate_store (p := 4) (v := .tmp 16) rfl ?_); go_must (refine store_row rfl rfl 29 (.tmp 4) (.tmp 16) rfl g4 rfl (ia .u8 (resF xs)) rfl (ia_one _ _) (by rw [ia_size, HRL.out]; kernel_rfl) _ _ BKg4.out (by rw [ia_size, ia_size, HRL.out]; rfl) ?_); intro w9 hb ho; have BKg4' := Hide.mk hb; have HB3' := Hide.mk (ho.below HB3.out GEg4); have ONg4 := Hide.mk ho; clear BKg4 HB3; have BKg4 := BKg4'; have HB3 := HB3'; clear BKg4' HB3'; have HT3 := Hide.mk (reads_only ho HT2.out NB4.out.1); have HR3 := Hide.mk (reads_onlyp ho HR2.out NB4.out.2); clear HT2 HR2; have HT2 := HT3; have HR2 := HR3; clear HT3 HR3; clear hb ho))
    refine (refsum_all A cap xs _ HBY.out HC.out HR2.out).mono ?_
    rintro e w4 ⟨rfl, hb⟩
    have HB4 := Hide.mk (below_step HB3.out hb)
    have HT4 := Hide.mk (HT2.out.below hb)
    have HR4 := Hide.mk (HR2.out.below hb)
    have BK4 := Hide.mk (blk_below BKg4.out hb)
    clear hb HB3 HT2 HR2 BKg4
    obtain ⟨R, hR⟩ : ∃ R, resF xs = R := ⟨_, rfl⟩
    rw [hR] at HRL BK4 ⊢
    clear hR
    generalize resE xs = ec
    have hdR : decide (R = R) = true := by simp
    go_wp2_with (first | ((with_reducible refine gate_dst (N := 6) rfl ?_); refine box_event ?hg (N := 6) ?hd (cs := ia .u8 (List.replicate 32 0)) (t := 29) ?hr ?_; (case hd => rfl); (case hg => rfl); (case hr => kernel_rfl); intro g6 hg w6 hbox hb; have Lg4g6 : g4 < g6 := (by rw [hg]; exact blk_lt BK4.out); have BKg6 := Hide.mk hbox; have HB6 := Hide.mk (below_step HB4.out hb); have GEg6 : w.heap.size ≤ g6 := (by rw [hg]; exact HB4.out.size); clear HB4; have BK4' := Hide.mk (blk_below BK4.out hb); clear BK4; have BK4 := BK4'; clear BK4'; have HT3 := Hide.mk (HT4.out.below hb); have HR3 := Hide.mk (HR4.out.below hb); have NB6 : Hide ((∀ ad, (some ⟨g, 0, none⟩ : Option Addr) = some ad → ad.block ≠ g6) ∧ (∀ ad, A = some ad → 0 < xs.length → ad.block ≠ g6)) := ⟨⟨fun ad e => (by cases e; obtain ⟨ad', e', hcell⟩ := HT4.out.2.2 (by omega); cases e'; have hh := World.block_lt_of_cell? _ _ (hcell 0 (by omega)); rw [add_block] at hh; omega), fun ad e hp => (by obtain ⟨ad', e', hcell⟩ := HR4.out.2.2 hp; rw [e] at e'; cases e'; have hh := World.block_lt_of_cell? _ _ (hcell 0 hp); rw [add_block] at hh; omega)⟩⟩; clear HT4 HR4; have HT4 := HT3; have HR4 := HR3; clear HT3 HR3; clear hbox hb hg) | ((with_reducible refine gate_store (p := 6) (v := .tmp 21) rfl ?_); go_must (refine store_row rfl rfl 29 (.tmp 6) (.tmp 21) rfl g6 rfl (ia .u8 R) rfl (ia_one _ _) (by rw [ia_size, HRL.out]; kernel_rfl) _ _ BKg6.out (by rw [ia_size, ia_size, HRL.out]; rfl) ?_); intro w9 hb ho; have BKg6' := Hide.mk hb; have HB6' := Hide.mk (ho.below HB6.out GEg6); have ONg6 := Hide.mk ho; clear BKg6 HB6; have BKg6 := BKg6'; have HB6 := HB6'; clear BKg6' HB6'; have BK4' := Hide.mk (ho.blk BK4.out (by omega)); clear BK4; have BK4 := BK4'; clear BK4'; have HT3 := Hide.mk (reads_only ho HT4.out NB6.out.1); have HR3 := Hide.mk (reads_onlyp ho HR4.out NB6.out.2); clear HT4 HR4; have HT4 := HT3; have HR4 := HR3; clear HT3 HR3; clear hb ho) | ((with_reducible refine gate_dst (N := 23) rfl ?_); refine wpList_load_row rfl 29 (.tmp 4) rfl g4 rfl 29 (ia .u8 R) (0, 0) _ BK4.out Try.underlying29 rfl ?hsz ?_; (case hsz => rw [ia_size, HRL.out]; kernel_rfl)) | ((with_reducible refine gate_dst (N := 24) rfl ?_); refine wpList_load_row rfl 29 (.tmp 6) rfl g6 rfl 29 (ia .u8 R) (0, 0) _ BKg6.out Try.underlying29 rfl ?hsz ?_; (case hsz => rw [ia_size, HRL.out]; kernel_rfl)) | ((with_reducible refine gate_dst (N := 25) rfl ?_); refine Kd.event_run rfl (eqArr29 rfl rfl rfl HRL.out HRL.out) ?_))
    refine (left_any g d A cap xs _ (by omega) HD.out HT4.out HR4.out).mono ?_
    rintro e w7 ⟨rfl, hb⟩
    have HB7 := Hide.mk (below_step HB6.out hb)
    clear hb
    go_wp2_with fail
    go_ret
    exact ⟨rfl, HB7.out⟩
end Go.Proofs.Ythgklggcdnocdaa.Sh
