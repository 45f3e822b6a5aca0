/- begins, alive: some sums that the document fixes. -/
import Derived.Test.YthgklggcdnocdaaS11
namespace Go.Proofs.Ythgklggcdnocdaa.Sh
open Go.RowKit Go.Proofs.YthgklggcdnocdaaW.PrintWords Go.Proofs.YthgklggcdnocdaaW.PrintLast Go.Proofs.YthgklggcdnocdaaW.PrintMore Mem Rg
set_option linter.unusedVariables false
set_option linter.unusedSimpArgs false
theorem get4 {l : List Int} {a b c d : Int} (h : l.take 4 = [a, b, c, d]) : l.getD 0 0 = a ∧ l.getD 1 0 = b ∧ l.getD 2 0 = c ∧ l.getD 3 0 = d := by
  rcases l with _ | ⟨x0, _ | ⟨x1, _ | ⟨x2, _ | ⟨x3, l⟩⟩⟩⟩ <;> simp_all
theorem convStep {o : Oper} {a : Act} {x : Operand} {s : ByteArray} {w : World} (ho : o.op = .convert 9 27 x) (hx : a.eval x = .string s) : (execOp a.eval o).run Try.prog w = .ok (.value (.slice (some ⟨w.heap.size, 0, none⟩) s.size (grownCap w s.size 0 5))) (Lib.bytesWorld w 5 s) := by
  have h := print_bytes (P := Try.prog) 9 27 5 Try.underlying9 Try.underlying27 Try.underlying5 s w
  unfold execOp
  simp only [ho, hx, h, Sem.run_bind, Result.andThen_ok, Sem.run_pure]
set_option maxRecDepth 100000 in
theorem sum4_1 : (sumF []).take 4 = [227, 176, 196, 66] := by decide +kernel
set_option maxHeartbeats 4000000 in
set_option maxRecDepth 100000 in
theorem begins_1 (w : World) : Calls Try.prog 26 #[.string { data := #[] }, .int .u32 3820012610] w fun e w' => e = .returned (.bool true) ∧ Below w.heap.size w w' := by
  obtain ⟨s, hs⟩ : ∃ s : ByteArray, ({ data := #[] } : ByteArray) = s := ⟨_, rfl⟩
  have HSZ : Hide (s.size = 0) := ⟨by rw [← hs]; rfl⟩
  have HBS : Hide (bytesOf s = []) := ⟨by rw [← hs]; rfl⟩
  rw [hs]
  clear hs
  go_enter Try.func26, Try.ntmps26
  go_wp2_with (first | ((with_reducible refine gate_dst (N := 9) rfl ?_); refine Kd.event_run rfl (v := .slice (some ⟨w.heap.size, 0, none⟩) s.size (grownCap w s.size 0 5)) (w1 := Lib.bytesWorld w 5 s) (convStep rfl rfl) ?_; have HR1 := Hide.mk (bytes_reads w 5 s (by rw [HSZ.out]; decide)); have HB1 := Hide.mk (bytes_below (Below.refl w.heap.size w) (Nat.le_refl _) 5 s); have HC := Hide.mk (grownCap_ge w s.size 0 5); rw [HBS.out] at HR1; rw [HSZ.out] at HR1 HC ⊢; generalize Lib.bytesWorld w 5 s = w1 at HR1 HB1 ⊢; generalize grownCap w 0 0 5 = cc at HC ⊢; generalize w.heap.size = b1 at HR1 ⊢))
  refine (sum_any (some ⟨b1, 0, none⟩) cc [] _ (by show ∀ x ∈ ([] : List Int), 0 ≤ x ∧ x ≤ 255; decide) (by decide) HC.out HR1.out).mono ?_
  rintro e w2 ⟨rfl, hb⟩
  have HB2 := Hide.mk (HB1.out.trans (hb.mono HB1.out.size))
  clear hb HB1 HR1
  obtain ⟨r0, r1, r2, r3⟩ := get4 sum4_1
  obtain ⟨R, hR⟩ : ∃ R, sumF [] = R := ⟨_, rfl⟩
  have HRL : Hide (R.length = 32) := ⟨by rw [← hR]; exact outF_len _⟩
  rw [hR] at r0 r1 r2 r3 ⊢
  have HR0 := Hide.mk (And.intro r0 (And.intro r1 (And.intro r2 r3)))
  clear hR r0 r1 r2 r3
  go_wp2_with (first | ((with_reducible refine gate_dst (N := 5) rfl ?_); refine box_event ?hg (N := 5) ?hd (cs := ia .u8 (List.replicate 32 0)) (t := 29) ?hr ?_; (case hd => rfl); (case hg => rfl); (case hr => kernel_rfl); intro g5 hg w3 hbox hb; have BKg5 := Hide.mk hbox; have HB3 := Hide.mk (below_step HB2.out hb); have GEg5 : w.heap.size ≤ g5 := (by rw [hg]; exact HB2.out.size); clear HB2; clear hbox hb hg) | ((with_reducible refine gate_store (p := 5) (v := .tmp 11) rfl ?_); go_must (refine store_row rfl rfl 29 (.tmp 5) (.tmp 11) rfl g5 rfl (ia .u8 R) rfl (ia_one _ _) (by rw [ia_size, HRL.out]; kernel_rfl) _ _ BKg5.out (by rw [ia_size, ia_size, HRL.out]; rfl) ?_); intro w9 hb ho; have BK5 := Hide.mk hb; have HB5 := Hide.mk (ho.below HB3.out GEg5); clear BKg5 HB3; clear hb ho; have c0 : w9.cell? ⟨g5, 0, none⟩ = some (.int .u8 227) := ((blk_cell BK5.out 0).trans (ia_get _ _ 0 (by rw [HRL.out]; decide))).trans (by rw [HR0.out.1]); have c1 : w9.cell? ⟨g5, 1, none⟩ = some (.int .u8 176) := ((blk_cell BK5.out 1).trans (ia_get _ _ 1 (by rw [HRL.out]; decide))).trans (by rw [HR0.out.2.1]); have c2 : w9.cell? ⟨g5, 2, none⟩ = some (.int .u8 196) := ((blk_cell BK5.out 2).trans (ia_get _ _ 2 (by rw [HRL.out]; decide))).trans (by rw [HR0.out.2.2.1]); have c3 : w9.cell? ⟨g5, 3, none⟩ = some (.int .u8 66) := ((blk_cell BK5.out 3).trans (ia_get _ _ 3 (by rw [HRL.out]; decide))).trans (by rw [HR0.out.2.2.2])))
  go_ret
  exact ⟨by first | rfl | kernel_rfl | (congr 2; decide +kernel), HB5.out⟩
set_option maxRecDepth 100000 in
theorem sum4_2 : (sumF [97, 98, 99]).take 4 = [186, 120, 22, 191] := by decide +kernel
set_option maxHeartbeats 4000000 in
set_option maxRecDepth 100000 in
theorem begins_2 (w : World) : Calls Try.prog 26 #[.string { data := #[97, 98, 99] }, .int .u32 3128432319] w fun e w' => e = .returned (.bool true) ∧ Below w.heap.size w w' := by
  obtain ⟨s, hs⟩ : ∃ s : ByteArray, ({ data := #[97, 98, 99] } : ByteArray) = s := ⟨_, rfl⟩
  have HSZ : Hide (s.size = 3) := ⟨by rw [← hs]; rfl⟩
  have HBS : Hide (bytesOf s = [97, 98, 99]) := ⟨by rw [← hs]; rfl⟩
  rw [hs]
  clear hs
  go_enter Try.func26, Try.ntmps26
  go_wp2_with (first | ((with_reducible refine gate_dst (N := 9) rfl ?_); refine Kd.event_run rfl (v := .slice (some ⟨w.heap.size, 0, none⟩) s.size (grownCap w s.size 0 5)) (w1 := Lib.bytesWorld w 5 s) (convStep rfl rfl) ?_; have HR1 := Hide.mk (bytes_reads w 5 s (by rw [HSZ.out]; decide)); have HB1 := Hide.mk (bytes_below (Below.refl w.heap.size w) (Nat.le_refl _) 5 s); have HC := Hide.mk (grownCap_ge w s.size 0 5); rw [HBS.out] at HR1; rw [HSZ.out] at HR1 HC ⊢; generalize Lib.bytesWorld w 5 s = w1 at HR1 HB1 ⊢; generalize grownCap w 3 0 5 = cc at HC ⊢; generalize w.heap.size = b1 at HR1 ⊢))
  refine (sum_any (some ⟨b1, 0, none⟩) cc [97, 98, 99] _ (by show ∀ x ∈ ([97, 98, 99] : List Int), 0 ≤ x ∧ x ≤ 255; decide) (by decide) HC.out HR1.out).mono ?_
  rintro e w2 ⟨rfl, hb⟩
  have HB2 := Hide.mk (HB1.out.trans (hb.mono HB1.out.size))
  clear hb HB1 HR1
  obtain ⟨r0, r1, r2, r3⟩ := get4 sum4_2
  obtain ⟨R, hR⟩ : ∃ R, sumF [97, 98, 99] = R := ⟨_, rfl⟩
  have HRL : Hide (R.length = 32) := ⟨by rw [← hR]; exact outF_len _⟩
  rw [hR] at r0 r1 r2 r3 ⊢
  have HR0 := Hide.mk (And.intro r0 (And.intro r1 (And.intro r2 r3)))
  clear hR r0 r1 r2 r3
  go_wp2_with (first | ((with_reducible refine gate_dst (N := 5) rfl ?_); refine box_event ?hg (N := 5) ?hd (cs := ia .u8 (List.replicate 32 0)) (t := 29) ?hr ?_; (case hd => rfl); (case hg => rfl); (case hr => kernel_rfl); intro g5 hg w3 hbox hb; have BKg5 := Hide.mk hbox; have HB3 := Hide.mk (below_step HB2.out hb); have GEg5 : w.heap.size ≤ g5 := (by rw [hg]; exact HB2.out.size); clear HB2; clear hbox hb hg) | ((with_reducible refine gate_store (p := 5) (v := .tmp 11) rfl ?_); go_must (refine store_row rfl rfl 29 (.tmp 5) (.tmp 11) rfl g5 rfl (ia .u8 R) rfl (ia_one _ _) (by rw [ia_size, HRL.out]; kernel_rfl) _ _ BKg5.out (by rw [ia_size, ia_size, HRL.out]; rfl) ?_); intro w9 hb ho; have BK5 := Hide.mk hb; have HB5 := Hide.mk (ho.below HB3.out GEg5); clear BKg5 HB3; clear hb ho; have c0 : w9.cell? ⟨g5, 0, none⟩ = some (.int .u8 186) := ((blk_cell BK5.out 0).trans (ia_get _ _ 0 (by rw [HRL.out]; decide))).trans (by rw [HR0.out.1]); have c1 : w9.cell? ⟨g5, 1, none⟩ = some (.int .u8 120) := ((blk_cell BK5.out 1).trans (ia_get _ _ 1 (by rw [HRL.out]; decide))).trans (by rw [HR0.out.2.1]); have c2 : w9.cell? ⟨g5, 2, none⟩ = some (.int .u8 22) := ((blk_cell BK5.out 2).trans (ia_get _ _ 2 (by rw [HRL.out]; decide))).trans (by rw [HR0.out.2.2.1]); have c3 : w9.cell? ⟨g5, 3, none⟩ = some (.int .u8 191) := ((blk_cell BK5.out 3).trans (ia_get _ _ 3 (by rw [HRL.out]; decide))).trans (by rw [HR0.out.2.2.2])))
  go_ret
  exact ⟨by first | rfl | kernel_rfl | (congr 2; decide +kernel), HB5.out⟩
set_option maxRecDepth 100000 in
theorem sum4_3 : (sumF [97, 98, 99, 100, 98, 99, 100, 101, 99, 100, 101, 102, 100, 101, 102, 103, 101, 102, 103, 104, 102, 103, 104, 105, 103, 104, 105, 106, 104, 105, 106, 107, 105, 106, 107, 108, 106, 107, 108, 109, 107, 108, 109, 110, 108, 109, 110, 111, 109, 110, 111, 112, 110, 111, 112, 113]).take 4 = [36, 141, 106, 97] := by decide +kernel
set_option maxHeartbeats 4000000 in
set_option maxRecDepth 100000 in
theorem begins_3 (w : World) : Calls Try.prog 26 #[.string { data := #[97, 98, 99, 100, 98, 99, 100, 101, 99, 100, 101, 102, 100, 101, 102, 103, 101, 102, 103, 104, 102, 103, 104, 105, 103, 104, 105, 106, 104, 105, 106, 107, 105, 106, 107, 108, 106, 107, 108, 109, 107, 108, 109, 110, 108, 109, 110, 111, 109, 110, 111, 112, 110, 111, 112, 113] }, .int .u32 613247585] w fun e w' => e = .returned (.bool true) ∧ Below w.heap.size w w' := by
  obtain ⟨s, hs⟩ : ∃ s : ByteArray, ({ data := #[97, 98, 99, 100, 98, 99, 100, 101, 99, 100, 101, 102, 100, 101, 102, 103, 101, 102, 103, 104, 102, 103, 104, 105, 103, 104, 105, 106, 104, 105, 106, 107, 105, 106, 107, 108, 106, 107, 108, 109, 107, 108, 109, 110, 108, 109, 110, 111, 109, 110, 111, 112, 110, 111, 112, 113] } : ByteArray) = s := ⟨_, rfl⟩
  have HSZ : Hide (s.size = 56) := ⟨by rw [← hs]; rfl⟩
  have HBS : Hide (bytesOf s = [97, 98, 99, 100, 98, 99, 100, 101, 99, 100, 101, 102, 100, 101, 102, 103, 101, 102, 103, 104, 102, 103, 104, 105, 103, 104, 105, 106, 104, 105, 106, 107, 105, 106, 107, 108, 106, 107, 108, 109, 107, 108, 109, 110, 108, 109, 110, 111, 109, 110, 111, 112, 110, 111, 112, 113]) := ⟨by rw [← hs]; rfl⟩
  rw [hs]
  clear hs
  go_enter Try.func26, Try.ntmps26
  go_wp2_with (first | ((with_reducible refine gate_dst (N := 9) rfl ?_); refine Kd.event_run rfl (v := .slice (some ⟨w.heap.size, 0, none⟩) s.size (grownCap w s.size 0 5)) (w1 := Lib.bytesWorld w 5 s) (convStep rfl rfl) ?_; have HR1 := Hide.mk (bytes_reads w 5 s (by rw [HSZ.out]; decide)); have HB1 := Hide.mk (bytes_below (Below.refl w.heap.size w) (Nat.le_refl _) 5 s); have HC := Hide.mk (grownCap_ge w s.size 0 5); rw [HBS.out] at HR1; rw [HSZ.out] at HR1 HC ⊢; generalize Lib.bytesWorld w 5 s = w1 at HR1 HB1 ⊢; generalize grownCap w 56 0 5 = cc at HC ⊢; generalize w.heap.size = b1 at HR1 ⊢))
  refine (sum_any (some ⟨b1, 0, none⟩) cc [97, 98, 99, 100, 98, 99, 100, 101, 99, 100, 101, 102, 100, 101, 102, 103, 101, 102, 103, 104, 102, 103, 104, 105, 103, 104, 105, 106, 104, 105, 106, 107, 105, 106, 107, 108, 106, 107, 108, 109, 107, 108, 109, 110, 108, 109, 110, 111, 109, 110, 111, 112, 110, 111, 112, 113] _ (by show ∀ x ∈ ([97, 98, 99, 100, 98, 99, 100, 101, 99, 100, 101, 102, 100, 101, 102, 103, 101, 102, 103, 104, 102, 103, 104, 105, 103, 104, 105, 106, 104, 105, 106, 107, 105, 106, 107, 108, 106, 107, 108, 109, 107, 108, 109, 110, 108, 109, 110, 111, 109, 110, 111, 112, 110, 111, 112, 113] : List Int), 0 ≤ x ∧ x ≤ 255; decide) (by decide) HC.out HR1.out).mono ?_
  rintro e w2 ⟨rfl, hb⟩
  have HB2 := Hide.mk (HB1.out.trans (hb.mono HB1.out.size))
  clear hb HB1 HR1
  obtain ⟨r0, r1, r2, r3⟩ := get4 sum4_3
  obtain ⟨R, hR⟩ : ∃ R, sumF [97, 98, 99, 100, 98, 99, 100, 101, 99, 100, 101, 102, 100, 101, 102, 103, 101, 102, 103, 104, 102, 103, 104, 105, 103, 104, 105, 106, 104, 105, 106, 107, 105, 106, 107, 108, 106, 107, 108, 109, 107, 108, 109, 110, 108, 109, 110, 111, 109, 110, 111, 112, 110, 111, 112, 113] = R := ⟨_, rfl⟩
  have HRL : Hide (R.length = 32) := ⟨by rw [← hR]; exact outF_len _⟩
  rw [hR] at r0 r1 r2 r3 ⊢
  have HR0 := Hide.mk (And.intro r0 (And.intro r1 (And.intro r2 r3)))
  clear hR r0 r1 r2 r3
  go_wp2_with (first | ((with_reducible refine gate_dst (N := 5) rfl ?_); refine box_event ?hg (N := 5) ?hd (cs := ia .u8 (List.replicate 32 0)) (t := 29) ?hr ?_; (case hd => rfl); (case hg => rfl); (case hr => kernel_rfl); intro g5 hg w3 hbox hb; have BKg5 := Hide.mk hbox; have HB3 := Hide.mk (below_step HB2.out hb); have GEg5 : w.heap.size ≤ g5 := (by rw [hg]; exact HB2.out.size); clear HB2; clear hbox hb hg) | ((with_reducible refine gate_store (p := 5) (v := .tmp 11) rfl ?_); go_must (refine store_row rfl rfl 29 (.tmp 5) (.tmp 11) rfl g5 rfl (ia .u8 R) rfl (ia_one _ _) (by rw [ia_size, HRL.out]; kernel_rfl) _ _ BKg5.out (by rw [ia_size, ia_size, HRL.out]; rfl) ?_); intro w9 hb ho; have BK5 := Hide.mk hb; have HB5 := Hide.mk (ho.below HB3.out GEg5); clear BKg5 HB3; clear hb ho; have c0 : w9.cell? ⟨g5, 0, none⟩ = some (.int .u8 36) := ((blk_cell BK5.out 0).trans (ia_get _ _ 0 (by rw [HRL.out]; decide))).trans (by rw [HR0.out.1]); have c1 : w9.cell? ⟨g5, 1, none⟩ = some (.int .u8 141) := ((blk_cell BK5.out 1).trans (ia_get _ _ 1 (by rw [HRL.out]; decide))).trans (by rw [HR0.out.2.1]); have c2 : w9.cell? ⟨g5, 2, none⟩ = some (.int .u8 106) := ((blk_cell BK5.out 2).trans (ia_get _ _ 2 (by rw [HRL.out]; decide))).trans (by rw [HR0.out.2.2.1]); have c3 : w9.cell? ⟨g5, 3, none⟩ = some (.int .u8 97) := ((blk_cell BK5.out 3).trans (ia_get _ _ 3 (by rw [HRL.out]; decide))).trans (by rw [HR0.out.2.2.2])))
  go_ret
  exact ⟨by first | rfl | kernel_rfl | (congr 2; decide +kernel), HB5.out⟩
set_option maxHeartbeats 4000000 in
set_option maxRecDepth 100000 in
theorem alive_any (w : World) : Calls Try.prog 13 #[] w fun e w' => e = .returned (.bool true) ∧ Below w.heap.size w w' := by
  go_enter Try.func13, Try.ntmps13
  go_wp2_with fail
  refine (begins_1 _).mono ?_
  rintro e w1 ⟨rfl, hb⟩
  have HB1 := Hide.mk hb
  clear hb
  go_wp2_with fail
  refine (begins_2 _).mono ?_
  rintro e w2 ⟨rfl, hb⟩
  have HB2 := Hide.mk (below_step HB1.out hb)
  clear hb HB1
  go_wp2_with fail
  refine (begins_3 _).mono ?_
  rintro e w3 ⟨rfl, hb⟩
  have HB3 := Hide.mk (below_step HB2.out hb)
  clear hb HB2
  go_wp2_with fail
  go_ret
  exact ⟨rfl, HB3.out⟩
end Go.Proofs.Ythgklggcdnocdaa.Sh
