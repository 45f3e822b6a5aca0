/- alive. -/
import Derived.Test.YtlhhjdhbkhjhjaaP14
import Derived.Lib.SlBytesConst
namespace Go.Proofs.Ytlhhjdhbkhjhjaa.Po
open Go.RowKit Go.Proofs.YtlhhjdhbkhjhjaaW.PrintWords Go.Proofs.YtlhhjdhbkhjhjaaW.PrintLast Go.Proofs.YtlhhjdhbkhjhjaaW.PrintMore Mem Rg
attribute [local go_sem] Oper.semAt_some
set_option linter.unusedVariables false
set_option linter.unusedSimpArgs false
theorem reads_mark (w : World) (l : List Int) (fr : Nat × Nat) (hl : l.length ≤ 9223372036854775807) : ReadsInt (w.alloc (.cells (ia .u8 l) 5 fr)) .u8 (some ⟨w.heap.size, 0, none⟩) l.length l := by
  refine ⟨rfl, hl, fun _ => ⟨_, rfl, fun j hj => ?_⟩⟩
  rw [Addr.add_mid, Nat.zero_add]
  have h : (w.alloc (.cells (ia .u8 l) 5 fr)).heap[w.heap.size]? = some (.cells (ia .u8 l) 5 fr) := heap_alloc_new w _
  exact (cell_of_row _ _ j _ _ fr h).trans (ia_get _ _ _ hj)
theorem convStep {o : Oper} {a : Act} {x : Operand} {w : World} {C : Array Value} {n c : Nat} (ho : o.op = .convert 23 23 x) (hx : a.eval x = .slice (some ⟨w.heap.size, 0, none⟩) n c) :
    (execOp a.eval o).run Try.prog (w.alloc (.cells C 5 (0, 0))) = .ok (.value (.slice (some ⟨w.heap.size, 0, none⟩) n c)) (w.alloc (.cells C 5 (C.size, C.size + 1))) := by
  have h := Lib.run_convert_bytes_const (P := Try.prog) w 23 5 C n c Try.underlying23 Try.underlying5
  unfold execOp
  simp only [ho, hx, h, Sem.run_bind, Result.andThen_ok, Sem.run_pure]
set_option maxRecDepth 100000 in
theorem litMsg {o : Oper} {a : Act} {w : World} (ho : o.op = .buildSlice 23 34 #[(0, .const (.int .u8 67)), (1, .const (.int .u8 114)), (2, .const (.int .u8 121)), (3, .const (.int .u8 112)), (4, .const (.int .u8 116)), (5, .const (.int .u8 111)), (6, .const (.int .u8 103)), (7, .const (.int .u8 114)), (8, .const (.int .u8 97)), (9, .const (.int .u8 112)), (10, .const (.int .u8 104)), (11, .const (.int .u8 105)), (12, .const (.int .u8 99)), (13, .const (.int .u8 32)), (14, .const (.int .u8 70)), (15, .const (.int .u8 111)), (16, .const (.int .u8 114)), (17, .const (.int .u8 117)), (18, .const (.int .u8 109)), (19, .const (.int .u8 32)), (20, .const (.int .u8 82)), (21, .const (.int .u8 101)), (22, .const (.int .u8 115)), (23, .const (.int .u8 101)), (24, .const (.int .u8 97)), (25, .const (.int .u8 114)), (26, .const (.int .u8 99)), (27, .const (.int .u8 104)), (28, .const (.int .u8 32)), (29, .const (.int .u8 71)), (30, .const (.int .u8 114)), (31, .const (.int .u8 111)), (32, .const (.int .u8 117)), (33, .const (.int .u8 112))]) :
    (execOp a.eval o).run Try.prog w = .ok (.value (.slice (some ⟨w.heap.size, 0, none⟩) 34 34)) (w.alloc (.cells (ia .u8 aMsg) 5 (0, 0))) := by
  unfold execOp
  simp only [ho, List.map_toArray, List.map_cons, List.map_nil]
  kernel_rfl
set_option maxHeartbeats 4000000 in
set_option maxRecDepth 100000 in
theorem alive_any (w : World) : Calls Try.prog 11 #[] w fun e w' => e = .returned (.bool true) ∧ Below w.heap.size w w' := by
  have HB0 := Hide.mk (Below.refl w.heap.size w)
  go_enter Try.func11, Try.ntmps11
  go_wp2_with (first | ((with_reducible refine gate_dst (N := 5) rfl ?_); refine Kd.event_run rfl (v := .agg (ia .u8 aKey)) ?hr ?_; (case hr => kernel_rfl)) | ((with_reducible refine gate_dst (N := 1) rfl ?_); refine box_event ?hg (N := 1) ?hd (cs := ia .u8 (List.replicate 32 0)) (t := 22) ?hr ?_; (case hd => rfl); (case hg => rfl); (case hr => kernel_rfl); intro g1 hg w1 hbox hb; have BKg1 := Hide.mk hbox; have HB1' := Hide.mk (below_step HB0.out hb); have GEg1 : w.heap.size ≤ g1 := (by rw [hg]; exact HB0.out.size); clear HB0; have HB1 := HB1'; clear HB1'; clear hbox hb hg) | ((with_reducible refine gate_store (p := 1) (v := .tmp 5) rfl ?_); go_must (refine store_row rfl rfl 22 (.tmp 1) (.tmp 5) rfl g1 rfl (ia .u8 aKey) rfl (ia_one _ _) (by rw [ia_size]; kernel_rfl) _ _ BKg1.out (by rfl) ?_); intro w2 hb ho; have BKg1' := Hide.mk hb; have HB1' := Hide.mk (ho.below HB1.out GEg1); clear BKg1 HB1; have BKg1 := BKg1'; have HB1 := HB1'; clear BKg1' HB1'; clear hb ho) | ((with_reducible refine gate_dst (N := 7) rfl ?_); refine wpList_load_row rfl 22 (.tmp 1) rfl g1 rfl 22 _ (0, 0) _ BKg1.out Try.underlying22 rfl ?hsz ?_; (case hsz => kernel_rfl)) | ((with_reducible refine gate_dst (N := 8) rfl ?_); refine Kd.event_run rfl (v := .slice (some ⟨w2.heap.size, 0, none⟩) 34 34) (w1 := w2.alloc (.cells (ia .u8 aMsg) 5 (0, 0))) (litMsg rfl) ?_) | ((with_reducible refine gate_dst (N := 9) rfl ?_); refine Kd.event_run rfl (v := .slice (some ⟨w2.heap.size, 0, none⟩) 34 34) (w1 := w2.alloc (.cells (ia .u8 aMsg) 5 ((ia .u8 aMsg).size, (ia .u8 aMsg).size + 1))) (convStep rfl rfl) ?_; have HR8 := Hide.mk (reads_mark w2 aMsg ((ia .u8 aMsg).size, (ia .u8 aMsg).size + 1) (by decide)); have HB3 := Hide.mk (below_step HB1.out (below_alloc (Below.refl w2.heap.size w2) (.cells (ia .u8 aMsg) 5 ((ia .u8 aMsg).size, (ia .u8 aMsg).size + 1)))); clear BKg1 HB1; generalize w2.alloc (.cells (ia .u8 aMsg) 5 ((ia .u8 aMsg).size, (ia .u8 aMsg).size + 1)) = w3 at HR8 HB3 ⊢; generalize w2.heap.size = q8 at HR8 ⊢))
  refine (tag_any aKey rfl (bytes_dec (by decide)) (some ⟨q8, 0, none⟩) 34 aMsg w3 (bytes_dec (by decide)) (by decide) (by decide) HR8.out).mono ?_
  rintro e w4 ⟨rfl, hb⟩
  rw [tag_1]
  have HB4 := Hide.mk (below_step HB3.out hb)
  clear hb HB3 HR8
  have HTL : Hide (aTag.length = 16) := ⟨rfl⟩
  go_wp2_with (first | ((with_reducible refine gate_dst (N := 2) rfl ?_); refine box_event ?hg (N := 2) ?hd (cs := ia .u8 (List.replicate 16 0)) (t := 25) ?hr ?_; (case hd => rfl); (case hg => rfl); (case hr => kernel_rfl); intro g2 hg w5 hbox hb; have BKg2 := Hide.mk hbox; have HB5' := Hide.mk (below_step HB4.out hb); have GEg2 : w.heap.size ≤ g2 := (by rw [hg]; exact HB4.out.size); clear HB4; have HB5 := HB5'; clear HB5'; clear hbox hb hg) | ((with_reducible refine gate_store (p := 2) (v := .tmp 11) rfl ?_); go_must (refine store_row rfl rfl 25 (.tmp 2) (.tmp 11) rfl g2 rfl (ia .u8 aTag) rfl (ia_one _ _) (by rw [ia_size]; kernel_rfl) _ _ BKg2.out (by rfl) ?_); intro w6 hb ho; have BKg2' := Hide.mk hb; have HB5' := Hide.mk (ho.below HB5.out GEg2); clear BKg2 HB5; have BKg2 := BKg2'; have HB5 := HB5'; clear BKg2' HB5'; clear hb ho))
  refine (rep_any 255 16 ff16 rep_f16 (by decide) w6).mono ?_
  rintro e w7 ⟨g13, c13, rfl, hc, ho, hb⟩
  have HO13 := Hide.mk (own_lower (base' := g2 + 1) ho (blk_lt BKg2.out))
  have HB7 := Hide.mk (below_step HB5.out hb)
  have K2 := Hide.mk (blk_below BKg2.out hb)
  clear hc ho hb HB5 BKg2
  obtain ⟨w8, hw8⟩ : ∃ w8, w7.alloc (.cells #[.int .u8 240] 5 (0, 0)) = w8 := ⟨_, rfl⟩
  have hbA : Below w7.heap.size w7 w8 := by rw [← hw8]; exact below_alloc (Below.refl _ _) _
  have hN : w8.heap[w7.heap.size]? = some (.cells #[.int .u8 240] 5 (0, 0)) := by rw [← hw8]; exact heap_alloc_new w7 _
  have hO13 := own_keep HO13.out hbA
  have hB8 := below_step HB7.out hbA
  have hK8 := blk_below K2.out hbA
  obtain ⟨g15, c15, w9, ha15, hc15, ho15, hg15⟩ := appM (c := 1) 23 hO13 (one_reads hN) (by decide) (blk_lt hK8) (by decide)
  have HB9 := Hide.mk (grown_below hg15 hO13 hB8 (by omega))
  have HA15 := Hide.mk ha15
  have HO15 := Hide.mk ho15
  have HW8 := Hide.mk hw8
  have K29 := Hide.mk ((hg15.block g2 (blk_lt hK8) (fun e => by have h1 := (own_lt hO13).2; simp [Value.ownBlock] at e; omega)).trans hK8)
  clear hbA hN hO13 hB8 hK8 ha15 ho15 hg15 hc15 hw8 HO13 HB7 K2
  go_wp2_with (first | ((with_reducible refine gate_dst (N := 14) rfl ?_); refine Kd.event_run rfl (v := .slice (some ⟨w7.heap.size, 0, none⟩) 1 1) (w1 := w8) ((buildStep rfl rfl).trans (by rw [HW8.out])) ?_) | ((with_reducible refine gate_dst (N := 15) rfl ?_); refine Kd.event_run rfl (w1 := w9) (appendStep rfl rfl rfl HA15.out) ?_))
  refine (rep_any 255 15 ff15 rep_f15 (by decide) w9).mono ?_
  rintro e wa ⟨g16, c16, rfl, hc, ho, hb⟩
  have hO15 := own_keep HO15.out hb
  have hBa := below_step HB9.out hb
  have hKa := blk_below K29.out hb
  obtain ⟨g17, c17, wb, ha17, hc17, ho17, hg17⟩ := appM (c := c16) 23 hO15 (own_reads ho (by decide)) (by decide) (blk_lt hKa) (by decide)
  have HBb := Hide.mk (grown_below hg17 hO15 hBa (by omega))
  have HA17 := Hide.mk ha17
  have HO17 := Hide.mk ho17
  have K2b := Hide.mk ((hg17.block g2 (blk_lt hKa) (fun e => by have h1 := (own_lt hO15).2; simp [Value.ownBlock] at e; omega)).trans hKa)
  clear hc ho hb hO15 hBa hKa ha17 hc17 ho17 hg17 HO15 HB9 K29 HA15 HW8
  obtain ⟨wc, hwc⟩ : ∃ wc, wb.alloc (.cells #[.int .u8 17] 5 (0, 0)) = wc := ⟨_, rfl⟩
  have hbA : Below wb.heap.size wb wc := by rw [← hwc]; exact below_alloc (Below.refl _ _) _
  have HN18 : Hide (wc.heap[wb.heap.size]? = some (.cells #[.int .u8 17] 5 (0, 0))) := ⟨by rw [← hwc]; exact heap_alloc_new wb _⟩
  have HO17c := Hide.mk (own_keep HO17.out hbA)
  have HBc := Hide.mk (below_step HBb.out hbA)
  have K2c := Hide.mk (blk_below K2b.out hbA)
  have HQ18 : Hide (g2 < wb.heap.size ∧ g17 < wb.heap.size) := ⟨blk_lt K2b.out, (own_lt HO17.out).1⟩
  have HWC := Hide.mk hwc
  clear hwc hbA HO17 HBb K2b
  go_wp2_with (first | ((with_reducible refine gate_dst (N := 17) rfl ?_); refine Kd.event_run rfl (w1 := wb) (appendStep rfl rfl rfl HA17.out) ?_) | ((with_reducible refine gate_dst (N := 18) rfl ?_); refine Kd.event_run rfl (v := .slice (some ⟨wb.heap.size, 0, none⟩) 1 1) (w1 := wc) ((buildStep rfl rfl).trans (by rw [HWC.out])) ?_))
  obtain ⟨q, hq⟩ : ∃ q, wb.heap.size = q := ⟨_, rfl⟩
  rw [hq] at HN18 HQ18 ⊢
  clear hq HWC HA17
  refine (rep_any 0 15 z15 rep_z15 (by decide) wc).mono ?_
  rintro e wd ⟨g19, c19, rfl, hc, ho, hb⟩
  have hO17 := own_keep HO17c.out hb
  have hO18 := own_one (base := g2 + 1) (blk_below HN18.out hb) HQ18.out.1
  have hBd := below_step HBc.out hb
  have hKd := blk_below K2c.out hb
  obtain ⟨g20, c20, we, ha20, hc20, ho20, hg20⟩ := appM (c := c19) 23 hO18 (own_reads ho (by decide)) (by decide) (blk_lt hKd) (by decide)
  have hBe := grown_below hg20 hO18 hBd (by omega)
  have hKe := (hg20.block g2 (blk_lt hKd) (fun e => by have h1 := HQ18.out.1; simp [Value.ownBlock] at e; omega)).trans hKd
  have hO17e := own_apart hO17 hg20 (by have := HQ18.out.2; omega)
  obtain ⟨g21, c21, wf, ha21, hc21, ho21, hg21⟩ := appM (c := c20) 23 hO17e (own_reads ho20 (by decide)) (by decide) (blk_lt hKe) (by decide)
  have HBf := Hide.mk (grown_below hg21 hO17e hBe (by omega))
  have K2f := Hide.mk ((hg21.block g2 (blk_lt hKe) (fun e => by have h1 := (own_lt hO17e).2; simp [Value.ownBlock] at e; omega)).trans hKe)
  have HA20 := Hide.mk ha20
  have HA21 := Hide.mk ha21
  have HR21 : Hide (ReadsInt wf .u8 (some ⟨g21, 0, none⟩) five5.length five5 ∧ five5.length ≤ c21) := ⟨own_reads ho21 (by decide), hc21⟩
  clear hc ho hb hO17 hO18 hBd hKd ha20 hc20 ho20 hg20 hBe hKe hO17e ha21 hc21 ho21 hg21 HO17c HBc K2c HN18 HQ18
  go_wp2_with (first | ((with_reducible refine gate_dst (N := 20) rfl ?_); refine Kd.event_run rfl (w1 := we) (appendStep rfl rfl rfl HA20.out) ?_) | ((with_reducible refine gate_dst (N := 21) rfl ?_); refine Kd.event_run rfl (w1 := wf) (appendStep rfl rfl rfl HA21.out) ?_) | ((with_reducible refine gate_dst (N := 25) rfl ?_); go_must (refine event_g rfl (load_row_eq 25 (.tmp 2) rfl g2 rfl 25 (ia .u8 aTag) (0, 0) _ K2f.out Try.underlying25 rfl (by kernel_rfl)) ?_)) | ((with_reducible refine gate_dst (N := 26) rfl ?_); go_must (refine event_g rfl (v := .agg (ia .u8 aTag)) (w1 := wf) ?hr ?_; (case hr => kernel_rfl))) | ((with_reducible refine gate_dst (N := 27) rfl ?_); go_must (refine event_g rfl (eqArr25 rfl rfl rfl rfl rfl) ?_; rw [decide_eq_true rfl])) | ((with_reducible refine gate_dst (N := 30) rfl ?_); go_must (refine event_g rfl (v := .agg (ia .u8 key2)) (w1 := wf) ?hr ?_; (case hr => kernel_rfl))))
  refine (rep_any 255 16 ff16 rep_f16 (by decide) wf).mono ?_
  rintro e wg ⟨g31, c31, rfl, hc, ho, hb⟩
  have HBg := Hide.mk (below_step HBf.out hb)
  have HR31 := Hide.mk (own_reads ho (by decide))
  have HC31 := Hide.mk hc
  have HR21g : Hide (ReadsInt wg .u8 (some ⟨g21, 0, none⟩) five5.length five5 ∧ five5.length ≤ c21) := ⟨HR21.out.1.below hb, HR21.out.2⟩
  clear hc ho hb HBf K2f HA20 HA21 HR21
  go_wp2_with fail
  refine (oft_any key2 rfl (bytes_dec (by decide)) (some ⟨g31, 0, none⟩) c31 ff16 wg (bytes_dec (by decide)) (by decide) HC31.out HR31.out).mono ?_
  rintro e wh ⟨rfl, hb⟩
  rw [tag_2]
  have HBh := Hide.mk (below_step HBg.out hb)
  have HR21h : Hide (ReadsInt wh .u8 (some ⟨g21, 0, none⟩) five5.length five5 ∧ five5.length ≤ c21) := ⟨HR21g.out.1.below hb, HR21g.out.2⟩
  clear hb HBg HR31 HC31 HR21g
  go_wp2_with (first | ((with_reducible refine gate_dst (N := 33) rfl ?_); go_must (refine event_g rfl (v := .agg (ia .u8 tag3)) (w1 := wh) ?hr ?_; (case hr => kernel_rfl))) | ((with_reducible refine gate_dst (N := 34) rfl ?_); go_must (refine event_g rfl (eqArr25 rfl rfl rfl rfl rfl) ?_; rw [decide_eq_true rfl])) | ((with_reducible refine gate_dst (N := 37) rfl ?_); go_must (refine event_g rfl (v := .agg (ia .u8 key1)) (w1 := wh) ?hr ?_; (case hr => kernel_rfl))))
  refine (oft_any key1 rfl (bytes_dec (by decide)) (some ⟨g21, 0, none⟩) c21 five5 wh (bytes_dec (by decide)) (by decide) HR21h.out.2 HR21h.out.1).mono ?_
  rintro e wi ⟨rfl, hb⟩
  rw [tag_3]
  have HBi := Hide.mk (below_step HBh.out hb)
  clear hb HBh HR21h
  go_wp2_with (first | ((with_reducible refine gate_dst (N := 40) rfl ?_); go_must (refine event_g rfl (v := .agg (ia .u8 tag5)) (w1 := wi) ?hr ?_; (case hr => kernel_rfl))) | ((with_reducible refine gate_dst (N := 41) rfl ?_); go_must (refine event_g rfl (eqArr25 rfl rfl rfl rfl rfl) ?_; rw [decide_eq_true rfl])))
  go_ret
  exact ⟨rfl, HBi.out⟩
end Go.Proofs.Ytlhhjdhbkhjhjaa.Po
