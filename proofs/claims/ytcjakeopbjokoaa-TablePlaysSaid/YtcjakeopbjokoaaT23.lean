/- The twin's Add, Room, Get. -/
import Derived.Test.YtcjakeopbjokoaaT20
import Derived.Test.YtcjakeopbjokoaaT22
namespace Go.Proofs.Ytcjakeopbjokoaa.Tb
open Go.RowKit Go.Proofs.YtcjakeopbjokoaaW.PrintWords Go.Proofs.YtcjakeopbjokoaaW.PrintLast Go.Proofs.YtcjakeopbjokoaaW.PrintMore Mem
set_option linter.unusedVariables false
set_option linter.unusedSimpArgs false
set_option maxHeartbeats 4000000 in
set_option maxRecDepth 100000 in
theorem radd_any (base g : Nat) (v : Value) (t : TS) (f : F) (w : World) (h : RTab w base g v t) (ho : TOk t) (hg1 : t.gone + t.l.length + 1 ≤ 4611686018427387904) (hf1 : f.1.length ≤ 1125899906842624) (hf2 : f.2.length ≤ 1125899906842624) (hbase : base ≤ w.heap.size) :
    Calls Try.prog 20 #[.pointer (some ⟨g, 0, none⟩), fv f] w fun e w' => e = .returned (.int .i64 (addC t f)) ∧ ∃ v', RTab w' base g v' (addT t f) ∧ Upd g v w w' ∧ (v'.ownBlock = v.ownBlock ∨ v'.ownBlock = none ∨ ∃ b, v'.ownBlock = some b ∧ w.heap.size ≤ b) := by
  have HT := Hide.mk h
  have HO := Hide.mk ho
  have GN : g < w.heap.size := h.lt
  have HVL := Hide.mk (fun k hk => (h.row.lt k hk).2)
  have HB0 := Hide.mk (Below.refl w.heap.size w)
  have HBS := Hide.mk hbase
  have HLOW := Hide.mk h.low
  have e1 : IntKind.i64.wrap ((f.1.length : Int) + (f.2.length : Int)) = (f.1.length : Int) + (f.2.length : Int) := IntWalk.i64_in _ (by omega)
  have e2 : IntKind.i64.wrap ((f.1.length : Int) + (f.2.length : Int) + 32) = (f.1.length : Int) + (f.2.length : Int) + 32 := IntWalk.i64_in _ (by omega)
  clear h ho hbase
  by_cases hc : t.room < (f.1.length : Int) + (f.2.length : Int) + 32
  · have HA : Hide (addT t f = t ∧ addC t f = 6) := ⟨if_pos hc, if_pos hc⟩
    have d1 : decide (t.room < (f.1.length : Int) + (f.2.length : Int) + 32) = true := by simp [hc]
    go_enter Try.func20, Try.ntmps20
    go_wp2_with (first | ((with_reducible refine gate_dst (N := 3) rfl ?_); refine box_event ?hg (N := 3) ?hd (cs := fa [f]) (t := 23) ?hr ?_; (case hd => rfl); (case hg => rfl); (case hr => kernel_rfl); intro g3 hg w1 hbox hb; have BKg3 := Hide.mk hbox; have HB1 := Hide.mk (below_step HB0.out hb); have GEg3 : w.heap.size ≤ g3 := (by rw [hg]; exact HB0.out.size); clear HB0; clear hbox hb hg; have c0 := (blk_cell BKg3.out 0).trans (show (fa [f])[0]? = some (.string ⟨f.1.toArray⟩) from rfl); have c1 := (blk_cell BKg3.out 1).trans (show (fa [f])[1]? = some (.string ⟨f.2.toArray⟩) from rfl); have k0 : w1.cell? ⟨g, 0, none⟩ = some (.int .i64 t.room) := (HT.out.below HB1.out).cells.1))
    go_ret
    exact ⟨by rw [HA.out.2]; rfl, v, by rw [HA.out.1]; exact HT.out.below HB1.out, Upd.of_below HB1.out, .inl rfl⟩
  · have HA2 : Hide (addC t f = 0) := ⟨if_neg hc⟩
    have HA1 : Hide (addT t f = ⟨(fitsT t (fsz f)).room, (fitsT t (fsz f)).size + fsz f, (fitsT t (fsz f)).gone, (fitsT t (fsz f)).l ++ [f]⟩) := ⟨if_neg hc⟩
    have d1 : decide (t.room < (f.1.length : Int) + (f.2.length : Int) + 32) = false := by simp; omega
    have hroom1 := HO.out.room1
    have HSP := Hide.mk (fitsT_spec HO.out (fsz f) (by show (f.1.length : Int) + (f.2.length : Int) + 32 ≤ t.room; omega) (by have := fsz_pos f; omega))
    go_enter Try.func20, Try.ntmps20
    go_wp2_with (first | ((with_reducible refine gate_dst (N := 3) rfl ?_); refine box_event ?hg (N := 3) ?hd (cs := fa [f]) (t := 23) ?hr ?_; (case hd => rfl); (case hg => rfl); (case hr => kernel_rfl); intro g3 hg w1 hbox hb; have BKg3 := Hide.mk hbox; have HB1 := Hide.mk (below_step HB0.out hb); have GEg3 : w.heap.size ≤ g3 := (by rw [hg]; exact HB0.out.size); clear HB0; clear hbox hb hg; have c0 := (blk_cell BKg3.out 0).trans (show (fa [f])[0]? = some (.string ⟨f.1.toArray⟩) from rfl); have c1 := (blk_cell BKg3.out 1).trans (show (fa [f])[1]? = some (.string ⟨f.2.toArray⟩) from rfl); have k0 : w1.cell? ⟨g, 0, none⟩ = some (.int .i64 t.room) := (HT.out.below HB1.out).cells.1))
    have HT1 := Hide.mk (HT.out.below HB1.out)
    have HU1 := Hide.mk (Upd.of_below (g := g) (v := v) HB1.out)
    have NE3 : g3 ≠ g := by omega
    have NV3 : Hide (some g3 ≠ v.ownBlock) := ⟨fun e => by have := HVL.out g3 e.symm; omega⟩
    clear HT
    refine (rless_any base g v t (fsz f) _ HT1.out HO.out (by have := fsz_pos f; omega) (by show (f.1.length : Int) + (f.2.length : Int) + 32 ≤ _; omega) (Nat.le_trans HBS.out HB1.out.size)).mono ?_
    rintro e w6 ⟨rfl, v2, hT6, hU6, hv2⟩
    have BK36 := Hide.mk (Tab.upd_other hU6 BKg3.out NE3 NV3.out)
    have HT6 := Hide.mk hT6
    have HU6 := Hide.mk (HU1.out.trans hU6 (.inl rfl))
    have HV2 : Hide (v2.ownBlock = v.ownBlock ∨ v2.ownBlock = none ∨ ∃ q, v2.ownBlock = some q ∧ w.heap.size ≤ q) := ⟨by
      rcases hv2 with hv2 | hv2 | ⟨q, h1, h2⟩
      · exact .inl hv2
      · exact .inr (.inl hv2)
      · exact .inr (.inr ⟨q, h1, Nat.le_trans HB1.out.size h2⟩)⟩
    have NV36 : Hide (some g3 ≠ v2.ownBlock) := ⟨fun e => by
      rcases hv2 with hv2 | hv2 | ⟨q, h1, h2⟩
      · exact NV3.out (e.trans hv2)
      · rw [hv2] at e; cases e
      · rw [h1] at e; cases e
        have := blk_lt BKg3.out; omega⟩
    clear hT6 hU6 hv2 HT1 HU1 BKg3 HB1 c0 c1 k0 e1 e2 d1
    obtain ⟨hu1, hu2, hu3, kk, hu4, hu5, hu6⟩ := HSP.out
    generalize fitsT t (fsz f) = u at HA1 HT6 hu1 hu2 hu3 hu5 hu6
    have HU1 := Hide.mk hu1
    have HU56 := Hide.mk (And.intro hu5 hu6)
    clear hu1 hu5 hu6 HSP
    obtain ⟨A, c, rfl⟩ := HT6.out.row.slice
    obtain ⟨k0, k1, k2⟩ := HT6.out.cells
    go_wp2_with fail
    refine Plan.region_plan (fun w' => w'.cell? ⟨g, 1, none⟩ = some (.slice A u.l.length c) ∧ w'.heap[g3]? = some (.cells (fa [f]) 23 (0, 0))) [10] [(0, 0, some 23), (1, 0, some 24), (2, 0, some 25), (3, 0, some 26), (4, 0, some 27), (5, 0, some 28), (6, 1, some 29), (7, 1, some 30), (8, 0, some 31), (9, 0, some 32), (10, 2, none)] (by kernel_rfl) (by kernel_rfl) (by decide) ⟨k1, blk_drew BK36.out⟩ (fun wy ewy hS => ?_)
    have HTy := Hide.mk (HT6.out.drew ewy)
    have HUy := Hide.mk (HU6.out.trans (Upd.of_below (g := g) (v := v) (below_of_drew ewy (Below.refl _ _))) (.inl rfl))
    clear ewy HT6 HU6 k0 k1 k2 BK36
    (repeat (first | (refine Plan.plan_take (v := ?_) (a' := ?_) rfl ?_ ?_ ?_ ?_; rotate_left 2; (· rfl); (· (intro w' hs; go_simp; with_reducible rfl)); (· (simp only [Act.put, List.setIfInBounds_toArray, List.set_cons_zero, List.set_cons_succ]; rfl))) | (refine Plan.plan_skip (a' := ?_) rfl ?_ ?_ ?_; rotate_left 1; (· rfl); (· (simp only [Act.put, List.setIfInBounds_toArray, List.set_cons_zero, List.set_cons_succ]; rfl))) | (refine Plan.plan_pure (v := ?_) (a' := ?_) rfl ?_ ?_ ?_ ?_; rotate_left 2; (· rfl); (· (intro w'; go_simp; with_reducible rfl)); (· (simp only [Act.put, List.setIfInBounds_toArray, List.set_cons_zero, List.set_cons_succ]; rfl)))))
    refine Plan.plan_load_row (a' := ?_) rfl rfl 23 (.tmp 3) rfl g3 rfl 23 (fa [f]) (0, 0) _ (fun _ h => h.2) Try.underlying23 rfl (by kernel_rfl) ?_ ?_
    rotate_left
    · simp only [Act.put, List.setIfInBounds_toArray, List.set_cons_zero, List.set_cons_succ]
      rfl
    (repeat (first | (refine Plan.plan_take (v := ?_) (a' := ?_) rfl ?_ ?_ ?_ ?_; rotate_left 2; (· rfl); (· (intro w' hs; go_simp; with_reducible rfl)); (· (simp only [Act.put, List.setIfInBounds_toArray, List.set_cons_zero, List.set_cons_succ]; rfl))) | (refine Plan.plan_skip (a' := ?_) rfl ?_ ?_ ?_; rotate_left 1; (· rfl); (· (simp only [Act.put, List.setIfInBounds_toArray, List.set_cons_zero, List.set_cons_succ]; rfl))) | (refine Plan.plan_pure (v := ?_) (a' := ?_) rfl ?_ ?_ ?_ ?_; rotate_left 2; (· rfl); (· (intro w'; go_simp; with_reducible rfl)); (· (simp only [Act.put, List.setIfInBounds_toArray, List.set_cons_zero, List.set_cons_succ]; rfl)))))
    have hlt7 := HTy.out.lt
    refine Plan.plan_run (v := .slice (some ⟨wy.heap.size, 0, none⟩) 1 1) (w1 := wy.alloc (.cells (fa [f]) 23 (0, 0))) (a' := ?_) rfl rfl rfl (buildStep rfl rfl) ⟨((below_alloc (Below.refl _ _) _).cell (p := ⟨g, 1, none⟩) hlt7).trans hS.1, blk_below hS.2 (below_alloc (Below.refl _ _) _)⟩ ?_ ?_
    rotate_left 1
    · simp only [Act.put, List.setIfInBounds_toArray, List.set_cons_zero, List.set_cons_succ]
      rfl
    have hnew : (wy.alloc (.cells (fa [f]) 23 (0, 0))).heap[wy.heap.size]? = some (.cells (fa [f]) 23 (0, 0)) := heap_alloc_new wy _
    have HT7 := Hide.mk (HTy.out.below (below_alloc (Below.refl _ _) (.cells (fa [f]) 23 (0, 0))))
    have HU7 := Hide.mk (HUy.out.trans (Upd.of_below (g := g) (v := v) (below_alloc (Below.refl _ _) (.cells (fa [f]) 23 (0, 0)))) (.inl rfl))
    have hS2 : (wy.alloc (.cells (fa [f]) 23 (0, 0))).heap[g3]? = some (.cells (fa [f]) 23 (0, 0)) := blk_below hS.2 (below_alloc (Below.refl _ _) _)
    generalize wy.alloc (.cells (fa [f]) 23 (0, 0)) = w7 at hnew HT7 HU7 hS2
    generalize wy.heap.size = b7 at hnew
    clear HTy HUy hS hlt7
    have hll : u.l.length ≤ 4398046511102 := by have h1 := tot_len u.l; have h2 := HU1.out.small; omega
    obtain ⟨v3, w8, hr8, hls8, hgr8, hat8⟩ := ls_append (ty := 31) HT7.out.row f (range_tbl hnew) hll (Nat.le_trans HBS.out HU7.out.size)
    have hne7 := HT7.out.row.ne HT7.out.blk (by decide)
    have HB8 : Hide (w8.heap[g]? = some (.cells (rcells u (.slice A u.l.length c)) 63 (0, 0))) := ⟨(hgr8.block g HT7.out.lt hne7).trans HT7.out.blk⟩
    have HL8 := Hide.mk hls8
    have HU8 := Hide.mk (HU7.out.trans (Upd.of_grown (g := g) hgr8) HV2.out)
    have HAT : Hide (v3.ownBlock = v.ownBlock ∨ v3.ownBlock = none ∨ ∃ b, v3.ownBlock = some b ∧ w.heap.size ≤ b) := ⟨by
      rcases hat8 with hat8 | ⟨b, hb, hb2⟩
      · rw [hat8]; exact HV2.out
      · exact .inr (.inr ⟨b, hb, Nat.le_trans HU7.out.size hb2⟩)⟩
    have BK38 := Hide.mk ((hgr8.block g3 (blk_lt hS2) NV36.out).trans hS2)
    refine Plan.plan_run (v := v3) (w1 := w8) (a' := ?_) rfl rfl rfl (appendStep rfl rfl rfl hr8) ⟨(blk_cell HB8.out 1).trans rfl, BK38.out⟩ ?_ ?_
    rotate_left 1
    · simp only [Act.put, List.setIfInBounds_toArray, List.set_cons_zero, List.set_cons_succ]
      rfl
    have HV3 : Hide (v3.cells = #[v3] ∧ v3.oneCell' = true) := ⟨by obtain ⟨A3, c3, rfl⟩ := HL8.out.slice; exact ⟨rfl, rfl⟩⟩
    clear hr8 hls8 hgr8 hat8 hne7 HT7 HU7 hnew hS2
    (repeat (first | (refine Plan.plan_take (v := ?_) (a' := ?_) rfl ?_ ?_ ?_ ?_; rotate_left 2; (· rfl); (· (intro w' hs; go_simp; with_reducible rfl)); (· (simp only [Act.put, List.setIfInBounds_toArray, List.set_cons_zero, List.set_cons_succ]; rfl))) | (refine Plan.plan_skip (a' := ?_) rfl ?_ ?_ ?_; rotate_left 1; (· rfl); (· (simp only [Act.put, List.setIfInBounds_toArray, List.set_cons_zero, List.set_cons_succ]; rfl))) | (refine Plan.plan_pure (v := ?_) (a' := ?_) rfl ?_ ?_ ?_ ?_; rotate_left 2; (· rfl); (· (intro w'; go_simp; with_reducible rfl)); (· (simp only [Act.put, List.setIfInBounds_toArray, List.set_cons_zero, List.set_cons_succ]; rfl)))))
    refine Plan.plan_last_cell rfl rfl rfl 31 (.tmp 32) (.tmp 30) rfl g 1 rfl v3 rfl HV3.out.1 HV3.out.2 (by kernel_rfl) _ _ HB8.out (by show 1 < 3; decide) ?_
    intro w9 hb9 ho9
    have HT9 : Hide (RTab w9 base g v3 ⟨u.room, u.size + fsz f, u.gone, u.l ++ [f]⟩) := ⟨⟨HLOW.out, hb9, HL8.out.kept fun k hk => ho9.other k (fun e => HL8.out.ne HB8.out (by decide) (by rw [← e]; exact hk.symm))⟩⟩
    have HU9 := Hide.mk (HU8.out.trans (Upd.of_only (v := v) ho9 (blk_lt HB8.out)) (.inl rfl))
    clear hb9 ho9 HB8 HL8 HU8 BK38
    refine Plan.plan_nil ?_
    go_wp2_with fail
    go_ret
    exact ⟨by rw [HA2.out]; rfl, v3, by rw [HA1.out]; exact HT9.out, HU9.out, HAT.out⟩
set_option maxHeartbeats 2000000 in
set_option maxRecDepth 100000 in
theorem rroom_any (base g : Nat) (v : Value) (t : TS) (n : Int) (w : World) (h : RTab w base g v t) (ho : TOk t) (hbase : base ≤ w.heap.size) :
    Calls Try.prog 21 #[.pointer (some ⟨g, 0, none⟩), .int .i64 n] w fun e w' => e = .returned (.int .i64 (roomC n)) ∧ ∃ v', RTab w' base g v' (roomT t n) ∧ Upd g v w w' ∧ (v'.ownBlock = v.ownBlock ∨ v'.ownBlock = none ∨ ∃ b, v'.ownBlock = some b ∧ w.heap.size ≤ b) := by
  have HT := Hide.mk h
  have HO := Hide.mk ho
  have HBS := Hide.mk hbase
  clear h ho hbase
  by_cases h0 : n < 0
  · have HA : Hide (roomT t n = t ∧ roomC n = 1) := ⟨if_pos (.inl h0), if_pos (.inl h0)⟩
    have d1 : decide (n < 0) = true := by simp [h0]
    go_enter Try.func21, Try.ntmps21
    go_wp2_with fail
    go_ret
    exact ⟨by rw [HA.out.2]; rfl, v, by rw [HA.out.1]; exact HT.out, Upd.refl _ _ _, .inl rfl⟩
  · have d1 : decide (n < 0) = false := by simp; omega
    by_cases h1 : 4096 < n
    · have HA : Hide (roomT t n = t ∧ roomC n = 1) := ⟨if_pos (.inr h1), if_pos (.inr h1)⟩
      have d2 : decide (4096 < n) = true := by simp [h1]
      go_enter Try.func21, Try.ntmps21
      go_wp2_with fail
      go_ret
      exact ⟨by rw [HA.out.2]; rfl, v, by rw [HA.out.1]; exact HT.out, Upd.refl _ _ _, .inl rfl⟩
    · have HA : Hide (roomT t n = fitsT ⟨n, t.size, t.gone, t.l⟩ 0 ∧ roomC n = 0) := ⟨if_neg (by omega), if_neg (by omega)⟩
      have d2 : decide (4096 < n) = false := by simp; omega
      have HO2 : Hide (TOk ⟨n, t.size, t.gone, t.l⟩) := ⟨⟨HO.out.size, HO.out.small, by show 0 ≤ n; omega, by show n ≤ 4096; omega, HO.out.gone0, HO.out.gone1⟩⟩
      go_enter Try.func21, Try.ntmps21
      go_wp2_with (first | ((with_reducible refine gate_store (p := 14) (v := .tmp 12) rfl ?_); go_must (refine store_cell rfl rfl 3 (.tmp 14) (.tmp 12) rfl g 0 rfl (.int .i64 n) rfl rfl rfl (by kernel_rfl) _ _ HT.out.blk (by show 0 < 3; decide) ?_); intro w5 hb5 ho5; have HT5 := Hide.mk (HT.out.set_ (t1 := ⟨n, t.size, t.gone, t.l⟩) hb5 ho5 rfl); have HU5 := Hide.mk (Upd.of_only (v := v) ho5 HT.out.lt); clear hb5 ho5 HT))
      refine (rless_any base g v ⟨n, t.size, t.gone, t.l⟩ 0 _ HT5.out HO2.out (by decide) (by decide) (Nat.le_trans HBS.out HU5.out.size)).mono ?_
      rintro e w6 ⟨rfl, v2, hT6, hU6, hv2⟩
      have HT6 := Hide.mk hT6
      have HU6 := Hide.mk (HU5.out.trans hU6 (.inl rfl))
      have HV : Hide (v2.ownBlock = v.ownBlock ∨ v2.ownBlock = none ∨ ∃ q, v2.ownBlock = some q ∧ w.heap.size ≤ q) := ⟨by
        rcases hv2 with hv2 | hv2 | ⟨q, h1, h2⟩
        · exact .inl hv2
        · exact .inr (.inl hv2)
        · exact .inr (.inr ⟨q, h1, Nat.le_trans HU5.out.size h2⟩)⟩
      clear hT6 hU6 hv2 HT5 HU5
      go_wp2_with fail
      go_ret
      exact ⟨by rw [HA.out.2]; rfl, v2, by rw [HA.out.1]; exact HT6.out, HU6.out, HV.out⟩
set_option maxHeartbeats 2000000 in
set_option maxRecDepth 100000 in
theorem rget_any (base g : Nat) (v : Value) (t : TS) (n : Int) (w : World) (h : RTab w base g v t) (hg : 0 ≤ t.gone ∧ t.gone + t.l.length ≤ 4611686018427387904) (hn : 0 ≤ n) (hn1 : n ≤ 18446744073709551615) :
    Calls Try.prog 22 #[.pointer (some ⟨g, 0, none⟩), .int .u64 n] w fun e w' => e = .returned (GetV t n) ∧ Below w.heap.size w w' := by
  have HT := Hide.mk h
  have HB0 := Hide.mk (Below.refl w.heap.size w)
  clear h
  by_cases hlo : n < t.gone
  · have HF : Hide (¬ (t.gone ≤ n ∧ n < t.gone + t.l.length)) := ⟨by omega⟩
    have d1 : decide (n < t.gone) = true := by simp [hlo]
    go_enter Try.func22, Try.ntmps22
    go_wp2_with (first | ((with_reducible refine gate_dst (N := 4) rfl ?_); refine box_event ?hg (N := 4) ?hd (cs := fa [([], [])]) (t := 23) ?hr ?_; (case hd => rfl); (case hg => rfl); (case hr => kernel_rfl); intro g4 hg w1 hbox hb; have BKg4 := Hide.mk hbox; have HB2 := Hide.mk (below_step HB0.out hb); have GEg4 : w.heap.size ≤ g4 := (by rw [hg]; exact HB0.out.size); clear HB0; clear hbox hb hg; have BK4 := BKg4; have HT2 := Hide.mk (HT.out.below HB2.out); have k2 : w1.cell? ⟨g, 2, none⟩ = some (.int .u64 t.gone) := HT2.out.cells.2.2; clear BKg4) | ((with_reducible refine gate_dst (N := 18) rfl ?_); refine Kd.event_run rfl (v := fv ([], [])) ?hr ?_; (case hr => kernel_rfl)) | ((with_reducible refine gate_store (p := 4) (v := .tmp 18) rfl ?_); go_must (refine store_row rfl rfl 23 (.tmp 4) (.tmp 18) rfl g4 rfl (fa [([], [])]) rfl (fa_one _) (by rw [fa_size]; kernel_rfl) _ _ BK4.out rfl ?_); intro w9 hb9 ho9; have BK9 := Hide.mk hb9; have HO9 := Hide.mk ho9; clear hb9 ho9))
    refine bodyPost_ret (results_ct rfl _ _ g4 23 _ (0, 0) _ rfl BK9.out Try.underlying23 rfl (by rw [fa_size]; kernel_rfl)) rfl ?_
    exact ⟨by rw [GetV, if_neg HF.out]; rfl, HO9.out.below HB2.out GEg4⟩
  · have d1 : decide (n < t.gone) = false := by simp [hlo]
    go_enter Try.func22, Try.ntmps22
    go_wp2_with (first | ((with_reducible refine gate_dst (N := 4) rfl ?_); refine box_event ?hg (N := 4) ?hd (cs := fa [([], [])]) (t := 23) ?hr ?_; (case hd => rfl); (case hg => rfl); (case hr => kernel_rfl); intro g4 hg w1 hbox hb; have BKg4 := Hide.mk hbox; have HB2 := Hide.mk (below_step HB0.out hb); have GEg4 : w.heap.size ≤ g4 := (by rw [hg]; exact HB0.out.size); clear HB0; clear hbox hb hg; have BK4 := BKg4; have HT2 := Hide.mk (HT.out.below HB2.out); have k2 : w1.cell? ⟨g, 2, none⟩ = some (.int .u64 t.gone) := HT2.out.cells.2.2; clear BKg4))
    refine (rcame_any base g v t _ HT2.out hg).mono ?_
    rintro e w3 ⟨rfl, hb3⟩
    have HB3 := Hide.mk (below_step HB2.out hb3)
    have BK4' := Hide.mk (blk_below BK4.out hb3)
    have HT3 := Hide.mk (HT2.out.below hb3)
    clear hb3 HB2 HT2 BK4 k2
    have BK4 := BK4'
    clear BK4'
    by_cases hhi : t.gone + (t.l.length : Int) ≤ n
    · have HF : Hide (¬ (t.gone ≤ n ∧ n < t.gone + t.l.length)) := ⟨by omega⟩
      have d2 : decide (t.gone + (t.l.length : Int) ≤ n) = true := by simp [hhi]
      go_wp2_with (first | ((with_reducible refine gate_dst (N := 18) rfl ?_); refine Kd.event_run rfl (v := fv ([], [])) ?hr ?_; (case hr => kernel_rfl)) | ((with_reducible refine gate_store (p := 4) (v := .tmp 18) rfl ?_); go_must (refine store_row rfl rfl 23 (.tmp 4) (.tmp 18) rfl g4 rfl (fa [([], [])]) rfl (fa_one _) (by rw [fa_size]; kernel_rfl) _ _ BK4.out rfl ?_); intro w9 hb9 ho9; have BK9 := Hide.mk hb9; have HO9 := Hide.mk ho9; clear hb9 ho9))
      refine bodyPost_ret (results_ct rfl _ _ g4 23 _ (0, 0) _ rfl BK9.out Try.underlying23 rfl (by rw [fa_size]; kernel_rfl)) rfl ?_
      exact ⟨by rw [GetV, if_neg HF.out]; rfl, HO9.out.below HB3.out GEg4⟩
    · have HF : Hide (t.gone ≤ n ∧ n < t.gone + t.l.length) := ⟨by omega⟩
      have d2 : decide (t.gone + (t.l.length : Int) ≤ n) = false := by simp; omega
      obtain ⟨m, hm⟩ : ∃ m : Nat, m = (n - t.gone).toNat := ⟨_, rfl⟩
      have hml : m < t.l.length := by omega
      have hmi : n - t.gone = (m : Int) := by omega
      have e1 : IntKind.u64.wrap (n - t.gone) = (m : Int) := by rw [IntKind.wrap_u64]; omega
      have e1' : IntKind.u64.wrap (m : Int) = (m : Int) := by rw [IntKind.wrap_u64]; omega
      have hm0 : (0 : Int) ≤ (m : Int) := Int.natCast_nonneg _
      have hm1 : (m : Int) < (t.l.length : Int) := by omega
      obtain ⟨k0, k1, k2⟩ := HT3.out.cells
      obtain ⟨b, o, c, cur, hv, hbb, hbk, hra⟩ := HT3.out.row.range (by omega)
      rw [hv] at k1
      have hx := range_one hra m hml
      have HM := Hide.mk hm
      obtain ⟨x, hxx⟩ : ∃ x, x = t.l.getD m ([], []) := ⟨_, rfl⟩
      rw [← hxx] at hx
      have HXX := Hide.mk hxx
      clear hxx hm hra hbk k0
      go_wp2_with fail
      refine Plan.region_plan (fun w' => w'.cell? ⟨g, 2, none⟩ = some (.int .u64 t.gone) ∧ w'.cell? ⟨g, 1, none⟩ = some (.slice (some ⟨b, o, none⟩) t.l.length c) ∧ w'.rangeAt b (o + m * 2) [sv x.1, sv x.2]) [12, 13] [(0, 0, some 19), (1, 0, some 20), (2, 0, some 21), (3, 0, some 22), (4, 0, some 23), (5, 0, some 24), (6, 0, some 25), (7, 0, some 26), (8, 0, some 27), (9, 0, some 28), (10, 0, some 29), (11, 0, some 30), (12, 2, none), (13, 2, some 5)] (by kernel_rfl) (by kernel_rfl) (by decide) ⟨k2, k1, hx⟩ (fun wz ewz hS => ?_)
      have HBz := Hide.mk (below_of_drew ewz HB3.out)
      have BK4z := Hide.mk (blk_of_drew ewz BK4.out)
      clear ewz HB3 BK4 k1 k2 hx
      (repeat (first | (refine Plan.plan_take (v := ?_) (a' := ?_) rfl ?_ ?_ ?_ ?_; rotate_left 2; (· rfl); (· (intro w' hs; go_simp; with_reducible rfl)); (· (simp only [Act.put, List.setIfInBounds_toArray, List.set_cons_zero, List.set_cons_succ]; rfl))) | (refine Plan.plan_skip (a' := ?_) rfl ?_ ?_ ?_; rotate_left 1; (· rfl); (· (simp only [Act.put, List.setIfInBounds_toArray, List.set_cons_zero, List.set_cons_succ]; rfl))) | (refine Plan.plan_pure (v := ?_) (a' := ?_) rfl ?_ ?_ ?_ ?_; rotate_left 2; (· rfl); (· (intro w'; go_simp; with_reducible rfl)); (· (simp only [Act.put, List.setIfInBounds_toArray, List.set_cons_zero, List.set_cons_succ]; rfl)))))
      refine Plan.plan_load_mid (a' := ?_) rfl rfl 23 (.tmp 29) rfl b (o + m * 2) rfl [sv (x).1, sv (x).2] _ (fun _ h => h.2.2) Try.underlying23 rfl (by kernel_rfl) ?_ ?_
      rotate_left
      · simp only [Act.put, List.setIfInBounds_toArray, List.set_cons_zero, List.set_cons_succ]
        rfl
      (repeat (first | (refine Plan.plan_take (v := ?_) (a' := ?_) rfl ?_ ?_ ?_ ?_; rotate_left 2; (· rfl); (· (intro w' hs; go_simp; with_reducible rfl)); (· (simp only [Act.put, List.setIfInBounds_toArray, List.set_cons_zero, List.set_cons_succ]; rfl))) | (refine Plan.plan_skip (a' := ?_) rfl ?_ ?_ ?_; rotate_left 1; (· rfl); (· (simp only [Act.put, List.setIfInBounds_toArray, List.set_cons_zero, List.set_cons_succ]; rfl))) | (refine Plan.plan_pure (v := ?_) (a' := ?_) rfl ?_ ?_ ?_ ?_; rotate_left 2; (· rfl); (· (intro w'; go_simp; with_reducible rfl)); (· (simp only [Act.put, List.setIfInBounds_toArray, List.set_cons_zero, List.set_cons_succ]; rfl)))))
      refine Plan.plan_last_row rfl rfl rfl 23 (.tmp 4) (.tmp 30) rfl g4 rfl (fa [x]) rfl (fa_one _) (by rw [fa_size]; kernel_rfl) _ _ BK4z.out rfl ?_
      intro w9 hb9 ho9
      have BK9 := Hide.mk hb9
      have HO9 := Hide.mk ho9
      clear hb9 ho9
      (repeat (first | (refine Plan.plan_take (v := ?_) (a' := ?_) rfl ?_ ?_ ?_ ?_; rotate_left 2; (· rfl); (· (intro w' hs; go_simp; with_reducible rfl)); (· (simp only [Act.put, List.setIfInBounds_toArray, List.set_cons_zero, List.set_cons_succ]; rfl))) | (refine Plan.plan_skip (a' := ?_) rfl ?_ ?_ ?_; rotate_left 1; (· rfl); (· (simp only [Act.put, List.setIfInBounds_toArray, List.set_cons_zero, List.set_cons_succ]; rfl))) | (refine Plan.plan_pure (v := ?_) (a' := ?_) rfl ?_ ?_ ?_ ?_; rotate_left 2; (· rfl); (· (intro w'; go_simp; with_reducible rfl)); (· (simp only [Act.put, List.setIfInBounds_toArray, List.set_cons_zero, List.set_cons_succ]; rfl)))))
      (refine Plan.plan_last_run (v := ?_) (w1 := ?_) (a' := ?_) rfl rfl ?_ ?_ ?_ ?_; rotate_left 3; (· rfl); (· (go_simp; first | (with_reducible rfl) | (constructor <;> with_reducible rfl))); (· (simp only [Act.put, List.setIfInBounds_toArray, List.set_cons_zero, List.set_cons_succ]; rfl)))
      refine Plan.plan_nil ?_
      go_wp2_with fail
      refine bodyPost_ret (results_ct rfl _ _ g4 23 _ (0, 0) _ rfl BK9.out Try.underlying23 rfl (by rw [fa_size]; kernel_rfl)) rfl ?_
      exact ⟨by rw [GetV, if_pos HF.out, ← HM.out, ← HXX.out]; rfl, HO9.out.below HBz.out GEg4⟩
end Go.Proofs.Ytcjakeopbjokoaa.Tb
