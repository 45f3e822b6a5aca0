/- Add. -/
import Derived.Test.YtcjakeopbjokoaaT8
namespace Go.Proofs.Ytcjakeopbjokoaa.Tb
open Go.RowKit Go.Proofs.YtcjakeopbjokoaaW.PrintWords Go.Proofs.YtcjakeopbjokoaaW.PrintLast Go.Proofs.YtcjakeopbjokoaaW.PrintMore Mem
set_option linter.unusedVariables false
set_option linter.unusedSimpArgs false
theorem Tab.upd_other {w w' : World} {g g3 : Nat} {v : Value} {o : Obj} (hU : Upd g v w w') (h : w.heap[g3]? = some o) (hg : g3 ≠ g) (hv : some g3 ≠ v.ownBlock) : w'.heap[g3]? = some o := (hU.block g3 (blk_lt h) hg hv).trans h
theorem appendStep {o : Oper} {a : Act} {s x : Operand} {v u v' : Value} {w w' : World} (ho : o.op = .call { callee := .builtin .append, args := #[s, x], argTypes := #[31, 31] }) (hs : a.eval s = v) (hx : a.eval x = u) (hr : (Builtin.append_ #[31, 31] o.type #[v, u]).run Try.prog w = .ok v' w') : (execOp a.eval o).run Try.prog w = .ok (.value v') w' := by
  unfold execOp
  simp only [ho, resolve, invoke, builtin, Sem.run_bind, Sem.run_pure, Result.andThen_ok, List.map_toArray, List.map_cons, List.map_nil, hs, hx, hr]
theorem buildStep {o : Oper} {a : Act} {x : Operand} {f : F} {w : World} (ho : o.op = .buildSlice 31 1 #[(0, x)]) (hx : a.eval x = .agg (fa [f])) :
    (execOp a.eval o).run Try.prog w = .ok (.value (.slice (some ⟨w.heap.size, 0, none⟩) 1 1)) (w.alloc (.cells (fa [f]) 23 (0, 0))) := by
  unfold execOp
  simp only [ho, List.map_toArray, List.map_cons, List.map_nil, hx]
  kernel_rfl
set_option maxHeartbeats 2000000 in
set_option maxRecDepth 100000 in
theorem add_any (base g : Nat) (v : Value) (t : TS) (f : F) (w : World) (h : Tab w base g v t) (ho : TOk t) (hg1 : t.gone + t.l.length + 1 ≤ 4611686018427387904) (hf1 : f.1.length ≤ 1125899906842624) (hf2 : f.2.length ≤ 1125899906842624) (hbase : base ≤ w.heap.size) :
    Calls Try.prog 13 #[.pointer (some ⟨g, 0, none⟩), fv f] w fun e w' => e = .returned (.int .i64 (addC t f)) ∧ ∃ v', Tab w' base g v' (addT t f) ∧ Upd g v w w' ∧ (v'.ownBlock = v.ownBlock ∨ ∃ b, v'.ownBlock = some b ∧ w.heap.size ≤ b) := by
  have HT := Hide.mk h
  have HO := Hide.mk ho
  have GN : g < w.heap.size := h.lt
  have HLOW := Hide.mk h.low
  have HVL := Hide.mk (fun k hk => (h.row.lt k hk).2)
  clear h ho
  go_enter Try.func13, Try.ntmps13
  go_wp2_with (first | ((with_reducible refine gate_dst (N := 3) rfl ?_); refine box_event ?hg (N := 3) ?hd (cs := fa [f]) (t := 23) ?hr ?_; (case hd => rfl); (case hg => rfl); (case hr => kernel_rfl); intro g3 hg w1 hbox hb; have BKg3 := Hide.mk hbox; have HB1 := Hide.mk hb; have GEg3 : w.heap.size ≤ g3 := (by rw [hg]; exact Nat.le_refl _); clear hbox hb hg))
  have HT1 := Hide.mk (HT.out.below HB1.out)
  have HU1 := Hide.mk (Upd.of_below (g := g) (v := v) HB1.out)
  have NE3 : g3 ≠ g := by omega
  have NV3 : Hide (some g3 ≠ v.ownBlock) := ⟨fun e => by have := HVL.out g3 e.symm; omega⟩
  clear HT
  refine (there_yes base g v t _ HT1.out).mono ?_
  rintro e w2 ⟨rfl, hb2⟩
  have HT2 := Hide.mk (HT1.out.below hb2)
  have HU2 := Hide.mk (HU1.out.trans (Upd.of_below (g := g) (v := v) hb2) (.inl rfl))
  have BK3 := Hide.mk (blk_below BKg3.out hb2)
  clear hb2 HT1 HU1 HB1 BKg3
  obtain ⟨k1, k2, k3, k4⟩ := HT2.out.cells
  go_wp2_with fail
  refine Plan.region_plan (fun w' => w'.cell? ⟨g, 1, none⟩ = some (.int .i64 t.room) ∧ w'.heap[g3]? = some (.cells (fa [f]) 23 (0, 0))) [] [(0, 0, some 10), (2, 0, some 12), (3, 0, some 13), (4, 0, some 14), (5, 0, some 15), (1, 1, some 11), (6, 0, some 16), (7, 0, some 9)] (by kernel_rfl) (by kernel_rfl) (by decide) ⟨k1, blk_drew BK3.out⟩ (fun wy ewy hS => ?_)
  have HTy := Hide.mk (HT2.out.drew ewy)
  have HUy := Hide.mk (HU2.out.trans (Upd.of_below (g := g) (v := v) (below_of_drew ewy (Below.refl _ _))) (.inl rfl))
  clear ewy HT2 HU2 k1 k2 k3 k4 BK3
  refine Plan.plan_load_row (a' := ?_) rfl rfl 23 (.tmp 3) rfl g3 rfl 23 (fa [f]) (0, 0) _ (fun _ h => h.2) Try.underlying23 rfl (by kernel_rfl) ?_ ?_
  rotate_left
  · simp only [Act.put, List.setIfInBounds_toArray, List.set_cons_zero, List.set_cons_succ]
    rfl
  (repeat (first | (refine Plan.plan_take (v := ?_) (a' := ?_) rfl ?_ ?_ ?_ ?_; rotate_left 2; (· rfl); (· (intro w' hs; go_simp; with_reducible rfl)); (· (simp only [Act.put, List.setIfInBounds_toArray, List.set_cons_zero, List.set_cons_succ]; rfl))) | (refine Plan.plan_skip (a' := ?_) rfl ?_ ?_ ?_; rotate_left 1; (· rfl); (· (simp only [Act.put, List.setIfInBounds_toArray, List.set_cons_zero, List.set_cons_succ]; rfl))) | (refine Plan.plan_pure (v := ?_) (a' := ?_) rfl ?_ ?_ ?_ ?_; rotate_left 2; (· rfl); (· (intro w'; go_simp; with_reducible rfl)); (· (simp only [Act.put, List.setIfInBounds_toArray, List.set_cons_zero, List.set_cons_succ]; rfl)))))
  refine Plan.plan_call rfl Try.func32 (by kernel_rfl) rfl #[fv f] rfl rfl rfl (by (try simp only [List.map_toArray, List.map_cons, List.map_nil]); rfl) ?_
  refine (size32 f _ hf1 hf2).mono ?_
  rintro e w4 ⟨rfl, hbw4⟩
  have HTw4 := Hide.mk (HTy.out.below hbw4)
  have HUw4 := Hide.mk (HUy.out.trans (Upd.of_below (g := g) (v := v) hbw4) (.inl rfl))
  have hS2 : w4.cell? ⟨g, 1, none⟩ = some (.int .i64 t.room) ∧ w4.heap[g3]? = some (.cells (fa [f]) 23 (0, 0)) := ⟨(hbw4.cell (p := ⟨g, 1, none⟩) HTy.out.lt).trans hS.1, blk_below hS.2 hbw4⟩
  refine ⟨_, rfl, hS2, ?_⟩
  clear HTy HUy hS
  intro a' ha
  simp only [Act.put, List.setIfInBounds_toArray, List.set_cons_zero, List.set_cons_succ] at ha
  subst ha
  (repeat (first | (refine Plan.plan_take (v := ?_) (a' := ?_) rfl ?_ ?_ ?_ ?_; rotate_left 2; (· rfl); (· (intro w' hs; go_simp; with_reducible rfl)); (· (simp only [Act.put, List.setIfInBounds_toArray, List.set_cons_zero, List.set_cons_succ]; rfl))) | (refine Plan.plan_skip (a' := ?_) rfl ?_ ?_ ?_; rotate_left 1; (· rfl); (· (simp only [Act.put, List.setIfInBounds_toArray, List.set_cons_zero, List.set_cons_succ]; rfl))) | (refine Plan.plan_pure (v := ?_) (a' := ?_) rfl ?_ ?_ ?_ ?_; rotate_left 2; (· rfl); (· (intro w'; go_simp; with_reducible rfl)); (· (simp only [Act.put, List.setIfInBounds_toArray, List.set_cons_zero, List.set_cons_succ]; rfl)))))
  refine Plan.plan_nil ?_
  have BK3 := Hide.mk hS2.2
  clear hS2 hbw4
  by_cases hc : t.room < fsz f
  · have HA : Hide (addT t f = t ∧ addC t f = 6) := ⟨if_pos hc, if_pos hc⟩
    have d1 : decide (t.room < fsz f) = true := by simp [hc]
    go_wp2_with fail
    go_ret
    exact ⟨by rw [HA.out.2]; rfl, v, by rw [HA.out.1]; exact HTw4.out, HUw4.out, .inl rfl⟩
  · have HA2 : Hide (addC t f = 0) := ⟨if_neg hc⟩
    have HA1 : Hide (addT t f = ⟨(fitsT t (fsz f)).room, (fitsT t (fsz f)).size + fsz f, (fitsT t (fsz f)).gone, (fitsT t (fsz f)).l ++ [f]⟩) := ⟨if_neg hc⟩
    have d1 : decide (t.room < fsz f) = false := by simp [hc]
    have hroom1 := HO.out.room1
    have hfp := fsz_pos f
    have hsp := fitsT_spec HO.out (fsz f) (by omega) (by omega)
    have HSP := Hide.mk hsp
    clear hsp
    go_wp2_with (first | ((with_reducible refine gate_dst (N := 18) rfl ?_); refine wpList_load_row rfl 23 (.tmp 3) rfl g3 rfl 23 _ (0, 0) _ BK3.out Try.underlying23 rfl ?hsz ?_; (case hsz => kernel_rfl)))
    refine (size32 f _ hf1 hf2).mono ?_
    rintro e w5 ⟨rfl, hb5⟩
    have HT5 := Hide.mk (HTw4.out.below hb5)
    have HU5 := Hide.mk (HUw4.out.trans (Upd.of_below (g := g) (v := v) hb5) (.inl rfl))
    have BK35 := Hide.mk (blk_below BK3.out hb5)
    clear hb5 HTw4 HUw4 BK3
    go_wp2_with fail
    refine (fits_any base g v t (fsz f) _ HT5.out HO.out (by omega) (by omega)).mono ?_
    rintro e w6 ⟨rfl, v2, hT6, hU6, hv2⟩
    have BK36 := Hide.mk (Tab.upd_other hU6 BK35.out NE3 NV3.out)
    have HT6 := Hide.mk hT6
    have HU6 := Hide.mk (HU5.out.trans hU6 (.inl rfl))
    have HV2 := Hide.mk hv2
    clear hT6 hU6 hv2 HT5 HU5 BK35
    obtain ⟨hu1, hu2, hu3, kk, hu4, hu5, hu6⟩ := HSP.out
    generalize fitsT t (fsz f) = u at HA1 HT6 hu1 hu2 hu3 hu5 hu6
    have HU1 := Hide.mk hu1
    have HU56 := Hide.mk (And.intro hu5 hu6)
    clear hu1 hu5 hu6 HSP
    obtain ⟨A, c, rfl⟩ := HT6.out.row.slice
    obtain ⟨k1, k2, k3, k4⟩ := HT6.out.cells
    go_wp2_with fail
    refine Plan.region_plan (fun w' => w'.cell? ⟨g, 4, none⟩ = some (.slice A u.l.length c) ∧ w'.heap[g3]? = some (.cells (fa [f]) 23 (0, 0))) [10] [(0, 0, some 21), (1, 0, some 22), (2, 0, some 23), (3, 0, some 24), (4, 0, some 25), (5, 0, some 26), (6, 1, some 27), (7, 1, some 28), (8, 0, some 29), (9, 0, some 30), (10, 2, none)] (by kernel_rfl) (by kernel_rfl) (by decide) ⟨k4, blk_drew BK36.out⟩ (fun wy ewy hS => ?_)
    have HTy := Hide.mk (HT6.out.drew ewy)
    have HUy := Hide.mk (HU6.out.trans (Upd.of_below (g := g) (v := v) (below_of_drew ewy (Below.refl _ _))) (.inl rfl))
    clear ewy HT6 HU6 k1 k2 k3 k4 BK36
    (repeat (first | (refine Plan.plan_take (v := ?_) (a' := ?_) rfl ?_ ?_ ?_ ?_; rotate_left 2; (· rfl); (· (intro w' hs; go_simp; with_reducible rfl)); (· (simp only [Act.put, List.setIfInBounds_toArray, List.set_cons_zero, List.set_cons_succ]; rfl))) | (refine Plan.plan_skip (a' := ?_) rfl ?_ ?_ ?_; rotate_left 1; (· rfl); (· (simp only [Act.put, List.setIfInBounds_toArray, List.set_cons_zero, List.set_cons_succ]; rfl))) | (refine Plan.plan_pure (v := ?_) (a' := ?_) rfl ?_ ?_ ?_ ?_; rotate_left 2; (· rfl); (· (intro w'; go_simp; with_reducible rfl)); (· (simp only [Act.put, List.setIfInBounds_toArray, List.set_cons_zero, List.set_cons_succ]; rfl)))))
    refine Plan.plan_load_row (a' := ?_) rfl rfl 23 (.tmp 3) rfl g3 rfl 23 (fa [f]) (0, 0) _ (fun _ h => h.2) Try.underlying23 rfl (by kernel_rfl) ?_ ?_
    rotate_left
    · simp only [Act.put, List.setIfInBounds_toArray, List.set_cons_zero, List.set_cons_succ]
      rfl
    (repeat (first | (refine Plan.plan_take (v := ?_) (a' := ?_) rfl ?_ ?_ ?_ ?_; rotate_left 2; (· rfl); (· (intro w' hs; go_simp; with_reducible rfl)); (· (simp only [Act.put, List.setIfInBounds_toArray, List.set_cons_zero, List.set_cons_succ]; rfl))) | (refine Plan.plan_skip (a' := ?_) rfl ?_ ?_ ?_; rotate_left 1; (· rfl); (· (simp only [Act.put, List.setIfInBounds_toArray, List.set_cons_zero, List.set_cons_succ]; rfl))) | (refine Plan.plan_pure (v := ?_) (a' := ?_) rfl ?_ ?_ ?_ ?_; rotate_left 2; (· rfl); (· (intro w'; go_simp; with_reducible rfl)); (· (simp only [Act.put, List.setIfInBounds_toArray, List.set_cons_zero, List.set_cons_succ]; rfl)))))
    have hlt7 := HTy.out.lt
    refine Plan.plan_run (v := .slice (some ⟨wy.heap.size, 0, none⟩) 1 1) (w1 := wy.alloc (.cells (fa [f]) 23 (0, 0))) (a' := ?_) rfl rfl rfl (buildStep rfl rfl) ⟨((below_alloc (Below.refl _ _) _).cell (p := ⟨g, 4, none⟩) hlt7).trans hS.1, blk_below hS.2 (below_alloc (Below.refl _ _) _)⟩ ?_ ?_
    rotate_left 1
    · simp only [Act.put, List.setIfInBounds_toArray, List.set_cons_zero, List.set_cons_succ]
      rfl
    have hnew : (wy.alloc (.cells (fa [f]) 23 (0, 0))).heap[wy.heap.size]? = some (.cells (fa [f]) 23 (0, 0)) := heap_alloc_new wy _
    have HT7 := Hide.mk (HTy.out.below (below_alloc (Below.refl _ _) (.cells (fa [f]) 23 (0, 0))))
    have HU7 := Hide.mk (HUy.out.trans (Upd.of_below (g := g) (v := v) (below_alloc (Below.refl _ _) (.cells (fa [f]) 23 (0, 0)))) (.inl rfl))
    have hS2 : (wy.alloc (.cells (fa [f]) 23 (0, 0))).heap[g3]? = some (.cells (fa [f]) 23 (0, 0)) := blk_below hS.2 (below_alloc (Below.refl _ _) _)
    generalize wy.alloc (.cells (fa [f]) 23 (0, 0)) = w7 at hnew HT7 HU7 hS2
    generalize wy.heap.size = b7 at hnew
    clear HTy HUy hS hlt7
    have hll : u.l.length ≤ 4398046511102 := by have h1 := tot_len u.l; have h2 := HU1.out.small; omega
    obtain ⟨v3, w8, hr8, hls8, hgr8, hat8⟩ := ls_append (ty := 31) HT7.out.row f (range_tbl hnew) hll (Nat.le_trans hbase HU7.out.size)
    have hne7 := HT7.out.row.ne HT7.out.blk (by decide)
    have HB8 : Hide (w8.heap[g]? = some (.cells (tcells u (.slice A u.l.length c)) 59 (0, 0))) := ⟨(hgr8.block g HT7.out.lt hne7).trans HT7.out.blk⟩
    have HL8 := Hide.mk hls8
    have HU8 := Hide.mk (HU7.out.trans (Upd.of_grown (g := g) hgr8) (.inl HV2.out))
    have HAT : Hide (v3.ownBlock = v.ownBlock ∨ ∃ b, v3.ownBlock = some b ∧ w.heap.size ≤ b) := ⟨by
      rcases hat8 with hat8 | ⟨b, hb, hb2⟩
      · exact .inl (hat8.trans HV2.out)
      · exact .inr ⟨b, hb, Nat.le_trans HU7.out.size hb2⟩⟩
    have BK38 := Hide.mk ((hgr8.block g3 (blk_lt hS2) (by rw [HV2.out]; exact NV3.out)).trans hS2)
    refine Plan.plan_run (v := v3) (w1 := w8) (a' := ?_) rfl rfl rfl (appendStep rfl rfl rfl hr8) ⟨(blk_cell HB8.out 4).trans rfl, BK38.out⟩ ?_ ?_
    rotate_left 1
    · simp only [Act.put, List.setIfInBounds_toArray, List.set_cons_zero, List.set_cons_succ]
      rfl
    have HV3 : Hide (v3.cells = #[v3] ∧ v3.oneCell' = true) := ⟨by obtain ⟨A3, c3, rfl⟩ := HL8.out.slice; exact ⟨rfl, rfl⟩⟩
    clear hr8 hls8 hgr8 hat8 hne7 HT7 HU7 hnew hS2
    (repeat (first | (refine Plan.plan_take (v := ?_) (a' := ?_) rfl ?_ ?_ ?_ ?_; rotate_left 2; (· rfl); (· (intro w' hs; go_simp; with_reducible rfl)); (· (simp only [Act.put, List.setIfInBounds_toArray, List.set_cons_zero, List.set_cons_succ]; rfl))) | (refine Plan.plan_skip (a' := ?_) rfl ?_ ?_ ?_; rotate_left 1; (· rfl); (· (simp only [Act.put, List.setIfInBounds_toArray, List.set_cons_zero, List.set_cons_succ]; rfl))) | (refine Plan.plan_pure (v := ?_) (a' := ?_) rfl ?_ ?_ ?_ ?_; rotate_left 2; (· rfl); (· (intro w'; go_simp; with_reducible rfl)); (· (simp only [Act.put, List.setIfInBounds_toArray, List.set_cons_zero, List.set_cons_succ]; rfl)))))
    refine Plan.plan_last_cell rfl rfl rfl 31 (.tmp 30) (.tmp 28) rfl g 4 rfl v3 rfl HV3.out.1 HV3.out.2 (by kernel_rfl) _ _ HB8.out (by show 4 < 5; decide) ?_
    intro w9 hb9 ho9
    have HT9 : Hide (Tab w9 base g v3 ⟨u.room, u.size, u.gone, u.l ++ [f]⟩) := ⟨HLOW.out, hb9, HL8.out.kept fun k hk => ho9.other k (fun e => HL8.out.ne HB8.out (by decide) (by rw [← e]; exact hk.symm))⟩
    have HU9 := Hide.mk (HU8.out.trans (Upd.of_only (v := v) ho9 (blk_lt HB8.out)) (.inl rfl))
    have BK39 := Hide.mk ((ho9.other g3 NE3).trans BK38.out)
    clear hb9 ho9 HB8 HL8 HU8 BK38
    refine Plan.plan_nil ?_
    have e5 : IntKind.i64.wrap (u.size + fsz f) = u.size + fsz f := by have h1 := tot_nonneg u.l; have h2 := HU1.out.size; exact IntWalk.i64_in _ (by omega)
    obtain ⟨k1, k2, k3, k4⟩ := HT9.out.cells
    go_wp2_with fail
    refine Plan.region_plan (fun w' => w'.cell? ⟨g, 2, none⟩ = some (.int .i64 u.size) ∧ w'.heap[g3]? = some (.cells (fa [f]) 23 (0, 0))) [9] [(0, 0, some 31), (1, 0, some 32), (2, 0, some 33), (3, 0, some 34), (4, 0, some 35), (5, 1, some 36), (6, 0, some 37), (7, 0, some 38), (8, 0, some 39), (9, 2, none)] (by kernel_rfl) (by kernel_rfl) (by decide) ⟨k2, blk_drew BK39.out⟩ (fun wx ewx hS => ?_)
    have HTx := Hide.mk (HT9.out.drew ewx)
    have HUx := Hide.mk (HU9.out.trans (Upd.of_below (g := g) (v := v) (below_of_drew ewx (Below.refl _ _))) (.inl rfl))
    clear ewx HT9 HU9 k1 k2 k3 k4 BK39
    (repeat (first | (refine Plan.plan_take (v := ?_) (a' := ?_) rfl ?_ ?_ ?_ ?_; rotate_left 2; (· rfl); (· (intro w' hs; go_simp; with_reducible rfl)); (· (simp only [Act.put, List.setIfInBounds_toArray, List.set_cons_zero, List.set_cons_succ]; rfl))) | (refine Plan.plan_skip (a' := ?_) rfl ?_ ?_ ?_; rotate_left 1; (· rfl); (· (simp only [Act.put, List.setIfInBounds_toArray, List.set_cons_zero, List.set_cons_succ]; rfl))) | (refine Plan.plan_pure (v := ?_) (a' := ?_) rfl ?_ ?_ ?_ ?_; rotate_left 2; (· rfl); (· (intro w'; go_simp; with_reducible rfl)); (· (simp only [Act.put, List.setIfInBounds_toArray, List.set_cons_zero, List.set_cons_succ]; rfl)))))
    refine Plan.plan_load_row (a' := ?_) rfl rfl 23 (.tmp 3) rfl g3 rfl 23 (fa [f]) (0, 0) _ (fun _ h => h.2) Try.underlying23 rfl (by kernel_rfl) ?_ ?_
    rotate_left
    · simp only [Act.put, List.setIfInBounds_toArray, List.set_cons_zero, List.set_cons_succ]
      rfl
    (repeat (first | (refine Plan.plan_take (v := ?_) (a' := ?_) rfl ?_ ?_ ?_ ?_; rotate_left 2; (· rfl); (· (intro w' hs; go_simp; with_reducible rfl)); (· (simp only [Act.put, List.setIfInBounds_toArray, List.set_cons_zero, List.set_cons_succ]; rfl))) | (refine Plan.plan_skip (a' := ?_) rfl ?_ ?_ ?_; rotate_left 1; (· rfl); (· (simp only [Act.put, List.setIfInBounds_toArray, List.set_cons_zero, List.set_cons_succ]; rfl))) | (refine Plan.plan_pure (v := ?_) (a' := ?_) rfl ?_ ?_ ?_ ?_; rotate_left 2; (· rfl); (· (intro w'; go_simp; with_reducible rfl)); (· (simp only [Act.put, List.setIfInBounds_toArray, List.set_cons_zero, List.set_cons_succ]; rfl)))))
    refine Plan.plan_call rfl Try.func32 (by kernel_rfl) rfl #[fv f] rfl rfl rfl (by (try simp only [List.map_toArray, List.map_cons, List.map_nil]); rfl) ?_
    refine (size32 f _ hf1 hf2).mono ?_
    rintro e wv ⟨rfl, hbwv⟩
    have HTwv := Hide.mk (HTx.out.below hbwv)
    have HUwv := Hide.mk (HUx.out.trans (Upd.of_below (g := g) (v := v) hbwv) (.inl rfl))
    have hS2 : wv.cell? ⟨g, 2, none⟩ = some (.int .i64 u.size) ∧ wv.heap[g3]? = some (.cells (fa [f]) 23 (0, 0)) := ⟨(hbwv.cell (p := ⟨g, 2, none⟩) HTx.out.lt).trans hS.1, blk_below hS.2 hbwv⟩
    refine ⟨_, rfl, hS2, ?_⟩
    clear HTx HUx hS
    intro a' ha
    simp only [Act.put, List.setIfInBounds_toArray, List.set_cons_zero, List.set_cons_succ] at ha
    subst ha
    (repeat (first | (refine Plan.plan_take (v := ?_) (a' := ?_) rfl ?_ ?_ ?_ ?_; rotate_left 2; (· rfl); (· (intro w' hs; go_simp; with_reducible rfl)); (· (simp only [Act.put, List.setIfInBounds_toArray, List.set_cons_zero, List.set_cons_succ]; rfl))) | (refine Plan.plan_skip (a' := ?_) rfl ?_ ?_ ?_; rotate_left 1; (· rfl); (· (simp only [Act.put, List.setIfInBounds_toArray, List.set_cons_zero, List.set_cons_succ]; rfl))) | (refine Plan.plan_pure (v := ?_) (a' := ?_) rfl ?_ ?_ ?_ ?_; rotate_left 2; (· rfl); (· (intro w'; go_simp; with_reducible rfl)); (· (simp only [Act.put, List.setIfInBounds_toArray, List.set_cons_zero, List.set_cons_succ]; rfl)))))
    (repeat (first | (refine Plan.plan_take (v := ?_) (a' := ?_) rfl ?_ ?_ ?_ ?_; rotate_left 2; (· rfl); (· (intro w' hs; go_simp; with_reducible rfl)); (· (simp only [Act.put, List.setIfInBounds_toArray, List.set_cons_zero, List.set_cons_succ]; rfl))) | (refine Plan.plan_skip (a' := ?_) rfl ?_ ?_ ?_; rotate_left 1; (· rfl); (· (simp only [Act.put, List.setIfInBounds_toArray, List.set_cons_zero, List.set_cons_succ]; rfl))) | (refine Plan.plan_pure (v := ?_) (a' := ?_) rfl ?_ ?_ ?_ ?_; rotate_left 2; (· rfl); (· (intro w'; go_simp; with_reducible rfl)); (· (simp only [Act.put, List.setIfInBounds_toArray, List.set_cons_zero, List.set_cons_succ]; rfl)))))
    refine Plan.plan_last_cell rfl rfl rfl 3 (.tmp 39) (.tmp 37) rfl g 2 rfl (.int .i64 (u.size + fsz f)) rfl rfl rfl (by kernel_rfl) _ _ HTwv.out.blk (by show 2 < 5; decide) ?_
    intro wu hbu hou
    have HTu := Hide.mk (HTwv.out.set_ (t1 := ⟨u.room, u.size + fsz f, u.gone, u.l ++ [f]⟩) hbu hou rfl)
    have HUu := Hide.mk (HUwv.out.trans (Upd.of_only (v := v) hou HTwv.out.lt) (.inl rfl))
    clear hbu hou HTwv HUwv hS2 hbwv
    refine Plan.plan_nil ?_
    go_wp2_with fail
    go_ret
    exact ⟨by rw [HA2.out]; rfl, v3, by rw [HA1.out]; exact HTu.out, HUu.out, HAT.out⟩
end Go.Proofs.Ytcjakeopbjokoaa.Tb
