/- ShaUndone, the walk: what a block does to a state can be undone round by round. -/
import Derived.Test.YthgklggcdnocdaaS16
namespace Go.Proofs.Ythgklggcdnocdaa.Sh
open Go.RowKit Go.Proofs.YthgklggcdnocdaaW.PrintWords Go.Proofs.YthgklggcdnocdaaW.PrintLast Go.Proofs.YthgklggcdnocdaaW.PrintMore Mem Rg
set_option linter.unusedVariables false
set_option linter.unusedSimpArgs false
theorem eqArr23 {o : Oper} {a : Act} {x y : Operand} {l1 l2 : List Int} {w : World} (ho : o.op = .binOp .eql 23 x y 23) (hx : a.eval x = .agg (ia .u32 l1)) (hy : a.eval y = .agg (ia .u32 l2)) (h1 : l1.length = 8) (h2 : l2.length = 8) : (execOp a.eval o).run Try.prog w = .ok (.value (.bool (decide (l1 = l2)))) w := by
  unfold execOp
  simp only [ho, hx, hy]
  go_simp
  simp only [eq_ints 9998 Try.underlying23 Try.underlying22 (by kernel_rfl) (by kernel_rfl) _ _ h1 h2, Result.andThen_ok]
theorem event_g {P : Program} {ops : Array Oper} {Q : Exit → Act → World → Prop} {rest : List Oper} {o : Oper} {a : Act} {W w1 : World} {v : Value} (hw : Region.wanted o (yielded ops a.tmps) = true) (hrun : (execOp a.eval o).run P W = .ok (.value v) w1) (h : wpList P ops Q rest (a.put o.dst v) w1) : wpList P ops Q (o :: rest) a W :=
  wpList_step fun K hK => by
    rw [if_pos hw]
    unfold Oper.wp
    rw [hrun]
    exact hK _ _ h
theorem undo8 {s r : S8} (hr : S8ok r) (k : Nat) (hk : k < 8) : ([w32 (s.a + r.a), w32 (s.b + r.b), w32 (s.c + r.c), w32 (s.d + r.d), w32 (s.e + r.e), w32 (s.f + r.f), w32 (s.g + r.g), w32 (s.h + r.h)].getD k 0 - s.list.getD k 0) % 4294967296 = r.list.getD k 0 := by
  have h : ∀ x y : Int, (0 ≤ y ∧ y < 4294967296) → (w32 (x + y) - x) % 4294967296 = y := fun x y hy => by unfold w32; rw [IntKind.wrap_u32]; omega
  match k, hk with
  | 0, _ => exact h _ _ hr.a
  | 1, _ => exact h _ _ hr.b
  | 2, _ => exact h _ _ hr.c
  | 3, _ => exact h _ _ hr.d
  | 4, _ => exact h _ _ hr.e
  | 5, _ => exact h _ _ hr.f
  | 6, _ => exact h _ _ hr.g
  | 7, _ => exact h _ _ hr.h
def WL (bs : List Int) (t : Nat) : List Int := if t < 16 then (wi bs 64).take t ++ (List.replicate 64 (0 : Int)).drop t else sch (wi bs 64) (t - 16)
theorem WL_lo (bs : List Int) (t : Nat) (h : t < 16) : WL bs t = (wi bs 64).take t ++ (List.replicate 64 (0 : Int)).drop t := if_pos h
theorem WL_hi (bs : List Int) (n : Nat) : WL bs (n + 16) = sch (wi bs 64) n := (if_neg (by omega)).trans (by rw [Nat.add_sub_cancel])
theorem WL_next (bs : List Int) (hl : bs.length = 64) (t : Nat) (h : t < 16) : (wi bs 64).take (t + 1) ++ (List.replicate 64 (0 : Int)).drop (t + 1) = WL bs (t + 1) := by
  by_cases h2 : t + 1 < 16
  · rw [WL_lo _ _ h2]
  · have : t = 15 := by omega
    subst this
    rw [show (15 + 1 : Nat) = 0 + 16 from rfl, WL_hi]
    exact wi_full bs hl
theorem back_wrap {s : S8} (h : S8ok s) (k w : Int) : backL (rnd s k w) (IntKind.u32.wrap (k + w)) = s.list := by
  rw [backL_eq, IntKind.wrap_u32, back_rnd h]
set_option maxHeartbeats 8000000 in
set_option maxRecDepth 100000 in
theorem undone_walk (s : S8) (bs : List Int) (w : World) (hs : S8ok s) (hb : Bytes bs) (hl : bs.length = 64) : Calls Try.prog 6 #[.agg (ia .u32 s.list), .agg (ia .u8 bs)] w fun e w' => e = .returned (.bool true) ∧ Below w.heap.size w w' := by
  have HL := Hide.mk hl
  have HBy := Hide.mk hb
  have HS := Hide.mk hs
  clear hl hb hs
  have HB0 := Hide.mk (Below.refl w.heap.size w)
  go_enter Try.func6, Try.ntmps6
  go_wp2_with (first | ((with_reducible refine gate_dst (N := 2) rfl ?_); refine box_event ?hg (N := 2) ?hd (cs := ia .u32 s.list) (t := 23) ?hr ?_; (case hd => rfl); (case hg => rfl); (case hr => kernel_rfl); intro g2 hg w1 hbox hb; have BKg2 := Hide.mk hbox; have HB1 := Hide.mk (below_step HB0.out hb); have GEg2 : w.heap.size ≤ g2 := (by rw [hg]; exact HB0.out.size); clear HB0; clear hbox hb hg) | ((with_reducible refine gate_dst (N := 3) rfl ?_); refine box_event ?hg (N := 3) ?hd (cs := ia .u8 bs) (t := 24) ?hr ?_; (case hd => rfl); (case hg => rfl); (case hr => kernel_rfl); intro g3 hg w2 hbox hb; have Lg2g3 : g2 < g3 := (by rw [hg]; exact blk_lt BKg2.out); have BKg3 := Hide.mk hbox; have HB2 := Hide.mk (below_step HB1.out hb); have GEg3 : w.heap.size ≤ g3 := (by rw [hg]; exact HB1.out.size); clear HB1; have BKg2' := Hide.mk (blk_below BKg2.out hb); clear BKg2; have BKg2 := BKg2'; clear BKg2'; clear hbox hb hg) | ((with_reducible refine gate_dst (N := 13) rfl ?_); refine wpList_load_row rfl 23 (.tmp 2) rfl g2 rfl 23 (ia .u32 s.list) (0, 0) _ BKg2.out Try.underlying23 rfl ?hsz ?_; (case hsz => kernel_rfl)) | ((with_reducible refine gate_dst (N := 14) rfl ?_); refine wpList_load_row rfl 24 (.tmp 3) rfl g3 rfl 24 (ia .u8 bs) (0, 0) _ BKg3.out Try.underlying24 rfl ?hsz ?_; (case hsz => rw [ia_size, HL.out]; kernel_rfl)))
  refine (block_any s bs _ HBy.out HL.out).mono ?_
  rintro e w3 ⟨rfl, hb⟩
  have HB3 := Hide.mk (below_step HB2.out hb)
  have BK2 := Hide.mk (blk_below BKg2.out hb)
  have BK3 := Hide.mk (blk_below BKg3.out hb)
  clear hb HB2 BKg2 BKg3
  have HRK := Hide.mk (rounds_ok ks (sch (wi bs 64) 48) HS.out 64)
  have HNL : Hide (∀ k, k < 8 → ((blockF s bs).list.getD k 0 - s.list.getD k 0) % 4294967296 = (rounds ks (sch (wi bs 64) 48) s 64).list.getD k 0) := ⟨fun k hk => undo8 HRK.out k hk⟩
  have HNN : Hide ((blockF s bs).list.length = 8) := ⟨rfl⟩
  generalize (blockF s bs).list = nl at HNL HNN ⊢
  obtain ⟨rl, hrl⟩ : ∃ rl, (rounds ks (sch (wi bs 64) 48) s 64).list = rl := ⟨_, rfl⟩
  rw [hrl] at HNL
  have HRL : Hide (rl.length = 8) := ⟨by rw [← hrl]; rfl⟩
  have HRE := Hide.mk hrl
  clear hrl
  go_wp2_with (first | ((with_reducible refine gate_dst (N := 5) rfl ?_); refine box_event ?hg (N := 5) ?hd (cs := ia .u32 (List.replicate 8 0)) (t := 23) ?hr ?_; (case hd => rfl); (case hg => rfl); (case hr => kernel_rfl); intro g5 hg w4 hbox hb; have Lg2g5 : g2 < g5 := (by rw [hg]; exact blk_lt BK2.out); have Lg3g5 : g3 < g5 := (by rw [hg]; exact blk_lt BK3.out); have BKg5 := Hide.mk hbox; have HB4 := Hide.mk (below_step HB3.out hb); have GEg5 : w.heap.size ≤ g5 := (by rw [hg]; exact HB3.out.size); clear HB3; have BK2' := Hide.mk (blk_below BK2.out hb); clear BK2; have BK2 := BK2'; clear BK2'; have BK3' := Hide.mk (blk_below BK3.out hb); clear BK3; have BK3 := BK3'; clear BK3'; clear hbox hb hg) | ((with_reducible refine gate_store (p := 5) (v := .tmp 15) rfl ?_); go_must (refine store_row rfl rfl 23 (.tmp 5) (.tmp 15) rfl g5 rfl (ia .u32 nl) rfl (ia_one _ _) (by rw [ia_size, HNN.out]; kernel_rfl) _ _ BKg5.out (by rw [ia_size, ia_size, HNN.out]; rfl) ?_); intro w9 hb ho; have BKg5' := Hide.mk hb; have HB4' := Hide.mk (ho.below HB4.out GEg5); clear BKg5 HB4; have BKg5 := BKg5'; have HB4 := HB4'; clear BKg5' HB4'; have BK2' := Hide.mk (ho.blk BK2.out (by omega)); clear BK2; have BK2 := BK2'; clear BK2'; have BK3' := Hide.mk (ho.blk BK3.out (by omega)); clear BK3; have BK3 := BK3'; clear BK3'; clear hb ho))
  go_loopw [6] (fun t wr => ∃ i : Nat, i ≤ 8 ∧ t = .int .i64 i ∧ wr.heap[g5]? = some (.cells (ia .u32 (rl.take i ++ nl.drop i)) 23 (0, 0)) ∧ wr.heap[g2]? = some (.cells (ia .u32 s.list) 23 (0, 0)) ∧ wr.heap[g3]? = some (.cells (ia .u8 bs) 24 (0, 0)) ∧ Below w.heap.size w wr) (fun t _ => 8 - (intOf t).toNat)
  case atStart => exact ⟨0, by omega, rfl, BKg5.out, BK2.out, BK3.out, HB4.out⟩
  case round =>
    clear BKg5 BK2 BK3 HB4
    obtain ⟨i, hi, rfl, h5, h2, h3, hb⟩ := hrel
    have BK5 := Hide.mk h5
    have BK2 := Hide.mk h2
    have BK3 := Hide.mk h3
    have HB := Hide.mk hb
    have L5 := blk_lt h5
    clear h5 h2 h3 hb
    by_cases hlt : i < 8
    · have hd : decide ((i : Int) < 8) = true := by simp; omega
      have hi0 : (0 : Int) ≤ (i : Int) := Int.natCast_nonneg _
      have hi1 : (i : Int) < 8 := by omega
      have f1 : IntKind.i64.wrap ((i : Int) + 1) = (i : Int) + 1 := IntWalk.i64_in _ (by omega)
      have cr := (blk_cell BK5.out i).trans (ia_get .u32 (rl.take i ++ nl.drop i) i (by rw [List.length_append, List.length_take, List.length_drop, HRL.out, HNN.out]; omega))
      rw [mix_get _ _ _ (HRL.out.trans HNN.out.symm) (by rw [HNN.out]; exact hlt)] at cr
      have cs := (blk_cell BK2.out i).trans (ia_get .u32 s.list i hlt)
      have HE := Hide.mk (HNL.out i hlt)
      generalize s.list.getD i 0 = y at cs HE
      generalize nl.getD i 0 = x at cr HE
      go_wp2_with fail
      refine Plan.region_plan (fun w' => w'.cell? ⟨g5, i, none⟩ = some (.int .u32 x) ∧ w'.cell? ⟨g2, i, none⟩ = some (.int .u32 y)) [9] [(0, 0, some 20), (1, 0, some 21), (2, 0, some 22), (3, 0, some 23), (4, 0, some 24), (5, 0, some 25), (6, 0, some 26), (7, 0, some 27), (8, 0, some 28), (9, 2, none)] (by kernel_rfl) (by kernel_rfl) (by decide) ⟨cr, cs⟩ (fun wz ewz hS => ?_)
      have HBz := Hide.mk (below_of_drew ewz HB.out)
      have BK5z := Hide.mk (blk_of_drew ewz BK5.out)
      have BK2z := Hide.mk (blk_of_drew ewz BK2.out)
      have BK3z := Hide.mk (blk_of_drew ewz BK3.out)
      clear ewz cr cs HB BK5 BK2 BK3
      (repeat (first | (refine Plan.plan_take (v := ?_) (a' := ?_) rfl ?_ ?_ ?_ ?_; rotate_left 2; (· rfl); (· (intro w' hs; go_simp; with_reducible rfl)); (· (simp only [Act.put, List.setIfInBounds_toArray, List.set_cons_zero, List.set_cons_succ]; rfl))) | (refine Plan.plan_skip (a' := ?_) rfl ?_ ?_ ?_; rotate_left 1; (· rfl); (· (simp only [Act.put, List.setIfInBounds_toArray, List.set_cons_zero, List.set_cons_succ]; rfl))) | (refine Plan.plan_pure (v := ?_) (a' := ?_) rfl ?_ ?_ ?_ ?_; rotate_left 2; (· rfl); (· (intro w'; go_simp; with_reducible rfl)); (· (simp only [Act.put, List.setIfInBounds_toArray, List.set_cons_zero, List.set_cons_succ]; rfl)))))
      refine Plan.plan_last_cell rfl rfl rfl 22 (.tmp 28) (.tmp 27) rfl g5 i rfl (.int .u32 (IntKind.u32.wrap (x - y))) rfl rfl rfl (by kernel_rfl) _ _ BK5z.out (by rw [ia_size, List.length_append, List.length_take, List.length_drop, HRL.out, HNN.out]; omega) ?_
      intro w5 hb5 ho5
      rw [ia_set, mix_set _ _ _ _ (HRL.out.trans HNN.out.symm) (by rw [HNN.out]; exact hlt) (by rw [IntKind.wrap_u32, HE.out])] at hb5
      have BK5 := Hide.mk hb5
      have HO5 := Hide.mk ho5
      clear hb5 ho5
      refine Plan.plan_nil ?_
      clear hS
      go_wp2_with fail
      go_roundw
      case rel => exact ⟨i + 1, by omega, by go_num, BK5.out, HO5.out.blk BK2z.out (by omega), HO5.out.blk BK3z.out (by omega), HO5.out.below HBz.out GEg5⟩
      case measure => simp [intOf]; omega
    · obtain rfl : i = 8 := by omega
      rw [show ((8 : Nat) : Int) = 8 from rfl]
      have BK5' : Hide (wr.heap[g5]? = some (.cells (ia .u32 rl) 23 (0, 0))) := ⟨by have := BK5.out; rw [List.take_of_length_le (by rw [HRL.out]; exact Nat.le_refl _), List.drop_of_length_le (by rw [HNN.out]; exact Nat.le_refl _), List.append_nil] at this; exact this⟩
      clear BK5 HNL HNN
      have BK5 := BK5'
      clear BK5' hi hlt L5
      have HB6 := HB
      clear HB
      go_wp2_with (first | ((with_reducible refine gate_dst (N := 7) rfl ?_); refine box_event ?hg (N := 7) ?hd (cs := ia .u32 (List.replicate 64 0)) (t := 39) ?hr ?_; (case hd => rfl); (case hg => rfl); (case hr => kernel_rfl); intro g7 hg w7 hbox hb; have Lg5g7 : g5 < g7 := (by rw [hg]; exact blk_lt BK5.out); have Lg2g7 : g2 < g7 := (by rw [hg]; exact blk_lt BK2.out); have Lg3g7 : g3 < g7 := (by rw [hg]; exact blk_lt BK3.out); have BKg7 := Hide.mk hbox; have HB7 := Hide.mk (below_step HB6.out hb); have GEg7 : w.heap.size ≤ g7 := (by rw [hg]; exact HB6.out.size); clear HB6; have BK5' := Hide.mk (blk_below BK5.out hb); clear BK5; have BK5 := BK5'; clear BK5'; have BK2' := Hide.mk (blk_below BK2.out hb); clear BK2; have BK2 := BK2'; clear BK2'; have BK3' := Hide.mk (blk_below BK3.out hb); clear BK3; have BK3 := BK3'; clear BK3'; clear hbox hb hg))
      go_loopw [8] (fun t wr => ∃ i : Nat, i ≤ 64 ∧ t = .int .i64 i ∧ wr.heap[g7]? = some (.cells (ia .u32 (WL bs i)) 39 (0, 0)) ∧ wr.heap[g5]? = some (.cells (ia .u32 rl) 23 (0, 0)) ∧ wr.heap[g2]? = some (.cells (ia .u32 s.list) 23 (0, 0)) ∧ wr.heap[g3]? = some (.cells (ia .u8 bs) 24 (0, 0)) ∧ Below w.heap.size w wr) (fun t _ => 64 - (intOf t).toNat)
      case atStart => exact ⟨0, by omega, rfl, by rw [WL_lo _ _ (by decide)]; exact BKg7.out, BK5.out, BK2.out, BK3.out, HB7.out⟩
      case round =>
        clear BKg7 BK5 BK2 BK3 HB7
        obtain ⟨i, hi, rfl, h7, h5, h2, h3, hb⟩ := hrel
        have BK7 := Hide.mk h7
        have BK5 := Hide.mk h5
        have BK2 := Hide.mk h2
        have BK3 := Hide.mk h3
        have HB := Hide.mk hb
        clear h7 h5 h2 h3 hb
        by_cases hlt : i < 16
        · rw [WL_lo _ _ hlt] at BK7
          have HNX := Hide.mk (WL_next bs HL.out i hlt)
          have HW := Hide.mk (wi_word bs HL.out i hlt)
          have c0 : wr.cell? ⟨g3, 4 * i, none⟩ = some (.int .u8 (bs.getD (4 * i) 0)) := (blk_cell BK3.out _).trans (ia_get _ _ _ (by rw [HL.out]; omega))
          have c1 : wr.cell? ⟨g3, 4 * i + 1, none⟩ = some (.int .u8 (bs.getD (4 * i + 1) 0)) := (blk_cell BK3.out _).trans (ia_get _ _ _ (by rw [HL.out]; omega))
          have c2 : wr.cell? ⟨g3, 4 * i + 2, none⟩ = some (.int .u8 (bs.getD (4 * i + 2) 0)) := (blk_cell BK3.out _).trans (ia_get _ _ _ (by rw [HL.out]; omega))
          have c3 : wr.cell? ⟨g3, 4 * i + 3, none⟩ = some (.int .u8 (bs.getD (4 * i + 3) 0)) := (blk_cell BK3.out _).trans (ia_get _ _ _ (by rw [HL.out]; omega))
          have hm : ∀ k, k < 64 → 0 ≤ bs.getD k 0 ∧ bs.getD k 0 ≤ 255 := fun k hk => HBy.out (bs.getD k 0) (by rw [List.getD_eq_getElem?_getD, List.getElem?_eq_getElem (by rw [HL.out]; exact hk)]; exact List.getElem_mem _)
          have m0 := hm (4 * i) (by omega)
          have m1 := hm (4 * i + 1) (by omega)
          have m2 := hm (4 * i + 2) (by omega)
          have m3 := hm (4 * i + 3) (by omega)
          clear hm
          generalize bs.getD (4 * i) 0 = b0 at c0 m0 HW
          generalize bs.getD (4 * i + 1) 0 = b1 at c1 m1 HW
          generalize bs.getD (4 * i + 2) 0 = b2 at c2 m2 HW
          generalize bs.getD (4 * i + 3) 0 = b3 at c3 m3 HW
          have hi0 : (0 : Int) ≤ (i : Int) := Int.natCast_nonneg _
          have hi1 : (i : Int) < 16 := by omega
          have hi2 : (i : Int) < 64 := by omega
          have hd : decide ((i : Int) < 16) = true := by simp; omega
          have hd2 : decide ((i : Int) < 64) = true := by simp; omega
          have e0 : IntKind.i64.wrap (4 * (i : Int)) = 4 * (i : Int) := by rw [IntWalk.i64_in _ (by omega)]
          have e1 : IntKind.i64.wrap (4 * (i : Int) + 1) = 4 * (i : Int) + 1 := by rw [IntWalk.i64_in _ (by omega)]
          have e2 : IntKind.i64.wrap (4 * (i : Int) + 2) = 4 * (i : Int) + 2 := by rw [IntWalk.i64_in _ (by omega)]
          have e3 : IntKind.i64.wrap (4 * (i : Int) + 3) = 4 * (i : Int) + 3 := by rw [IntWalk.i64_in _ (by omega)]
          have t0 : (4 * (i : Int)).toNat = 4 * i := by omega
          have t1 : (4 * (i : Int) + 1).toNat = 4 * i + 1 := by omega
          have t2 : (4 * (i : Int) + 2).toNat = 4 * i + 2 := by omega
          have t3 : (4 * (i : Int) + 3).toNat = 4 * i + 3 := by omega
          have l0 : 0 ≤ 4 * (i : Int) ∧ 4 * (i : Int) < 64 := by omega
          have l1 : 0 ≤ 4 * (i : Int) + 1 ∧ 4 * (i : Int) + 1 < 64 := by omega
          have l2 : 0 ≤ 4 * (i : Int) + 2 ∧ 4 * (i : Int) + 2 < 64 := by omega
          have l3 : 0 ≤ 4 * (i : Int) + 3 ∧ 4 * (i : Int) + 3 < 64 := by omega
          go_wp2_with fail
          refine Plan.region_plan (fun w' => w'.cell? ⟨g3, 4 * i, none⟩ = some (.int .u8 b0) ∧ w'.cell? ⟨g3, 4 * i + 1, none⟩ = some (.int .u8 b1) ∧ w'.cell? ⟨g3, 4 * i + 2, none⟩ = some (.int .u8 b2) ∧ w'.cell? ⟨g3, 4 * i + 3, none⟩ = some (.int .u8 b3)) [31] [(0, 0, some 35), (1, 0, some 36), (2, 0, some 37), (3, 0, some 38), (4, 0, some 39), (5, 0, some 40), (6, 0, some 41), (7, 0, some 42), (8, 0, some 43), (9, 0, some 44), (10, 0, some 45), (11, 0, some 46), (12, 0, some 47), (13, 0, some 48), (14, 0, some 49), (15, 0, some 50), (16, 0, some 51), (17, 0, some 52), (18, 0, some 53), (19, 0, some 54), (20, 0, some 55), (21, 0, some 56), (22, 0, some 57), (23, 0, some 58), (24, 0, some 59), (25, 0, some 60), (26, 0, some 61), (27, 0, some 62), (28, 0, some 63), (29, 0, some 64), (30, 0, some 65), (31, 2, none)] (by kernel_rfl) (by kernel_rfl) (by decide) ⟨c0, c1, c2, c3⟩ (fun wz ewz hS => ?_)
          have HBz := Hide.mk (below_of_drew ewz HB.out)
          have BK7z := Hide.mk (blk_of_drew ewz BK7.out)
          have BK5z := Hide.mk (blk_of_drew ewz BK5.out)
          have BK3z := Hide.mk (blk_of_drew ewz BK3.out)
          have BK2z := Hide.mk (blk_of_drew ewz BK2.out)
          clear ewz c0 c1 c2 c3 BK7 BK5 BK3 BK2 HB
          (repeat (first | (refine Plan.plan_take (v := ?_) (a' := ?_) rfl ?_ ?_ ?_ ?_; rotate_left 2; (· rfl); (· (intro w' hs; go_simp; with_reducible rfl)); (· (simp only [Act.put, List.setIfInBounds_toArray, List.set_cons_zero, List.set_cons_succ]; rfl))) | (refine Plan.plan_skip (a' := ?_) rfl ?_ ?_ ?_; rotate_left 1; (· rfl); (· (simp only [Act.put, List.setIfInBounds_toArray, List.set_cons_zero, List.set_cons_succ]; rfl))) | (refine Plan.plan_pure (v := ?_) (a' := ?_) rfl ?_ ?_ ?_ ?_; rotate_left 2; (· rfl); (· (intro w'; go_simp; with_reducible rfl)); (· (simp only [Act.put, List.setIfInBounds_toArray, List.set_cons_zero, List.set_cons_succ]; rfl)))))
          refine Plan.plan_last_cell rfl rfl rfl 22 (.tmp 65) (.tmp 64) rfl g7 i rfl (.int .u32 (word4 b0 b1 b2 b3)) rfl rfl rfl (by kernel_rfl) _ _ BK7z.out (by rw [ia_size, List.length_append, List.length_take, List.length_drop, wi_len, List.length_replicate]; omega) ?_
          intro w5 hb5 ho5
          rw [ia_set, mix_set (wi bs 64) (List.replicate 64 0) i (word4 b0 b1 b2 b3) (by rw [wi_len]; rfl) (by rw [List.length_replicate]; omega) (by rw [HW.out, word4_eq _ _ _ _ m0 m1 m2 m3]), HNX.out] at hb5
          have BK7 := Hide.mk hb5
          have HO5 := Hide.mk ho5
          clear hb5 ho5
          refine Plan.plan_nil ?_
          go_wp2_with fail
          go_roundw
          case rel => exact ⟨i + 1, by omega, by go_num, BK7.out, HO5.out.blk BK5z.out (by omega), HO5.out.blk BK2z.out (by omega), HO5.out.blk BK3z.out (by omega), HO5.out.below HBz.out GEg7⟩
          case measure => simp [intOf]; omega
        · obtain ⟨n, rfl⟩ : ∃ n, i = n + 16 := ⟨i - 16, by omega⟩
          rw [show (((n + 16 : Nat)) : Int) = (n : Int) + 16 from by omega]
          rw [WL_hi] at BK7
          by_cases hln : n < 48
          · have HLn := Hide.mk (show (sch (wi bs 64) n).length = 64 by rw [sch_len, wi_len])
            have cx : wr.cell? ⟨g7, n + 14, none⟩ = some (.int .u32 ((sch (wi bs 64) n).getD (n + 14) 0)) := (blk_cell BK7.out _).trans (ia_get _ _ _ (by rw [HLn.out]; omega))
            have cy : wr.cell? ⟨g7, n + 1, none⟩ = some (.int .u32 ((sch (wi bs 64) n).getD (n + 1) 0)) := (blk_cell BK7.out _).trans (ia_get _ _ _ (by rw [HLn.out]; omega))
            have HGL : Hide (∀ k, k < 64 → (ia .u32 (sch (wi bs 64) n))[k]? = some (.int .u32 ((sch (wi bs 64) n).getD k 0))) := ⟨fun k hk => ia_get _ _ _ (by rw [HLn.out]; exact hk)⟩
            have HE : Hide (sch (wi bs 64) (n + 1) = (sch (wi bs 64) n).set (n + 16) (w32 (w32 (w32 ((sch (wi bs 64) n).getD (n + 9) 0 + (sch (wi bs 64) n).getD n 0) + s1 ((sch (wi bs 64) n).getD (n + 14) 0)) + s0 ((sch (wi bs 64) n).getD (n + 1) 0)))) := ⟨rfl⟩
            have G9 := HGL.out (n + 9) (by omega)
            have G0 := HGL.out n (by omega)
            generalize (sch (wi bs 64) n).getD (n + 14) 0 = x at cx HE
            generalize (sch (wi bs 64) n).getD (n + 1) 0 = y at cy HE
            generalize (sch (wi bs 64) n).getD (n + 9) 0 = p9 at G9 HE
            generalize (sch (wi bs 64) n).getD n 0 = p0 at G0 HE
            have HG9 := Hide.mk G9
            have HG0 := Hide.mk G0
            clear G9 G0 HGL
            have hb1 : (0 : Int) ≤ (n : Int) := Int.natCast_nonneg _
            have hb2 : (n : Int) < 48 := by omega
            have hb3 : decide ((n : Int) + 16 < 64) = true := by simp; omega
            have hb4 : decide ((n : Int) + 16 < 16) = false := by simp; omega
            have e2 : IntKind.i64.wrap ((n : Int) + 16 - 2) = (n : Int) + 14 := by rw [IntWalk.i64_in _ (by omega)]; omega
            have e15 : IntKind.i64.wrap ((n : Int) + 16 - 15) = (n : Int) + 1 := by rw [IntWalk.i64_in _ (by omega)]; omega
            have e7 : IntKind.i64.wrap ((n : Int) + 16 - 7) = (n : Int) + 9 := by rw [IntWalk.i64_in _ (by omega)]; omega
            have e16 : IntKind.i64.wrap ((n : Int) + 16 - 16) = (n : Int) := by rw [IntWalk.i64_in _ (by omega)]; exact Int.add_sub_cancel _ _
            have e16' : IntKind.i64.wrap (n : Int) = (n : Int) := IntWalk.i64_in _ (by omega)
            have l0 : (n : Int) < 64 := by omega
            have t14 : ((n : Int) + 14).toNat = n + 14 := by omega
            have t1 : ((n : Int) + 1).toNat = n + 1 := by omega
            have t9 : ((n : Int) + 9).toNat = n + 9 := by omega
            have t16 : ((n : Int) + 16).toNat = n + 16 := by omega
            have l14 : 0 ≤ (n : Int) + 14 ∧ (n : Int) + 14 < 64 := by omega
            have l1 : 0 ≤ (n : Int) + 1 ∧ (n : Int) + 1 < 64 := by omega
            have l9 : 0 ≤ (n : Int) + 9 ∧ (n : Int) + 9 < 64 := by omega
            have l16 : 0 ≤ (n : Int) + 16 ∧ (n : Int) + 16 < 64 := by omega
            go_wp2_with fail
            refine Plan.region_plan (fun w' => w'.cell? ⟨g7, n + 14, none⟩ = some (.int .u32 x) ∧ w'.cell? ⟨g7, n + 1, none⟩ = some (.int .u32 y)) [] [(0, 0, some 66), (1, 0, some 67), (2, 0, some 68), (3, 0, some 69), (4, 0, some 70), (5, 0, some 71), (6, 0, some 72), (7, 0, some 73), (8, 0, some 9), (9, 0, some 10)] (by kernel_rfl) (by kernel_rfl) (by decide) ⟨cx, cy⟩ (fun wz ewz hS => ?_)
            have HBz := Hide.mk (below_of_drew ewz HB.out)
            have BK7z := Hide.mk (blk_of_drew ewz BK7.out)
            have BK5z := Hide.mk (blk_of_drew ewz BK5.out)
            have BK3z := Hide.mk (blk_of_drew ewz BK3.out)
            have BK2z := Hide.mk (blk_of_drew ewz BK2.out)
            clear ewz cx cy BK7 BK5 BK3 BK2 HB
            (repeat (first | (refine Plan.plan_take (v := ?_) (a' := ?_) rfl ?_ ?_ ?_ ?_; rotate_left 2; (· rfl); (· (intro w' hs; go_simp; with_reducible rfl)); (· (simp only [Act.put, List.setIfInBounds_toArray, List.set_cons_zero, List.set_cons_succ]; rfl))) | (refine Plan.plan_skip (a' := ?_) rfl ?_ ?_ ?_; rotate_left 1; (· rfl); (· (simp only [Act.put, List.setIfInBounds_toArray, List.set_cons_zero, List.set_cons_succ]; rfl))) | (refine Plan.plan_pure (v := ?_) (a' := ?_) rfl ?_ ?_ ?_ ?_; rotate_left 2; (· rfl); (· (intro w'; go_simp; with_reducible rfl)); (· (simp only [Act.put, List.setIfInBounds_toArray, List.set_cons_zero, List.set_cons_succ]; rfl)))))
            refine Plan.plan_nil ?_
            clear hS
            have c9 : wz.cell? ⟨g7, n + 9, none⟩ = some (.int .u32 p9) := (blk_cell BK7z.out _).trans HG9.out
            have c0 : wz.cell? ⟨g7, n, none⟩ = some (.int .u32 p0) := (blk_cell BK7z.out _).trans HG0.out
            go_wp2_with fail
            refine Plan.region_plan (fun w' => w'.cell? ⟨g7, n + 9, none⟩ = some (.int .u32 p9) ∧ w'.cell? ⟨g7, n, none⟩ = some (.int .u32 p0)) [29] [(0, 0, some 74), (1, 0, some 75), (3, 0, some 77), (6, 0, some 80), (7, 0, some 81), (9, 0, some 83), (10, 0, some 84), (11, 0, some 85), (12, 0, some 86), (14, 0, some 88), (16, 0, some 90), (19, 0, some 93), (20, 0, some 94), (23, 0, some 97), (24, 0, some 98), (25, 0, some 99), (26, 0, some 100), (2, 1, some 76), (4, 1, some 78), (5, 0, some 79), (8, 0, some 82), (13, 0, some 87), (15, 1, some 89), (17, 1, some 91), (18, 0, some 92), (21, 0, some 95), (22, 0, some 96), (27, 0, some 101), (28, 0, some 102), (29, 2, none)] (by kernel_rfl) (by kernel_rfl) (by decide) ⟨c9, c0⟩ (fun wy ewy hS1 => ?_)
            have HBwy := Hide.mk (below_of_drew ewy HBz.out)
            have HHwy := Hide.mk (show wy.heap = wz.heap by rw [ewy]; rfl)
            clear ewy c9 c0 HBz
            (repeat (first | (refine Plan.plan_take (v := ?_) (a' := ?_) rfl ?_ ?_ ?_ ?_; rotate_left 2; (· rfl); (· (intro w' hs; go_simp; with_reducible rfl)); (· (simp only [Act.put, List.setIfInBounds_toArray, List.set_cons_zero, List.set_cons_succ]; rfl))) | (refine Plan.plan_skip (a' := ?_) rfl ?_ ?_ ?_; rotate_left 1; (· rfl); (· (simp only [Act.put, List.setIfInBounds_toArray, List.set_cons_zero, List.set_cons_succ]; rfl))) | (refine Plan.plan_pure (v := ?_) (a' := ?_) rfl ?_ ?_ ?_ ?_; rotate_left 2; (· rfl); (· (intro w'; go_simp; with_reducible rfl)); (· (simp only [Act.put, List.setIfInBounds_toArray, List.set_cons_zero, List.set_cons_succ]; rfl)))))
            refine Plan.plan_call rfl Try.func15 (by kernel_rfl) rfl #[.int .u32 x, .int .i64 17] rfl rfl rfl (by (try simp only [List.map_toArray, List.map_cons, List.map_nil]); rfl) ?_
            refine (turn15 x 17 (by decide) (by decide) _).mono ?_
            rintro e v1 ⟨rfl, hdv1⟩
            have HBv1 := Hide.mk (below_step HBwy.out hdv1.below)
            have HHv1 := Hide.mk ((drawn_heap hdv1).trans HHwy.out)
            have hS2 : v1.cell? ⟨g7, n + 9, none⟩ = some (.int .u32 p9) ∧ v1.cell? ⟨g7, n, none⟩ = some (.int .u32 p0) := by obtain ⟨⟨nd, rfl⟩⟩ := hdv1; exact hS1
            clear hdv1 HBwy HHwy
            refine ⟨_, rfl, hS2, ?_⟩
            intro a' ha
            simp only [Act.put, List.setIfInBounds_toArray, List.set_cons_zero, List.set_cons_succ] at ha
            subst ha
            (repeat (first | (refine Plan.plan_take (v := ?_) (a' := ?_) rfl ?_ ?_ ?_ ?_; rotate_left 2; (· rfl); (· (intro w' hs; go_simp; with_reducible rfl)); (· (simp only [Act.put, List.setIfInBounds_toArray, List.set_cons_zero, List.set_cons_succ]; rfl))) | (refine Plan.plan_skip (a' := ?_) rfl ?_ ?_ ?_; rotate_left 1; (· rfl); (· (simp only [Act.put, List.setIfInBounds_toArray, List.set_cons_zero, List.set_cons_succ]; rfl))) | (refine Plan.plan_pure (v := ?_) (a' := ?_) rfl ?_ ?_ ?_ ?_; rotate_left 2; (· rfl); (· (intro w'; go_simp; with_reducible rfl)); (· (simp only [Act.put, List.setIfInBounds_toArray, List.set_cons_zero, List.set_cons_succ]; rfl)))))
            refine Plan.plan_call rfl Try.func15 (by kernel_rfl) rfl #[.int .u32 x, .int .i64 19] rfl rfl rfl (by (try simp only [List.map_toArray, List.map_cons, List.map_nil]); rfl) ?_
            refine (turn15 x 19 (by decide) (by decide) _).mono ?_
            rintro e v2 ⟨rfl, hdv2⟩
            have HBv2 := Hide.mk (below_step HBv1.out hdv2.below)
            have HHv2 := Hide.mk ((drawn_heap hdv2).trans HHv1.out)
            have hS3 : v2.cell? ⟨g7, n + 9, none⟩ = some (.int .u32 p9) ∧ v2.cell? ⟨g7, n, none⟩ = some (.int .u32 p0) := by obtain ⟨⟨nd, rfl⟩⟩ := hdv2; exact hS2
            clear hdv2 HBv1 HHv1
            refine ⟨_, rfl, hS3, ?_⟩
            intro a' ha
            simp only [Act.put, List.setIfInBounds_toArray, List.set_cons_zero, List.set_cons_succ] at ha
            subst ha
            (repeat (first | (refine Plan.plan_take (v := ?_) (a' := ?_) rfl ?_ ?_ ?_ ?_; rotate_left 2; (· rfl); (· (intro w' hs; go_simp; with_reducible rfl)); (· (simp only [Act.put, List.setIfInBounds_toArray, List.set_cons_zero, List.set_cons_succ]; rfl))) | (refine Plan.plan_skip (a' := ?_) rfl ?_ ?_ ?_; rotate_left 1; (· rfl); (· (simp only [Act.put, List.setIfInBounds_toArray, List.set_cons_zero, List.set_cons_succ]; rfl))) | (refine Plan.plan_pure (v := ?_) (a' := ?_) rfl ?_ ?_ ?_ ?_; rotate_left 2; (· rfl); (· (intro w'; go_simp; with_reducible rfl)); (· (simp only [Act.put, List.setIfInBounds_toArray, List.set_cons_zero, List.set_cons_succ]; rfl)))))
            refine Plan.plan_call rfl Try.func15 (by kernel_rfl) rfl #[.int .u32 y, .int .i64 7] rfl rfl rfl (by (try simp only [List.map_toArray, List.map_cons, List.map_nil]); rfl) ?_
            refine (turn15 y 7 (by decide) (by decide) _).mono ?_
            rintro e v3 ⟨rfl, hdv3⟩
            have HBv3 := Hide.mk (below_step HBv2.out hdv3.below)
            have HHv3 := Hide.mk ((drawn_heap hdv3).trans HHv2.out)
            have hS4 : v3.cell? ⟨g7, n + 9, none⟩ = some (.int .u32 p9) ∧ v3.cell? ⟨g7, n, none⟩ = some (.int .u32 p0) := by obtain ⟨⟨nd, rfl⟩⟩ := hdv3; exact hS3
            clear hdv3 HBv2 HHv2
            refine ⟨_, rfl, hS4, ?_⟩
            intro a' ha
            simp only [Act.put, List.setIfInBounds_toArray, List.set_cons_zero, List.set_cons_succ] at ha
            subst ha
            (repeat (first | (refine Plan.plan_take (v := ?_) (a' := ?_) rfl ?_ ?_ ?_ ?_; rotate_left 2; (· rfl); (· (intro w' hs; go_simp; with_reducible rfl)); (· (simp only [Act.put, List.setIfInBounds_toArray, List.set_cons_zero, List.set_cons_succ]; rfl))) | (refine Plan.plan_skip (a' := ?_) rfl ?_ ?_ ?_; rotate_left 1; (· rfl); (· (simp only [Act.put, List.setIfInBounds_toArray, List.set_cons_zero, List.set_cons_succ]; rfl))) | (refine Plan.plan_pure (v := ?_) (a' := ?_) rfl ?_ ?_ ?_ ?_; rotate_left 2; (· rfl); (· (intro w'; go_simp; with_reducible rfl)); (· (simp only [Act.put, List.setIfInBounds_toArray, List.set_cons_zero, List.set_cons_succ]; rfl)))))
            refine Plan.plan_call rfl Try.func15 (by kernel_rfl) rfl #[.int .u32 y, .int .i64 18] rfl rfl rfl (by (try simp only [List.map_toArray, List.map_cons, List.map_nil]); rfl) ?_
            refine (turn15 y 18 (by decide) (by decide) _).mono ?_
            rintro e v4 ⟨rfl, hdv4⟩
            have HBv4 := Hide.mk (below_step HBv3.out hdv4.below)
            have HHv4 := Hide.mk ((drawn_heap hdv4).trans HHv3.out)
            have hS5 : v4.cell? ⟨g7, n + 9, none⟩ = some (.int .u32 p9) ∧ v4.cell? ⟨g7, n, none⟩ = some (.int .u32 p0) := by obtain ⟨⟨nd, rfl⟩⟩ := hdv4; exact hS4
            clear hdv4 HBv3 HHv3
            refine ⟨_, rfl, hS5, ?_⟩
            intro a' ha
            simp only [Act.put, List.setIfInBounds_toArray, List.set_cons_zero, List.set_cons_succ] at ha
            subst ha
            (repeat (first | (refine Plan.plan_take (v := ?_) (a' := ?_) rfl ?_ ?_ ?_ ?_; rotate_left 2; (· rfl); (· (intro w' hs; go_simp; with_reducible rfl)); (· (simp only [Act.put, List.setIfInBounds_toArray, List.set_cons_zero, List.set_cons_succ]; rfl))) | (refine Plan.plan_skip (a' := ?_) rfl ?_ ?_ ?_; rotate_left 1; (· rfl); (· (simp only [Act.put, List.setIfInBounds_toArray, List.set_cons_zero, List.set_cons_succ]; rfl))) | (refine Plan.plan_pure (v := ?_) (a' := ?_) rfl ?_ ?_ ?_ ?_; rotate_left 2; (· rfl); (· (intro w'; go_simp; with_reducible rfl)); (· (simp only [Act.put, List.setIfInBounds_toArray, List.set_cons_zero, List.set_cons_succ]; rfl)))))
            refine Plan.plan_last_cell rfl rfl rfl 22 (.tmp 102) (.tmp 101) rfl g7 (n + 16) rfl (.int .u32 (w32 (w32 (w32 (s1 x + p9) + s0 y) + p0))) rfl rfl rfl (by kernel_rfl) _ _ (blk_of_heap HHv4.out BK7z.out) (by rw [ia_size, HLn.out]; omega) ?_
            intro w5 hb5 ho5
            rw [ia_set, sum4, ← HE.out, ← WL_hi] at hb5
            have BK7 := Hide.mk hb5
            have HO5 := Hide.mk ho5
            clear hb5 ho5
            refine Plan.plan_nil ?_
            clear hS1 hS2 hS3 hS4 hS5
            go_wp2_with fail
            go_roundw
            case rel => exact ⟨n + 16 + 1, by omega, by go_num, by rw [show n + 16 + 1 = n + 1 + 16 by omega]; exact BK7.out, HO5.out.blk (blk_of_heap HHv4.out BK5z.out) (by omega), HO5.out.blk (blk_of_heap HHv4.out BK2z.out) (by omega), HO5.out.blk (blk_of_heap HHv4.out BK3z.out) (by omega), HO5.out.below HBv4.out GEg7⟩
            case measure => simp [intOf]; omega
          · obtain rfl : n = 48 := by omega
            rw [show ((48 : Nat) : Int) + 16 = 64 from rfl]
            have HRE2 : Hide ((rounds ks (WL bs 64) s 64).list = rl) := ⟨by rw [show (64 : Nat) = 48 + 16 from rfl, WL_hi]; exact HRE.out⟩
            rw [← WL_hi, show (48 + 16 : Nat) = 64 from rfl] at BK7
            have HWL : Hide ((WL bs 64).length = 64) := ⟨by rw [show (64 : Nat) = 48 + 16 from rfl, WL_hi, sch_len, wi_len]⟩
            rw [← HRE2.out] at BK5
            clear BK3 HRE2 hlt hln hi HRE
            go_wp2_with fail
            refine (words16 _).mono ?_
            rintro e w8 ⟨rfl, hb⟩
            have HB8 := Hide.mk (below_step HB.out hb)
            have BK78 := Hide.mk (blk_below BK7.out hb)
            have BK58 := Hide.mk (blk_below BK5.out hb)
            have BK28 := Hide.mk (blk_below BK2.out hb)
            clear hb HB BK7 BK5 BK2
            go_wp2_with (first | ((with_reducible refine gate_dst (N := 11) rfl ?_); refine box_event ?hg (N := 11) ?hd (cs := ia .u32 (List.replicate 64 0)) (t := 39) ?hr ?_; (case hd => rfl); (case hg => rfl); (case hr => kernel_rfl); intro g11 hg w11 hbox hb; have Lg7g11 : g7 < g11 := (by rw [hg]; exact blk_lt BK78.out); have Lg5g11 : g5 < g11 := (by rw [hg]; exact blk_lt BK58.out); have Lg2g11 : g2 < g11 := (by rw [hg]; exact blk_lt BK28.out); have BKg11 := Hide.mk hbox; have HB11 := Hide.mk (below_step HB8.out hb); have GEg11 : w.heap.size ≤ g11 := (by rw [hg]; exact HB8.out.size); clear HB8; have BK78' := Hide.mk (blk_below BK78.out hb); clear BK78; have BK78 := BK78'; clear BK78'; have BK58' := Hide.mk (blk_below BK58.out hb); clear BK58; have BK58 := BK58'; clear BK58'; have BK28' := Hide.mk (blk_below BK28.out hb); clear BK28; have BK28 := BK28'; clear BK28'; clear hbox hb hg) | ((with_reducible refine gate_store (p := 11) (v := .tmp 103) rfl ?_); go_must (refine store_row rfl rfl 39 (.tmp 11) (.tmp 103) rfl g11 rfl (ia .u32 ks) rfl (ia_one _ _) (by rw [ia_size, ks_len]; kernel_rfl) _ _ BKg11.out (by rw [ia_size, ia_size, ks_len]; rfl) ?_); intro w9 hb ho; have BKg11' := Hide.mk hb; have HB11' := Hide.mk (ho.below HB11.out GEg11); clear BKg11 HB11; have BKg11 := BKg11'; have HB11 := HB11'; clear BKg11' HB11'; have BK78' := Hide.mk (ho.blk BK78.out (by omega)); clear BK78; have BK78 := BK78'; clear BK78'; have BK58' := Hide.mk (ho.blk BK58.out (by omega)); clear BK58; have BK58 := BK58'; clear BK58'; have BK28' := Hide.mk (ho.blk BK28.out (by omega)); clear BK28; have BK28 := BK28'; clear BK28'; clear hb ho))
            go_loopw [12] (fun t wr => ∃ n : Nat, n ≤ 64 ∧ t = .int .i64 ((n : Int) - 1) ∧ wr.heap[g5]? = some (.cells (ia .u32 (rounds ks (WL bs 64) s n).list) 23 (0, 0)) ∧ wr.heap[g7]? = some (.cells (ia .u32 (WL bs 64)) 39 (0, 0)) ∧ wr.heap[g11]? = some (.cells (ia .u32 ks) 39 (0, 0)) ∧ wr.heap[g2]? = some (.cells (ia .u32 s.list) 23 (0, 0)) ∧ Below w.heap.size w wr) (fun t _ => ((intOf t) + 1).toNat)
            case atStart => exact ⟨64, Nat.le_refl _, rfl, BK58.out, BK78.out, BKg11.out, BK28.out, HB11.out⟩
            case round =>
              clear BK58 BK78 BKg11 BK28 HB11
              obtain ⟨n, hn, rfl, h5, h7, h11, h2, hb⟩ := hrel
              have BK5 := Hide.mk h5
              have BK7 := Hide.mk h7
              have BK11 := Hide.mk h11
              have BK2 := Hide.mk h2
              have HB := Hide.mk hb
              clear h5 h7 h11 h2 hb
              rcases n with _ | m
              · rw [show (((0 : Nat) : Int) - 1) = -1 from rfl]
                go_wp2_with fail
                refine (alive_any _).mono ?_
                rintro e w12 ⟨rfl, hb⟩
                have HB12 := Hide.mk (below_step HB.out hb)
                have BK512 := Hide.mk (blk_below BK5.out hb)
                have BK212 := Hide.mk (blk_below BK2.out hb)
                clear hb HB BK5 BK2
                have hdd : decide (s.list = s.list) = true := by simp
                go_wp2_with (first | ((with_reducible refine gate_dst (N := 119) rfl ?_); go_must (refine event_g rfl (load_row_eq 23 (.tmp 5) rfl g5 rfl 23 (ia .u32 s.list) (0, 0) _ BK512.out Try.underlying23 rfl (by kernel_rfl)) ?_)) | ((with_reducible refine gate_dst (N := 120) rfl ?_); go_must (refine event_g rfl (load_row_eq 23 (.tmp 2) rfl g2 rfl 23 (ia .u32 s.list) (0, 0) _ BK212.out Try.underlying23 rfl (by kernel_rfl)) ?_)) | ((with_reducible refine gate_dst (N := 121) rfl ?_); go_must (refine event_g rfl (eqArr23 rfl rfl rfl rfl rfl) ?_)))
                go_ret
                exact ⟨rfl, HB12.out⟩
              · rw [show (((m + 1 : Nat) : Int) - 1) = (m : Int) from by omega]
                have hd : decide ((0 : Int) ≤ (m : Int)) = true := by simp
                have hm0 : (0 : Int) ≤ (m : Int) := Int.natCast_nonneg _
                have hm1 : (m : Int) < 64 := by omega
                have f1 : IntKind.i64.wrap ((m : Int) - 1) = (m : Int) - 1 := IntWalk.i64_in _ (by omega)
                have ck : wr.cell? ⟨g11, m, none⟩ = some (.int .u32 (ks.getD m 0)) := (blk_cell BK11.out _).trans (ia_get _ _ _ (by rw [ks_len]; omega))
                have cw : wr.cell? ⟨g7, m, none⟩ = some (.int .u32 ((WL bs 64).getD m 0)) := (blk_cell BK7.out _).trans (ia_get _ _ _ (by rw [HWL.out]; omega))
                have HBW : Hide (backL (rounds ks (WL bs 64) s (m + 1)) (IntKind.u32.wrap (ks.getD m 0 + (WL bs 64).getD m 0)) = (rounds ks (WL bs 64) s m).list) := ⟨back_wrap (rounds_ok _ _ HS.out m) _ _⟩
                generalize ks.getD m 0 = kv at ck HBW
                generalize (WL bs 64).getD m 0 = wv at cw HBW
                go_wp2_with fail
                refine Plan.region_plan (fun w' => w'.heap[g5]? = some (.cells (ia .u32 (rounds ks (WL bs 64) s (m + 1)).list) 23 (0, 0)) ∧ w'.cell? ⟨g11, m, none⟩ = some (.int .u32 kv) ∧ w'.cell? ⟨g7, m, none⟩ = some (.int .u32 wv)) [9] [(0, 0, some 108), (1, 0, some 109), (2, 0, some 110), (3, 0, some 111), (4, 0, some 112), (5, 0, some 113), (6, 0, some 114), (7, 0, some 115), (8, 1, some 116), (9, 2, none)] (by kernel_rfl) (by kernel_rfl) (by decide) ⟨blk_drew BK5.out, ck, cw⟩ (fun wz ewz hS => ?_)
                have HBz := Hide.mk (below_of_drew ewz HB.out)
                have BK7z := Hide.mk (blk_of_drew ewz BK7.out)
                have BK11z := Hide.mk (blk_of_drew ewz BK11.out)
                have BK2z := Hide.mk (blk_of_drew ewz BK2.out)
                clear ewz ck cw HB BK7 BK11 BK2
                (repeat (first | (refine Plan.plan_take (v := ?_) (a' := ?_) rfl ?_ ?_ ?_ ?_; rotate_left 2; (· rfl); (· (intro w' hs; go_simp; with_reducible rfl)); (· (simp only [Act.put, List.setIfInBounds_toArray, List.set_cons_zero, List.set_cons_succ]; rfl))) | (refine Plan.plan_skip (a' := ?_) rfl ?_ ?_ ?_; rotate_left 1; (· rfl); (· (simp only [Act.put, List.setIfInBounds_toArray, List.set_cons_zero, List.set_cons_succ]; rfl))) | (refine Plan.plan_pure (v := ?_) (a' := ?_) rfl ?_ ?_ ?_ ?_; rotate_left 2; (· rfl); (· (intro w'; go_simp; with_reducible rfl)); (· (simp only [Act.put, List.setIfInBounds_toArray, List.set_cons_zero, List.set_cons_succ]; rfl)))))
                refine Plan.plan_load_row (a' := ?_) rfl rfl 23 (.tmp 5) rfl g5 rfl 23 (ia .u32 (rounds ks (WL bs 64) s (m + 1)).list) (0, 0) _ (fun _ h => h.1) Try.underlying23 rfl (by kernel_rfl) ?_ ?_
                rotate_left
                · simp only [Act.put, List.setIfInBounds_toArray, List.set_cons_zero, List.set_cons_succ]
                  rfl
                (repeat (first | (refine Plan.plan_take (v := ?_) (a' := ?_) rfl ?_ ?_ ?_ ?_; rotate_left 2; (· rfl); (· (intro w' hs; go_simp; with_reducible rfl)); (· (simp only [Act.put, List.setIfInBounds_toArray, List.set_cons_zero, List.set_cons_succ]; rfl))) | (refine Plan.plan_skip (a' := ?_) rfl ?_ ?_ ?_; rotate_left 1; (· rfl); (· (simp only [Act.put, List.setIfInBounds_toArray, List.set_cons_zero, List.set_cons_succ]; rfl))) | (refine Plan.plan_pure (v := ?_) (a' := ?_) rfl ?_ ?_ ?_ ?_; rotate_left 2; (· rfl); (· (intro w'; go_simp; with_reducible rfl)); (· (simp only [Act.put, List.setIfInBounds_toArray, List.set_cons_zero, List.set_cons_succ]; rfl)))))
                refine Plan.plan_call rfl Try.func17 (by kernel_rfl) rfl #[.agg (ia .u32 (rounds ks (WL bs 64) s (m + 1)).list), .int .u32 (IntKind.u32.wrap (kv + wv))] rfl rfl rfl (by (try simp only [List.map_toArray, List.map_cons, List.map_nil]); rfl) ?_
                refine (back_any (rounds ks (WL bs 64) s (m + 1)) (IntKind.u32.wrap (kv + wv)) _).mono ?_
                rintro e w13 ⟨rfl, hb13⟩
                have HB13 := Hide.mk (below_step HBz.out hb13)
                have BK713 := Hide.mk (blk_below BK7z.out hb13)
                have BK1113 := Hide.mk (blk_below BK11z.out hb13)
                have BK213 := Hide.mk (blk_below BK2z.out hb13)
                have hS2 : w13.heap[g5]? = some (.cells (ia .u32 (rounds ks (WL bs 64) s (m + 1)).list) 23 (0, 0)) ∧ w13.cell? ⟨g11, m, none⟩ = some (.int .u32 kv) ∧ w13.cell? ⟨g7, m, none⟩ = some (.int .u32 wv) := ⟨blk_below hS.1 hb13, (hb13.cell (p := ⟨g11, m, none⟩) (blk_lt BK11z.out)).trans hS.2.1, (hb13.cell (p := ⟨g7, m, none⟩) (blk_lt BK7z.out)).trans hS.2.2⟩
                refine ⟨_, rfl, hS2, ?_⟩
                clear HBz BK7z BK11z BK2z hb13
                intro a' ha
                simp only [Act.put, List.setIfInBounds_toArray, List.set_cons_zero, List.set_cons_succ] at ha
                subst ha
                rw [HBW.out]
                (repeat (first | (refine Plan.plan_take (v := ?_) (a' := ?_) rfl ?_ ?_ ?_ ?_; rotate_left 2; (· rfl); (· (intro w' hs; go_simp; with_reducible rfl)); (· (simp only [Act.put, List.setIfInBounds_toArray, List.set_cons_zero, List.set_cons_succ]; rfl))) | (refine Plan.plan_skip (a' := ?_) rfl ?_ ?_ ?_; rotate_left 1; (· rfl); (· (simp only [Act.put, List.setIfInBounds_toArray, List.set_cons_zero, List.set_cons_succ]; rfl))) | (refine Plan.plan_pure (v := ?_) (a' := ?_) rfl ?_ ?_ ?_ ?_; rotate_left 2; (· rfl); (· (intro w'; go_simp; with_reducible rfl)); (· (simp only [Act.put, List.setIfInBounds_toArray, List.set_cons_zero, List.set_cons_succ]; rfl)))))
                refine Plan.plan_last_row rfl rfl rfl 23 (.tmp 5) (.tmp 116) rfl g5 rfl (ia .u32 (rounds ks (WL bs 64) s m).list) rfl (ia_one _ _) (by kernel_rfl) _ _ hS2.1 rfl ?_
                intro w14 hb14 ho14
                have BK514 := Hide.mk hb14
                have HO14 := Hide.mk ho14
                clear hb14 ho14
                refine Plan.plan_nil ?_
                clear hS hS2
                go_wp2_with fail
                go_roundw
                case rel => exact ⟨m, by omega, rfl, BK514.out, HO14.out.blk BK713.out (by omega), HO14.out.blk BK1113.out (by omega), HO14.out.blk BK213.out (by omega), HO14.out.below HB13.out GEg5⟩
                case measure => (simp [intOf] <;> omega)
end Go.Proofs.Ythgklggcdnocdaa.Sh
