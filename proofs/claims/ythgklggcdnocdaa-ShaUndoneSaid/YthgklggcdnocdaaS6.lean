/- The walk of a state, a block further. -/
import Derived.Test.YthgklggcdnocdaaS5
import Derived.Test.YthgklggcdnocdaaKStep
import Derived.Deep.DeepMust
namespace Go.Proofs.Ythgklggcdnocdaa.Sh
open Go.RowKit Go.Proofs.YthgklggcdnocdaaW.PrintWords Go.Proofs.YthgklggcdnocdaaW.PrintLast Go.Proofs.YthgklggcdnocdaaW.PrintMore Mem
set_option linter.unusedVariables false
set_option linter.unusedSimpArgs false
theorem index8 (a b c d e f g h : Int) (k : Nat) (hk : k < 8) (w : World) : (Instr.index 23 (.agg #[.int .u32 a, .int .u32 b, .int .u32 c, .int .u32 d, .int .u32 e, .int .u32 f, .int .u32 g, .int .u32 h]) (.int .i64 (k : Int))).run Try.prog w = .ok (.int .u32 ([a, b, c, d, e, f, g, h].getD k 0)) w := by
  match k, hk with
  | 0, _ => rfl
  | 1, _ => rfl
  | 2, _ => rfl
  | 3, _ => rfl
  | 4, _ => rfl
  | 5, _ => rfl
  | 6, _ => rfl
  | 7, _ => rfl
theorem mix_set (nl l : List Int) (k : Nat) (x : Int) (h : nl.length = l.length) (hk : k < l.length) (hx : nl.getD k 0 = x) : (nl.take k ++ l.drop k).set k x = nl.take (k + 1) ++ l.drop (k + 1) := by
  have h1 : (nl.take k).length = k := by simp; omega
  rw [List.set_append_right _ _ (by omega), h1, Nat.sub_self, List.take_succ_eq_append_getElem (by omega)]
  have h3 : nl[k]'(by omega) = x := by rw [← hx, List.getD_eq_getElem?_getD, List.getElem?_eq_getElem (by omega)]; rfl
  have h4 : (l.drop k).set 0 x = x :: l.drop (k + 1) := by rw [List.drop_eq_getElem_cons hk]; rfl
  rw [h3, h4]
  simp
theorem mix_get (nl l : List Int) (k : Nat) (h : nl.length = l.length) (hk : k < l.length) : (nl.take k ++ l.drop k).getD k 0 = l.getD k 0 := by
  have h1 : (nl.take k).length = k := by simp; omega
  rw [List.getD_eq_getElem?_getD, List.getD_eq_getElem?_getD, List.getElem?_append_right (by omega), h1, Nat.sub_self]
  simp
theorem new8 (s r : S8) (k : Nat) (hk : k < 8) : [w32 (s.a + r.a), w32 (s.b + r.b), w32 (s.c + r.c), w32 (s.d + r.d), w32 (s.e + r.e), w32 (s.f + r.f), w32 (s.g + r.g), w32 (s.h + r.h)].getD k 0 = w32 (s.list.getD k 0 + r.list.getD k 0) := by
  match k, hk with
  | 0, _ => rfl
  | 1, _ => rfl
  | 2, _ => rfl
  | 3, _ => rfl
  | 4, _ => rfl
  | 5, _ => rfl
  | 6, _ => rfl
  | 7, _ => rfl
set_option maxHeartbeats 4000000 in
set_option maxRecDepth 100000 in
theorem further_any (s : S8) (bs : List Int) (A : Addr) (c gk : Nat) (w : World) (hb : Bytes bs) (hr : ReadsInt w .u8 (some A) 64 bs) (hk : w.heap[gk]? = some (.cells (ia .u32 ks) 39 (0, 0))) :
    Calls Try.prog 19 #[.agg (ia .u32 s.list), .slice (some A) 64 c, .pointer (some ⟨gk, 0, none⟩)] w fun e w' => e = .returned (.agg (ia .u32 (blockF s bs).list)) ∧ Below w.heap.size w w' := by
  have HR := Hide.mk hr
  have HK := Hide.mk hk
  have HBy := Hide.mk hb
  have HL : Hide (bs.length = 64) := ⟨hr.1⟩
  have LK : gk < w.heap.size := blk_lt hk
  have LA : A.block < w.heap.size := by
    obtain ⟨ad, e, hc⟩ := hr.2.2 (by decide)
    cases e
    have := World.block_lt_of_cell? w _ (hc 0 (by decide))
    rwa [add_block] at this
  clear hr hk hb
  go_enter Try.func19, Try.ntmps19
  go_wp2_with (first | ((with_reducible refine gate_dst (N := 3) rfl ?_); refine box_event ?hg (N := 3) ?hd (cs := ia .u32 s.list) (t := 23) ?hr ?_; (case hd => rfl); (case hg => rfl); (case hr => kernel_rfl); intro g3 hg w1 hbox hb; have BK3 := Hide.mk hbox; have HB1 := Hide.mk hb; have GE3 : w.heap.size ≤ g3 := (by rw [hg]; exact Nat.le_refl _); clear hbox hb hg) | ((with_reducible refine gate_dst (N := 6) rfl ?_); refine box_event ?hg (N := 6) ?hd (cs := ia .u32 (List.replicate 8 0)) (t := 23) ?hr ?_; (case hd => rfl); (case hg => rfl); (case hr => kernel_rfl); intro g6 hg w2 hbox hb; have L36 : g3 < g6 := (by rw [hg]; exact blk_lt BK3.out); have BK6 := Hide.mk hbox; have HB2 := Hide.mk (below_step HB1.out hb); have BK3' := Hide.mk (blk_below BK3.out hb); clear BK3 HB1; have BK3 := BK3'; clear BK3' hbox hb hg) | ((with_reducible refine gate_dst (N := 7) rfl ?_); refine box_event ?hg (N := 7) ?hd (cs := ia .u32 (List.replicate 64 0)) (t := 39) ?hr ?_; (case hd => rfl); (case hg => rfl); (case hr => kernel_rfl); intro g7 hg w3 hbox hb; have L67 : g6 < g7 := (by rw [hg]; exact blk_lt BK6.out); have BK7 := Hide.mk hbox; have HB3 := Hide.mk (below_step HB2.out hb); have BK3' := Hide.mk (blk_below BK3.out hb); have BK6' := Hide.mk (blk_below BK6.out hb); clear BK3 BK6 HB2; have BK3 := BK3'; have BK6 := BK6'; clear BK3' BK6' hbox hb hg))
  go_loopw [28] (fun t wr => ∃ i : Nat, i ≤ 64 ∧ t = .int .i64 i ∧ wr.heap[g7]? = some (.cells (ia .u32 (wi bs i)) 39 (0, 0)) ∧ wr.heap[g3]? = some (.cells (ia .u32 s.list) 23 (0, 0)) ∧ wr.heap[g6]? = some (.cells (ia .u32 (List.replicate 8 0)) 23 (0, 0)) ∧ Below w.heap.size w wr) (fun t _ => 64 - (intOf t).toNat)
  case atStart => exact ⟨0, by omega, rfl, by rw [wi_zero]; exact BK7.out, BK3.out, BK6.out, HB3.out⟩
  case round =>
    clear BK3 BK6 BK7 HB3
    obtain ⟨i, hi, rfl, h7, h3, h6, hbel⟩ := hrel
    have BK7 := Hide.mk h7
    have BK3 := Hide.mk h3
    have BK6 := Hide.mk h6
    have HB := Hide.mk hbel
    clear h7 h3 h6 hbel
    by_cases hlt : i < 64
    · obtain ⟨ad, had, hcell⟩ := HR.out.2.2 (by decide)
      cases had
      have hc : wr.cell? (A.add i) = some (.int .u8 (bs.getD i 0)) := (HB.out.cell (p := A.add i) (by rw [add_block]; exact LA)).trans (hcell i hlt)
      clear hcell
      have hcr := HBy.out (bs.getD i 0) (by rw [List.getD_eq_getElem?_getD, List.getElem?_eq_getElem (by rw [HL.out]; exact hlt)]; exact List.getElem_mem _)
      have hq4 : i / 4 < 64 := by omega
      have hx : wr.cell? ⟨g7, i / 4, none⟩ = some (.int .u32 ((wi bs i).getD (i / 4) 0)) := (blk_cell BK7.out _).trans (ia_get _ _ _ (by rw [wi_len]; exact hq4))
      have hxr := wi_room bs HBy.out i hlt
      have HE := Hide.mk (wi_step bs i (by rw [HL.out]; exact hlt) HL.out)
      have HO := Hide.mk (shl_or ((wi bs i).getD (i / 4) 0) (bs.getD i 0) hxr.1 hxr.2 hcr.1 hcr.2)
      generalize (wi bs i).getD (i / 4) 0 = x at hx hxr HE HO
      generalize bs.getD i 0 = cc at hc hcr HE HO
      go_wp2_with ((with_reducible refine gate_store (p := 43) (v := .tmp 42) rfl ?_); refine store_cell rfl rfl 22 (.tmp 43) (.tmp 42) rfl g7 (i / 4) rfl (.int .u32 (bits .or .u32 (x * 256) cc)) rfl rfl rfl (by kernel_rfl) _ _ BK7.out ?hlt ?_; (case hlt => rw [ia_size, wi_len]; exact hq4); intro w4 hb4 ho4; rw [ia_set, HO.out, ← HE.out] at hb4; have BK4 := Hide.mk hb4; have HO4 := Hide.mk ho4; clear hb4 ho4)
      go_roundw
      case rel => exact ⟨i + 1, by omega, by go_num, BK4.out, HO4.out.blk BK3.out (by omega), HO4.out.blk BK6.out (by omega), HO4.out.below HB.out (by omega)⟩
      case measure => simp [intOf]; omega
    · obtain rfl : i = 64 := by omega
      clear hi hlt
      simp only [show ((64 : Nat) : Int) = 64 from rfl]
      go_wp2_with fail
      go_loopw [10] (fun t wr => ∃ n : Nat, n ≤ 48 ∧ t = .int .i64 ((n : Int) + 16) ∧ wr.heap[g7]? = some (.cells (ia .u32 (sch (wi bs 64) n)) 39 (0, 0)) ∧ wr.heap[g3]? = some (.cells (ia .u32 s.list) 23 (0, 0)) ∧ wr.heap[g6]? = some (.cells (ia .u32 (List.replicate 8 0)) 23 (0, 0)) ∧ Below w.heap.size w wr) (fun t _ => 64 - (intOf t).toNat)
      case atStart => exact ⟨0, by omega, rfl, BK7.out, BK3.out, BK6.out, HB.out⟩
      case round =>
        clear BK3 BK6 BK7 HB
        obtain ⟨n, hn, rfl, h7, h3, h6, hbel⟩ := hrel
        have BK7 := Hide.mk h7
        have BK3 := Hide.mk h3
        have BK6 := Hide.mk h6
        have HB := Hide.mk hbel
        clear h7 h3 h6 hbel
        have HLn := Hide.mk (show (sch (wi bs 64) n).length = 64 by rw [sch_len, wi_len])
        by_cases hlt : n < 48
        · have cx : wr.cell? ⟨g7, n + 14, none⟩ = some (.int .u32 ((sch (wi bs 64) n).getD (n + 14) 0)) := (blk_cell BK7.out _).trans (ia_get _ _ _ (by rw [HLn.out]; omega))
          have cy : wr.cell? ⟨g7, n + 1, none⟩ = some (.int .u32 ((sch (wi bs 64) n).getD (n + 1) 0)) := (blk_cell BK7.out _).trans (ia_get _ _ _ (by rw [HLn.out]; omega))
          have c9 : wr.cell? ⟨g7, n + 9, none⟩ = some (.int .u32 ((sch (wi bs 64) n).getD (n + 9) 0)) := (blk_cell BK7.out _).trans (ia_get _ _ _ (by rw [HLn.out]; omega))
          have c0 : wr.cell? ⟨g7, n, none⟩ = some (.int .u32 ((sch (wi bs 64) n).getD n 0)) := (blk_cell BK7.out _).trans (ia_get _ _ _ (by rw [HLn.out]; omega))
          have HE : Hide (sch (wi bs 64) (n + 1) = (sch (wi bs 64) n).set (n + 16) (w32 (w32 (w32 ((sch (wi bs 64) n).getD (n + 9) 0 + (sch (wi bs 64) n).getD n 0) + s1 ((sch (wi bs 64) n).getD (n + 14) 0)) + s0 ((sch (wi bs 64) n).getD (n + 1) 0)))) := ⟨rfl⟩
          generalize (sch (wi bs 64) n).getD (n + 14) 0 = x at cx HE
          generalize (sch (wi bs 64) n).getD (n + 1) 0 = y at cy HE
          generalize (sch (wi bs 64) n).getD (n + 9) 0 = p9 at c9 HE
          generalize (sch (wi bs 64) n).getD n 0 = p0 at c0 HE
          have hb1 : (0 : Int) ≤ (n : Int) := Int.natCast_nonneg _
          have hb2 : (n : Int) < 48 := by omega
          have hb3 : decide ((n : Int) + 16 < 64) = true := by simp; omega
          have e2 : IntKind.i64.wrap ((n : Int) + 16 - 2) = (n : Int) + 14 := by rw [IntWalk.i64_in _ (by omega)]; omega
          have e15 : IntKind.i64.wrap ((n : Int) + 16 - 15) = (n : Int) + 1 := by rw [IntWalk.i64_in _ (by omega)]; omega
          have e7 : IntKind.i64.wrap ((n : Int) + 16 - 7) = (n : Int) + 9 := by rw [IntWalk.i64_in _ (by omega)]; omega
          have e16 : IntKind.i64.wrap ((n : Int) + 16 - 16) = (n : Int) := by rw [IntWalk.i64_in _ (by omega)]; exact Int.add_sub_cancel _ _
          have e16' : IntKind.i64.wrap (n : Int) = (n : Int) := IntWalk.i64_in _ (by omega)
          have l0 : (n : Int) < 64 := by omega
          have t14 : ((n : Int) + 14).toNat = n + 14 := by omega
          have t1 : ((n : Int) + 1).toNat = n + 1 := by omega
          have t9 : ((n : Int) + 9).toNat = n + 9 := by omega
          have t16 : ((n : Int) + 16).toNat = n + 16 := by omega
          have l14 : 0 ≤ (n : Int) + 14 ∧ (n : Int) + 14 < 64 := by omega
          have l1 : 0 ≤ (n : Int) + 1 ∧ (n : Int) + 1 < 64 := by omega
          have l9 : 0 ≤ (n : Int) + 9 ∧ (n : Int) + 9 < 64 := by omega
          have l16 : 0 ≤ (n : Int) + 16 ∧ (n : Int) + 16 < 64 := by omega
          go_wp2_with fail
          refine Plan.region_plan (fun w' => w'.cell? ⟨g7, n + 14, none⟩ = some (.int .u32 x) ∧ w'.cell? ⟨g7, n + 1, none⟩ = some (.int .u32 y)) [] [(0, 0, some 49), (1, 0, some 50), (2, 0, some 51), (3, 0, some 52), (4, 0, some 53), (5, 0, some 54), (6, 0, some 55), (7, 0, some 56), (8, 0, some 11), (9, 0, some 12)] (by kernel_rfl) (by kernel_rfl) (by decide) ⟨cx, cy⟩ (fun wz ewz hS => ?_)
          (repeat (first | (refine Plan.plan_take (v := ?_) (a' := ?_) rfl ?_ ?_ ?_ ?_; rotate_left 2; (· rfl); (· (intro w' hs; go_simp; with_reducible rfl)); (· (simp only [Act.put, List.setIfInBounds_toArray, List.set_cons_zero, List.set_cons_succ]; rfl))) | (refine Plan.plan_skip (a' := ?_) rfl ?_ ?_ ?_; rotate_left 1; (· rfl); (· (simp only [Act.put, List.setIfInBounds_toArray, List.set_cons_zero, List.set_cons_succ]; rfl))) | (refine Plan.plan_pure (v := ?_) (a' := ?_) rfl ?_ ?_ ?_ ?_; rotate_left 2; (· rfl); (· (intro w'; go_simp; with_reducible rfl)); (· (simp only [Act.put, List.setIfInBounds_toArray, List.set_cons_zero, List.set_cons_succ]; rfl)))))
          refine Plan.plan_nil ?_
          clear hS
          have HBz := Hide.mk (below_of_drew ewz HB.out)
          have BK7z := Hide.mk (blk_of_drew ewz BK7.out)
          have BK3z := Hide.mk (blk_of_drew ewz BK3.out)
          have BK6z := Hide.mk (blk_of_drew ewz BK6.out)
          have c9z := cell_of_drew ewz c9
          have c0z := cell_of_drew ewz c0
          clear ewz cx cy c9 c0 BK3 BK6 BK7 HB
          go_wp2_with fail
          refine Plan.region_plan (fun w' => w'.cell? ⟨g7, n + 9, none⟩ = some (.int .u32 p9) ∧ w'.cell? ⟨g7, n, none⟩ = some (.int .u32 p0)) [29] [(0, 0, some 57), (1, 0, some 58), (2, 0, some 59), (3, 0, some 60), (4, 0, some 61), (5, 0, some 62), (6, 0, some 63), (7, 0, some 64), (8, 0, some 65), (9, 0, some 66), (10, 0, some 67), (12, 0, some 69), (15, 0, some 72), (16, 0, some 73), (19, 0, some 76), (21, 0, some 78), (24, 0, some 81), (25, 0, some 82), (11, 1, some 68), (13, 1, some 70), (14, 0, some 71), (17, 0, some 74), (18, 0, some 75), (20, 1, some 77), (22, 1, some 79), (23, 0, some 80), (26, 0, some 83), (27, 0, some 84), (28, 0, some 85), (29, 2, none)] (by kernel_rfl) (by kernel_rfl) (by decide) ⟨c9z, c0z⟩ (fun wy ewy hS1 => ?_)
          have eWY := Hide.mk ewy
          clear ewy
          (repeat (first | (refine Plan.plan_take (v := ?_) (a' := ?_) rfl ?_ ?_ ?_ ?_; rotate_left 2; (· rfl); (· (intro w' hs; go_simp; with_reducible rfl)); (· (simp only [Act.put, List.setIfInBounds_toArray, List.set_cons_zero, List.set_cons_succ]; rfl))) | (refine Plan.plan_skip (a' := ?_) rfl ?_ ?_ ?_; rotate_left 1; (· rfl); (· (simp only [Act.put, List.setIfInBounds_toArray, List.set_cons_zero, List.set_cons_succ]; rfl))) | (refine Plan.plan_pure (v := ?_) (a' := ?_) rfl ?_ ?_ ?_ ?_; rotate_left 2; (· rfl); (· (intro w'; go_simp; with_reducible rfl)); (· (simp only [Act.put, List.setIfInBounds_toArray, List.set_cons_zero, List.set_cons_succ]; rfl)))))
          have HBwy := Hide.mk (below_of_drew eWY.out HBz.out)
          have HHwy := Hide.mk (show wy.heap = wz.heap by rw [eWY.out]; rfl)
          refine Plan.plan_call rfl Try.func29 (by kernel_rfl) rfl #[.int .u32 x, .int .i64 (-17)] rfl rfl rfl (by (try simp only [List.map_toArray, List.map_cons, List.map_nil]); rfl) ?_
          refine (rot x (-17) 17 (by decide) (by decide) rfl _).mono ?_
          rintro e v1 ⟨rfl, hdv1⟩
          have HBv1 := Hide.mk (below_step HBwy.out hdv1.below)
          have HHv1 := Hide.mk ((drawn_heap hdv1).trans HHwy.out)
          have hS2 : v1.cell? ⟨g7, n + 9, none⟩ = some (.int .u32 p9) ∧ v1.cell? ⟨g7, n, none⟩ = some (.int .u32 p0) := by obtain ⟨⟨nd, rfl⟩⟩ := hdv1; exact hS1
          clear hdv1 HBwy HHwy
          refine ⟨_, rfl, hS2, ?_⟩
          intro a' ha
          simp only [Act.put, List.setIfInBounds_toArray, List.set_cons_zero, List.set_cons_succ] at ha
          subst ha
          (repeat (first | (refine Plan.plan_take (v := ?_) (a' := ?_) rfl ?_ ?_ ?_ ?_; rotate_left 2; (· rfl); (· (intro w' hs; go_simp; with_reducible rfl)); (· (simp only [Act.put, List.setIfInBounds_toArray, List.set_cons_zero, List.set_cons_succ]; rfl))) | (refine Plan.plan_skip (a' := ?_) rfl ?_ ?_ ?_; rotate_left 1; (· rfl); (· (simp only [Act.put, List.setIfInBounds_toArray, List.set_cons_zero, List.set_cons_succ]; rfl))) | (refine Plan.plan_pure (v := ?_) (a' := ?_) rfl ?_ ?_ ?_ ?_; rotate_left 2; (· rfl); (· (intro w'; go_simp; with_reducible rfl)); (· (simp only [Act.put, List.setIfInBounds_toArray, List.set_cons_zero, List.set_cons_succ]; rfl)))))
          refine Plan.plan_call rfl Try.func29 (by kernel_rfl) rfl #[.int .u32 x, .int .i64 (-19)] rfl rfl rfl (by (try simp only [List.map_toArray, List.map_cons, List.map_nil]); rfl) ?_
          refine (rot x (-19) 19 (by decide) (by decide) rfl _).mono ?_
          rintro e v2 ⟨rfl, hdv2⟩
          have HBv2 := Hide.mk (below_step HBv1.out hdv2.below)
          have HHv2 := Hide.mk ((drawn_heap hdv2).trans HHv1.out)
          have hS3 : v2.cell? ⟨g7, n + 9, none⟩ = some (.int .u32 p9) ∧ v2.cell? ⟨g7, n, none⟩ = some (.int .u32 p0) := by obtain ⟨⟨nd, rfl⟩⟩ := hdv2; exact hS2
          clear hdv2 HBv1 HHv1
          refine ⟨_, rfl, hS3, ?_⟩
          intro a' ha
          simp only [Act.put, List.setIfInBounds_toArray, List.set_cons_zero, List.set_cons_succ] at ha
          subst ha
          (repeat (first | (refine Plan.plan_take (v := ?_) (a' := ?_) rfl ?_ ?_ ?_ ?_; rotate_left 2; (· rfl); (· (intro w' hs; go_simp; with_reducible rfl)); (· (simp only [Act.put, List.setIfInBounds_toArray, List.set_cons_zero, List.set_cons_succ]; rfl))) | (refine Plan.plan_skip (a' := ?_) rfl ?_ ?_ ?_; rotate_left 1; (· rfl); (· (simp only [Act.put, List.setIfInBounds_toArray, List.set_cons_zero, List.set_cons_succ]; rfl))) | (refine Plan.plan_pure (v := ?_) (a' := ?_) rfl ?_ ?_ ?_ ?_; rotate_left 2; (· rfl); (· (intro w'; go_simp; with_reducible rfl)); (· (simp only [Act.put, List.setIfInBounds_toArray, List.set_cons_zero, List.set_cons_succ]; rfl)))))
          refine Plan.plan_call rfl Try.func29 (by kernel_rfl) rfl #[.int .u32 y, .int .i64 (-7)] rfl rfl rfl (by (try simp only [List.map_toArray, List.map_cons, List.map_nil]); rfl) ?_
          refine (rot y (-7) 7 (by decide) (by decide) rfl _).mono ?_
          rintro e v3 ⟨rfl, hdv3⟩
          have HBv3 := Hide.mk (below_step HBv2.out hdv3.below)
          have HHv3 := Hide.mk ((drawn_heap hdv3).trans HHv2.out)
          have hS4 : v3.cell? ⟨g7, n + 9, none⟩ = some (.int .u32 p9) ∧ v3.cell? ⟨g7, n, none⟩ = some (.int .u32 p0) := by obtain ⟨⟨nd, rfl⟩⟩ := hdv3; exact hS3
          clear hdv3 HBv2 HHv2
          refine ⟨_, rfl, hS4, ?_⟩
          intro a' ha
          simp only [Act.put, List.setIfInBounds_toArray, List.set_cons_zero, List.set_cons_succ] at ha
          subst ha
          (repeat (first | (refine Plan.plan_take (v := ?_) (a' := ?_) rfl ?_ ?_ ?_ ?_; rotate_left 2; (· rfl); (· (intro w' hs; go_simp; with_reducible rfl)); (· (simp only [Act.put, List.setIfInBounds_toArray, List.set_cons_zero, List.set_cons_succ]; rfl))) | (refine Plan.plan_skip (a' := ?_) rfl ?_ ?_ ?_; rotate_left 1; (· rfl); (· (simp only [Act.put, List.setIfInBounds_toArray, List.set_cons_zero, List.set_cons_succ]; rfl))) | (refine Plan.plan_pure (v := ?_) (a' := ?_) rfl ?_ ?_ ?_ ?_; rotate_left 2; (· rfl); (· (intro w'; go_simp; with_reducible rfl)); (· (simp only [Act.put, List.setIfInBounds_toArray, List.set_cons_zero, List.set_cons_succ]; rfl)))))
          refine Plan.plan_call rfl Try.func29 (by kernel_rfl) rfl #[.int .u32 y, .int .i64 (-18)] rfl rfl rfl (by (try simp only [List.map_toArray, List.map_cons, List.map_nil]); rfl) ?_
          refine (rot y (-18) 18 (by decide) (by decide) rfl _).mono ?_
          rintro e v4 ⟨rfl, hdv4⟩
          have HBv4 := Hide.mk (below_step HBv3.out hdv4.below)
          have HHv4 := Hide.mk ((drawn_heap hdv4).trans HHv3.out)
          have hS5 : v4.cell? ⟨g7, n + 9, none⟩ = some (.int .u32 p9) ∧ v4.cell? ⟨g7, n, none⟩ = some (.int .u32 p0) := by obtain ⟨⟨nd, rfl⟩⟩ := hdv4; exact hS4
          clear hdv4 HBv3 HHv3
          refine ⟨_, rfl, hS5, ?_⟩
          intro a' ha
          simp only [Act.put, List.setIfInBounds_toArray, List.set_cons_zero, List.set_cons_succ] at ha
          subst ha
          (repeat (first | (refine Plan.plan_take (v := ?_) (a' := ?_) rfl ?_ ?_ ?_ ?_; rotate_left 2; (· rfl); (· (intro w' hs; go_simp; with_reducible rfl)); (· (simp only [Act.put, List.setIfInBounds_toArray, List.set_cons_zero, List.set_cons_succ]; rfl))) | (refine Plan.plan_skip (a' := ?_) rfl ?_ ?_ ?_; rotate_left 1; (· rfl); (· (simp only [Act.put, List.setIfInBounds_toArray, List.set_cons_zero, List.set_cons_succ]; rfl))) | (refine Plan.plan_pure (v := ?_) (a' := ?_) rfl ?_ ?_ ?_ ?_; rotate_left 2; (· rfl); (· (intro w'; go_simp; with_reducible rfl)); (· (simp only [Act.put, List.setIfInBounds_toArray, List.set_cons_zero, List.set_cons_succ]; rfl)))))
          refine Plan.plan_last_cell rfl rfl rfl 22 (.tmp 85) (.tmp 84) rfl g7 (n + 16) rfl (.int .u32 (w32 (w32 (w32 (p9 + p0) + s1 x) + s0 y))) rfl rfl rfl (by kernel_rfl) _ _ (blk_of_heap HHv4.out BK7z.out) (by rw [ia_size, HLn.out]; omega) ?_
          intro w5 hb5 ho5
          rw [ia_set, ← HE.out] at hb5
          have BK5 := Hide.mk hb5
          have HO5 := Hide.mk ho5
          clear hb5 ho5
          refine Plan.plan_nil ?_
          go_wp2_with fail
          go_roundw
          case rel => exact ⟨n + 1, by omega, by go_num, BK5.out, HO5.out.blk (blk_of_heap HHv4.out BK3z.out) (by omega), HO5.out.blk (blk_of_heap HHv4.out BK6z.out) (by omega), HO5.out.below HBv4.out (by omega)⟩
          case measure => simp [intOf]; omega
        · obtain rfl : n = 48 := by omega
          clear hn hlt
          simp only [show ((48 : Nat) : Int) + 16 = 64 from rfl]
          go_wp2_with fail
          refine Plan.region_plan (fun w' => w'.cell? ⟨g3, 0, none⟩ = some (.int .u32 s.a) ∧ w'.cell? ⟨g3, 1, none⟩ = some (.int .u32 s.b) ∧ w'.cell? ⟨g3, 2, none⟩ = some (.int .u32 s.c) ∧ w'.cell? ⟨g3, 3, none⟩ = some (.int .u32 s.d) ∧ w'.cell? ⟨g3, 4, none⟩ = some (.int .u32 s.e) ∧ w'.cell? ⟨g3, 5, none⟩ = some (.int .u32 s.f) ∧ w'.cell? ⟨g3, 6, none⟩ = some (.int .u32 s.g) ∧ w'.cell? ⟨g3, 7, none⟩ = some (.int .u32 s.h)) [] [(0, 0, some 86), (1, 0, some 87), (2, 0, some 88), (3, 0, some 89), (4, 0, some 90), (5, 0, some 91), (6, 0, some 92), (7, 0, some 93), (8, 0, some 94), (9, 0, some 95), (10, 0, some 96), (11, 0, some 97), (12, 0, some 98), (13, 0, some 99), (14, 0, some 100), (15, 0, some 101), (16, 0, some 13), (17, 0, some 14), (18, 0, some 15), (19, 0, some 16), (20, 0, some 17), (21, 0, some 18), (22, 0, some 19), (23, 0, some 20)] (by kernel_rfl) (by kernel_rfl) (by decide) ⟨(blk_cell BK3.out 0).trans rfl, (blk_cell BK3.out 1).trans rfl, (blk_cell BK3.out 2).trans rfl, (blk_cell BK3.out 3).trans rfl, (blk_cell BK3.out 4).trans rfl, (blk_cell BK3.out 5).trans rfl, (blk_cell BK3.out 6).trans rfl, (blk_cell BK3.out 7).trans rfl⟩ (fun wz ewz hS => ?_)
          (repeat (first | (refine Plan.plan_take (v := ?_) (a' := ?_) rfl ?_ ?_ ?_ ?_; rotate_left 2; (· rfl); (· (intro w' hs; go_simp; with_reducible rfl)); (· (simp only [Act.put, List.setIfInBounds_toArray, List.set_cons_zero, List.set_cons_succ]; rfl))) | (refine Plan.plan_skip (a' := ?_) rfl ?_ ?_ ?_; rotate_left 1; (· rfl); (· (simp only [Act.put, List.setIfInBounds_toArray, List.set_cons_zero, List.set_cons_succ]; rfl))) | (refine Plan.plan_pure (v := ?_) (a' := ?_) rfl ?_ ?_ ?_ ?_; rotate_left 2; (· rfl); (· (intro w'; go_simp; with_reducible rfl)); (· (simp only [Act.put, List.setIfInBounds_toArray, List.set_cons_zero, List.set_cons_succ]; rfl)))))
          refine Plan.plan_nil ?_
          have HBz := Hide.mk (below_of_drew ewz HB.out)
          have BK7z := Hide.mk (blk_of_drew ewz BK7.out)
          have BK3z := Hide.mk (blk_of_drew ewz BK3.out)
          have BK6z := Hide.mk (blk_of_drew ewz BK6.out)
          clear ewz hS BK3 BK6 BK7 HB
          go_wp2_with fail
          go_loopw [13, 14, 15, 16, 17, 18, 19, 20, 102] (fun va vb vc vd ve vf vg vh t wr => ∃ (n : Nat) (r : S8), n ≤ 64 ∧ t = .int .i64 n ∧ r = rounds ks (sch (wi bs 64) 48) s n ∧ va = .int .u32 r.a ∧ vb = .int .u32 r.b ∧ vc = .int .u32 r.c ∧ vd = .int .u32 r.d ∧ ve = .int .u32 r.e ∧ vf = .int .u32 r.f ∧ vg = .int .u32 r.g ∧ vh = .int .u32 r.h ∧ wr.heap[g7]? = some (.cells (ia .u32 (sch (wi bs 64) 48)) 39 (0, 0)) ∧ wr.heap[g3]? = some (.cells (ia .u32 s.list) 23 (0, 0)) ∧ wr.heap[g6]? = some (.cells (ia .u32 (List.replicate 8 0)) 23 (0, 0)) ∧ Below w.heap.size w wr) (fun _ _ _ _ _ _ _ _ t _ => 64 - (intOf t).toNat)
          case atStart => exact ⟨0, s, by omega, rfl, rfl, rfl, rfl, rfl, rfl, rfl, rfl, rfl, rfl, BK7z.out, BK3z.out, BK6z.out, HBz.out⟩
          case round =>
            clear BK3z BK6z BK7z HBz
            obtain ⟨n, ⟨ra, rb, rc, rd, re, rf, rg, rh⟩, hn, rfl, hrr, rfl, rfl, rfl, rfl, rfl, rfl, rfl, rfl, h7, h3, h6, hbel⟩ := hrel
            have HRR := Hide.mk hrr
            have BK7 := Hide.mk h7
            have BK3 := Hide.mk h3
            have BK6 := Hide.mk h6
            have HB := Hide.mk hbel
            clear h7 h3 h6 hbel hrr
            by_cases hlt : n < 64
            · have hn0 : (n : Int) < 64 := by omega
              have hnd : decide ((n : Int) < 64) = true := by simp; omega
              have ck : wr.cell? ⟨gk, n, none⟩ = some (.int .u32 (ks.getD n 0)) := (HB.out.cell (p := ⟨gk, n, none⟩) LK).trans ((blk_cell HK.out _).trans (ia_get _ _ _ (by rw [ks_len]; exact hlt)))
              have cw : wr.cell? ⟨g7, n, none⟩ = some (.int .u32 ((sch (wi bs 64) 48).getD n 0)) := (blk_cell BK7.out _).trans (ia_get _ _ _ (by rw [sch_len, wi_len]; exact hlt))
              have HE : Hide (rounds ks (sch (wi bs 64) 48) s (n + 1) = rnd (rounds ks (sch (wi bs 64) 48) s n) (ks.getD n 0) ((sch (wi bs 64) 48).getD n 0)) := ⟨rfl⟩
              generalize ks.getD n 0 = kv at ck HE
              generalize (sch (wi bs 64) 48).getD n 0 = wv at cw HE
              go_wp2_with fail
              refine Plan.region_plan (fun w' => w'.cell? ⟨gk, n, none⟩ = some (.int .u32 kv) ∧ w'.cell? ⟨g7, n, none⟩ = some (.int .u32 wv)) [] [(0, 0, some 105), (1, 0, some 106), (4, 0, some 109), (5, 0, some 110), (6, 0, some 111), (7, 0, some 112), (8, 0, some 113), (9, 0, some 114), (10, 0, some 115), (12, 0, some 117), (13, 0, some 118), (14, 0, some 119), (15, 0, some 120), (16, 0, some 121), (18, 0, some 123), (19, 0, some 124), (20, 0, some 125), (2, 1, some 107), (3, 0, some 108), (11, 0, some 116), (17, 0, some 122), (21, 0, some 126), (22, 0, some 22)] (by kernel_rfl) (by kernel_rfl) (by decide) ⟨ck, cw⟩ (fun wz ewz hS => ?_)
              (repeat (first | (refine Plan.plan_take (v := ?_) (a' := ?_) rfl ?_ ?_ ?_ ?_; rotate_left 2; (· rfl); (· (intro w' hs; go_simp; with_reducible rfl)); (· (simp only [Act.put, List.setIfInBounds_toArray, List.set_cons_zero, List.set_cons_succ]; rfl))) | (refine Plan.plan_skip (a' := ?_) rfl ?_ ?_ ?_; rotate_left 1; (· rfl); (· (simp only [Act.put, List.setIfInBounds_toArray, List.set_cons_zero, List.set_cons_succ]; rfl))) | (refine Plan.plan_pure (v := ?_) (a' := ?_) rfl ?_ ?_ ?_ ?_; rotate_left 2; (· rfl); (· (intro w'; go_simp; with_reducible rfl)); (· (simp only [Act.put, List.setIfInBounds_toArray, List.set_cons_zero, List.set_cons_succ]; rfl)))))
              have HBwz := Hide.mk (below_of_drew ewz HB.out)
              have HHwz := Hide.mk (show wz.heap = wr.heap by rw [ewz]; rfl)
              clear ewz HB ck cw
              refine Plan.plan_call rfl Try.func30 (by kernel_rfl) rfl #[.int .u32 re, .int .i64 6, .int .i64 11, .int .i64 25] rfl rfl rfl (by (try simp only [List.map_toArray, List.map_cons, List.map_nil]); rfl) ?_
              refine (three re 6 11 25 (by decide) (by decide) (by decide) _).mono ?_
              rintro e v1 ⟨rfl, hdv1⟩
              have HBv1 := Hide.mk (below_step HBwz.out hdv1.below)
              have HHv1 := Hide.mk ((drawn_heap hdv1).trans HHwz.out)
              have hS2 : v1.cell? ⟨gk, n, none⟩ = some (.int .u32 kv) ∧ v1.cell? ⟨g7, n, none⟩ = some (.int .u32 wv) := by obtain ⟨⟨nd, rfl⟩⟩ := hdv1; exact hS
              clear hdv1 HBwz HHwz
              refine ⟨_, rfl, hS2, ?_⟩
              intro a' ha
              simp only [Act.put, List.setIfInBounds_toArray, List.set_cons_zero, List.set_cons_succ] at ha
              subst ha
              (repeat (first | (refine Plan.plan_take (v := ?_) (a' := ?_) rfl ?_ ?_ ?_ ?_; rotate_left 2; (· rfl); (· (intro w' hs; go_simp; with_reducible rfl)); (· (simp only [Act.put, List.setIfInBounds_toArray, List.set_cons_zero, List.set_cons_succ]; rfl))) | (refine Plan.plan_skip (a' := ?_) rfl ?_ ?_ ?_; rotate_left 1; (· rfl); (· (simp only [Act.put, List.setIfInBounds_toArray, List.set_cons_zero, List.set_cons_succ]; rfl))) | (refine Plan.plan_pure (v := ?_) (a' := ?_) rfl ?_ ?_ ?_ ?_; rotate_left 2; (· rfl); (· (intro w'; go_simp; with_reducible rfl)); (· (simp only [Act.put, List.setIfInBounds_toArray, List.set_cons_zero, List.set_cons_succ]; rfl)))))
              refine Plan.plan_nil ?_
              clear hS hS2
              go_wp2_with fail
              refine (three ra 2 13 22 (by decide) (by decide) (by decide) _).mono ?_
              rintro e v2 ⟨rfl, hd⟩
              have HB2 := Hide.mk (below_step HBv1.out hd.below)
              have HH2 := Hide.mk ((drawn_heap hd).trans HHv1.out)
              clear hd HBv1 HHv1
              go_wp2_with fail
              go_roundw
              case rel => exact ⟨n + 1, rnd ⟨ra, rb, rc, rd, re, rf, rg, rh⟩ kv wv, by omega, by go_num, by rw [HE.out, ← HRR.out], rfl, rfl, rfl, rfl, rfl, rfl, rfl, rfl, blk_of_heap HH2.out BK7.out, blk_of_heap HH2.out BK3.out, blk_of_heap HH2.out BK6.out, HB2.out⟩
              case measure => simp [intOf]; omega
            · obtain rfl : n = 64 := by omega
              clear hn hlt
              simp only [show ((64 : Nat) : Int) = 64 from rfl]
              go_wp2_with fail
              have HBl : Hide ((blockF s bs).list = [w32 (s.a + ra), w32 (s.b + rb), w32 (s.c + rc), w32 (s.d + rd), w32 (s.e + re), w32 (s.f + rf), w32 (s.g + rg), w32 (s.h + rh)]) := ⟨by unfold blockF; rw [← HRR.out]; rfl⟩
              have HNw : Hide (∀ k, k < 8 → (blockF s bs).list.getD k 0 = w32 (s.list.getD k 0 + [ra, rb, rc, rd, re, rf, rg, rh].getD k 0)) := ⟨fun k hk => by rw [HBl.out]; exact new8 s ⟨ra, rb, rc, rd, re, rf, rg, rh⟩ k hk⟩
              clear HRR BK7
              obtain ⟨nl, hnl⟩ : ∃ nl, nl = (blockF s bs).list := ⟨_, rfl⟩
              rw [← hnl] at HBl HNw
              have HNL := Hide.mk hnl
              have HLn2 : Hide (nl.length = s.list.length) := ⟨by rw [HBl.out]; rfl⟩
              clear hnl HBl
              go_loopw [161] (fun t wr => ∃ k : Nat, k ≤ 8 ∧ t = .int .i64 k ∧ wr.heap[g3]? = some (.cells (ia .u32 (nl.take k ++ s.list.drop k)) 23 (0, 0)) ∧ wr.heap[g6]? = some (.cells (ia .u32 (List.replicate 8 0)) 23 (0, 0)) ∧ Below w.heap.size w wr) (fun t _ => 8 - (intOf t).toNat)
              case atStart => exact ⟨0, by omega, rfl, BK3.out, BK6.out, HB.out⟩
              case round =>
                clear BK3 BK6 HB
                obtain ⟨k, hk, rfl, h3, h6, hbel⟩ := hrel
                have BK3 := Hide.mk h3
                have BK6 := Hide.mk h6
                have HB := Hide.mk hbel
                clear h3 h6 hbel
                by_cases hlt : k < 8
                · have hlt8 : (k : Int) < 8 := by omega
                  have hix := index8 ra rb rc rd re rf rg rh k hlt
                  have cs := (blk_cell BK3.out k).trans (ia_get .u32 (nl.take k ++ s.list.drop k) k (by rw [List.length_append, List.length_take, List.length_drop, HLn2.out]; show k < min k 8 + (8 - k); omega))
                  rw [mix_get _ _ _ HLn2.out hlt] at cs
                  have HE := Hide.mk (HNw.out k hlt)
                  generalize s.list.getD k 0 = sv at cs HE
                  generalize [ra, rb, rc, rd, re, rf, rg, rh].getD k 0 = rv at hix HE
                  go_wp2_with ((with_reducible refine gate_store (p := 170) (v := .tmp 169) rfl ?_); go_must (refine store_cell rfl rfl 22 (.tmp 170) (.tmp 169) rfl g3 k rfl (.int .u32 (w32 (sv + rv))) rfl rfl rfl (by kernel_rfl) _ _ BK3.out ?hlt ?_); (case hlt => rw [ia_size, List.length_append, List.length_take, List.length_drop, HLn2.out]; show k < min k 8 + (8 - k); omega); intro w4 hb4 ho4; rw [ia_set, mix_set _ _ _ _ HLn2.out hlt HE.out] at hb4; have BK4 := Hide.mk hb4; have HO4 := Hide.mk ho4; clear hb4 ho4)
                  go_roundw
                  case rel => exact ⟨k + 1, by omega, by go_num, BK4.out, HO4.out.blk BK6.out (by omega), HO4.out.below HB.out (by omega)⟩
                  case measure => simp [intOf]; omega
                · obtain rfl : k = 8 := by omega
                  have BKe : Hide (wr.heap[g3]? = some (.cells (ia .u32 nl) 23 (0, 0))) := ⟨by have := BK3.out; rw [List.take_of_length_le (by rw [HLn2.out]; exact Nat.le_refl _)] at this; simpa [S8.list] using this⟩
                  go_wp2_with (first | ((with_reducible refine gate_dst (N := 172) rfl ?_); refine wpList_load_row rfl 23 (.tmp 3) rfl g3 rfl 23 _ (0, 0) _ BKe.out Try.underlying23 rfl ?hsz ?_; (case hsz => rw [ia_size, HLn2.out]; kernel_rfl)) | ((with_reducible refine gate_store (p := 6) (v := .tmp 172) rfl ?_); go_must (refine store_row rfl rfl 23 (.tmp 6) (.tmp 172) rfl g6 rfl (ia .u32 nl) rfl (by simpa [ia] using ia_one .u32 _) ?hsz _ _ BK6.out ?hs ?_); (case hsz => rw [ia_size, HLn2.out]; kernel_rfl); (case hs => rw [ia_size, ia_size, HLn2.out]; rfl); intro w4 hb4 ho4; have BK4 := Hide.mk hb4; have HO4 := Hide.mk ho4; clear hb4 ho4))
                  refine bodyPost_ret (results_cell_row rfl _ _ g6 23 _ (0, 0) _ rfl BK4.out Try.underlying23 rfl (by rw [ia_size, HLn2.out]; kernel_rfl)) rfl ?_
                  exact ⟨by rw [HNL.out], HO4.out.below HB.out (by omega)⟩
end Go.Proofs.Ythgklggcdnocdaa.Sh
