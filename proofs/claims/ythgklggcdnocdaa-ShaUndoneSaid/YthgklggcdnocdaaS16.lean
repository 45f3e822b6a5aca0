/- back: a round undone. -/
import Derived.Test.YthgklggcdnocdaaS15
import Derived.Test.YthgklggcdnocdaaKEq
namespace Go.Proofs.Ythgklggcdnocdaa.Sh
open Go.RowKit Go.Proofs.YthgklggcdnocdaaW.PrintWords Go.Proofs.YthgklggcdnocdaaW.PrintLast Go.Proofs.YthgklggcdnocdaaW.PrintMore Mem Rg
set_option linter.unusedVariables false
set_option linter.unusedSimpArgs false
def backF (s : S8) (w : Int) : S8 := ⟨s.b, s.c, s.d, (s.e - (s.a - (big s.b 2 13 22 + majR s.b s.c s.d)) % 4294967296) % 4294967296, s.f, s.g, s.h, ((s.a - (big s.b 2 13 22 + majR s.b s.c s.d) - big s.f 6 11 25 - chR s.f s.g s.h) % 4294967296 - w) % 4294967296⟩
def backL (s : S8) (w : Int) : List Int := [s.b, s.c, s.d, (s.e - (s.a - (big s.b 2 13 22 + majR s.b s.c s.d)) % 4294967296) % 4294967296, s.f, s.g, s.h, ((s.a - (big s.b 2 13 22 + majR s.b s.c s.d) - big s.f 6 11 25 - chR s.f s.g s.h) % 4294967296 - w) % 4294967296]
theorem backL_eq (s : S8) (w : Int) : backL s w = (backF s w).list := rfl
theorem buildAgg8 {o : Oper} {a : Act} {x0 x1 x2 x3 x4 x5 x6 x7 : Operand} {v0 v1 v2 v3 v4 v5 v6 v7 : Int} {w : World} (ho : o.op = .build 23 #[(0, x0), (1, x1), (2, x2), (3, x3), (4, x4), (5, x5), (6, x6), (7, x7)])
    (h0 : a.eval x0 = .int .u32 v0) (h1 : a.eval x1 = .int .u32 v1) (h2 : a.eval x2 = .int .u32 v2) (h3 : a.eval x3 = .int .u32 v3) (h4 : a.eval x4 = .int .u32 v4) (h5 : a.eval x5 = .int .u32 v5) (h6 : a.eval x6 = .int .u32 v6) (h7 : a.eval x7 = .int .u32 v7) :
    (execOp a.eval o).run Try.prog w = .ok (.value (.agg (ia .u32 [v0, v1, v2, v3, v4, v5, v6, v7]))) w := by
  unfold execOp
  simp only [ho, List.map_toArray, List.map_cons, List.map_nil, h0, h1, h2, h3, h4, h5, h6, h7]
  kernel_rfl
structure S8ok (s : S8) : Prop where
  a : 0 ≤ s.a ∧ s.a < 4294967296
  b : 0 ≤ s.b ∧ s.b < 4294967296
  c : 0 ≤ s.c ∧ s.c < 4294967296
  d : 0 ≤ s.d ∧ s.d < 4294967296
  e : 0 ≤ s.e ∧ s.e < 4294967296
  f : 0 ≤ s.f ∧ s.f < 4294967296
  g : 0 ≤ s.g ∧ s.g < 4294967296
  h : 0 ≤ s.h ∧ s.h < 4294967296
theorem rnd_ok {s : S8} (h : S8ok s) (k w : Int) : S8ok (rnd s k w) := ⟨w32_range _, h.a, h.b, h.c, w32_range _, h.e, h.f, h.g⟩
theorem rounds_ok (K W : List Int) {s : S8} (h : S8ok s) : ∀ n, S8ok (rounds K W s n)
  | 0 => h
  | n + 1 => rnd_ok (rounds_ok K W h n) _ _
theorem back_rnd {s : S8} (h : S8ok s) (k w : Int) : backF (rnd s k w) ((k + w) % 4294967296) = s := by
  have h1 : (rnd s k w).a = (s.h + big s.e 6 11 25 + chR s.e s.f s.g + k + w + (big s.a 2 13 22 + majR s.a s.b s.c)) % 4294967296 := by
    simp only [rnd, one, two, ← ch_eq, ← maj_eq, w32, IntKind.wrap_u32]
    omega
  have h2 : (rnd s k w).e = (s.d + (s.h + big s.e 6 11 25 + chR s.e s.f s.g + k + w)) % 4294967296 := by
    simp only [rnd, one, two, ← ch_eq, ← maj_eq, w32, IntKind.wrap_u32]
    omega
  have hb : (rnd s k w).b = s.a := rfl
  have hc : (rnd s k w).c = s.b := rfl
  have hd : (rnd s k w).d = s.c := rfl
  have hf : (rnd s k w).f = s.e := rfl
  have hg : (rnd s k w).g = s.f := rfl
  have hh : (rnd s k w).h = s.g := rfl
  have rd := h.d
  have rh := h.h
  unfold backF
  rw [h1, h2, hb, hc, hd, hf, hg, hh]
  generalize big s.a 2 13 22 + majR s.a s.b s.c = T
  generalize big s.e 6 11 25 = B
  generalize chR s.e s.f s.g = C
  have e1 : ((s.d + (s.h + B + C + k + w)) % 4294967296 - ((s.h + B + C + k + w + T) % 4294967296 - T) % 4294967296) % 4294967296 = s.d := by omega
  have e2 : (((s.h + B + C + k + w + T) % 4294967296 - T - B - C) % 4294967296 - (k + w) % 4294967296) % 4294967296 = s.h := by omega
  rw [e1, e2]
set_option maxHeartbeats 4000000 in
set_option maxRecDepth 100000 in
theorem back_any (s : S8) (wv : Int) (w : World) : Calls Try.prog 17 #[.agg (ia .u32 s.list), .int .u32 wv] w fun e w' => e = .returned (.agg (ia .u32 (backL s wv))) ∧ Below w.heap.size w w' := by
  obtain ⟨ra, rb, rc, rd, re, rf, rg, rh⟩ := s
  have HB0 := Hide.mk (Below.refl w.heap.size w)
  go_enter Try.func17, Try.ntmps17
  go_wp2_with (first | ((with_reducible refine gate_dst (N := 2) rfl ?_); refine box_event ?hg (N := 2) ?hd (cs := ia .u32 (S8.list ⟨ra, rb, rc, rd, re, rf, rg, rh⟩)) (t := 23) ?hr ?_; (case hd => rfl); (case hg => rfl); (case hr => kernel_rfl); intro g2 hg w1 hbox hb; have BKg2 := Hide.mk hbox; have HB1 := Hide.mk (below_step HB0.out hb); have GEg2 : w.heap.size ≤ g2 := (by rw [hg]; exact HB0.out.size); clear HB0; clear hbox hb hg) | ((with_reducible refine gate_dst (N := 4) rfl ?_); refine box_event ?hg (N := 4) ?hd (cs := ia .u32 (List.replicate 8 0)) (t := 23) ?hr ?_; (case hd => rfl); (case hg => rfl); (case hr => kernel_rfl); intro g4 hg w2 hbox hb; have Lg2g4 : g2 < g4 := (by rw [hg]; exact blk_lt BKg2.out); have BKg4 := Hide.mk hbox; have HB2 := Hide.mk (below_step HB1.out hb); have GEg4 : w.heap.size ≤ g4 := (by rw [hg]; exact HB1.out.size); clear HB1; have BKg2' := Hide.mk (blk_below BKg2.out hb); clear BKg2; have BKg2 := BKg2'; clear BKg2'; clear hbox hb hg))
  have HB := HB2
  clear HB2
  have c0 : w2.cell? ⟨g2, 0, none⟩ = some (.int .u32 ra) := (blk_cell BKg2.out 0).trans rfl
  have c1 : w2.cell? ⟨g2, 1, none⟩ = some (.int .u32 rb) := (blk_cell BKg2.out 1).trans rfl
  have c2 : w2.cell? ⟨g2, 2, none⟩ = some (.int .u32 rc) := (blk_cell BKg2.out 2).trans rfl
  have c3 : w2.cell? ⟨g2, 3, none⟩ = some (.int .u32 rd) := (blk_cell BKg2.out 3).trans rfl
  refine Plan.region_plan (fun w' => w'.cell? ⟨g2, 1, none⟩ = some (.int .u32 rb) ∧ w'.cell? ⟨g2, 2, none⟩ = some (.int .u32 rc) ∧ w'.cell? ⟨g2, 3, none⟩ = some (.int .u32 rd)) [] [(0, 0, some 14), (1, 0, some 15), (2, 0, some 16), (3, 0, some 17), (4, 0, some 18), (5, 0, some 19), (6, 0, some 5), (7, 0, some 6), (8, 0, some 7)] (by kernel_rfl) (by kernel_rfl) (by decide) ⟨c1, c2, c3⟩ (fun wz ewz hS => ?_)
  have HB' := Hide.mk (below_of_drew ewz HB.out)
  have K2 := Hide.mk (blk_of_drew ewz BKg2.out)
  have K4 := Hide.mk (blk_of_drew ewz BKg4.out)
  clear ewz HB BKg2 BKg4 c0 c1 c2 c3
  have HB := HB'
  clear HB'
  (repeat (first | (refine Plan.plan_take (v := ?_) (a' := ?_) rfl ?_ ?_ ?_ ?_; rotate_left 2; (· rfl); (· (intro w' hs; go_simp; with_reducible rfl)); (· (simp only [Act.put, List.setIfInBounds_toArray, List.set_cons_zero, List.set_cons_succ]; rfl))) | (refine Plan.plan_skip (a' := ?_) rfl ?_ ?_ ?_; rotate_left 1; (· rfl); (· (simp only [Act.put, List.setIfInBounds_toArray, List.set_cons_zero, List.set_cons_succ]; rfl))) | (refine Plan.plan_pure (v := ?_) (a' := ?_) rfl ?_ ?_ ?_ ?_; rotate_left 2; (· rfl); (· (intro w'; go_simp; with_reducible rfl)); (· (simp only [Act.put, List.setIfInBounds_toArray, List.set_cons_zero, List.set_cons_succ]; rfl)))))
  refine Plan.plan_nil ?_
  clear hS
  have c5 : wz.cell? ⟨g2, 5, none⟩ = some (.int .u32 rf) := (blk_cell K2.out 5).trans rfl
  have c6 : wz.cell? ⟨g2, 6, none⟩ = some (.int .u32 rg) := (blk_cell K2.out 6).trans rfl
  have c7 : wz.cell? ⟨g2, 7, none⟩ = some (.int .u32 rh) := (blk_cell K2.out 7).trans rfl
  go_wp2_with fail
  refine Plan.region_plan (fun w' => w'.cell? ⟨g2, 5, none⟩ = some (.int .u32 rf) ∧ w'.cell? ⟨g2, 6, none⟩ = some (.int .u32 rg) ∧ w'.cell? ⟨g2, 7, none⟩ = some (.int .u32 rh)) [] [(0, 0, some 20), (1, 0, some 21), (2, 0, some 22), (3, 0, some 23), (4, 0, some 24), (5, 0, some 25), (6, 0, some 8), (7, 0, some 9), (8, 0, some 10)] (by kernel_rfl) (by kernel_rfl) (by decide) ⟨c5, c6, c7⟩ (fun wy ewy hS => ?_)
  have HB' := Hide.mk (below_of_drew ewy HB.out)
  have K2' := Hide.mk (blk_of_drew ewy K2.out)
  have K4' := Hide.mk (blk_of_drew ewy K4.out)
  clear ewy HB K2 K4 c5 c6 c7
  have HB := HB'
  have K2 := K2'
  have K4 := K4'
  clear HB' K2' K4'
  (repeat (first | (refine Plan.plan_take (v := ?_) (a' := ?_) rfl ?_ ?_ ?_ ?_; rotate_left 2; (· rfl); (· (intro w' hs; go_simp; with_reducible rfl)); (· (simp only [Act.put, List.setIfInBounds_toArray, List.set_cons_zero, List.set_cons_succ]; rfl))) | (refine Plan.plan_skip (a' := ?_) rfl ?_ ?_ ?_; rotate_left 1; (· rfl); (· (simp only [Act.put, List.setIfInBounds_toArray, List.set_cons_zero, List.set_cons_succ]; rfl))) | (refine Plan.plan_pure (v := ?_) (a' := ?_) rfl ?_ ?_ ?_ ?_; rotate_left 2; (· rfl); (· (intro w'; go_simp; with_reducible rfl)); (· (simp only [Act.put, List.setIfInBounds_toArray, List.set_cons_zero, List.set_cons_succ]; rfl)))))
  refine Plan.plan_nil ?_
  clear hS
  go_wp2_with fail
  refine (turn15 rb 2 (by decide) (by decide) _).mono ?_
  rintro e v1 ⟨rfl, hd⟩
  have K2' := Hide.mk (blk_of_heap (drawn_heap hd) K2.out)
  have K4' := Hide.mk (blk_of_heap (drawn_heap hd) K4.out)
  have HB' := Hide.mk (below_step HB.out hd.below)
  clear hd K2 K4 HB
  have K2 := K2'
  have K4 := K4'
  have HB := HB'
  clear K2' K4' HB'
  go_wp2_with fail
  refine (turn15 rb 13 (by decide) (by decide) _).mono ?_
  rintro e v2 ⟨rfl, hd⟩
  have K2' := Hide.mk (blk_of_heap (drawn_heap hd) K2.out)
  have K4' := Hide.mk (blk_of_heap (drawn_heap hd) K4.out)
  have HB' := Hide.mk (below_step HB.out hd.below)
  clear hd K2 K4 HB
  have K2 := K2'
  have K4 := K4'
  have HB := HB'
  clear K2' K4' HB'
  go_wp2_with fail
  refine (turn15 rb 22 (by decide) (by decide) _).mono ?_
  rintro e v3 ⟨rfl, hd⟩
  have K2' := Hide.mk (blk_of_heap (drawn_heap hd) K2.out)
  have K4' := Hide.mk (blk_of_heap (drawn_heap hd) K4.out)
  have HB' := Hide.mk (below_step HB.out hd.below)
  clear hd K2 K4 HB
  have K2 := K2'
  have K4 := K4'
  have HB := HB'
  clear K2' K4' HB'
  have c0 : v3.cell? ⟨g2, 0, none⟩ = some (.int .u32 ra) := (blk_cell K2.out 0).trans rfl
  go_wp2_with fail
  refine (turn15 rf 6 (by decide) (by decide) _).mono ?_
  rintro e v4 ⟨rfl, hd⟩
  have K2' := Hide.mk (blk_of_heap (drawn_heap hd) K2.out)
  have K4' := Hide.mk (blk_of_heap (drawn_heap hd) K4.out)
  have HB' := Hide.mk (below_step HB.out hd.below)
  clear hd K2 K4 HB
  have K2 := K2'
  have K4 := K4'
  have HB := HB'
  clear K2' K4' HB'
  go_wp2_with fail
  refine (turn15 rf 11 (by decide) (by decide) _).mono ?_
  rintro e v5 ⟨rfl, hd⟩
  have K2' := Hide.mk (blk_of_heap (drawn_heap hd) K2.out)
  have K4' := Hide.mk (blk_of_heap (drawn_heap hd) K4.out)
  have HB' := Hide.mk (below_step HB.out hd.below)
  clear hd K2 K4 HB
  have K2 := K2'
  have K4 := K4'
  have HB := HB'
  clear K2' K4' HB'
  go_wp2_with fail
  refine (turn15 rf 25 (by decide) (by decide) _).mono ?_
  rintro e v6 ⟨rfl, hd⟩
  have K2' := Hide.mk (blk_of_heap (drawn_heap hd) K2.out)
  have K4' := Hide.mk (blk_of_heap (drawn_heap hd) K4.out)
  have HB' := Hide.mk (below_step HB.out hd.below)
  clear hd K2 K4 HB
  have K2 := K2'
  have K4 := K4'
  have HB := HB'
  clear K2' K4' HB'
  have c4 : v6.cell? ⟨g2, 4, none⟩ = some (.int .u32 re) := (blk_cell K2.out 4).trans rfl
  clear c0
  have K46 := K4
  go_wp2_with (first | ((with_reducible refine gate_dst (N := 82) rfl ?_); go_must (refine Kd.event_run rfl (v := .agg (ia .u32 (backL ⟨ra, rb, rc, rd, re, rf, rg, rh⟩ wv))) (buildAgg8 rfl rfl rfl rfl rfl rfl rfl rfl rfl) ?_)) | ((with_reducible refine gate_store (p := 4) (v := .tmp 82) rfl ?_); go_must (refine store_row rfl rfl 23 (.tmp 4) (.tmp 82) rfl g4 rfl (ia .u32 (backL ⟨ra, rb, rc, rd, re, rf, rg, rh⟩ wv)) rfl (by simpa [ia] using ia_one .u32 _) (by kernel_rfl) _ _ K46.out rfl ?_); intro wa hba hoa; have K4a := Hide.mk hba; have HOa := Hide.mk hoa; clear hba hoa))
  refine bodyPost_ret (results_cell_row rfl _ _ g4 23 _ (0, 0) _ rfl K4a.out Try.underlying23 rfl (by kernel_rfl)) rfl ?_
  exact ⟨rfl, HOa.out.below HB.out GEg4⟩
end Go.Proofs.Ythgklggcdnocdaa.Sh
