/- Literal arrays; a block further, as the program tells it. -/
import Derived.Test.YthgklggcdnocdaaS6
namespace Go.Proofs.Ythgklggcdnocdaa.Sh
open Go.RowKit Go.Proofs.YthgklggcdnocdaaW.PrintWords Go.Proofs.YthgklggcdnocdaaW.PrintLast Go.Proofs.YthgklggcdnocdaaW.PrintMore Mem
set_option linter.unusedVariables false
set_option linter.unusedSimpArgs false
def ksL : List Int := [0x428a2f98, 0x71374491, 0xb5c0fbcf, 0xe9b5dba5, 0x3956c25b, 0x59f111f1, 0x923f82a4, 0xab1c5ed5,
    0xd807aa98, 0x12835b01, 0x243185be, 0x550c7dc3, 0x72be5d74, 0x80deb1fe, 0x9bdc06a7, 0xc19bf174,
    0xe49b69c1, 0xefbe4786, 0x0fc19dc6, 0x240ca1cc, 0x2de92c6f, 0x4a7484aa, 0x5cb0a9dc, 0x76f988da,
    0x983e5152, 0xa831c66d, 0xb00327c8, 0xbf597fc7, 0xc6e00bf3, 0xd5a79147, 0x06ca6351, 0x14292967,
    0x27b70a85, 0x2e1b2138, 0x4d2c6dfc, 0x53380d13, 0x650a7354, 0x766a0abb, 0x81c2c92e, 0x92722c85,
    0xa2bfe8a1, 0xa81a664b, 0xc24b8b70, 0xc76c51a3, 0xd192e819, 0xd6990624, 0xf40e3585, 0x106aa070,
    0x19a4c116, 0x1e376c08, 0x2748774c, 0x34b0bcb5, 0x391c0cb3, 0x4ed8aa4a, 0x5b9cca4f, 0x682e6ff3,
    0x748f82ee, 0x78a5636f, 0x84c87814, 0x8cc70208, 0x90befffa, 0xa4506ceb, 0xbef9a3f7, 0xc67178f2]
def hsL : List Int := [0x6a09e667, 0xbb67ae85, 0x3c6ef372, 0xa54ff53a, 0x510e527f, 0x9b05688c, 0x1f83d9ab, 0x5be0cd19]
theorem ksL_eq : ks = ksL := ks_eq
theorem hsL_eq : hs = hsL := hs_eq
set_option maxHeartbeats 1000000 in
set_option maxRecDepth 100000 in
theorem words21 (w : World) : Calls Try.prog 21 #[] w fun e w' => e = .returned (.agg (ia .u32 ks)) ∧ Below w.heap.size w w' := by
  go_enter Try.func21, Try.ntmps21
  go_wp2_with (first | ((with_reducible refine gate_dst (N := 0) rfl ?_); refine box_event ?hg (N := 0) ?hd (cs := ia .u32 (List.replicate 64 0)) (t := 39) ?hr ?_; (case hd => rfl); (case hg => rfl); (case hr => kernel_rfl); intro g hg w1 hbox hb; have BKg := Hide.mk hbox; have HB := Hide.mk hb; have GEg : w.heap.size ≤ g := (by rw [hg]; exact Nat.le_refl _); clear hbox hb hg) | ((with_reducible refine gate_dst (N := 1) rfl ?_); refine Kd.event_run rfl (v := .agg (ia .u32 ksL)) ?hr ?_; (case hr => kernel_rfl)) | ((with_reducible refine gate_store (p := 0) (v := .tmp 1) rfl ?_); go_must (refine store_row rfl rfl 39 (.tmp 0) (.tmp 1) rfl g rfl (ia .u32 ksL) rfl (by simpa [ia] using ia_one .u32 _) (by kernel_rfl) _ _ BKg.out rfl ?_); intro w4 hb4 ho4; have BK4 := Hide.mk hb4; have HO4 := Hide.mk ho4; clear hb4 ho4))
  refine bodyPost_ret (results_cell_row rfl _ _ g 39 _ (0, 0) _ rfl BK4.out Try.underlying39 rfl (by kernel_rfl)) rfl ?_
  exact ⟨by rw [ksL_eq], HO4.out.below HB.out GEg⟩
set_option maxHeartbeats 1000000 in
set_option maxRecDepth 100000 in
theorem words16 (w : World) : Calls Try.prog 16 #[] w fun e w' => e = .returned (.agg (ia .u32 ks)) ∧ Below w.heap.size w w' := by
  go_enter Try.func16, Try.ntmps16
  go_wp2_with (first | ((with_reducible refine gate_dst (N := 0) rfl ?_); refine box_event ?hg (N := 0) ?hd (cs := ia .u32 (List.replicate 64 0)) (t := 39) ?hr ?_; (case hd => rfl); (case hg => rfl); (case hr => kernel_rfl); intro g hg w1 hbox hb; have BKg := Hide.mk hbox; have HB := Hide.mk hb; have GEg : w.heap.size ≤ g := (by rw [hg]; exact Nat.le_refl _); clear hbox hb hg) | ((with_reducible refine gate_dst (N := 1) rfl ?_); refine Kd.event_run rfl (v := .agg (ia .u32 ksL)) ?hr ?_; (case hr => kernel_rfl)) | ((with_reducible refine gate_store (p := 0) (v := .tmp 1) rfl ?_); go_must (refine store_row rfl rfl 39 (.tmp 0) (.tmp 1) rfl g rfl (ia .u32 ksL) rfl (by simpa [ia] using ia_one .u32 _) (by kernel_rfl) _ _ BKg.out rfl ?_); intro w4 hb4 ho4; have BK4 := Hide.mk hb4; have HO4 := Hide.mk ho4; clear hb4 ho4))
  refine bodyPost_ret (results_cell_row rfl _ _ g 39 _ (0, 0) _ rfl BK4.out Try.underlying39 rfl (by kernel_rfl)) rfl ?_
  exact ⟨by rw [ksL_eq], HO4.out.below HB.out GEg⟩
set_option maxHeartbeats 1000000 in
set_option maxRecDepth 100000 in
theorem begin14 (w : World) : Calls Try.prog 14 #[] w fun e w' => e = .returned (.agg (ia .u32 hs)) ∧ Below w.heap.size w w' := by
  go_enter Try.func14, Try.ntmps14
  go_wp2_with (first | ((with_reducible refine gate_dst (N := 0) rfl ?_); refine box_event ?hg (N := 0) ?hd (cs := ia .u32 (List.replicate 8 0)) (t := 23) ?hr ?_; (case hd => rfl); (case hg => rfl); (case hr => kernel_rfl); intro g hg w1 hbox hb; have BKg := Hide.mk hbox; have HB := Hide.mk hb; have GEg : w.heap.size ≤ g := (by rw [hg]; exact Nat.le_refl _); clear hbox hb hg) | ((with_reducible refine gate_dst (N := 1) rfl ?_); refine Kd.event_run rfl (v := .agg (ia .u32 hsL)) ?hr ?_; (case hr => kernel_rfl)) | ((with_reducible refine gate_store (p := 0) (v := .tmp 1) rfl ?_); go_must (refine store_row rfl rfl 23 (.tmp 0) (.tmp 1) rfl g rfl (ia .u32 hsL) rfl (by simpa [ia] using ia_one .u32 _) (by kernel_rfl) _ _ BKg.out rfl ?_); intro w4 hb4 ho4; have BK4 := Hide.mk hb4; have HO4 := Hide.mk ho4; clear hb4 ho4))
  refine bodyPost_ret (results_cell_row rfl _ _ g 23 _ (0, 0) _ rfl BK4.out Try.underlying23 rfl (by kernel_rfl)) rfl ?_
  exact ⟨by rw [hsL_eq], HO4.out.below HB.out GEg⟩
set_option maxHeartbeats 1000000 in
set_option maxRecDepth 100000 in
theorem begin25 (w : World) : Calls Try.prog 25 #[] w fun e w' => e = .returned (.agg (ia .u32 hs)) ∧ Below w.heap.size w w' := by
  go_enter Try.func25, Try.ntmps25
  go_wp2_with (first | ((with_reducible refine gate_dst (N := 0) rfl ?_); refine box_event ?hg (N := 0) ?hd (cs := ia .u32 (List.replicate 8 0)) (t := 23) ?hr ?_; (case hd => rfl); (case hg => rfl); (case hr => kernel_rfl); intro g hg w1 hbox hb; have BKg := Hide.mk hbox; have HB := Hide.mk hb; have GEg : w.heap.size ≤ g := (by rw [hg]; exact Nat.le_refl _); clear hbox hb hg) | ((with_reducible refine gate_dst (N := 1) rfl ?_); refine Kd.event_run rfl (v := .agg (ia .u32 hsL)) ?hr ?_; (case hr => kernel_rfl)) | ((with_reducible refine gate_store (p := 0) (v := .tmp 1) rfl ?_); go_must (refine store_row rfl rfl 23 (.tmp 0) (.tmp 1) rfl g rfl (ia .u32 hsL) rfl (by simpa [ia] using ia_one .u32 _) (by kernel_rfl) _ _ BKg.out rfl ?_); intro w4 hb4 ho4; have BK4 := Hide.mk hb4; have HO4 := Hide.mk ho4; clear hb4 ho4))
  refine bodyPost_ret (results_cell_row rfl _ _ g 23 _ (0, 0) _ rfl BK4.out Try.underlying23 rfl (by kernel_rfl)) rfl ?_
  exact ⟨by rw [hsL_eq], HO4.out.below HB.out GEg⟩
set_option maxHeartbeats 1000000 in
set_option maxRecDepth 100000 in
theorem block_any (s : S8) (bs : List Int) (w : World) (hb : Bytes bs) (hl : bs.length = 64) : Calls Try.prog 7 #[.agg (ia .u32 s.list), .agg (ia .u8 bs)] w fun e w' => e = .returned (.agg (ia .u32 (blockF s bs).list)) ∧ Below w.heap.size w w' := by
  have HL := Hide.mk hl
  have HBy := Hide.mk hb
  clear hl hb
  go_enter Try.func7, Try.ntmps7
  go_wp2_with (first | ((with_reducible refine gate_dst (N := 2) rfl ?_); refine box_event ?hg (N := 2) ?hd (cs := ia .u32 s.list) (t := 23) ?hr ?_; (case hd => rfl); (case hg => rfl); (case hr => kernel_rfl); intro g2 hg w1 hbox hb; have BKg2 := Hide.mk hbox; have HB1 := Hide.mk hb; have GEg2 : w.heap.size ≤ g2 := (by rw [hg]; exact Nat.le_refl _); clear hbox hb hg) | ((with_reducible refine gate_dst (N := 3) rfl ?_); refine box_event ?hg (N := 3) ?hd (cs := ia .u8 bs) (t := 24) ?hr ?_; (case hd => rfl); (case hg => rfl); (case hr => kernel_rfl); intro g3 hg w2 hbox hb; have Lg2g3 : g2 < g3 := (by rw [hg]; exact blk_lt BKg2.out); have BKg3 := Hide.mk hbox; have HB2 := Hide.mk (below_step HB1.out hb); have GEg3 : w.heap.size ≤ g3 := (by rw [hg]; exact HB1.out.size); clear HB1; have BKg2' := Hide.mk (blk_below BKg2.out hb); clear BKg2; have BKg2 := BKg2'; clear BKg2'; clear hbox hb hg) | ((with_reducible refine gate_dst (N := 4) rfl ?_); refine box_event ?hg (N := 4) ?hd (cs := ia .u32 (List.replicate 8 0)) (t := 23) ?hr ?_; (case hd => rfl); (case hg => rfl); (case hr => kernel_rfl); intro g4 hg w3 hbox hb; have Lg2g4 : g2 < g4 := (by rw [hg]; exact blk_lt BKg2.out); have Lg3g4 : g3 < g4 := (by rw [hg]; exact blk_lt BKg3.out); have BKg4 := Hide.mk hbox; have HB3 := Hide.mk (below_step HB2.out hb); have GEg4 : w.heap.size ≤ g4 := (by rw [hg]; exact HB2.out.size); clear HB2; have BKg2' := Hide.mk (blk_below BKg2.out hb); clear BKg2; have BKg2 := BKg2'; clear BKg2'; have BKg3' := Hide.mk (blk_below BKg3.out hb); clear BKg3; have BKg3 := BKg3'; clear BKg3'; clear hbox hb hg))
  refine (words_any _).mono ?_
  rintro e w4 ⟨rfl, hb4⟩
  have HB4 := Hide.mk (below_step HB3.out hb4)
  have BK2 := Hide.mk (blk_below BKg2.out hb4)
  have BK3 := Hide.mk (blk_below BKg3.out hb4)
  have BK4 := Hide.mk (blk_below BKg4.out hb4)
  clear hb4 HB3 BKg2 BKg3 BKg4
  go_wp2_with (first | ((with_reducible refine gate_dst (N := 5) rfl ?_); refine box_event ?hg (N := 5) ?hd (cs := ia .u32 (List.replicate 64 0)) (t := 39) ?hr ?_; (case hd => rfl); (case hg => rfl); (case hr => kernel_rfl); intro g5 hg w5 hbox hb; have Lg2g5 : g2 < g5 := (by rw [hg]; exact blk_lt BK2.out); have Lg3g5 : g3 < g5 := (by rw [hg]; exact blk_lt BK3.out); have Lg4g5 : g4 < g5 := (by rw [hg]; exact blk_lt BK4.out); have BKg5 := Hide.mk hbox; have HB5 := Hide.mk (below_step HB4.out hb); have GEg5 : w.heap.size ≤ g5 := (by rw [hg]; exact HB4.out.size); clear HB4; have BK2' := Hide.mk (blk_below BK2.out hb); clear BK2; have BK2 := BK2'; clear BK2'; have BK3' := Hide.mk (blk_below BK3.out hb); clear BK3; have BK3 := BK3'; clear BK3'; have BK4' := Hide.mk (blk_below BK4.out hb); clear BK4; have BK4 := BK4'; clear BK4'; clear hbox hb hg) | ((with_reducible refine gate_store (p := 5) (v := .tmp 6) rfl ?_); go_must (refine store_row rfl rfl 39 (.tmp 5) (.tmp 6) rfl g5 rfl (ia .u32 ks) rfl (by simpa [ia] using ia_one .u32 _) ?hsz _ _ BKg5.out ?hs ?_); (case hsz => rw [ia_size, ks_len]; kernel_rfl); (case hs => rw [ia_size, ks_len]; rfl); intro w6 hb6 ho6; have BK5 := Hide.mk hb6; have HO := Hide.mk ho6; have HB6 := Hide.mk (ho6.below HB5.out GEg5); have BK2' := Hide.mk (ho6.blk BK2.out (by omega)); have BK3' := Hide.mk (ho6.blk BK3.out (by omega)); have BK4' := Hide.mk (ho6.blk BK4.out (by omega)); clear hb6 ho6 HO HB5 BK2 BK3 BK4 BKg5))
  refine Plan.region_plan (fun w' => w'.heap[g2]? = some (.cells (ia .u32 s.list) 23 (0, 0)) ∧ w'.heap[g3]? = some (.cells (ia .u8 bs) 24 (0, 0)) ∧ w'.heap[g5]? = some (.cells (ia .u32 ks) 39 (0, 0))) [3] [(0, 0, some 7), (1, 0, some 8), (2, 1, some 9), (3, 2, none)] (by kernel_rfl) (by kernel_rfl) (by decide) ⟨blk_drew BK2'.out, blk_drew BK3'.out, blk_drew BK5.out⟩ (fun wz ewz hS => ?_)
  have HBz := Hide.mk (below_of_drew ewz HB6.out)
  have BK4z := Hide.mk (blk_of_drew ewz BK4'.out)
  clear ewz HB6 BK2' BK3' BK4' BK5
  refine Plan.plan_load_row (a' := ?_) rfl rfl 23 (.tmp 2) rfl g2 rfl 23 (ia .u32 s.list) (0, 0) _ (fun _ h => h.1) Try.underlying23 rfl (by kernel_rfl) ?_ ?_
  rotate_left
  · simp only [Act.put, List.setIfInBounds_toArray, List.set_cons_zero, List.set_cons_succ]
    rfl
  (repeat (first | (refine Plan.plan_take (v := ?_) (a' := ?_) rfl ?_ ?_ ?_ ?_; rotate_left 2; (· rfl); (· (intro w' hs; go_simp; with_reducible rfl)); (· (simp only [Act.put, List.setIfInBounds_toArray, List.set_cons_zero, List.set_cons_succ]; rfl))) | (refine Plan.plan_skip (a' := ?_) rfl ?_ ?_ ?_; rotate_left 1; (· rfl); (· (simp only [Act.put, List.setIfInBounds_toArray, List.set_cons_zero, List.set_cons_succ]; rfl))) | (refine Plan.plan_pure (v := ?_) (a' := ?_) rfl ?_ ?_ ?_ ?_; rotate_left 2; (· rfl); (· (intro w'; go_simp; with_reducible rfl)); (· (simp only [Act.put, List.setIfInBounds_toArray, List.set_cons_zero, List.set_cons_succ]; rfl)))))
  refine Plan.plan_call rfl Try.func19 (by kernel_rfl) rfl #[.agg (ia .u32 s.list), .slice (some ⟨g3, 0, none⟩) 64 64, .pointer (some ⟨g5, 0, none⟩)] rfl rfl rfl (by (try simp only [List.map_toArray, List.map_cons, List.map_nil]); rfl) ?_
  refine (further_any s bs ⟨g3, 0, none⟩ 64 g5 _ HBy.out (by have := reads_of_blk hS.2.1 (by rw [HL.out]; decide); rwa [HL.out] at this) hS.2.2).mono ?_
  rintro e w7 ⟨rfl, hb7⟩
  have HB7 := Hide.mk (below_step HBz.out hb7)
  have BK47 := Hide.mk (blk_below BK4z.out hb7)
  refine ⟨_, rfl, ⟨blk_below hS.1 hb7, blk_below hS.2.1 hb7, blk_below hS.2.2 hb7⟩, ?_⟩
  clear hb7 HBz BK4z hS
  intro a' ha
  simp only [Act.put, List.setIfInBounds_toArray, List.set_cons_zero, List.set_cons_succ] at ha
  subst ha
  refine Plan.plan_last_row rfl rfl rfl 23 (.tmp 4) (.tmp 9) rfl g4 rfl (ia .u32 (blockF s bs).list) rfl (by simpa [ia] using ia_one .u32 _) (by rw [ia_size]; kernel_rfl) _ _ BK47.out (by rw [ia_size]; rfl) ?_
  intro w8 hb8 ho8
  have BK8 := Hide.mk hb8
  have HO8 := Hide.mk ho8
  clear hb8 ho8
  refine Plan.plan_nil ?_
  go_wp2_with fail
  refine bodyPost_ret (results_cell_row rfl _ _ g4 23 _ (0, 0) _ rfl BK8.out Try.underlying23 rfl (by rw [ia_size]; kernel_rfl)) rfl ?_
  exact ⟨rfl, HO8.out.below HB7.out GEg4⟩
end Go.Proofs.Ythgklggcdnocdaa.Sh
