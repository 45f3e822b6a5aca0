/- The twin's table: New, Gone, Came, Size. -/
import Derived.Test.YtcjakeopbjokoaaT17
namespace Go.Proofs.Ytcjakeopbjokoaa.Tb
open Go.RowKit Go.Proofs.YtcjakeopbjokoaaW.PrintWords Go.Proofs.YtcjakeopbjokoaaW.PrintLast Go.Proofs.YtcjakeopbjokoaaW.PrintMore Mem
set_option linter.unusedVariables false
set_option linter.unusedSimpArgs false
def rcells (t : TS) (v : Value) : Array Value := #[.int .i64 t.room, v, .int .u64 t.gone]
/-- The twin's table in memory. -/
structure RTab (w : World) (base g : Nat) (v : Value) (t : TS) : Prop where
  low : base ≤ g
  blk : w.heap[g]? = some (.cells (rcells t v) 63 (0, 0))
  row : LS w base v t.l
theorem RTab.lt {w : World} {base g : Nat} {v : Value} {t : TS} (h : RTab w base g v t) : g < w.heap.size := blk_lt h.blk
theorem RTab.kept {w w' : World} {base g : Nat} {v : Value} {t : TS} (h : RTab w base g v t) (hb : ∀ k, k = g ∨ v.ownBlock = some k → w'.heap[k]? = w.heap[k]?) : RTab w' base g v t :=
  ⟨h.low, (hb g (.inl rfl)).trans h.blk, h.row.kept fun k hk => hb k (.inr hk)⟩
theorem RTab.below {w w' : World} {base g : Nat} {v : Value} {t : TS} (h : RTab w base g v t) (hb : Below w.heap.size w w') : RTab w' base g v t :=
  h.kept fun k hk => by
    rcases hk with rfl | hk
    · exact hb.block _ h.lt
    · exact hb.block _ (h.row.lt k hk).2
theorem RTab.drew {w w1 : World} {base g : Nat} {v : Value} {t : TS} (h : RTab w base g v t) (e : w1 = w.drew) : RTab w1 base g v t := h.below (below_of_drew e (Below.refl _ _))
theorem RTab.cells {w : World} {base g : Nat} {v : Value} {t : TS} (h : RTab w base g v t) : w.cell? ⟨g, 0, none⟩ = some (.int .i64 t.room) ∧ w.cell? ⟨g, 1, none⟩ = some v ∧ w.cell? ⟨g, 2, none⟩ = some (.int .u64 t.gone) :=
  ⟨(blk_cell h.blk 0).trans rfl, (blk_cell h.blk 1).trans rfl, (blk_cell h.blk 2).trans rfl⟩
/-- One cell of the block is set; the row stays. -/
theorem RTab.set_ {w w1 : World} {base g : Nat} {v : Value} {t t1 : TS} (h : RTab w base g v t) (hb : w1.heap[g]? = some (.cells (rcells t1 v) 63 (0, 0))) (ho : Only g w w1) (hl : t1.l = t.l) : RTab w1 base g v t1 :=
  ⟨h.low, hb, by rw [hl]; exact h.row.kept fun k hk => ho.other k (fun e => h.row.ne h.blk (by decide) (by rw [hk, e]))⟩
set_option maxHeartbeats 1000000 in
set_option maxRecDepth 100000 in
theorem rnew_bad (room : Int) (w : World) (h : room < 0 ∨ 4096 < room) : Calls Try.prog 18 #[.int .i64 room] w fun e w' => e = .returned (.tuple #[.pointer none, .int .i64 1]) ∧ Below w.heap.size w w' := by
  by_cases h0 : room < 0
  · have d0 : decide (room < 0) = true := by simp [h0]
    go_enter Try.func18, Try.ntmps18
    go_wp2_with fail
    go_ret2
    exact ⟨rfl, Below.refl _ _⟩
  · have d0 : decide (room < 0) = false := by simp; omega
    have d1 : decide (4096 < room) = true := by simp; omega
    go_enter Try.func18, Try.ntmps18
    go_wp2_with fail
    go_ret2
    exact ⟨rfl, Below.refl _ _⟩
set_option maxHeartbeats 1000000 in
set_option maxRecDepth 100000 in
theorem rnew_good (room : Int) (w : World) (h0 : 0 ≤ room) (h1 : room ≤ 4096) : Calls Try.prog 18 #[.int .i64 room] w fun e w' => ∃ g, e = .returned (.tuple #[.pointer (some ⟨g, 0, none⟩), .int .i64 0]) ∧ Below w.heap.size w w' ∧ w.heap.size ≤ g ∧ ∀ B, B ≤ w.heap.size → RTab w' B g (.slice none 0 0) ⟨room, 0, 0, []⟩ := by
  have d0 : decide (room < 0) = false := by simp; omega
  have d1 : decide (4096 < room) = false := by simp; omega
  have HB0 := Hide.mk (Below.refl w.heap.size w)
  go_enter Try.func18, Try.ntmps18
  go_wp2_with (first | ((with_reducible refine gate_dst (N := 12) rfl ?_); refine box_event ?hg (N := 12) ?hd (cs := #[.int .i64 room, .slice none 0 0, .int .u64 0]) (t := 63) ?hr ?_; (case hd => rfl); (case hg => rfl); (case hr => kernel_rfl); intro g12 hg w1 hbox hb; have BKg12 := Hide.mk hbox; have HB1 := Hide.mk (below_step HB0.out hb); have GEg12 : w.heap.size ≤ g12 := (by rw [hg]; exact HB0.out.size); clear HB0; clear hbox hb hg))
  go_ret2
  exact ⟨g12, rfl, HB1.out, GEg12, fun B hB => ⟨Nat.le_trans hB GEg12, BKg12.out, .inl (World.ownsRow_nil _ _ _ _)⟩⟩
set_option maxHeartbeats 1000000 in
set_option maxRecDepth 100000 in
theorem rgone_any (base g : Nat) (v : Value) (t : TS) (w : World) (h : RTab w base g v t) : Calls Try.prog 24 #[.pointer (some ⟨g, 0, none⟩)] w fun e w' => e = .returned (.int .u64 t.gone) ∧ Below w.heap.size w w' := by
  have k2 := h.cells.2.2
  clear h
  go_enter Try.func24, Try.ntmps24
  go_wp2_with fail
  go_ret
  exact ⟨rfl, Below.refl _ _⟩
set_option maxHeartbeats 1000000 in
set_option maxRecDepth 100000 in
theorem rcame_any (base g : Nat) (v : Value) (t : TS) (w : World) (h : RTab w base g v t) (hg : 0 ≤ t.gone ∧ t.gone + t.l.length ≤ 4611686018427387904) : Calls Try.prog 23 #[.pointer (some ⟨g, 0, none⟩)] w fun e w' => e = .returned (.int .u64 (t.gone + t.l.length)) ∧ Below w.heap.size w w' := by
  have HT := Hide.mk h
  clear h
  obtain ⟨A, c, hv⟩ := HT.out.row.slice
  have e1 : IntKind.u64.wrap (t.l.length : Int) = (t.l.length : Int) := by rw [IntKind.wrap_u64]; omega
  have e2 : IntKind.u64.wrap (t.gone + (t.l.length : Int)) = t.gone + (t.l.length : Int) := by rw [IntKind.wrap_u64]; omega
  obtain ⟨k0, k1, k2⟩ := HT.out.cells
  rw [hv] at k1
  go_enter Try.func23, Try.ntmps23
  go_wp2_with fail
  refine Plan.region_plan (fun w' => w'.cell? ⟨g, 2, none⟩ = some (.int .u64 t.gone) ∧ w'.cell? ⟨g, 1, none⟩ = some (.slice A t.l.length c)) [] [(0, 0, some 3), (1, 0, some 4), (2, 0, some 5), (3, 0, some 6), (4, 0, some 7), (5, 0, some 8), (6, 0, some 9), (7, 0, some 10), (8, 0, some 11), (9, 0, some 12), (10, 0, some 13), (11, 0, some 2)] (by kernel_rfl) (by kernel_rfl) (by decide) ⟨k2, k1⟩ (fun wz ewz hS => ?_)
  have HBz := Hide.mk (below_of_drew ewz (Below.refl w.heap.size w))
  clear ewz k0 k1 k2
  (repeat (first | (refine Plan.plan_take (v := ?_) (a' := ?_) rfl ?_ ?_ ?_ ?_; rotate_left 2; (· rfl); (· (intro w' hs; go_simp; with_reducible rfl)); (· (simp only [Act.put, List.setIfInBounds_toArray, List.set_cons_zero, List.set_cons_succ]; rfl))) | (refine Plan.plan_skip (a' := ?_) rfl ?_ ?_ ?_; rotate_left 1; (· rfl); (· (simp only [Act.put, List.setIfInBounds_toArray, List.set_cons_zero, List.set_cons_succ]; rfl))) | (refine Plan.plan_pure (v := ?_) (a' := ?_) rfl ?_ ?_ ?_ ?_; rotate_left 2; (· rfl); (· (intro w'; go_simp; with_reducible rfl)); (· (simp only [Act.put, List.setIfInBounds_toArray, List.set_cons_zero, List.set_cons_succ]; rfl)))))
  refine Plan.plan_nil ?_
  clear hS
  go_wp2_with fail
  go_ret
  exact ⟨rfl, HBz.out⟩
set_option maxHeartbeats 1000000 in
set_option maxRecDepth 100000 in
theorem rsize_any (base g : Nat) (v : Value) (t : TS) (w : World) (h : RTab w base g v t) (hs : tot t.l ≤ 4096) : Calls Try.prog 25 #[.pointer (some ⟨g, 0, none⟩)] w fun e w' => e = .returned (.int .i64 (tot t.l)) ∧ Below w.heap.size w w' := by
  have HT := Hide.mk h
  have HS := Hide.mk hs
  have hlen : t.l.length ≤ 128 := by have := tot_len t.l; omega
  obtain ⟨A, c, rfl⟩ := h.row.slice
  clear h hs
  go_enter Try.func25, Try.ntmps25
  go_wp2_with fail
  go_loopw [3, 4] (fun s j wr => ∃ i : Nat, i ≤ t.l.length ∧ s = .int .i64 (tot (t.l.take i)) ∧ j = .int .i64 i ∧ RTab wr base g (.slice A t.l.length c) t ∧ Below w.heap.size w wr) (fun _ j _ => t.l.length - (intOf j).toNat)
  case atStart => exact ⟨0, Nat.zero_le _, rfl, rfl, HT.out, Below.refl _ _⟩
  case round =>
    clear HT
    obtain ⟨i, hi, rfl, rfl, hT, hb⟩ := hrel
    have HT := Hide.mk hT
    have HB := Hide.mk hb
    clear hT hb
    by_cases hlt : i < t.l.length
    · obtain ⟨b, o, c', cur, he, hbb, hbk, hra⟩ := HT.out.row.range (by omega)
      cases he
      have hx := range_one hra i hlt
      obtain ⟨y, hy⟩ : ∃ y, t.l.getD i ([], []) = y := ⟨_, rfl⟩
      have HT0 := Hide.mk (tot_take_hi t.l i 0 (Nat.zero_le _) hlt)
      rw [List.drop_zero, List.drop_zero, hy] at HT0
      have hle := tot_take_le t.l (i + 1) 0
      rw [List.drop_zero, List.drop_zero, HT0.out] at hle
      have hnn := tot_nonneg (t.l.take i)
      have hsm := HS.out
      rw [hy] at hx
      have c0 : wr.cell? ⟨b, o + i * 2, none⟩ = some (.string ⟨y.1.toArray⟩) := hx 0 _ rfl
      have c1 : wr.cell? ⟨b, o + i * 2 + 1, none⟩ = some (.string ⟨y.2.toArray⟩) := hx 1 _ rfl
      have HS0 : Hide (tot (t.l.take (i + 1)) = tot (t.l.take i) + (y.1.length : Int) + (y.2.length : Int) + 32) := ⟨by rw [HT0.out]; unfold fsz; omega⟩
      have hyl : tot (t.l.take i) + (y.1.length : Int) + (y.2.length : Int) + 32 ≤ 4096 := by unfold fsz at hle; omega
      clear hsm hle hx hbk hra
      generalize tot (t.l.take i) = sz at HT0 HS0 hnn hyl ⊢
      have e1 : IntKind.i64.wrap (sz + (y.1.length : Int)) = sz + (y.1.length : Int) := IntWalk.i64_in _ (by omega)
      have e2 : IntKind.i64.wrap (sz + (y.1.length : Int) + (y.2.length : Int)) = sz + (y.1.length : Int) + (y.2.length : Int) := IntWalk.i64_in _ (by omega)
      have e3 : IntKind.i64.wrap (sz + (y.1.length : Int) + (y.2.length : Int) + 32) = sz + (y.1.length : Int) + (y.2.length : Int) + 32 := IntWalk.i64_in _ (by omega)
      have e4 : IntKind.i64.wrap ((i : Int) + 1) = (i : Int) + 1 := IntWalk.i64_in _ (by omega)
      have hd : decide ((i : Int) < (t.l.length : Int)) = true := by simp; omega
      have hi0 : (0 : Int) ≤ (i : Int) := Int.natCast_nonneg _
      have hi1 : (i : Int) < (t.l.length : Int) := by omega
      obtain ⟨k0, k1, k2⟩ := HT.out.cells
      clear hy HT0 k0 k2
      go_wp2_with fail
      refine Plan.region_plan (fun w' => w'.cell? ⟨g, 1, none⟩ = some (.slice (some ⟨b, o, none⟩) t.l.length c) ∧ w'.cell? ⟨b, o + i * 2, none⟩ = some (.string ⟨y.1.toArray⟩) ∧ w'.cell? ⟨b, o + i * 2 + 1, none⟩ = some (.string ⟨y.2.toArray⟩)) [] [(0, 0, some 14), (1, 0, some 15), (2, 0, some 16), (3, 0, some 17), (4, 0, some 18), (5, 0, some 19), (6, 0, some 20), (7, 0, some 21), (8, 0, some 22), (9, 0, some 23), (10, 0, some 24), (11, 0, some 25), (12, 0, some 26), (13, 0, some 27), (14, 0, some 28), (15, 0, some 29), (16, 0, some 30), (17, 0, some 31), (18, 0, some 32), (19, 0, some 33), (20, 0, some 34), (21, 0, some 35), (22, 0, some 3)] (by kernel_rfl) (by kernel_rfl) (by decide) ⟨k1, c0, c1⟩ (fun wz ewz hS => ?_)
      have HTz := Hide.mk (HT.out.drew ewz)
      have HBz := Hide.mk (below_of_drew ewz HB.out)
      clear ewz HT HB k1 c0 c1
      (repeat (first | (refine Plan.plan_take (v := ?_) (a' := ?_) rfl ?_ ?_ ?_ ?_; rotate_left 2; (· rfl); (· (intro w' hs; go_simp; with_reducible rfl)); (· (simp only [Act.put, List.setIfInBounds_toArray, List.set_cons_zero, List.set_cons_succ]; rfl))) | (refine Plan.plan_skip (a' := ?_) rfl ?_ ?_ ?_; rotate_left 1; (· rfl); (· (simp only [Act.put, List.setIfInBounds_toArray, List.set_cons_zero, List.set_cons_succ]; rfl))) | (refine Plan.plan_pure (v := ?_) (a' := ?_) rfl ?_ ?_ ?_ ?_; rotate_left 2; (· rfl); (· (intro w'; go_simp; with_reducible rfl)); (· (simp only [Act.put, List.setIfInBounds_toArray, List.set_cons_zero, List.set_cons_succ]; rfl)))))
      refine Plan.plan_nil ?_
      clear hS
      go_wp2_with fail
      go_roundw
      case rel => exact ⟨i + 1, by omega, by rw [HS0.out], by go_num, HTz.out, HBz.out⟩
      case measure => simp [intOf]; omega
    · obtain rfl : i = t.l.length := by omega
      have hd : decide ((t.l.length : Int) < (t.l.length : Int)) = false := by simp
      obtain ⟨k0, k1, k2⟩ := HT.out.cells
      rw [List.take_length]
      go_wp2_with fail
      go_ret
      exact ⟨rfl, HB.out⟩
end Go.Proofs.Ytcjakeopbjokoaa.Tb
