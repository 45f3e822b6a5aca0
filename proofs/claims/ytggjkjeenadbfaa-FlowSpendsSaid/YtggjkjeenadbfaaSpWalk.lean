/- FlowSpends, the walk: however credit is spent and raised over a list of pairs, the Go text returns true and changes nothing that was there; for every limit and every slice of pairs whose cells are given. -/
import Derived.Test.YtggjkjeenadbfaaPFlowSpendsx2
import Derived.Test.YtggjkjeenadbfaaKPlan
import Derived.Deep.RegionHeld3
import Derived.IntWalk
import Derived.LoopN
import Derived.LoopTactic
namespace Go.Proofs.Ytggjkjeenadbfaa.Sp
open Go.RowKit Go.Proofs.Ytggjkjeenadbfaa.PFlowSpends Go.Proofs.YtggjkjeenadbfaaW.PrintWords Go.Proofs.YtggjkjeenadbfaaW.PrintLast Go.Proofs.YtggjkjeenadbfaaW.PrintMore
set_option linter.unusedVariables false
set_option linter.unusedSimpArgs false
theorem lives_ok (k : Nat) : mailcoachlaw14_lives.f (k + 1) = some true := by
  have h : mailcoachlaw14_lives.f 1 = some true := by decide +kernel
  exact at_rounds mailcoachlaw14_lives.mono (by omega) h
theorem may_ok (l u : Int) (h : u ≤ l) (hl : l ≤ 4611686018427387903) : flow_Credit_may.f l u = some true := by
  unfold flow_Credit_may.f; rw [if_pos hl, decide_eq_true h]
theorem left_ok (l u : Int) (h0 : 0 ≤ u) (h : u ≤ l) (hl : l ≤ 4611686018427387903) : flow_Left.f l u = some (l - u) := by
  unfold flow_Left.f; rw [may_ok l u h hl]; simp only [Option.bind_some, if_true]; rw [IntWalk.u64_in _ (by omega)]
theorem spend_ok (k : Nat) (l u n : Int) (h0 : 0 ≤ u) (hn : 0 ≤ n) (h : u + n ≤ l) (hl : l ≤ 4611686018427387903) : flow_Spend.f (k + 1) l u n = some (l, u + n, 0) := by
  unfold flow_Spend.f; rw [may_ok l u (by omega) hl]; simp only [Option.bind_some, if_true]
  simp only [flow_Spend.j0]; rw [if_neg (by simp; omega), left_ok l u h0 (by omega) hl]; simp only [Option.bind_some]
  rw [if_neg (by omega), IntWalk.u64_in _ (by omega)]
theorem spend_no (k : Nat) (l u n : Int) (h0 : 0 ≤ u) (hn : n ≤ 4611686018427387903) (h1 : u ≤ l) (h : l < u + n) (hl : l ≤ 4611686018427387903) : flow_Spend.f (k + 1) l u n = some (0, 0, 7) := by
  unfold flow_Spend.f; rw [may_ok l u (by omega) hl]; simp only [Option.bind_some, if_true]
  simp only [flow_Spend.j0]; rw [if_neg (by simp; omega), left_ok l u h0 (by omega) hl]; simp only [Option.bind_some]
  rw [if_pos (by omega)]
theorem raise_ok (l u n : Int) (h : u ≤ l) (hl : l ≤ 4611686018427387903) (hn : n ≤ 4611686018427387903) : flow_Raise.f l u n = some (mx l n, u, 0) := by
  unfold flow_Raise.f; rw [may_ok l u h (by omega)]; simp only [Option.bind_some, if_true]
  rw [if_neg (by omega)]
theorem lives_any (w : World) : Calls Try.prog 8 #[] w fun e w' => e = .returned (.bool true) ∧ Below w.heap.size w w' :=
  mailcoachlaw14_lives.calls 1 true w (lives_ok 0)

/-- What the walk is told of the slice of pairs: no pair, or the cells of them all. -/
def Pairs (w : World) (a0 : Option Addr) (len : Nat) (z : Nat → Int) : Prop :=
  (∀ j, 0 ≤ z j ∧ z j ≤ 65535) ∧ (0 < len → ∃ b off, a0 = some ⟨b, off, none⟩ ∧ ∀ j, j < 2 * len → w.cell? ⟨b, off + j, none⟩ = some (.int .u16 (z j)))

set_option maxHeartbeats 1000000 in
set_option maxRecDepth 100000 in
theorem walk (lim : Int) (a0 : Option Addr) (len cap : Nat) (z : Nat → Int) (w : World) (h0 : 0 ≤ lim) (h1 : lim ≤ 4294967295) (hz : Pairs w a0 len z) :
    Calls Try.prog 3 #[.int .u32 lim, .slice a0 len cap] w fun e w' => e = .returned (.bool true) ∧ Below w.heap.size w w' := by
  by_cases hl : 1000 < len
  · go_enter Try.func3, Try.ntmps3
    go_wp2_with (go_at_call 8; refine (lives_any _).mono ?_; rintro e w' ⟨rfl, hb⟩)
    go_ret
    exact ⟨rfl, by assumption⟩
  · have hl' : (len : Int) ≤ 1000 := by omega
    clear hl
    go_enter Try.func3, Try.ntmps3
    go_wp2_with fail
    have hg0 : w.heap.size = w.heap.size := rfl
    generalize hG : w.heap.size = G at *
    go_loopw [6, 7] (fun used i wr => ∃ (k : Nat) (U L : Int), k ≤ len ∧ i = .int .i64 k ∧ used = .int .u64 U ∧ 0 ≤ U ∧ U ≤ L ∧ L ≤ 4294967295 ∧ wr.heap[G]? = some (.cells #[.int .u64 L, .int .u64 U] 27 (0, 0)) ∧ Below G w wr) (fun _ i _ => len - (intOf i).toNat)
    case atStart => exact ⟨0, 0, lim, Nat.zero_le _, rfl, rfl, Int.le_refl _, h0, h1, by rw [← hG]; exact blk_new w _, by rw [← hG]; exact (Below.refl _ _).alloc (Nat.le_refl _) _⟩
    case round =>
      obtain ⟨k, U, L, hk, rfl, rfl, hU, hUL, hL, hblk, hbel⟩ := hrel
      replace hblk := Aside0.mk hblk
      replace hbel := Aside0.mk hbel
      by_cases hlt : k < len
      · obtain ⟨b, off, rfl, hcell⟩ := hz.2 (by omega)
        have hn := hz.1 (2 * k)
        have hmm := hz.1 (2 * k + 1)
        have K1 := Aside0.mk (show w.cell? ⟨b, off + k * 2, none⟩ = some (.int .u16 (z (2 * k))) from by have := hcell (2 * k) (by omega); rw [Nat.mul_comm] at this; exact this ▸ by rw [Nat.mul_comm k 2])
        have K2 := Aside0.mk (show w.cell? ⟨b, off + k * 2 + 1, none⟩ = some (.int .u16 (z (2 * k + 1))) from by have := hcell (2 * k + 1) (by omega); rw [Nat.add_assoc, Nat.mul_comm k 2]; exact this)
        clear hcell hz
        generalize z (2 * k) = n at *
        generalize z (2 * k + 1) = m at *
        have hbG : b < G := by rw [← hG]; exact World.block_lt_of_cell? w _ K1.out
        have g1 : wr.cell? ⟨b, off + k * 2, none⟩ = some (.int .u16 n) := (hbel.out.cell (p := ⟨b, off + k * 2, none⟩) hbG).trans K1.out
        have c0 : wr.cell? ⟨G, 0, none⟩ = some (.int .u64 L) := (blk_cell hblk.out 0).trans rfl
        have c1 : wr.cell? ⟨G, 1, none⟩ = some (.int .u64 U) := (blk_cell hblk.out 1).trans rfl
        have f0 := blk_frozen hblk.out 0
        have f1 := blk_frozen hblk.out 1
        by_cases hfit : U + n ≤ L
        · go_wp2_with fail
          refine (flow_Spend.calls 1 L U n L (U + n) 0 _ (spend_ok 0 L U n hU hn.1 hfit (by omega))).mono ?_
          rintro e w1 ⟨rfl, hb1⟩
          have BK1 := Aside0.mk (blk_below hblk.out hb1)
          have c0' : w1.cell? ⟨G, 0, none⟩ = some (.int .u64 L) := (blk_cell BK1.out 0).trans rfl
          have c1' : w1.cell? ⟨G, 1, none⟩ = some (.int .u64 U) := (blk_cell BK1.out 1).trans rfl
          have f0' := blk_frozen BK1.out 0
          have f1' := blk_frozen BK1.out 1
          have hs1 : G < w1.heap.size := blk_lt BK1.out
          have HB1 := Aside0.mk (below_then hbel.out (Nat.le_of_lt (blk_lt hblk.out)) hb1)
          clear c0 c1 f0 f1 g1 hb1 hblk
          go_wp2_with fail
          have BK2 := blk_alloc (blk_put (blk_put BK1.out 0 (.int .u64 L) rfl) 1 (.int .u64 (U + n)) rfl) (.cells #[.int .u64 L, .int .u64 (U + n)] 27)
          have HB2 := (((HB1.out).setCell (p := ⟨G, 0, none⟩) (Nat.le_refl _) (.int .u64 L)).setCell (p := ⟨G, 1, none⟩) (Nat.le_refl _) (.int .u64 (U + n))).alloc (by simp; omega) (.cells #[.int .u64 L, .int .u64 (U + n)] 27)
          clear c0' c1' f0' f1'
          have hV0 : 0 ≤ U + n := by omega
          have hVL : U + n ≤ L := hfit
          clear hfit BK1 HB1 hs1
          generalize U + n = V at *
          have HB2' := Aside0.mk HB2
          have BH := Aside0.mk BK2
          clear HB2 BK2
          generalize hW2 : World.alloc _ _ = w2 at *
          clear hW2
          have d0 : w2.cell? ⟨G, 0, none⟩ = some (.int .u64 L) := (blk_cell BH.out 0).trans rfl
          have d1 : w2.cell? ⟨G, 1, none⟩ = some (.int .u64 V) := (blk_cell BH.out 1).trans rfl
          have hs2 : G < w2.heap.size := blk_lt BH.out
          have g3 : w2.cell? ⟨b, off + k * 2 + 1, none⟩ = some (.int .u16 m) := (HB2'.out.cell (p := ⟨b, off + k * 2 + 1, none⟩) hbG).trans K2.out
          have hwm : IntKind.u64.wrap m = m := IntWalk.u64_in _ (by omega)
          have hr := raise_ok L V m hVL (by omega) (by omega)
          have hM1 : V ≤ mx L m := by unfold mx; split <;> omega
          have hM2 : m ≤ mx L m := by unfold mx; split <;> omega
          have hM3 : mx L m ≤ 4294967295 := by unfold mx; split <;> omega
          generalize mx L m = M at hr hM1 hM2 hM3
          have hL2 := left_ok M V hV0 (by omega) (by omega)
          obtain ⟨V2, hV2⟩ : ∃ x, x = V := ⟨V, rfl⟩
          obtain ⟨X, hX⟩ : ∃ x, x = M - V := ⟨_, rfl⟩
          obtain ⟨Y, hY⟩ : ∃ x, x = M := ⟨_, rfl⟩
          have hne : (V2 != V) = false := by simp [hV2]
          have hlt2 : decide (M < m) = false := by simp; omega
          have hsum : IntKind.u64.wrap (X + V) = Y := by rw [IntWalk.u64_in _ (by omega)]; omega
          have hne2 : (Y != M) = false := by simp [hY]
          rw [← hX] at hL2
          rw [show (some (M, V, (0 : Int)) = some (M, V2, 0)) from by rw [hV2]] at hr
          rw [show flow_Left.f M V = flow_Left.f M V2 from by rw [hV2]] at hL2
          have HV2 := Aside0.mk hV2
          clear hX hY hV2
          have HR := Aside0.mk hr
          have HL := Aside0.mk hL2
          clear hr hL2
          refine Plan.region_plan (fun w' => w'.cell? ⟨G, 0, none⟩ = some (.int .u64 L) ∧ w'.cell? ⟨G, 1, none⟩ = some (.int .u64 V) ∧ w'.cell? ⟨b, off + k * 2 + 1, none⟩ = some (.int .u16 m)) [11, 12] [(0, 0, some 52), (1, 0, some 53), (2, 0, some 54), (3, 0, some 55), (4, 0, some 56), (5, 0, some 57), (6, 0, some 58), (7, 1, some 59), (8, 0, some 51), (9, 0, some 60), (10, 3, some 61), (11, 2, none), (12, 2, some 10)] (by kernel_rfl) (by kernel_rfl) (by decide) ⟨d0, d1, g3⟩ (fun wz ewz hS => ?_)
          (repeat (first | (refine Plan.plan_take (v := ?_) (a' := ?_) rfl ?_ ?_ ?_ ?_; rotate_left 2; (· rfl); (· (intro w' hs; go_simp; with_reducible rfl)); (· (simp only [Act.put, List.setIfInBounds_toArray, List.set_cons_zero, List.set_cons_succ]; rfl))) | (refine Plan.plan_skip (a' := ?_) rfl ?_ ?_ ?_; rotate_left 1; (· rfl); (· (simp only [Act.put, List.setIfInBounds_toArray, List.set_cons_zero, List.set_cons_succ]; rfl))) | (refine Plan.plan_pure (v := ?_) (a' := ?_) rfl ?_ ?_ ?_ ?_; rotate_left 2; (· rfl); (· (intro w'; go_simp; with_reducible rfl)); (· (simp only [Act.put, List.setIfInBounds_toArray, List.set_cons_zero, List.set_cons_succ]; rfl)))))
          refine Plan.plan_call rfl Try.func10 (by kernel_rfl) rfl #[.agg #[.int .u64 L, .int .u64 V], .int .u64 m] rfl rfl rfl (by (try simp only [List.map_toArray, List.map_cons, List.map_nil]); rfl) ?_
          refine (flow_Raise.calls L V m M V2 0 _ HR.out).mono ?_
          rintro e w3 ⟨rfl, hb3⟩
          have BK3 := Aside0.mk (blk_below (blk_drew BH.out) (ewz ▸ hb3))
          have HB3 := Aside0.mk (below_then (below_drew HB2'.out) (Nat.le_of_lt hs2) (ewz ▸ hb3))
          have q0 : w3.cell? ⟨G, 0, none⟩ = some (.int .u64 L) := (blk_cell BK3.out 0).trans rfl
          have q1 : w3.cell? ⟨G, 1, none⟩ = some (.int .u64 V) := (blk_cell BK3.out 1).trans rfl
          have q2 : w3.cell? ⟨b, off + k * 2 + 1, none⟩ = some (.int .u16 m) := (HB3.out.cell (p := ⟨b, off + k * 2 + 1, none⟩) hbG).trans K2.out
          have r0 := blk_frozen BK3.out 0
          have r1 := blk_frozen BK3.out 1
          clear hb3
          refine ⟨_, rfl, ⟨q0, q1, q2⟩, ?_⟩
          intro a' ha
          simp only [Act.put, List.setIfInBounds_toArray, List.set_cons_zero, List.set_cons_succ] at ha
          subst ha
          (repeat (first | (refine Plan.plan_take (v := ?_) (a' := ?_) rfl ?_ ?_ ?_ ?_; rotate_left 2; (· rfl); (· (intro w' hs; go_simp; with_reducible rfl)); (· (simp only [Act.put, List.setIfInBounds_toArray, List.set_cons_zero, List.set_cons_succ]; rfl))) | (refine Plan.plan_skip (a' := ?_) rfl ?_ ?_ ?_; rotate_left 1; (· rfl); (· (simp only [Act.put, List.setIfInBounds_toArray, List.set_cons_zero, List.set_cons_succ]; rfl))) | (refine Plan.plan_pure (v := ?_) (a' := ?_) rfl ?_ ?_ ?_ ?_; rotate_left 2; (· rfl); (· (intro w'; go_simp; with_reducible rfl)); (· (simp only [Act.put, List.setIfInBounds_toArray, List.set_cons_zero, List.set_cons_succ]; rfl)))))
          (refine Plan.plan_last_store (w1 := ?_) (a' := ?_) rfl rfl ?_ ?_ ?_ ?_; rotate_left 2; (· rfl); (· (go_simp; with_reducible rfl)); (· (simp only [Act.put, List.setIfInBounds_toArray, List.set_cons_zero, List.set_cons_succ]; rfl)))
          (refine Plan.plan_last_run (v := ?_) (w1 := ?_) (a' := ?_) rfl rfl ?_ ?_ ?_ ?_; rotate_left 3; (· rfl); (· (go_simp; first | (with_reducible rfl) | (constructor <;> with_reducible rfl))); (· (simp only [Act.put, List.setIfInBounds_toArray, List.set_cons_zero, List.set_cons_succ]; rfl)))
          refine Plan.plan_nil ?_
          have BK4 := Aside0.mk (blk_put (blk_put BK3.out 0 (.int .u64 M) rfl) 1 (.int .u64 V2) rfl)
          have HB4 := Aside0.mk ((HB3.out.setCell (p := ⟨G, 0, none⟩) (Nat.le_refl _) (.int .u64 M)).setCell (p := ⟨G, 1, none⟩) (Nat.le_refl _) (.int .u64 V2))
          clear q0 q1 q2 r0 r1 BK3 HB3 d0 d1 g3 HB2' BH hs2 ewz hS
          go_wp2_with fail
          generalize hW4 : World.setCell (World.setCell _ _ _) _ _ = w4 at *
          clear hW4
          have d0 : w4.cell? ⟨G, 0, none⟩ = some (.int .u64 M) := (blk_cell BK4.out 0).trans rfl
          have d1 : w4.cell? ⟨G, 1, none⟩ = some (.int .u64 V2) := (blk_cell BK4.out 1).trans rfl
          have hs2 : G < w4.heap.size := blk_lt BK4.out
          have g3 : w4.cell? ⟨b, off + k * 2 + 1, none⟩ = some (.int .u16 m) := (HB4.out.cell (p := ⟨b, off + k * 2 + 1, none⟩) hbG).trans K2.out
          refine Plan.region_plan (fun w' => w'.cell? ⟨G, 0, none⟩ = some (.int .u64 M) ∧ w'.cell? ⟨G, 1, none⟩ = some (.int .u64 V2) ∧ w'.cell? ⟨b, off + k * 2 + 1, none⟩ = some (.int .u16 m)) [] [(0, 0, some 62), (1, 0, some 63), (2, 0, some 64), (3, 0, some 65), (4, 0, some 66), (5, 0, some 67), (6, 0, some 68), (7, 0, some 69), (8, 0, some 70), (9, 0, some 71), (10, 0, some 72), (11, 0, some 73), (12, 0, some 74), (13, 0, some 75), (14, 0, some 76), (15, 0, some 77), (16, 0, some 78), (17, 0, some 79), (18, 0, some 80), (19, 0, some 81), (20, 0, some 82), (22, 0, some 84), (24, 0, some 86), (25, 0, some 87), (21, 1, some 83), (23, 0, some 85), (26, 0, some 88), (27, 0, some 89)] (by kernel_rfl) (by kernel_rfl) (by decide) ⟨d0, d1, g3⟩ (fun wz ewz hS => ?_)
          (repeat (first | (refine Plan.plan_take (v := ?_) (a' := ?_) rfl ?_ ?_ ?_ ?_; rotate_left 2; (· rfl); (· (intro w' hs; go_simp; with_reducible rfl)); (· (simp only [Act.put, List.setIfInBounds_toArray, List.set_cons_zero, List.set_cons_succ]; rfl))) | (refine Plan.plan_skip (a' := ?_) rfl ?_ ?_ ?_; rotate_left 1; (· rfl); (· (simp only [Act.put, List.setIfInBounds_toArray, List.set_cons_zero, List.set_cons_succ]; rfl))) | (refine Plan.plan_pure (v := ?_) (a' := ?_) rfl ?_ ?_ ?_ ?_; rotate_left 2; (· rfl); (· (intro w'; go_simp; with_reducible rfl)); (· (simp only [Act.put, List.setIfInBounds_toArray, List.set_cons_zero, List.set_cons_succ]; rfl)))))
          refine Plan.plan_call rfl Try.func11 (by kernel_rfl) rfl #[.agg #[.int .u64 M, .int .u64 V2]] rfl rfl rfl (by (try simp only [List.map_toArray, List.map_cons, List.map_nil]); rfl) ?_
          refine (flow_Left.calls M V2 X _ HL.out).mono ?_
          rintro e w5 ⟨rfl, hb5⟩
          have BK5 := Aside0.mk (blk_below (blk_drew BK4.out) (ewz ▸ hb5))
          have HB5 := Aside0.mk (below_then (below_drew HB4.out) (Nat.le_of_lt hs2) (ewz ▸ hb5))
          refine ⟨_, rfl, ⟨(blk_cell BK5.out 0).trans rfl, (blk_cell BK5.out 1).trans rfl, (HB5.out.cell (p := ⟨b, off + k * 2 + 1, none⟩) hbG).trans K2.out⟩, ?_⟩
          intro a' ha
          simp only [Act.put, List.setIfInBounds_toArray, List.set_cons_zero, List.set_cons_succ] at ha
          subst ha
          clear hb5
          (repeat (first | (refine Plan.plan_take (v := ?_) (a' := ?_) rfl ?_ ?_ ?_ ?_; rotate_left 2; (· rfl); (· (intro w' hs; go_simp; with_reducible rfl)); (· (simp only [Act.put, List.setIfInBounds_toArray, List.set_cons_zero, List.set_cons_succ]; rfl))) | (refine Plan.plan_skip (a' := ?_) rfl ?_ ?_ ?_; rotate_left 1; (· rfl); (· (simp only [Act.put, List.setIfInBounds_toArray, List.set_cons_zero, List.set_cons_succ]; rfl))) | (refine Plan.plan_pure (v := ?_) (a' := ?_) rfl ?_ ?_ ?_ ?_; rotate_left 2; (· rfl); (· (intro w'; go_simp; with_reducible rfl)); (· (simp only [Act.put, List.setIfInBounds_toArray, List.set_cons_zero, List.set_cons_succ]; rfl)))))
          refine Plan.plan_nil ?_
          clear hne hlt2 hsum hne2 hwm
          go_wp2_with fail
          go_roundw
          case rel => exact ⟨k + 1, V, M, by omega, by go_num, rfl, hV0, by omega, by omega, HV2.out ▸ BK5.out, HB5.out⟩
          case measure => simp [intOf]; omega
        · go_wp2_with fail
          refine (flow_Spend.calls 1 L U n 0 0 7 _ (spend_no 0 L U n hU (by omega) hUL (by omega) (by omega))).mono ?_
          rintro e w1 ⟨rfl, hb1⟩
          have BK1 := Aside0.mk (blk_below hblk.out hb1)
          have c0' : w1.cell? ⟨G, 0, none⟩ = some (.int .u64 L) := (blk_cell BK1.out 0).trans rfl
          have c1' : w1.cell? ⟨G, 1, none⟩ = some (.int .u64 U) := (blk_cell BK1.out 1).trans rfl
          have hs1 : G < w1.heap.size := blk_lt BK1.out
          have HB1 := Aside0.mk (below_then hbel.out (Nat.le_of_lt (blk_lt hblk.out)) hb1)
          clear c0 c1 f0 f1 g1 hb1 hblk
          go_wp2_with fail
          have BK2 := blk_alloc BK1.out (.cells #[.int .u64 0, .int .u64 0] 27)
          have HB2 := HB1.out.alloc (by omega) (.cells #[.int .u64 0, .int .u64 0] 27)
          clear c0' c1'
          have hV0 : 0 ≤ U := by omega
          have hVL : U ≤ L := hUL
          clear hfit BK1 HB1 hs1
          generalize U = V at *
          have HB2' := Aside0.mk HB2
          have BH := Aside0.mk BK2
          clear HB2 BK2
          generalize hW2 : World.alloc _ _ = w2 at *
          clear hW2
          have d0 : w2.cell? ⟨G, 0, none⟩ = some (.int .u64 L) := (blk_cell BH.out 0).trans rfl
          have d1 : w2.cell? ⟨G, 1, none⟩ = some (.int .u64 V) := (blk_cell BH.out 1).trans rfl
          have hs2 : G < w2.heap.size := blk_lt BH.out
          have g3 : w2.cell? ⟨b, off + k * 2 + 1, none⟩ = some (.int .u16 m) := (HB2'.out.cell (p := ⟨b, off + k * 2 + 1, none⟩) hbG).trans K2.out
          have hwm : IntKind.u64.wrap m = m := IntWalk.u64_in _ (by omega)
          have hr := raise_ok L V m hVL (by omega) (by omega)
          have hM1 : V ≤ mx L m := by unfold mx; split <;> omega
          have hM2 : m ≤ mx L m := by unfold mx; split <;> omega
          have hM3 : mx L m ≤ 4294967295 := by unfold mx; split <;> omega
          generalize mx L m = M at hr hM1 hM2 hM3
          have hL2 := left_ok M V hV0 (by omega) (by omega)
          obtain ⟨V2, hV2⟩ : ∃ x, x = V := ⟨V, rfl⟩
          obtain ⟨X, hX⟩ : ∃ x, x = M - V := ⟨_, rfl⟩
          obtain ⟨Y, hY⟩ : ∃ x, x = M := ⟨_, rfl⟩
          have hne : (V2 != V) = false := by simp [hV2]
          have hlt2 : decide (M < m) = false := by simp; omega
          have hsum : IntKind.u64.wrap (X + V) = Y := by rw [IntWalk.u64_in _ (by omega)]; omega
          have hne2 : (Y != M) = false := by simp [hY]
          rw [← hX] at hL2
          rw [show (some (M, V, (0 : Int)) = some (M, V2, 0)) from by rw [hV2]] at hr
          rw [show flow_Left.f M V = flow_Left.f M V2 from by rw [hV2]] at hL2
          have HV2 := Aside0.mk hV2
          clear hX hY hV2
          have HR := Aside0.mk hr
          have HL := Aside0.mk hL2
          clear hr hL2
          refine Plan.region_plan (fun w' => w'.cell? ⟨G, 0, none⟩ = some (.int .u64 L) ∧ w'.cell? ⟨G, 1, none⟩ = some (.int .u64 V) ∧ w'.cell? ⟨b, off + k * 2 + 1, none⟩ = some (.int .u16 m)) [11, 12] [(0, 0, some 52), (1, 0, some 53), (2, 0, some 54), (3, 0, some 55), (4, 0, some 56), (5, 0, some 57), (6, 0, some 58), (7, 1, some 59), (8, 0, some 51), (9, 0, some 60), (10, 3, some 61), (11, 2, none), (12, 2, some 10)] (by kernel_rfl) (by kernel_rfl) (by decide) ⟨d0, d1, g3⟩ (fun wz ewz hS => ?_)
          (repeat (first | (refine Plan.plan_take (v := ?_) (a' := ?_) rfl ?_ ?_ ?_ ?_; rotate_left 2; (· rfl); (· (intro w' hs; go_simp; with_reducible rfl)); (· (simp only [Act.put, List.setIfInBounds_toArray, List.set_cons_zero, List.set_cons_succ]; rfl))) | (refine Plan.plan_skip (a' := ?_) rfl ?_ ?_ ?_; rotate_left 1; (· rfl); (· (simp only [Act.put, List.setIfInBounds_toArray, List.set_cons_zero, List.set_cons_succ]; rfl))) | (refine Plan.plan_pure (v := ?_) (a' := ?_) rfl ?_ ?_ ?_ ?_; rotate_left 2; (· rfl); (· (intro w'; go_simp; with_reducible rfl)); (· (simp only [Act.put, List.setIfInBounds_toArray, List.set_cons_zero, List.set_cons_succ]; rfl)))))
          refine Plan.plan_call rfl Try.func10 (by kernel_rfl) rfl #[.agg #[.int .u64 L, .int .u64 V], .int .u64 m] rfl rfl rfl (by (try simp only [List.map_toArray, List.map_cons, List.map_nil]); rfl) ?_
          refine (flow_Raise.calls L V m M V2 0 _ HR.out).mono ?_
          rintro e w3 ⟨rfl, hb3⟩
          have BK3 := Aside0.mk (blk_below (blk_drew BH.out) (ewz ▸ hb3))
          have HB3 := Aside0.mk (below_then (below_drew HB2'.out) (Nat.le_of_lt hs2) (ewz ▸ hb3))
          have q0 : w3.cell? ⟨G, 0, none⟩ = some (.int .u64 L) := (blk_cell BK3.out 0).trans rfl
          have q1 : w3.cell? ⟨G, 1, none⟩ = some (.int .u64 V) := (blk_cell BK3.out 1).trans rfl
          have q2 : w3.cell? ⟨b, off + k * 2 + 1, none⟩ = some (.int .u16 m) := (HB3.out.cell (p := ⟨b, off + k * 2 + 1, none⟩) hbG).trans K2.out
          have r0 := blk_frozen BK3.out 0
          have r1 := blk_frozen BK3.out 1
          clear hb3
          refine ⟨_, rfl, ⟨q0, q1, q2⟩, ?_⟩
          intro a' ha
          simp only [Act.put, List.setIfInBounds_toArray, List.set_cons_zero, List.set_cons_succ] at ha
          subst ha
          (repeat (first | (refine Plan.plan_take (v := ?_) (a' := ?_) rfl ?_ ?_ ?_ ?_; rotate_left 2; (· rfl); (· (intro w' hs; go_simp; with_reducible rfl)); (· (simp only [Act.put, List.setIfInBounds_toArray, List.set_cons_zero, List.set_cons_succ]; rfl))) | (refine Plan.plan_skip (a' := ?_) rfl ?_ ?_ ?_; rotate_left 1; (· rfl); (· (simp only [Act.put, List.setIfInBounds_toArray, List.set_cons_zero, List.set_cons_succ]; rfl))) | (refine Plan.plan_pure (v := ?_) (a' := ?_) rfl ?_ ?_ ?_ ?_; rotate_left 2; (· rfl); (· (intro w'; go_simp; with_reducible rfl)); (· (simp only [Act.put, List.setIfInBounds_toArray, List.set_cons_zero, List.set_cons_succ]; rfl)))))
          (refine Plan.plan_last_store (w1 := ?_) (a' := ?_) rfl rfl ?_ ?_ ?_ ?_; rotate_left 2; (· rfl); (· (go_simp; with_reducible rfl)); (· (simp only [Act.put, List.setIfInBounds_toArray, List.set_cons_zero, List.set_cons_succ]; rfl)))
          (refine Plan.plan_last_run (v := ?_) (w1 := ?_) (a' := ?_) rfl rfl ?_ ?_ ?_ ?_; rotate_left 3; (· rfl); (· (go_simp; first | (with_reducible rfl) | (constructor <;> with_reducible rfl))); (· (simp only [Act.put, List.setIfInBounds_toArray, List.set_cons_zero, List.set_cons_succ]; rfl)))
          refine Plan.plan_nil ?_
          have BK4 := Aside0.mk (blk_put (blk_put BK3.out 0 (.int .u64 M) rfl) 1 (.int .u64 V2) rfl)
          have HB4 := Aside0.mk ((HB3.out.setCell (p := ⟨G, 0, none⟩) (Nat.le_refl _) (.int .u64 M)).setCell (p := ⟨G, 1, none⟩) (Nat.le_refl _) (.int .u64 V2))
          clear q0 q1 q2 r0 r1 BK3 HB3 d0 d1 g3 HB2' BH hs2 ewz hS
          go_wp2_with fail
          generalize hW4 : World.setCell (World.setCell _ _ _) _ _ = w4 at *
          clear hW4
          have d0 : w4.cell? ⟨G, 0, none⟩ = some (.int .u64 M) := (blk_cell BK4.out 0).trans rfl
          have d1 : w4.cell? ⟨G, 1, none⟩ = some (.int .u64 V2) := (blk_cell BK4.out 1).trans rfl
          have hs2 : G < w4.heap.size := blk_lt BK4.out
          have g3 : w4.cell? ⟨b, off + k * 2 + 1, none⟩ = some (.int .u16 m) := (HB4.out.cell (p := ⟨b, off + k * 2 + 1, none⟩) hbG).trans K2.out
          refine Plan.region_plan (fun w' => w'.cell? ⟨G, 0, none⟩ = some (.int .u64 M) ∧ w'.cell? ⟨G, 1, none⟩ = some (.int .u64 V2) ∧ w'.cell? ⟨b, off + k * 2 + 1, none⟩ = some (.int .u16 m)) [] [(0, 0, some 62), (1, 0, some 63), (2, 0, some 64), (3, 0, some 65), (4, 0, some 66), (5, 0, some 67), (6, 0, some 68), (7, 0, some 69), (8, 0, some 70), (9, 0, some 71), (10, 0, some 72), (11, 0, some 73), (12, 0, some 74), (13, 0, some 75), (14, 0, some 76), (15, 0, some 77), (16, 0, some 78), (17, 0, some 79), (18, 0, some 80), (19, 0, some 81), (20, 0, some 82), (22, 0, some 84), (24, 0, some 86), (25, 0, some 87), (21, 1, some 83), (23, 0, some 85), (26, 0, some 88), (27, 0, some 89)] (by kernel_rfl) (by kernel_rfl) (by decide) ⟨d0, d1, g3⟩ (fun wz ewz hS => ?_)
          (repeat (first | (refine Plan.plan_take (v := ?_) (a' := ?_) rfl ?_ ?_ ?_ ?_; rotate_left 2; (· rfl); (· (intro w' hs; go_simp; with_reducible rfl)); (· (simp only [Act.put, List.setIfInBounds_toArray, List.set_cons_zero, List.set_cons_succ]; rfl))) | (refine Plan.plan_skip (a' := ?_) rfl ?_ ?_ ?_; rotate_left 1; (· rfl); (· (simp only [Act.put, List.setIfInBounds_toArray, List.set_cons_zero, List.set_cons_succ]; rfl))) | (refine Plan.plan_pure (v := ?_) (a' := ?_) rfl ?_ ?_ ?_ ?_; rotate_left 2; (· rfl); (· (intro w'; go_simp; with_reducible rfl)); (· (simp only [Act.put, List.setIfInBounds_toArray, List.set_cons_zero, List.set_cons_succ]; rfl)))))
          refine Plan.plan_call rfl Try.func11 (by kernel_rfl) rfl #[.agg #[.int .u64 M, .int .u64 V2]] rfl rfl rfl (by (try simp only [List.map_toArray, List.map_cons, List.map_nil]); rfl) ?_
          refine (flow_Left.calls M V2 X _ HL.out).mono ?_
          rintro e w5 ⟨rfl, hb5⟩
          have BK5 := Aside0.mk (blk_below (blk_drew BK4.out) (ewz ▸ hb5))
          have HB5 := Aside0.mk (below_then (below_drew HB4.out) (Nat.le_of_lt hs2) (ewz ▸ hb5))
          refine ⟨_, rfl, ⟨(blk_cell BK5.out 0).trans rfl, (blk_cell BK5.out 1).trans rfl, (HB5.out.cell (p := ⟨b, off + k * 2 + 1, none⟩) hbG).trans K2.out⟩, ?_⟩
          intro a' ha
          simp only [Act.put, List.setIfInBounds_toArray, List.set_cons_zero, List.set_cons_succ] at ha
          subst ha
          clear hb5
          (repeat (first | (refine Plan.plan_take (v := ?_) (a' := ?_) rfl ?_ ?_ ?_ ?_; rotate_left 2; (· rfl); (· (intro w' hs; go_simp; with_reducible rfl)); (· (simp only [Act.put, List.setIfInBounds_toArray, List.set_cons_zero, List.set_cons_succ]; rfl))) | (refine Plan.plan_skip (a' := ?_) rfl ?_ ?_ ?_; rotate_left 1; (· rfl); (· (simp only [Act.put, List.setIfInBounds_toArray, List.set_cons_zero, List.set_cons_succ]; rfl))) | (refine Plan.plan_pure (v := ?_) (a' := ?_) rfl ?_ ?_ ?_ ?_; rotate_left 2; (· rfl); (· (intro w'; go_simp; with_reducible rfl)); (· (simp only [Act.put, List.setIfInBounds_toArray, List.set_cons_zero, List.set_cons_succ]; rfl)))))
          refine Plan.plan_nil ?_
          clear hne hlt2 hsum hne2 hwm
          go_wp2_with fail
          go_roundw
          case rel => exact ⟨k + 1, V, M, by omega, by go_num, rfl, hV0, by omega, by omega, HV2.out ▸ BK5.out, HB5.out⟩
          case measure => simp [intOf]; omega
      · go_wp2_with (go_at_call 8; refine (lives_any _).mono ?_; rintro e w' ⟨rfl, hb⟩)
        go_ret
        exact ⟨rfl, below_then (by rw [hG]; exact hbel.out) (by rw [hG]; exact Nat.le_of_lt (blk_lt hblk.out)) (by assumption)⟩
end Go.Proofs.Ytggjkjeenadbfaa.Sp
