/- The twin's Find. -/
import Derived.Test.YtcjakeopbjokoaaT13
namespace Go.Proofs.Ytcjakeopbjokoaa.Tb
open Go.RowKit Go.Proofs.YtcjakeopbjokoaaW.PrintWords Go.Proofs.YtcjakeopbjokoaaW.PrintLast Go.Proofs.YtcjakeopbjokoaaW.PrintMore Mem
set_option linter.unusedVariables false
set_option linter.unusedSimpArgs false
def bidx (p : F → Bool) (l : List F) (k : Nat) : Int := if fidx p (l.drop k) = -1 then -1 else fidx p (l.drop k) + k
theorem fidx_cons (p : F → Bool) (x : F) (l : List F) : fidx p (x :: l) = if p x = true then 0 else if fidx p l = -1 then -1 else fidx p l + 1 := by
  unfold fidx
  rw [List.findIdx_cons]
  cases h : p x
  · simp only [cond_false, Bool.false_eq_true, if_false, List.length_cons]
    by_cases h1 : l.findIdx p < l.length
    · rw [if_pos (by omega), if_pos h1, if_neg (by omega)]
      push_cast
      rfl
    · rw [if_neg (by omega), if_neg h1, if_pos rfl]
  · simp
theorem fidx_ge (p : F → Bool) (l : List F) : -1 ≤ fidx p l := by unfold fidx; split <;> omega
theorem bidx_end (p : F → Bool) (l : List F) : bidx p l l.length = -1 := by unfold bidx; rw [List.drop_length]; rfl
theorem bidx_zero (p : F → Bool) (l : List F) : bidx p l 0 = fidx p l := by
  unfold bidx
  rw [List.drop_zero]
  by_cases h : fidx p l = -1
  · rw [if_pos h, h]
  · rw [if_neg h]; simp
theorem bidx_step (p : F → Bool) (l : List F) (k : Nat) (hk : k < l.length) : bidx p l k = if p (l.getD k ([], [])) = true then (k : Int) else bidx p l (k + 1) := by
  have e : l.drop k = l.getD k ([], []) :: l.drop (k + 1) := by
    rw [List.drop_eq_getElem_cons hk, List.getD_eq_getElem?_getD, List.getElem?_eq_getElem hk]; rfl
  have hge := fidx_ge p (l.drop (k + 1))
  unfold bidx
  rw [e, fidx_cons]
  by_cases h : p (l.getD k ([], [])) = true
  · rw [if_pos h, if_pos h, if_neg (by decide)]; omega
  · rw [if_neg h, if_neg h]
    by_cases h2 : fidx p (l.drop (k + 1)) = -1
    · rw [if_pos h2, if_pos h2, if_pos rfl]
    · rw [if_neg h2, if_neg h2, if_neg (by omega)]
      push_cast
      omega
set_option maxHeartbeats 2000000 in
set_option maxRecDepth 100000 in
theorem rfind_any (f : F) (w : World) : Calls Try.prog 10 #[fv f] w fun e w' => e = .returned (.tuple #[.int .i64 (wholeAt f), .int .i64 (nameAt f)]) ∧ Below w.heap.size w w' := by
  go_enter Try.func10, Try.ntmps10
  go_wp2_with (first | ((with_reducible refine gate_dst (N := 1) rfl ?_); refine box_event ?hg (N := 1) ?hd (cs := fa [f]) (t := 23) ?hr ?_; (case hd => rfl); (case hg => rfl); (case hr => kernel_rfl); intro g1 hg w1 hbox hb; have BKg1 := Hide.mk hbox; have HB1 := Hide.mk hb; have GEg1 : w.heap.size ≤ g1 := (by rw [hg]; exact Nat.le_refl _); clear hbox hb hg))
  refine (rfixed_any _).mono ?_
  rintro e w2 ⟨g, rfl, hg, hbk, hb2⟩
  have HB2 := Hide.mk (below_step HB1.out hb2)
  have BK12 := Hide.mk (blk_below BKg1.out hb2)
  have BKG2 := Hide.mk hbk
  clear hb2 HB1 BKg1 hbk
  go_wp2_with fail
  go_loopw [5, 6, 7] (fun v n t wr => ∃ k : Nat, k ≤ 99 ∧ t = .int .i64 ((k : Int) - 1) ∧ v = .int .i64 (bidx (fun x => decide (f = x)) TBL k) ∧ n = .int .i64 (bidx (fun x => x.1 == f.1) TBL k) ∧ wr.heap[g]? = some (.cells (fa TBL) 23 (0, 0)) ∧ wr.heap[g1]? = some (.cells (fa [f]) 23 (0, 0)) ∧ Below w.heap.size w wr) (fun _ _ t _ => (intOf t + 1).toNat)
  case atStart =>
    have e1 := bidx_end (fun x => decide (f = x)) TBL
    have e2 := bidx_end (fun x => x.1 == f.1) TBL
    rw [TBL_len] at e1 e2
    exact ⟨99, by omega, rfl, by rw [e1], by rw [e2], BKG2.out, BK12.out, HB2.out⟩
  case round =>
    clear BKG2 BK12 HB2
    obtain ⟨k, hk0, rfl, rfl, rfl, hbg, hb1, hbel⟩ := hrel
    have BKG := Hide.mk hbg
    have BK1 := Hide.mk hb1
    have HB := Hide.mk hbel
    clear hbg hb1 hbel
    cases k with
    | zero =>
      have hz : ((0 : Nat) : Int) - 1 = -1 := rfl
      rw [bidx_zero, bidx_zero]
      change Hide _ at HB
      go_wp2_with fail
      go_ret2
      exact ⟨rfl, HB.out⟩
    | succ k =>
      have hk : k < TBL.length := by rw [TBL_len]; omega
      have hk9 : (k : Int) < 99 := by omega
      have hk1 : (0 : Int) ≤ (k : Int) := Int.natCast_nonneg _
      have EW := Hide.mk (bidx_step (fun x => decide (f = x)) TBL k hk)
      have EN := Hide.mk (bidx_step (fun x => x.1 == f.1) TBL k hk)
      rw [show (((k + 1 : Nat) : Int) - 1) = (k : Int) by omega]
      obtain ⟨x, hx⟩ : ∃ x, x = TBL.getD k ([], []) := ⟨_, rfl⟩
      rw [← hx] at EW EN
      have HX := Hide.mk hx
      clear hx
      generalize bidx (fun x => decide (f = x)) TBL (k + 1) = bw at EW
      generalize bidx (fun x => x.1 == f.1) TBL (k + 1) = bn at EN
      have dk : decide (0 ≤ (k : Int)) = true := by simp
      have c0 : wr.cell? ⟨g, k * 2, none⟩ = some (.string ⟨x.1.toArray⟩) := (blk_cell BKG.out _).trans (by rw [Nat.mul_comm, fa_get0 TBL k hk, ← HX.out]; rfl)
      have c1 : wr.cell? ⟨g, k * 2 + 1, none⟩ = some (.string ⟨x.2.toArray⟩) := (blk_cell BKG.out _).trans (by rw [Nat.mul_comm, fa_get1 TBL k hk, ← HX.out]; rfl)
      have f0 : wr.cell? ⟨g1, 0, none⟩ = some (.string ⟨f.1.toArray⟩) := (blk_cell BK1.out 0).trans rfl
      have f1 : wr.cell? ⟨g1, 1, none⟩ = some (.string ⟨f.2.toArray⟩) := (blk_cell BK1.out 1).trans rfl
      go_wp2_with fail
      refine Plan.region_plan (fun w' => w'.cell? ⟨g, k * 2, none⟩ = some (.string ⟨x.1.toArray⟩) ∧ w'.cell? ⟨g1, 0, none⟩ = some (.string ⟨f.1.toArray⟩)) [] [(0, 0, some 16), (1, 0, some 17), (2, 0, some 18), (3, 0, some 19), (4, 0, some 20), (5, 0, some 21), (6, 0, some 22), (7, 0, some 23)] (by kernel_rfl) (by kernel_rfl) (by decide) ⟨c0, f0⟩ (fun wy ewy hS => ?_)
      have HBwy := Hide.mk (below_of_drew ewy HB.out)
      have BK1wy := Hide.mk (blk_of_drew ewy BK1.out)
      have BKGwy := Hide.mk (blk_of_drew ewy BKG.out)
      clear ewy HB BK1 BKG c0 c1 f0 f1
      have HB := HBwy
      have BK1 := BK1wy
      have BKG := BKGwy
      clear HBwy BK1wy BKGwy
      (repeat (first | (refine Plan.plan_take (v := ?_) (a' := ?_) rfl ?_ ?_ ?_ ?_; rotate_left 2; (· rfl); (· (intro w' hs; go_simp; with_reducible rfl)); (· (simp only [Act.put, List.setIfInBounds_toArray, List.set_cons_zero, List.set_cons_succ]; rfl))) | (refine Plan.plan_skip (a' := ?_) rfl ?_ ?_ ?_; rotate_left 1; (· rfl); (· (simp only [Act.put, List.setIfInBounds_toArray, List.set_cons_zero, List.set_cons_succ]; rfl))) | (refine Plan.plan_pure (v := ?_) (a' := ?_) rfl ?_ ?_ ?_ ?_; rotate_left 2; (· rfl); (· (intro w'; go_simp; with_reducible rfl)); (· (simp only [Act.put, List.setIfInBounds_toArray, List.set_cons_zero, List.set_cons_succ]; rfl)))))
      refine Plan.plan_nil ?_
      clear hS
      by_cases hn : (x.1 == f.1) = true
      · have EN2 := EN.out
        rw [if_pos hn] at EN2
        have hn2 : x.1 = f.1 := by simpa using hn
        rw [hn]
        have c0 : wy.cell? ⟨g, k * 2, none⟩ = some (.string ⟨x.1.toArray⟩) := (blk_cell BKG.out _).trans (by rw [Nat.mul_comm, fa_get0 TBL k hk, ← HX.out]; rfl)
        have c1 : wy.cell? ⟨g, k * 2 + 1, none⟩ = some (.string ⟨x.2.toArray⟩) := (blk_cell BKG.out _).trans (by rw [Nat.mul_comm, fa_get1 TBL k hk, ← HX.out]; rfl)
        have f0 : wy.cell? ⟨g1, 0, none⟩ = some (.string ⟨f.1.toArray⟩) := (blk_cell BK1.out 0).trans rfl
        have f1 : wy.cell? ⟨g1, 1, none⟩ = some (.string ⟨f.2.toArray⟩) := (blk_cell BK1.out 1).trans rfl
        go_wp2_with fail
        refine Plan.region_plan (fun w' => w'.cell? ⟨g, k * 2 + 1, none⟩ = some (.string ⟨x.2.toArray⟩) ∧ w'.cell? ⟨g1, 1, none⟩ = some (.string ⟨f.2.toArray⟩)) [] [(0, 0, some 25), (1, 0, some 26), (2, 0, some 27), (3, 0, some 28), (4, 0, some 29), (5, 0, some 30), (6, 0, some 31), (7, 0, some 32)] (by kernel_rfl) (by kernel_rfl) (by decide) ⟨c1, f1⟩ (fun wx ewx hS => ?_)
        have HBwx := Hide.mk (below_of_drew ewx HB.out)
        have BK1wx := Hide.mk (blk_of_drew ewx BK1.out)
        have BKGwx := Hide.mk (blk_of_drew ewx BKG.out)
        clear ewx HB BK1 BKG c0 c1 f0 f1
        have HB := HBwx
        have BK1 := BK1wx
        have BKG := BKGwx
        clear HBwx BK1wx BKGwx
        (repeat (first | (refine Plan.plan_take (v := ?_) (a' := ?_) rfl ?_ ?_ ?_ ?_; rotate_left 2; (· rfl); (· (intro w' hs; go_simp; with_reducible rfl)); (· (simp only [Act.put, List.setIfInBounds_toArray, List.set_cons_zero, List.set_cons_succ]; rfl))) | (refine Plan.plan_skip (a' := ?_) rfl ?_ ?_ ?_; rotate_left 1; (· rfl); (· (simp only [Act.put, List.setIfInBounds_toArray, List.set_cons_zero, List.set_cons_succ]; rfl))) | (refine Plan.plan_pure (v := ?_) (a' := ?_) rfl ?_ ?_ ?_ ?_; rotate_left 2; (· rfl); (· (intro w'; go_simp; with_reducible rfl)); (· (simp only [Act.put, List.setIfInBounds_toArray, List.set_cons_zero, List.set_cons_succ]; rfl)))))
        refine Plan.plan_nil ?_
        clear hS
        by_cases hv : (x.2 == f.2) = true
        · have EW2 := EW.out
          have hv2 : x.2 = f.2 := by simpa using hv
          rw [hv]
          have hfx : f = x := by
            obtain ⟨a, b⟩ := f
            obtain ⟨c, d⟩ := x
            have h2 : d = b := by simpa using hv
            simp only at hn2
            rw [hn2, h2]
          rw [if_pos (by simp [hfx])] at EW2
          have E1 := Hide.mk EN2
          have E2 := Hide.mk EW2
          clear EN EW EN2 EW2 hfx
          go_wp2_with fail
          go_roundw
          case rel => exact ⟨k, by omega, by go_num, by rw [E2.out], by rw [E1.out], BKG.out, BK1.out, HB.out⟩
          case measure => simp [intOf]
        · have hv' : (x.2 == f.2) = false := by simpa using hv
          have hv2 : ¬ x.2 = f.2 := by simpa using hv
          rw [hv']
          have EW2 := EW.out
          have hfx : f ≠ x := by
            intro e
            rw [e] at hv
            simp at hv
          rw [if_neg (by simp [hfx])] at EW2
          have E1 := Hide.mk EN2
          have E2 := Hide.mk EW2
          clear EN EW EN2 EW2 hfx hv
          go_wp2_with fail
          go_roundw
          case rel => exact ⟨k, by omega, by go_num, by rw [E2.out], by rw [E1.out], BKG.out, BK1.out, HB.out⟩
          case measure => simp [intOf]
      · have hn' : (x.1 == f.1) = false := by simpa using hn
        have hn2 : ¬ x.1 = f.1 := by simpa using hn
        rw [hn']
        have EN2 := EN.out
        rw [if_neg (by simp [hn'])] at EN2
        have EW2 := EW.out
        have hfx : f ≠ x := by
          intro e
          rw [e] at hn
          simp at hn
        rw [if_neg (by simp [hfx])] at EW2
        have E1 := Hide.mk EN2
        have E2 := Hide.mk EW2
        clear EN EW EN2 EW2 hfx hn
        go_wp2_with fail
        go_roundw
        case rel => exact ⟨k, by omega, by go_num, by rw [E2.out], by rw [E1.out], BKG.out, BK1.out, HB.out⟩
        case measure => simp [intOf]
end Go.Proofs.Ytcjakeopbjokoaa.Tb
