/- Find: the place of a field among the fixed ones; of one of its name. -/
import Derived.Test.YtcjakeopbjokoaaT2
import Derived.Test.YtcjakeopbjokoaaKMid
import Derived.Laws.StructEq
namespace Go.Proofs.Ytcjakeopbjokoaa.Tb
open Go.RowKit Go.Proofs.YtcjakeopbjokoaaW.PrintWords Go.Proofs.YtcjakeopbjokoaaW.PrintLast Go.Proofs.YtcjakeopbjokoaaW.PrintMore Mem
set_option linter.unusedVariables false
set_option linter.unusedSimpArgs false
theorem str_eq (a b : List UInt8) : ((⟨a.toArray⟩ : ByteArray).toList == (⟨b.toArray⟩ : ByteArray).toList) = decide (a = b) := by
  rw [ByteArray.toList_eq, ByteArray.toList_eq]
  show (a == b) = decide (a = b)
  by_cases h : a = b <;> simp [h]
theorem eqF (d : Nat) (f g : F) (w : World) : (Op.equalIn (d + 4) 23 (fv f) (fv g)).run Try.prog w = .ok (decide (f = g)) w := by
  obtain ⟨a, b⟩ := f
  obtain ⟨c, e⟩ := g
  unfold fv sv
  go_simp
  by_cases h1 : a = c
  · by_cases h2 : b = e
    · simp [h1, h2]
    · simp [h1, h2]
  · simp [h1]
theorem eqF2 (d : Nat) (f g : F) (w : World) : (Op.equalIn (d + 4) 23 (.agg (fa [f])) (.agg #[sv g.1, sv g.2])).run Try.prog w = .ok (decide (f = g)) w := eqF d f g w
theorem eqStep {o : Oper} {a : Act} {x y : Operand} {f g : F} {w : World} (ho : o.op = .binOp .eql 23 x y 23) (hx : a.eval x = .agg (fa [f])) (hy : a.eval y = .agg #[sv g.1, sv g.2]) : (execOp a.eval o).run Try.prog w = .ok (.value (.bool (decide (f = g)))) w := by
  unfold execOp
  simp only [ho, hx, hy, Sem.run_bind, run_eql_struct, eqF2 9996, Result.andThen_ok, Sem.run_pure]
  go_simp
/-- Fields, one after the other, as a slice has them. -/
def RF (w : World) (a : Option Addr) (l : List F) : Prop := l = [] ∨ ∃ b o, a = some ⟨b, o, none⟩ ∧ w.rangeAt b o (fc l)
theorem fc_two (l : List F) (i : Nat) (h : i < l.length) (j : Nat) (v : Value) (hj : [sv (l.getD i ([], [])).1, sv (l.getD i ([], [])).2][j]? = some v) : (fc l)[2 * i + j]? = some v := by
  match j with
  | 0 => rw [← hj]; exact (fc_get l i h).1
  | 1 => rw [← hj]; exact (fc_get l i h).2
  | j + 2 => simp at hj
theorem range_one {w : World} {b o : Nat} {l : List F} (h : w.rangeAt b o (fc l)) (i : Nat) (hi : i < l.length) : w.rangeAt b (o + i * 2) [sv (l.getD i ([], [])).1, sv (l.getD i ([], [])).2] := by
  intro j v hj
  have := h (2 * i + j) v (fc_two l i hi j v hj)
  rwa [show o + (2 * i + j) = o + i * 2 + j by omega] at this
theorem range_below {w0 w w' : World} {B b o : Nat} {cs : List Value} (h : w.rangeAt b o cs) (hb : Below B w w') (hB : b < B) : w'.rangeAt b o cs := fun j v hj => by
  rw [hb.cell (p := ⟨b, o + j, none⟩) hB]; exact h j v hj
def fidx (p : F → Bool) (l : List F) : Int := if l.findIdx p < l.length then (l.findIdx p : Int) else -1
theorem fidx_hit (p : F → Bool) (l : List F) (i : Nat) (hi : i < l.length) (h : p (l.getD i ([], [])) = true) (hn : ∀ j, j < i → p (l.getD j ([], [])) = false) : fidx p l = i := by
  have e : l.findIdx p = i := by
    rw [List.findIdx_eq hi]
    refine ⟨by simpa [List.getD_eq_getElem?_getD, List.getElem?_eq_getElem hi] using h, fun j hj => ?_⟩
    simpa [List.getD_eq_getElem?_getD, List.getElem?_eq_getElem (show j < l.length by omega)] using hn j hj
  unfold fidx
  rw [e, if_pos hi]
theorem fidx_none (p : F → Bool) (l : List F) (hn : ∀ j, j < l.length → p (l.getD j ([], [])) = false) : fidx p l = -1 := by
  unfold fidx
  rw [if_neg]
  intro hlt
  have h1 := List.findIdx_getElem (p := p) (w := hlt)
  have h2 := hn _ hlt
  rw [List.getD_eq_getElem?_getD, List.getElem?_eq_getElem hlt] at h2
  simp only [Option.getD_some] at h2
  rw [h1] at h2
  cases h2
set_option maxHeartbeats 1000000 in
set_option maxRecDepth 100000 in
theorem index_any (l : List F) (f : F) (b o c : Nat) (w : World) (hl : l.length ≤ 4096) (hr : w.rangeAt b o (fc l)) (hb : b < w.heap.size) :
    Calls Try.prog 28 #[.slice (some ⟨b, o, none⟩) l.length c, fv f] w fun e w' => e = .returned (.int .i64 (fidx (fun x => decide (f = x)) l)) ∧ Below w.heap.size w w' := by
  have HR := Hide.mk hr
  clear hr
  go_enter Try.func28, Try.ntmps28
  go_wp2_with (first | ((with_reducible refine gate_dst (N := 3) rfl ?_); refine box_event ?hg (N := 3) ?hd (cs := fa [f]) (t := 23) ?hr ?_; (case hd => rfl); (case hg => rfl); (case hr => kernel_rfl); intro g3 hg w1 hbox hb; have BKg3 := Hide.mk hbox; have HB1 := Hide.mk hb; have GEg3 : w.heap.size ≤ g3 := (by rw [hg]; exact Nat.le_refl _); clear hbox hb hg))
  go_loopw [5, 8] (fun _ t wr => ∃ i : Nat, i ≤ l.length ∧ t = .int .i64 i ∧ (∀ j, j < i → decide (f = l.getD j ([], [])) = false) ∧ wr.heap[g3]? = some (.cells (fa [f]) 23 (0, 0)) ∧ Below w.heap.size w wr) (fun _ t _ => l.length - (intOf t).toNat)
  case atStart => exact ⟨0, by omega, rfl, fun j hj => by omega, BKg3.out, HB1.out⟩
  case round =>
    clear BKg3 HB1
    obtain ⟨i, hi, rfl, hn, h3, hbel⟩ := hrel
    have BK3 := Hide.mk h3
    have HB := Hide.mk hbel
    have HN := Hide.mk hn
    clear h3 hbel hn
    by_cases hlt : i < l.length
    · have hi1 : (i : Int) < (l.length : Int) := by omega
      have hd : decide ((i : Int) < (l.length : Int)) = true := by simp; omega
      have hi0 : (0 : Int) ≤ (i : Int) := Int.natCast_nonneg _
      have hx := range_below (w0 := w) (range_one HR.out i hlt) HB.out hb
      have HX : Hide (∀ y, y = l.getD i ([], []) → y = l.getD i ([], [])) := ⟨fun _ h => h⟩
      obtain ⟨x, hxx⟩ : ∃ x, x = l.getD i ([], []) := ⟨_, rfl⟩
      rw [← hxx] at hx
      have HXX := Hide.mk hxx
      clear hxx HX
      go_wp2_with fail
      refine Plan.region_plan (fun w' => w'.heap[g3]? = some (.cells (fa [f]) 23 (0, 0)) ∧ w'.rangeAt b (o + i * 2) [sv x.1, sv x.2]) [] [(0, 0, some 11), (1, 0, some 12), (2, 0, some 13), (3, 0, some 14), (4, 0, some 15), (5, 0, some 16)] (by kernel_rfl) (by kernel_rfl) (by decide) ⟨blk_drew BK3.out, hx⟩ (fun wz ewz hS => ?_)
      have HBz := Hide.mk (below_of_drew ewz HB.out)
      have BK3z := Hide.mk (blk_of_drew ewz BK3.out)
      clear ewz BK3 HB hx
      refine Plan.plan_load_row (a' := ?_) rfl rfl 23 (.tmp 3) rfl g3 rfl 23 (fa [f]) (0, 0) _ (fun _ h => h.1) Try.underlying23 rfl (by kernel_rfl) ?_ ?_
      rotate_left
      · simp only [Act.put, List.setIfInBounds_toArray, List.set_cons_zero, List.set_cons_succ]
        rfl
      (repeat (first | (refine Plan.plan_take (v := ?_) (a' := ?_) rfl ?_ ?_ ?_ ?_; rotate_left 2; (· rfl); (· (intro w' hs; go_simp; with_reducible rfl)); (· (simp only [Act.put, List.setIfInBounds_toArray, List.set_cons_zero, List.set_cons_succ]; rfl))) | (refine Plan.plan_skip (a' := ?_) rfl ?_ ?_ ?_; rotate_left 1; (· rfl); (· (simp only [Act.put, List.setIfInBounds_toArray, List.set_cons_zero, List.set_cons_succ]; rfl))) | (refine Plan.plan_pure (v := ?_) (a' := ?_) rfl ?_ ?_ ?_ ?_; rotate_left 2; (· rfl); (· (intro w'; go_simp; with_reducible rfl)); (· (simp only [Act.put, List.setIfInBounds_toArray, List.set_cons_zero, List.set_cons_succ]; rfl)))))
      refine Plan.plan_load_mid (a' := ?_) rfl rfl 23 (.tmp 14) rfl b (o + i * 2) rfl [sv (x).1, sv (x).2] _ (fun _ h => h.2) Try.underlying23 rfl (by kernel_rfl) ?_ ?_
      rotate_left
      · simp only [Act.put, List.setIfInBounds_toArray, List.set_cons_zero, List.set_cons_succ]
        rfl
      refine Plan.plan_take (v := .bool (decide (f = x))) (a' := ?_) rfl ?_ ?_ ?_ ?_
      rotate_left 1
      · rfl
      · intro w' hs
        exact eqStep rfl rfl rfl
      · simp only [Act.put, List.setIfInBounds_toArray, List.set_cons_zero, List.set_cons_succ]
        rfl
      refine Plan.plan_nil ?_
      clear hS
      by_cases hfx : f = x
      · have hfd : decide (f = x) = true := by simp [hfx]
        go_wp2_with fail
        go_ret
        exact ⟨by rw [fidx_hit _ l i hlt (by rw [← HXX.out]; exact hfd) HN.out]; rfl, HBz.out⟩
      · have hfd : decide (f = x) = false := by simp [hfx]
        go_wp2_with fail
        go_roundw
        case rel => exact ⟨i + 1, by omega, by go_num, fun j hj => by
          by_cases hji : j = i
          · rw [hji, ← HXX.out]; exact hfd
          · exact HN.out j (by omega), BK3z.out, HBz.out⟩
        case measure => simp [intOf]; omega
    · obtain rfl : i = l.length := by omega
      have hd : decide ((l.length : Int) < (l.length : Int)) = false := by simp
      go_wp2_with fail
      go_ret
      exact ⟨by rw [fidx_none _ l HN.out]; rfl, HB.out⟩
set_option maxHeartbeats 1000000 in
set_option maxRecDepth 100000 in
theorem same_name (x f : F) (g : Nat) (w : World) (hg : w.heap[g]? = some (.cells (fa [f]) 23 (0, 0))) :
    Calls Try.prog 30 #[fv x, .pointer (some ⟨g, 0, none⟩)] w fun e w' => e = .returned (.bool (x.1 == f.1)) ∧ Below w.heap.size w w' := by
  have BK1 := Hide.mk hg
  clear hg
  go_enter Try.func30, Try.ntmps30
  go_wp2_with (first | ((with_reducible refine gate_dst (N := 2) rfl ?_); refine box_event ?hg (N := 2) ?hd (cs := fa [x]) (t := 23) ?hr ?_; (case hd => rfl); (case hg => rfl); (case hr => kernel_rfl); intro g2 hg w1 hbox hb; have Lgg2 : g < g2 := (by rw [hg]; exact blk_lt BK1.out); have BKg2 := Hide.mk hbox; have HB1 := Hide.mk hb; have GEg2 : w.heap.size ≤ g2 := (by rw [hg]; exact Nat.le_refl _); have BK1' := Hide.mk (blk_below BK1.out hb); clear BK1; have BK1 := BK1'; clear BK1'; clear hbox hb hg; have c1 := (blk_cell BKg2.out 0).trans (show (fa [x])[0]? = some (.string ⟨x.1.toArray⟩) from rfl); have c2 := (blk_cell BK1.out 0).trans (show (fa [f])[0]? = some (.string ⟨f.1.toArray⟩) from rfl)))
  go_ret
  exact ⟨rfl, HB1.out⟩
set_option maxHeartbeats 1000000 in
set_option maxRecDepth 100000 in
theorem indexFunc_any (l : List F) (f : F) (g b o c : Nat) (w : World) (hl : l.length ≤ 4096) (hr : w.rangeAt b o (fc l)) (hb : b < w.heap.size) (hg : w.heap[g]? = some (.cells (fa [f]) 23 (0, 0))) :
    Calls Try.prog 29 #[.slice (some ⟨b, o, none⟩) l.length c, .func (.func 30) #[] #[.pointer (some ⟨g, 0, none⟩)]] w fun e w' => e = .returned (.int .i64 (fidx (fun x => x.1 == f.1) l)) ∧ Below w.heap.size w w' := by
  have HR := Hide.mk hr
  have HG := Hide.mk hg
  have LG := blk_lt hg
  clear hr hg
  go_enter Try.func29, Try.ntmps29
  go_wp2_with fail
  go_loopw [5, 8] (fun _ t wr => ∃ i : Nat, i ≤ l.length ∧ t = .int .i64 i ∧ (∀ j, j < i → ((l.getD j ([], [])).1 == f.1) = false) ∧ Below w.heap.size w wr) (fun _ t _ => l.length - (intOf t).toNat)
  case atStart => exact ⟨0, by omega, rfl, fun j hj => by omega, Below.refl _ _⟩
  case round =>
    obtain ⟨i, hi, rfl, hn, hbel⟩ := hrel
    have HB := Hide.mk hbel
    have HN := Hide.mk hn
    clear hbel hn
    by_cases hlt : i < l.length
    · have hi1 : (i : Int) < (l.length : Int) := by omega
      have hd : decide ((i : Int) < (l.length : Int)) = true := by simp; omega
      have hi0 : (0 : Int) ≤ (i : Int) := Int.natCast_nonneg _
      have HX := Hide.mk (range_below (w0 := w) (range_one HR.out i hlt) HB.out hb)
      obtain ⟨x, hxx⟩ : ∃ x, x = l.getD i ([], []) := ⟨_, rfl⟩
      rw [← hxx] at HX
      have HXX := Hide.mk hxx
      clear hxx
      have BKG := Hide.mk (blk_below HG.out HB.out)
      go_wp2_with (first | ((with_reducible refine gate_dst (N := 15) rfl ?_); refine wpList_load_mid rfl 23 (.tmp 14) rfl b (o + i * 2) rfl [sv x.1, sv x.2] _ HX.out Try.underlying23 rfl (by kernel_rfl) ?_))
      refine (same_name x f g _ BKG.out).mono ?_
      rintro e w2 ⟨rfl, hb2⟩
      have HB2 := Hide.mk (below_step HB.out hb2)
      clear hb2 HB BKG HX
      by_cases hfx : (x.1 == f.1) = true
      · go_wp2_with fail
        go_ret
        exact ⟨by rw [fidx_hit _ l i hlt (by rw [← HXX.out]; exact hfx) HN.out]; rfl, HB2.out⟩
      · have hfd : (x.1 == f.1) = false := by simpa using hfx
        clear hfx
        go_wp2_with fail
        go_roundw
        case rel => exact ⟨i + 1, by omega, by go_num, fun j hj => by
          by_cases hji : j = i
          · rw [hji, ← HXX.out]; exact hfd
          · exact HN.out j (by omega), HB2.out⟩
        case measure => simp [intOf]; omega
    · obtain rfl : i = l.length := by omega
      have hd : decide ((l.length : Int) < (l.length : Int)) = false := by simp
      go_wp2_with fail
      go_ret
      exact ⟨by rw [fidx_none _ l HN.out]; rfl, HB.out⟩
end Go.Proofs.Ytcjakeopbjokoaa.Tb
