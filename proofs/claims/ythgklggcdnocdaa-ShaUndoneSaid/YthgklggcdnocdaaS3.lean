/- The first state and the words, as the program makes them. -/
import Derived.Test.YthgklggcdnocdaaS2
import Derived.Test.YthgklggcdnocdaaKMem
import Derived.Test.YthgklggcdnocdaaWLast
import Derived.Test.YthgklggcdnocdaaWMore
namespace Go.Proofs.Ythgklggcdnocdaa.Sh
open Go.RowKit Go.Proofs.YthgklggcdnocdaaW.PrintWords Go.Proofs.YthgklggcdnocdaaW.PrintLast Go.Proofs.YthgklggcdnocdaaW.PrintMore Mem
set_option linter.unusedVariables false
set_option linter.unusedSimpArgs false
theorem ks_len : ks.length = 64 := by decide +kernel
theorem hs_len : hs.length = 8 := by decide +kernel
theorem fill_set (l : List Int) (n k : Nat) (x : Int) (hk : k < n) (hl : l.length = n) (hx : l.getD k 0 = x) : (l.take k ++ List.replicate (n - k) 0).set k x = l.take (k + 1) ++ List.replicate (n - (k + 1)) 0 := by
  have h1 : (l.take k).length = k := by simp; omega
  rw [List.set_append_right _ _ (by omega), h1, Nat.sub_self, List.take_succ_eq_append_getElem (by omega)]
  have h2 : n - k = (n - (k + 1)) + 1 := by omega
  have h3 : l[k]'(by omega) = x := by rw [← hx, List.getD_eq_getElem?_getD, List.getElem?_eq_getElem (by omega)]; rfl
  rw [h2, List.replicate_succ, h3]
  simp
set_option maxHeartbeats 1000000 in
set_option maxRecDepth 100000 in
theorem words_any (w : World) : Calls Try.prog 18 #[] w fun e w' => e = .returned (.agg (ia .u32 ks)) ∧ Below w.heap.size w w' := by
  go_enter Try.func18, Try.ntmps18
  go_wp2_with ((with_reducible refine gate_dst (N := 0) rfl ?_); refine box_event ?hg (N := 0) ?hd (cs := ia .u32 (List.replicate 64 0)) (t := 39) ?hr ?_; (case hd => rfl); (case hg => rfl); (case hr => kernel_rfl); intro g hg w1 hbox hb; have BK1 := Hide.mk hbox; have HB1 := Hide.mk hb; have HG := Hide.mk hg; clear hbox hb hg)
  refine (primes_any 64 310 prs64 (by decide) (by decide) _).mono ?_
  rintro e w2 ⟨v, rfl, hown, hb2⟩
  obtain ⟨A, c, rfl⟩ := own_slice hown
  have BK2 := Hide.mk (blk_below BK1.out hb2)
  have HB2 := Hide.mk (below_step HB1.out hb2)
  have HA := Hide.mk (show ∀ ad, A = some ad → ad.block ≠ g from fun ad e => by
    have h1 := own_base hown ad.block (by rw [e]; rfl)
    have h2 := blk_lt BK1.out
    omega)
  have HR := Hide.mk (own_reads' hown)
  have HL := Hide.mk (show (prs 310).length = 64 from prs64)
  clear hown hb2
  go_wp2_with fail
  go_loopw [5] (fun t wr => ∃ k : Nat, k ≤ 64 ∧ t = .int .i64 k ∧ wr.heap[g]? = some (.cells (ia .u32 (ks.take k ++ List.replicate (64 - k) 0)) 39 (0, 0)) ∧ ReadsInt wr .u64 A 64 (prs 310) ∧ Below w.heap.size w wr) (fun t _ => 64 - (intOf t).toNat)
  case atStart => exact ⟨0, by omega, rfl, BK2.out, HR.out, HB2.out⟩
  case round =>
    obtain ⟨k, hk, rfl, hblk, hreads, hbel⟩ := hrel
    have BK := Hide.mk hblk
    have HRr := Hide.mk hreads
    have HB := Hide.mk hbel
    clear hblk hreads hbel
    by_cases hlt : k < 64
    · obtain ⟨ad, rfl, hcell⟩ := HRr.out.2.2 (by omega)
      have hc := hcell k hlt
      clear hcell
      have HP : Hide (ks.getD k 0 = cubeK ((prs 310).getD k 0)) := ⟨by
        unfold ks
        have := HL.out
        rw [List.getD_eq_getElem?_getD, List.getD_eq_getElem?_getD, List.getElem?_map, List.getElem?_eq_getElem (by omega)]; rfl⟩
      obtain ⟨p, hp⟩ : ∃ p, p = (prs 310).getD k 0 := ⟨_, rfl⟩
      rw [← hp] at hc HP
      clear hp
      go_wp2_with fail
      refine (cube p _).mono ?_
      rintro e w3 ⟨rfl, hb3⟩
      have BK3 := Hide.mk (blk_below BK.out hb3)
      have HB3 := Hide.mk (below_step HB.out hb3)
      have HR3 := Hide.mk (HRr.out.below hb3)
      clear hb3
      go_wp2_with ((with_reducible refine gate_store (p := 13) (v := .tmp 12) rfl ?_); refine store_cell rfl rfl 22 (.tmp 13) (.tmp 12) rfl g k rfl (.int .u32 (cubeK p)) rfl rfl rfl (by kernel_rfl) _ _ BK3.out ?hlt ?_; (case hlt => rw [ia_size]; have := ks_len; simp; omega); intro w4 hb4 ho4; rw [ia_set, fill_set _ _ _ _ hlt ks_len HP.out] at hb4; have BK4 := Hide.mk hb4; have HO4 := Hide.mk ho4; clear hb4 ho4)
      go_roundw
      case rel => exact ⟨k + 1, by omega, by go_num, BK4.out, reads_only HO4.out HR3.out HA.out, HO4.out.below HB3.out (by rw [HG.out]; exact Nat.le_refl _)⟩
      case measure => simp [intOf]; omega
    · obtain rfl : k = 64 := by omega
      have BKe : Hide (wr.heap[g]? = some (.cells (ia .u32 ks) 39 (0, 0))) := ⟨by have := BK.out; rw [List.take_of_length_le (by rw [ks_len]; exact Nat.le_refl _)] at this; simpa using this⟩
      go_wp2_with (first | ((with_reducible refine gate_dst (N := 15) rfl ?_); refine wpList_load_row rfl 39 (.tmp 0) rfl g rfl 39 _ (0, 0) _ BKe.out Try.underlying39 rfl (by kernel_rfl) ?_) | ((with_reducible refine gate_store (p := 0) (v := .tmp 15) rfl ?_); refine store_row rfl rfl 39 (.tmp 0) (.tmp 15) rfl g rfl (ia .u32 ks) rfl (by simpa [ia] using ia_one .u32 _) (by kernel_rfl) _ _ BKe.out rfl ?_; intro w4 hb4 ho4; have BK4 := Hide.mk hb4; have HO4 := Hide.mk ho4; clear hb4 ho4))
      refine bodyPost_ret (results_cell_row rfl _ _ g 39 _ (0, 0) _ rfl BK4.out Try.underlying39 rfl (by kernel_rfl)) rfl ?_
      exact ⟨rfl, HO4.out.below HB.out (by rw [HG.out]; exact Nat.le_refl _)⟩
set_option maxHeartbeats 1000000 in
set_option maxRecDepth 100000 in
theorem begin_any (w : World) : Calls Try.prog 22 #[] w fun e w' => e = .returned (.agg (ia .u32 hs)) ∧ Below w.heap.size w w' := by
  go_enter Try.func22, Try.ntmps22
  go_wp2_with ((with_reducible refine gate_dst (N := 0) rfl ?_); refine box_event ?hg (N := 0) ?hd (cs := ia .u32 (List.replicate 8 0)) (t := 23) ?hr ?_; (case hd => rfl); (case hg => rfl); (case hr => kernel_rfl); intro g hg w1 hbox hb; have BK1 := Hide.mk hbox; have HB1 := Hide.mk hb; have HG := Hide.mk hg; clear hbox hb hg)
  refine (primes_any 8 18 prs8 (by decide) (by decide) _).mono ?_
  rintro e w2 ⟨v, rfl, hown, hb2⟩
  obtain ⟨A, c, rfl⟩ := own_slice hown
  have BK2 := Hide.mk (blk_below BK1.out hb2)
  have HB2 := Hide.mk (below_step HB1.out hb2)
  have HA := Hide.mk (show ∀ ad, A = some ad → ad.block ≠ g from fun ad e => by
    have h1 := own_base hown ad.block (by rw [e]; rfl)
    have h2 := blk_lt BK1.out
    omega)
  have HR := Hide.mk (own_reads' hown)
  have HL := Hide.mk (show (prs 18).length = 8 from prs8)
  clear hown hb2
  go_wp2_with fail
  go_loopw [5] (fun t wr => ∃ k : Nat, k ≤ 8 ∧ t = .int .i64 k ∧ wr.heap[g]? = some (.cells (ia .u32 (hs.take k ++ List.replicate (8 - k) 0)) 23 (0, 0)) ∧ ReadsInt wr .u64 A 8 (prs 18) ∧ Below w.heap.size w wr) (fun t _ => 8 - (intOf t).toNat)
  case atStart => exact ⟨0, by omega, rfl, BK2.out, HR.out, HB2.out⟩
  case round =>
    obtain ⟨k, hk, rfl, hblk, hreads, hbel⟩ := hrel
    have BK := Hide.mk hblk
    have HRr := Hide.mk hreads
    have HB := Hide.mk hbel
    clear hblk hreads hbel
    by_cases hlt : k < 8
    · obtain ⟨ad, rfl, hcell⟩ := HRr.out.2.2 (by omega)
      have hc := hcell k hlt
      clear hcell
      have HP : Hide (hs.getD k 0 = squareK ((prs 18).getD k 0)) := ⟨by
        unfold hs
        have := HL.out
        rw [List.getD_eq_getElem?_getD, List.getD_eq_getElem?_getD, List.getElem?_map, List.getElem?_eq_getElem (by omega)]; rfl⟩
      obtain ⟨p, hp⟩ : ∃ p, p = (prs 18).getD k 0 := ⟨_, rfl⟩
      rw [← hp] at hc HP
      clear hp
      go_wp2_with fail
      refine (square p _).mono ?_
      rintro e w3 ⟨rfl, hb3⟩
      have BK3 := Hide.mk (blk_below BK.out hb3)
      have HB3 := Hide.mk (below_step HB.out hb3)
      have HR3 := Hide.mk (HRr.out.below hb3)
      clear hb3
      go_wp2_with ((with_reducible refine gate_store (p := 13) (v := .tmp 12) rfl ?_); refine store_cell rfl rfl 22 (.tmp 13) (.tmp 12) rfl g k rfl (.int .u32 (squareK p)) rfl rfl rfl (by kernel_rfl) _ _ BK3.out ?hlt ?_; (case hlt => rw [ia_size]; have := hs_len; simp; omega); intro w4 hb4 ho4; rw [ia_set, fill_set _ _ _ _ hlt hs_len HP.out] at hb4; have BK4 := Hide.mk hb4; have HO4 := Hide.mk ho4; clear hb4 ho4)
      go_roundw
      case rel => exact ⟨k + 1, by omega, by go_num, BK4.out, reads_only HO4.out HR3.out HA.out, HO4.out.below HB3.out (by rw [HG.out]; exact Nat.le_refl _)⟩
      case measure => simp [intOf]; omega
    · obtain rfl : k = 8 := by omega
      have BKe : Hide (wr.heap[g]? = some (.cells (ia .u32 hs) 23 (0, 0))) := ⟨by have := BK.out; rw [List.take_of_length_le (by rw [hs_len]; exact Nat.le_refl _)] at this; simpa using this⟩
      go_wp2_with (first | ((with_reducible refine gate_dst (N := 15) rfl ?_); refine wpList_load_row rfl 23 (.tmp 0) rfl g rfl 23 _ (0, 0) _ BKe.out Try.underlying23 rfl (by kernel_rfl) ?_) | ((with_reducible refine gate_store (p := 0) (v := .tmp 15) rfl ?_); refine store_row rfl rfl 23 (.tmp 0) (.tmp 15) rfl g rfl (ia .u32 hs) rfl (by simpa [ia] using ia_one .u32 _) (by kernel_rfl) _ _ BKe.out rfl ?_; intro w4 hb4 ho4; have BK4 := Hide.mk hb4; have HO4 := Hide.mk ho4; clear hb4 ho4))
      refine bodyPost_ret (results_cell_row rfl _ _ g 23 _ (0, 0) _ rfl BK4.out Try.underlying23 rfl (by kernel_rfl)) rfl ?_
      exact ⟨rfl, HO4.out.below HB.out (by rw [HG.out]; exact Nat.le_refl _)⟩
end Go.Proofs.Ythgklggcdnocdaa.Sh
