/- Methods at no table; Room. -/
import Derived.Test.YtcjakeopbjokoaaT9
namespace Go.Proofs.Ytcjakeopbjokoaa.Tb
open Go.RowKit Go.Proofs.YtcjakeopbjokoaaW.PrintWords Go.Proofs.YtcjakeopbjokoaaW.PrintLast Go.Proofs.YtcjakeopbjokoaaW.PrintMore Mem
set_option linter.unusedVariables false
set_option linter.unusedSimpArgs false
set_option maxHeartbeats 1000000 in
set_option maxRecDepth 100000 in
theorem came_nil (w : World) : Calls Try.prog 14 #[.pointer none] w fun e w' => e = .returned (.int .u64 0) ∧ Below w.heap.size w w' := by
  have HB0 := Hide.mk (Below.refl w.heap.size w)
  go_enter Try.func14, Try.ntmps14
  go_wp2_with fail
  refine (there_no _).mono ?_
  rintro e w1 ⟨rfl, hb⟩
  have HB1 := Hide.mk (below_step HB0.out hb)
  skip
  clear hb
  go_wp2_with fail
  go_ret
  exact ⟨rfl, HB1.out⟩
set_option maxHeartbeats 1000000 in
set_option maxRecDepth 100000 in
theorem gone_nil (w : World) : Calls Try.prog 15 #[.pointer none] w fun e w' => e = .returned (.int .u64 0) ∧ Below w.heap.size w w' := by
  have HB0 := Hide.mk (Below.refl w.heap.size w)
  go_enter Try.func15, Try.ntmps15
  go_wp2_with fail
  refine (there_no _).mono ?_
  rintro e w1 ⟨rfl, hb⟩
  have HB1 := Hide.mk (below_step HB0.out hb)
  skip
  clear hb
  go_wp2_with fail
  go_ret
  exact ⟨rfl, HB1.out⟩
set_option maxHeartbeats 1000000 in
set_option maxRecDepth 100000 in
theorem size_nil (w : World) : Calls Try.prog 16 #[.pointer none] w fun e w' => e = .returned (.int .i64 0) ∧ Below w.heap.size w w' := by
  have HB0 := Hide.mk (Below.refl w.heap.size w)
  go_enter Try.func16, Try.ntmps16
  go_wp2_with fail
  refine (there_no _).mono ?_
  rintro e w1 ⟨rfl, hb⟩
  have HB1 := Hide.mk (below_step HB0.out hb)
  skip
  clear hb
  go_wp2_with fail
  go_ret
  exact ⟨rfl, HB1.out⟩
set_option maxHeartbeats 1000000 in
set_option maxRecDepth 100000 in
theorem room_nil (n : Int) (w : World) : Calls Try.prog 19 #[.pointer none, .int .i64 n] w fun e w' => e = .returned (.int .i64 2) ∧ Below w.heap.size w w' := by
  have HB0 := Hide.mk (Below.refl w.heap.size w)
  go_enter Try.func19, Try.ntmps19
  go_wp2_with fail
  refine (there_no _).mono ?_
  rintro e w1 ⟨rfl, hb⟩
  have HB1 := Hide.mk (below_step HB0.out hb)
  skip
  clear hb
  go_wp2_with fail
  go_ret
  exact ⟨rfl, HB1.out⟩
set_option maxHeartbeats 1000000 in
set_option maxRecDepth 100000 in
theorem add_nil (f : F) (w : World) : Calls Try.prog 13 #[.pointer none, fv f] w fun e w' => e = .returned (.int .i64 2) ∧ Below w.heap.size w w' := by
  have HB0 := Hide.mk (Below.refl w.heap.size w)
  go_enter Try.func13, Try.ntmps13
  go_wp2_with (first | ((with_reducible refine gate_dst (N := 3) rfl ?_); refine box_event ?hg (N := 3) ?hd (cs := fa [f]) (t := 23) ?hr ?_; (case hd => rfl); (case hg => rfl); (case hr => kernel_rfl); intro g3 hg wa hbox hb; have BKg3 := Hide.mk hbox; have HBa := Hide.mk (below_step HB0.out hb); have GEg3 : w.heap.size ≤ g3 := (by rw [hg]; exact HB0.out.size); clear HB0; clear hbox hb hg))
  refine (there_no _).mono ?_
  rintro e w1 ⟨rfl, hb⟩
  have HB1 := Hide.mk (below_step HBa.out hb)
  skip
  clear hb
  go_wp2_with fail
  go_ret
  exact ⟨rfl, HB1.out⟩
set_option maxHeartbeats 1000000 in
set_option maxRecDepth 100000 in
theorem get_nil (n : Int) (w : World) : Calls Try.prog 17 #[.pointer none, .int .u64 n] w fun e w' => e = .returned (.tuple #[fv ([], []), .int .i64 2]) ∧ Below w.heap.size w w' := by
  have HB0 := Hide.mk (Below.refl w.heap.size w)
  go_enter Try.func17, Try.ntmps17
  go_wp2_with (first | ((with_reducible refine gate_dst (N := 4) rfl ?_); refine box_event ?hg (N := 4) ?hd (cs := fa [([], [])]) (t := 23) ?hr ?_; (case hd => rfl); (case hg => rfl); (case hr => kernel_rfl); intro g4 hg wa hbox hb; have BKg4 := Hide.mk hbox; have HBa := Hide.mk (below_step HB0.out hb); have GEg4 : w.heap.size ≤ g4 := (by rw [hg]; exact HB0.out.size); clear HB0; clear hbox hb hg))
  refine (there_no _).mono ?_
  rintro e w1 ⟨rfl, hb⟩
  have HB1 := Hide.mk (below_step HBa.out hb)
  have BK4 := Hide.mk (blk_below BKg4.out hb)
  clear hb
  go_wp2_with (first | ((with_reducible refine gate_dst (N := 10) rfl ?_); refine Kd.event_run rfl (v := fv ([], [])) ?hr ?_; (case hr => kernel_rfl)) | ((with_reducible refine gate_store (p := 4) (v := .tmp 10) rfl ?_); go_must (refine store_row rfl rfl 23 (.tmp 4) (.tmp 10) rfl g4 rfl (fa [([], [])]) rfl (fa_one _) (by rw [fa_size]; kernel_rfl) _ _ BK4.out rfl ?_); intro w9 hb9 ho9; have BK9 := Hide.mk hb9; have HO9 := Hide.mk ho9; clear hb9 ho9))
  refine bodyPost_ret (results_ct rfl _ _ g4 23 _ (0, 0) _ rfl BK9.out Try.underlying23 rfl (by rw [fa_size]; kernel_rfl)) rfl ?_
  exact ⟨rfl, HO9.out.below HB1.out GEg4⟩
def roomT (t : TS) (n : Int) : TS := if n < 0 ∨ 4096 < n then t else fitsT ⟨n, t.size, t.gone, t.l⟩ 0
def roomC (n : Int) : Int := if n < 0 ∨ 4096 < n then 1 else 0
theorem roomT_ok {t : TS} (h : TOk t) (n : Int) : TOk (roomT t n) ∧ (roomT t n).gone + ((roomT t n).l.length : Int) = t.gone + (t.l.length : Int) := by
  unfold roomT
  by_cases hc : n < 0 ∨ 4096 < n
  · rw [if_pos hc]; exact ⟨h, rfl⟩
  · rw [if_neg hc]
    have h' : TOk ⟨n, t.size, t.gone, t.l⟩ := ⟨h.size, h.small, by show 0 ≤ n; omega, by show n ≤ 4096; omega, h.gone0, h.gone1⟩
    obtain ⟨h1, h2, h3, k, h4, h5, h6⟩ := fitsT_spec h' 0 (by show 0 ≤ n; omega) (by decide)
    refine ⟨h1, ?_⟩
    rw [h5, h6, List.length_drop]
    have h4' : k ≤ t.l.length := h4
    show t.gone + (k : Int) + ((t.l.length - k : Nat) : Int) = _
    omega
set_option maxHeartbeats 2000000 in
set_option maxRecDepth 100000 in
theorem room_any (base g : Nat) (v : Value) (t : TS) (n : Int) (w : World) (h : Tab w base g v t) (ho : TOk t) :
    Calls Try.prog 19 #[.pointer (some ⟨g, 0, none⟩), .int .i64 n] w fun e w' => e = .returned (.int .i64 (roomC n)) ∧ ∃ v', Tab w' base g v' (roomT t n) ∧ Upd g v w w' ∧ v'.ownBlock = v.ownBlock := by
  have HT := Hide.mk h
  have HO := Hide.mk ho
  clear h ho
  go_enter Try.func19, Try.ntmps19
  go_wp2_with fail
  refine (there_yes base g v t _ HT.out).mono ?_
  rintro e w1 ⟨rfl, hb⟩
  have HT1 := Hide.mk (HT.out.below hb)
  have HU1 := Hide.mk (Upd.of_below (g := g) (v := v) hb)
  clear hb HT
  by_cases h0 : n < 0
  · have HA : Hide (roomT t n = t ∧ roomC n = 1) := ⟨if_pos (.inl h0), if_pos (.inl h0)⟩
    have d1 : decide (n < 0) = true := by simp [h0]
    go_wp2_with fail
    go_ret
    exact ⟨by rw [HA.out.2]; rfl, v, by rw [HA.out.1]; exact HT1.out, HU1.out, rfl⟩
  · have d1 : decide (n < 0) = false := by simp; omega
    by_cases h1 : 4096 < n
    · have HA : Hide (roomT t n = t ∧ roomC n = 1) := ⟨if_pos (.inr h1), if_pos (.inr h1)⟩
      have d2 : decide (4096 < n) = true := by simp [h1]
      go_wp2_with fail
      go_ret
      exact ⟨by rw [HA.out.2]; rfl, v, by rw [HA.out.1]; exact HT1.out, HU1.out, rfl⟩
    · have HA : Hide (roomT t n = fitsT ⟨n, t.size, t.gone, t.l⟩ 0 ∧ roomC n = 0) := ⟨if_neg (by omega), if_neg (by omega)⟩
      have d2 : decide (4096 < n) = false := by simp; omega
      have HO2 : Hide (TOk ⟨n, t.size, t.gone, t.l⟩) := ⟨⟨HO.out.size, HO.out.small, by show 0 ≤ n; omega, by show n ≤ 4096; omega, HO.out.gone0, HO.out.gone1⟩⟩
      go_wp2_with (first | ((with_reducible refine gate_store (p := 19) (v := .tmp 17) rfl ?_); go_must (refine store_cell rfl rfl 3 (.tmp 19) (.tmp 17) rfl g 1 rfl (.int .i64 n) rfl rfl rfl (by kernel_rfl) _ _ HT1.out.blk (by show 1 < 5; decide) ?_); intro w5 hb5 ho5; have HT5 := Hide.mk (HT1.out.set_ (t1 := ⟨n, t.size, t.gone, t.l⟩) hb5 ho5 rfl); have HU5 := Hide.mk (HU1.out.trans (Upd.of_only (v := v) ho5 HT1.out.lt) (.inl rfl)); clear hb5 ho5 HT1 HU1))
      refine (fits_any base g v ⟨n, t.size, t.gone, t.l⟩ 0 _ HT5.out HO2.out (by decide) (by decide)).mono ?_
      rintro e w6 ⟨rfl, v2, hT6, hU6, hv2⟩
      have HT6 := Hide.mk hT6
      have HU6 := Hide.mk (HU5.out.trans hU6 (.inl rfl))
      have HV := Hide.mk hv2
      clear hT6 hU6 hv2 HT5 HU5
      go_wp2_with fail
      go_ret
      exact ⟨by rw [HA.out.2]; rfl, v2, by rw [HA.out.1]; exact HT6.out, HU6.out, HV.out⟩
end Go.Proofs.Ytcjakeopbjokoaa.Tb
