/- The reference's Tag. -/
import Derived.Test.YtlhhjdhbkhjhjaaP25
namespace Go.Proofs.Ytlhhjdhbkhjhjaa.Po
open Go.RowKit Go.Proofs.YtlhhjdhbkhjhjaaW.PrintWords Go.Proofs.YtlhhjdhbkhjhjaaW.PrintLast Go.Proofs.YtlhhjdhbkhjhjaaW.PrintMore Mem Rg
attribute [local go_sem] Oper.semAt_some
set_option linter.unusedVariables false
set_option linter.unusedSimpArgs false
set_option maxHeartbeats 4000000 in
set_option maxRecDepth 100000 in
theorem reftag_big (key : List Int) (hk : key.length = 32) (A : Option Addr) (cap n : Nat) (w : World) (hn : 4194304 < n) : Calls Try.prog 9 #[.agg (ia .u8 key), .slice A n cap] w fun e w' => e = .returned (.tuple #[.agg (ia .u8 (List.replicate 16 0)), .int .i64 3]) ∧ Below w.heap.size w w' := by
  have hd : decide ((4194304 : Int) < (n : Int)) = true := by simp; omega
  have HK := Hide.mk hk
  clear hk
  go_enter Try.func9, Try.ntmps9
  have HB0 := Hide.mk (Below.refl w.heap.size w)
  go_wp2_with (first | ((with_reducible refine gate_dst (N := 2) rfl ?_); refine box_event ?hg (N := 2) ?hd (cs := ia .u8 key) (t := 22) ?hr ?_; (case hd => rfl); (case hg => rfl); (case hr => kernel_rfl); intro g2 hg w1 hbox hb; have BKg2 := Hide.mk hbox; have HB1' := Hide.mk (below_step HB0.out hb); have GEg2 : w.heap.size ≤ g2 := (by rw [hg]; exact HB0.out.size); clear HB0; have HB1 := HB1'; clear HB1'; clear hbox hb hg) | ((with_reducible refine gate_dst (N := 4) rfl ?_); refine box_event ?hg (N := 4) ?hd (cs := ia .u8 (List.replicate 16 0)) (t := 25) ?hr ?_; (case hd => rfl); (case hg => rfl); (case hr => kernel_rfl); intro g4 hg w2 hbox hb; have Lg2g4 : g2 < g4 := (by rw [hg]; exact blk_lt BKg2.out); have BKg4 := Hide.mk hbox; have HB2' := Hide.mk (below_step HB1.out hb); have GEg4 : w.heap.size ≤ g4 := (by rw [hg]; exact HB1.out.size); clear HB1; have HB2 := HB2'; clear HB2'; have BKg2' := Hide.mk (blk_below BKg2.out hb); clear BKg2; have BKg2 := BKg2'; clear BKg2'; clear hbox hb hg) | ((with_reducible refine gate_dst (N := 17) rfl ?_); refine Kd.event_run rfl (v := .agg (ia .u8 (List.replicate 16 0))) ?hr ?_; (case hr => kernel_rfl)) | ((with_reducible refine gate_store (p := 4) (v := .tmp 17) rfl ?_); go_must (refine store_row rfl rfl 25 (.tmp 4) (.tmp 17) rfl g4 rfl (ia .u8 (List.replicate 16 0)) rfl (ia_one _ _) (by rw [ia_size]; kernel_rfl) _ _ BKg4.out (by rfl) ?_); intro w9 hb ho; have BKg4' := Hide.mk hb; have HB2' := Hide.mk (ho.below HB2.out GEg4); clear BKg4 HB2; have BKg4 := BKg4'; have HB2 := HB2'; clear BKg4' HB2'; clear hb ho))
  refine bodyPost_ret (results_ct rfl _ _ g4 25 _ (0, 0) _ rfl BKg4.out Try.underlying25 rfl (by kernel_rfl)) rfl ?_
  exact ⟨rfl, HB2.out⟩
set_option maxHeartbeats 4000000 in
set_option maxRecDepth 100000 in
theorem reftag_any (key : List Int) (hk : key.length = 32) (hkb : Bytes key) (A : Option Addr) (cap : Nat) (xs : List Int) (w : World) (hby : Bytes xs) (hn : xs.length ≤ 4194304) (hc : xs.length ≤ cap) (hr : ReadsInt w .u8 A xs.length xs) : Calls Try.prog 9 #[.agg (ia .u8 key), .slice A xs.length cap] w fun e w' => e = .returned (.tuple #[.agg (ia .u8 (tagF key xs)), .int .i64 0]) ∧ Below w.heap.size w w' := by
  have hd : decide ((4194304 : Int) < (xs.length : Int)) = false := by simp; omega
  have HK := Hide.mk hk
  have HKB := Hide.mk hkb
  have HBY := Hide.mk hby
  have HN := Hide.mk hn
  have HC := Hide.mk hc
  have HR := Hide.mk hr
  clear hk hkb hby hn hc hr
  go_enter Try.func9, Try.ntmps9
  have HB0 := Hide.mk (Below.refl w.heap.size w)
  go_wp2_with (first | ((with_reducible refine gate_dst (N := 2) rfl ?_); refine box_event ?hg (N := 2) ?hd (cs := ia .u8 key) (t := 22) ?hr ?_; (case hd => rfl); (case hg => rfl); (case hr => kernel_rfl); intro g2 hg w1 hbox hb; have BKg2 := Hide.mk hbox; have HB1' := Hide.mk (below_step HB0.out hb); have GEg2 : w.heap.size ≤ g2 := (by rw [hg]; exact HB0.out.size); clear HB0; have HB1 := HB1'; clear HB1'; clear hbox hb hg) | ((with_reducible refine gate_dst (N := 4) rfl ?_); refine box_event ?hg (N := 4) ?hd (cs := ia .u8 (List.replicate 16 0)) (t := 25) ?hr ?_; (case hd => rfl); (case hg => rfl); (case hr => kernel_rfl); intro g4 hg w2 hbox hb; have Lg2g4 : g2 < g4 := (by rw [hg]; exact blk_lt BKg2.out); have BKg4 := Hide.mk hbox; have HB2' := Hide.mk (below_step HB1.out hb); have GEg4 : w.heap.size ≤ g4 := (by rw [hg]; exact HB1.out.size); clear HB1; have HB2 := HB2'; clear HB2'; have BKg2' := Hide.mk (blk_below BKg2.out hb); clear BKg2; have BKg2 := BKg2'; clear BKg2'; clear hbox hb hg) | ((with_reducible refine gate_dst (N := 18) rfl ?_); refine wpList_load_row rfl 22 (.tmp 2) rfl g2 rfl 22 _ (0, 0) _ BKg2.out Try.underlying22 rfl ?hsz ?_; (case hsz => rw [ia_size, HK.out]; kernel_rfl)))
  refine (R_any key HK.out HKB.out _).mono ?_
  rintro e w3 ⟨g6, rfl, hg6, hr6, hb⟩
  have HB3 := Hide.mk (below_step HB2.out hb)
  have K2 := Hide.mk (blk_below BKg2.out hb)
  have K4 := Hide.mk (blk_below BKg4.out hb)
  have K6 := Hide.mk hr6
  have L46 : g4 < g6 := Nat.lt_of_lt_of_le (blk_lt BKg4.out) hg6
  clear hb hr6 hg6 HB2 BKg2 BKg4
  go_wp2_with (first | ((with_reducible refine gate_dst (N := 20) rfl ?_); refine Kd.event_run rfl (v := .slice (some ⟨w3.heap.size, 0, none⟩) 17 17) (w1 := w3.alloc (.cells (ia .u64 (List.replicate 17 0)) 37 (0, 0))) (make17 rfl) ?_; have K7 := Hide.mk (heap_alloc_new w3 (.cells (ia .u64 (List.replicate 17 0)) 37 (0, 0))); have HBa := Hide.mk (below_alloc (Below.refl w3.heap.size w3) (.cells (ia .u64 (List.replicate 17 0)) 37 (0, 0))); have HB7 := Hide.mk (below_step HB3.out HBa.out); have K2' := Hide.mk (blk_below K2.out HBa.out); have K4' := Hide.mk (blk_below K4.out HBa.out); have K6' := Hide.mk (blk_below K6.out HBa.out); clear K2 K4 K6 HB3 HBa; have K2 := K2'; have K4 := K4'; have K6 := K6'; clear K2' K4' K6'; generalize w3.alloc (.cells (ia .u64 (List.replicate 17 0)) 37 (0, 0)) = w7 at K7 HB7 K2 K4 K6 ⊢; generalize w3.heap.size = g7 at K7 ⊢))
  have HR7 := Hide.mk (show ReadsInt w7 .u64 (some ⟨g7, 0, none⟩) 17 (digits 17 (accF (rF key) (chs xs 0))) from reads_of_blk (k := .u64) (l := List.replicate 17 0) K7.out (by decide))
  have HM : Hide (xs.length ≤ 16 * ((xs.length + 15) / 16) ∧ 16 * ((xs.length + 15) / 16) < xs.length + 16) := ⟨by omega⟩
  clear K7
  obtain ⟨q, hq⟩ : ∃ q, (xs.length + 15) / 16 = q := ⟨_, rfl⟩
  rw [hq] at HM
  have HQ := Hide.mk hq
  clear hq
  go_loopg [7, 8] q (fun gp v7 v8 wy => ∃ (k at_ : Nat) (B : Option Addr) (d : Nat), k + gp = q ∧ at_ = 16 * k ∧ v8 = .int .i64 at_ ∧ v7 = .slice B 17 d ∧ 17 ≤ d ∧ ReadsInt wy .u64 B 17 (digits 17 (accF (rF key) (chs xs k))) ∧ wy.heap[g2]? = some (.cells (ia .u8 key) 22 (0, 0)) ∧ wy.heap[g4]? = some (.cells (ia .u8 (List.replicate 16 0)) 25 (0, 0)) ∧ wy.heap[g6]? = some (.cells (ia .u64 (rL key)) 37 (0, 0)) ∧ Below w.heap.size w wy)
  case atStart => exact ⟨0, 0, some ⟨g7, 0, none⟩, 17, by omega, rfl, rfl, rfl, Nat.le_refl _, HR7.out, K2.out, K4.out, K6.out, HB7.out⟩
  case round =>
    clear HR7 K2 K4 K6 HB7 hd
    obtain ⟨k, i, B, d, hk, hi, rfl, rfl, hd, hr, h2, h4, h6, hb⟩ := hrel
    have HI := Hide.mk hi
    have HD := Hide.mk hd
    have HA := Hide.mk hr
    have K2 := Hide.mk h2
    have K4 := Hide.mk h4
    have K6 := Hide.mk h6
    have HB := Hide.mk hb
    have hi3 : i ≤ 16 * k := Nat.le_of_eq hi
    have hi4 : 16 * k ≤ i := Nat.le_of_eq hi.symm
    clear hi hd hr h2 h4 h6 hb
    have hm1 := HM.out.1
    have hm2 := HM.out.2
    by_cases hlt : k < q
    · have hd : decide ((i : Int) < (xs.length : Int)) = true := by simp; omega
      have hi0 : (0 : Int) ≤ (i : Int) := Int.natCast_nonneg _
      have hlen := HN.out
      have f1 : IntKind.i64.wrap ((i : Int) + 16) = (i : Int) + 16 := IntWalk.i64_in _ (by omega)
      obtain ⟨ad, hA, _⟩ := HR.out.2.2 (by omega)
      subst hA
      obtain ⟨m, hm⟩ : ∃ m, min 16 (xs.length - i) = m := ⟨_, rfl⟩
      have HMM := Hide.mk hm
      have hq1 : 1 ≤ m := by omega
      have hq2 : i + m ≤ xs.length := by omega
      have hq3 : m ≤ 16 := by omega
      have HMIN : Hide ((if (xs.length : Int) < (i : Int) + 16 then (xs.length : Int) else (i : Int) + 16) = ((i + m : Nat) : Int)) := ⟨by split <;> omega⟩
      have HXL : Hide (((xs.drop i).take m).length = m) := ⟨by rw [List.length_take, List.length_drop]; omega⟩
      have HXE : Hide ((xs.drop i).take m = (xs.drop (16 * k)).take 16) := ⟨by
        rw [HI.out]
        by_cases h16 : m = 16
        · rw [h16]
        · rw [List.take_of_length_le (by rw [List.length_drop]; have := HI.out; omega), List.take_of_length_le (by rw [List.length_drop]; have := HI.out; omega)]⟩
      have HXB : Hide (Bytes ((xs.drop i).take m)) := ⟨bytes_take (bytes_drop HBY.out _) _⟩
      have HXR : Hide (ReadsInt w .u8 (some (ad.add i)) m ((xs.drop i).take m)) := ⟨cut_reads HR.out i m hq2⟩
      have HACC : Hide (accF (rF key) (chs xs (k + 1)) = (accF (rF key) (chs xs k) + valB ((xs.drop i).take m ++ [1])) * rF key % PP) := ⟨by rw [chs_succ, ← HXE.out, accF_snoc]⟩
      have HABD := Hide.mk (accF_bd (rF key) (chs xs k))
      generalize (xs.drop i).take m = X at HXL HXE HXB HXR HACC
      generalize accF (rF key) (chs xs k) = a at HA HACC HABD
      clear hm HXE hm1 hm2
      go_wp2_with (first | ((with_reducible refine gate_dst (N := 33) rfl ?_); refine Kd.event_run rfl (w1 := wr) (minStep _ _ _ rfl rfl rfl HMIN.out) ?_) | ((with_reducible refine gate_dst (N := 34) rfl ?_); refine Kd.event_run rfl (w1 := wr) (slice2 ad _ _ i m rfl rfl rfl rfl hq1 (by have := HC.out; omega)) ?_))
      have hnum := number_any (some (ad.add i)) (cap - i) X true wr (by rw [HXL.out]; exact hq3) HXB.out (by rw [HXL.out]; have := HC.out; omega) (by rw [HXL.out]; exact HXR.out.below HB.out)
      rw [HXL.out] at hnum
      refine hnum.mono ?_
      rintro e w4 ⟨g9, rfl, hg9, hr9, hb⟩
      clear hnum
      have HB4 := Hide.mk (below_step HB.out hb)
      have K2_ := Hide.mk (blk_below K2.out hb)
      have K4_ := Hide.mk (blk_below K4.out hb)
      have K6_ := Hide.mk (blk_below K6.out hb)
      have HA_ := Hide.mk (HA.out.below hb)
      clear HB K2 K4 K6 HA
      have K2 := K2_
      have K4 := K4_
      have K6 := K6_
      have HA := HA_
      clear K2_ K4_ K6_ HA_
      have HNL : Hide ((numF X true).length = 17) := ⟨numF_len (by rw [HXL.out]; exact hq3) true⟩
      have R9 := Hide.mk (show ReadsInt w4 .u64 (some ⟨g9, 0, none⟩) 17 (numF X true) from by have := reads_of_blk hr9 (by rw [HNL.out]; decide); rwa [HNL.out] at this)
      clear hb hr9 hg9
      go_wp2_with fail
      refine (add_any B (some ⟨g9, 0, none⟩) d 17 17 17 (digits 17 a) (numF X true) w4 (digits_len _ _) (by decide) (digits_bytes _ _) HD.out HA.out HNL.out (by decide) (numF_bytes HXB.out true) (by decide) R9.out).mono ?_
      rintro e w5 ⟨g10, f, rfl, hf, hg10, hrow, hb⟩
      have HB5 := Hide.mk (below_step HB4.out hb)
      have K2_ := Hide.mk (blk_below K2.out hb)
      have K4_ := Hide.mk (blk_below K4.out hb)
      have K6_ := Hide.mk (blk_below K6.out hb)
      clear HB4 K2 K4 K6
      have K2 := K2_
      have K4 := K4_
      have K6 := K6_
      clear K2_ K4_ K6_
      have R10 := Hide.mk (show ReadsInt w5 .u64 (some ⟨g10, 0, none⟩) 17 (digits 17 (valB (digits 17 a) + valB (numF X true))) from by have := (hrow.reads (by rw [digits_len]; decide)).take_ 17 (by rw [digits_len]; decide); rwa [digits_take 17 34 _ (by decide)] at this)
      have HF := Hide.mk (Nat.le_trans (show 17 ≤ 34 by decide) hf)
      have HSTEP : Hide (valB (digits 34 (valB (digits 17 (valB (digits 17 a) + valB (numF X true))) * valB (rL key))) % PP = accF (rF key) (chs xs (k + 1))) := ⟨by rw [HACC.out]; exact step_eq a HABD.out.1 HABD.out.2 HKB.out HXB.out (by rw [HXL.out]; exact hq3)⟩
      clear hb hrow hf hg10 R9 HA HACC HABD
      generalize valB (digits 17 a) + valB (numF X true) = S at R10 HSTEP
      go_wp2_with (first | ((with_reducible refine gate_dst (N := 40) rfl ?_); refine Kd.event_run rfl (w1 := w5) (slice17 rfl rfl HF.out) ?_))
      have R6 := Hide.mk (show ReadsInt w5 .u64 (some ⟨g6, 0, none⟩) 17 (rL key) from by have := reads_of_blk K6.out (by rw [rL_len HK.out]; decide); rwa [rL_len HK.out] at this)
      refine (mul_any (some ⟨g10, 0, none⟩) (some ⟨g6, 0, none⟩) f 17 (digits 17 S) (rL key) w5 (digits_len _ _) (digits_bytes _ _) HF.out R10.out (rL_len HK.out) (rL_bytes HKB.out) (by decide) R6.out).mono ?_
      rintro e w6 ⟨D6, f6, rfl, hf6, hr6, hb⟩
      have HB6 := Hide.mk (below_step HB5.out hb)
      have K2_ := Hide.mk (blk_below K2.out hb)
      have K4_ := Hide.mk (blk_below K4.out hb)
      have K6_ := Hide.mk (blk_below K6.out hb)
      clear HB5 K2 K4 K6
      have K2 := K2_
      have K4 := K4_
      have K6 := K6_
      clear K2_ K4_ K6_
      have R66 := Hide.mk hr6
      have HF6 := Hide.mk hf6
      clear hb hr6 hf6 R6 R10
      go_wp2_with fail
      refine (refleft_any D6 f6 (digits 34 (valB (digits 17 S) * valB (rL key))) w6 (digits_len _ _) (digits_bytes _ _) HF6.out R66.out).mono ?_
      rintro e w8 ⟨B8, d8, rfl, hd8, hr8, hb⟩
      have HB8 := Hide.mk (below_step HB6.out hb)
      have K2_ := Hide.mk (blk_below K2.out hb)
      have K4_ := Hide.mk (blk_below K4.out hb)
      have K6_ := Hide.mk (blk_below K6.out hb)
      clear HB6 K2 K4 K6
      have K2 := K2_
      have K4 := K4_
      have K6 := K6_
      clear K2_ K4_ K6_
      rw [HSTEP.out] at hr8
      have R8 := Hide.mk hr8
      have HD8 := Hide.mk hd8
      clear hb hr8 hd8 R66 HF6 HSTEP
      go_wp2_with fail
      go_roundg (gk - 1)
      case measure => omega
      case rel => exact ⟨k + 1, i + 16, B8, d8, by omega, by omega, by go_num, rfl, HD8.out, R8.out, K2.out, K4.out, K6.out, HB8.out⟩
    · obtain rfl : k = q := by omega
      have hd : decide ((i : Int) < (xs.length : Int)) = false := by simp; omega
      have hd' : decide (i < xs.length) = false := by simp; omega
      have HABD := Hide.mk (accF_bd (rF key) (chs xs k))
      have HLE : Hide ((digits 34 (valB (digits 17 (accF (rF key) (chs xs k))) + valB (numF (key.drop 16) false))).take 16 = tagF key xs) := ⟨by rw [last_eq _ HABD.out.1 HABD.out.2, tagF, HQ.out]⟩
      generalize accF (rF key) (chs xs k) = a at HA HABD HLE
      have HDL : Hide ((key.drop 16).length = 16) := ⟨by rw [List.length_drop, HK.out]⟩
      have HDR : Hide (ReadsInt wr .u8 (some ⟨g2, 16, none⟩) 16 (key.drop 16)) := ⟨by
        have h := reads_of_blk K2.out (by rw [HK.out]; decide)
        rw [HK.out] at h
        have h2 := cut_reads h 16 16 (by decide)
        rw [List.take_of_length_le (by rw [HDL.out]; decide)] at h2
        exact h2⟩
      clear hm1 hm2 hi3 hi4 HI HM HQ hk hlt
      go_wp2_with (first | ((with_reducible refine gate_dst (N := 45) rfl ?_); refine Kd.event_run rfl (w1 := wr) (slice_arr9 g2 rfl rfl) ?_))
      have hnum := number_any (some ⟨g2, 16, none⟩) 16 (key.drop 16) false wr (by rw [HDL.out]; decide) (bytes_drop HKB.out 16) (by rw [HDL.out]; decide) (by rw [HDL.out]; exact HDR.out)
      rw [HDL.out] at hnum
      refine hnum.mono ?_
      rintro e w4 ⟨g9, rfl, hg9, hr9, hb⟩
      clear hnum
      have HB4 := Hide.mk (below_step HB.out hb)
      have K4_ := Hide.mk (blk_below K4.out hb)
      have HA_ := Hide.mk (HA.out.below hb)
      clear HB K4 HA
      have K4 := K4_
      have HA := HA_
      clear K4_ HA_
      have HNL : Hide ((numF (key.drop 16) false).length = 17) := ⟨numF_len (by rw [HDL.out]; decide) false⟩
      have R9 := Hide.mk (show ReadsInt w4 .u64 (some ⟨g9, 0, none⟩) 17 (numF (key.drop 16) false) from by have := reads_of_blk hr9 (by rw [HNL.out]; decide); rwa [HNL.out] at this)
      clear hb hr9 hg9 HDR K2 K6
      go_wp2_with fail
      refine (add_any B (some ⟨g9, 0, none⟩) d 17 17 17 (digits 17 a) (numF (key.drop 16) false) w4 (digits_len _ _) (by decide) (digits_bytes _ _) HD.out HA.out HNL.out (by decide) (numF_bytes (bytes_drop HKB.out 16) false) (by decide) R9.out).mono ?_
      rintro e w5 ⟨g11, f, rfl, hf, hg11, hrow, hb⟩
      have GEg11 : w.heap.size ≤ g11 := Nat.le_trans HB4.out.size hg11
      have HB5 := Hide.mk (below_step HB4.out hb)
      have K4_ := Hide.mk (blk_below K4.out hb)
      clear HB4 K4
      have K4 := K4_
      clear K4_
      have HTL : Hide ((digits 34 (valB (digits 17 a) + valB (numF (key.drop 16) false))).length = 34) := ⟨digits_len _ _⟩
      have HTS : Hide (Sm 255 (digits 34 (valB (digits 17 a) + valB (numF (key.drop 16) false)))) := ⟨Sm.of_bytes (digits_bytes _ _)⟩
      obtain ⟨T, hT⟩ : ∃ T, digits 34 (valB (digits 17 a) + valB (numF (key.drop 16) false)) = T := ⟨_, rfl⟩
      rw [hT] at hrow HLE HTL HTS
      have HFL : Hide ((tagF key xs).length = 16) := ⟨digits_len _ _⟩
      obtain ⟨F, hF⟩ : ∃ F, tagF key xs = F := ⟨_, rfl⟩
      rw [hF] at HLE HFL
      have HF0 := Hide.mk hF
      obtain ⟨cur, hcur, hsz, htk⟩ := hrow
      have KT := Hide.mk hcur
      have HTK := Hide.mk htk
      have HF := Hide.mk (Nat.le_trans (show 17 ≤ 34 by decide) hf)
      have hi16 : (16 : Nat) ≤ f := Nat.le_trans (by decide) hf
      clear hb hf hg11 R9 HA hcur hsz htk hT hF HABD HNL HDL hd hd'
      go_wp2_with (first | ((with_reducible refine gate_dst (N := 12) rfl ?_); refine box_event ?hg (N := 12) ?hd (cs := ia .u8 (List.replicate 16 0)) (t := 25) ?hr ?_; (case hd => rfl); (case hg => rfl); (case hr => kernel_rfl); intro g12 hg w6 hbox hb; have Lg4g12 : g4 < g12 := (by rw [hg]; exact blk_lt K4.out); have Lg11g12 : g11 < g12 := (by rw [hg]; exact blk_lt KT.out); have BKg12 := Hide.mk hbox; have HB6' := Hide.mk (below_step HB5.out hb); have GEg12 : w.heap.size ≤ g12 := (by rw [hg]; exact HB5.out.size); clear HB5; have HB6 := HB6'; clear HB6'; have K4' := Hide.mk (blk_below K4.out hb); clear K4; have K4 := K4'; clear K4'; have KT' := Hide.mk (blk_below KT.out hb); clear KT; have KT := KT'; clear KT'; clear hbox hb hg))
      have HCV : Hide (fil F 0 = List.replicate 16 0) := ⟨by simp [fil]⟩
      go_loopg [13] 16 (fun gp v wy => ∃ j : Nat, j + gp = 16 ∧ v = .int .i64 j ∧ wy.heap[g12]? = some (.cells (ia .u8 (fil F j)) 25 (0, 0)) ∧ wy.heap[g4]? = some (.cells (ia .u8 (List.replicate 16 0)) 25 (0, 0)) ∧ wy.heap[g11]? = some (.cells cur 37 (0, 0)) ∧ Below w.heap.size w wy)
      case atStart => exact ⟨0, rfl, rfl, by rw [HCV.out]; exact BKg12.out, K4.out, KT.out, HB6.out⟩
      case round =>
        clear BKg12 K4 KT HB6 HCV
        obtain ⟨j, hj, rfl, h12, h4, h11, hb⟩ := hrel
        have B12 := Hide.mk h12
        have K4 := Hide.mk h4
        have KT := Hide.mk h11
        have HB := Hide.mk hb
        clear h12 h4 h11 hb
        by_cases hlt : j < 16
        · have hd : decide ((j : Int) < 16) = true := by simp; omega
          have hj0 : (0 : Int) ≤ (j : Int) := Int.natCast_nonneg _
          have hj1 : (j : Int) < 16 := by omega
          have hj2 : (j : Int) < 34 := by omega
          have f1 : IntKind.i64.wrap ((j : Int) + 1) = (j : Int) + 1 := IntWalk.i64_in _ (by omega)
          have cx := roww_cell KT.out HTK.out j (by rw [HTL.out]; omega)
          have HX := Hide.mk (HTS.out j)
          have HS : Hide ((fil F j).set j (T.getD j 0) = fil F (j + 1)) := ⟨by
            have e : T.getD j 0 = F.getD j 0 := by rw [← HLE.out, List.getD_eq_getElem?_getD, List.getD_eq_getElem?_getD, List.getElem?_take_of_lt hlt]
            rw [e]; exact fil_set HFL.out hlt⟩
          have HLL : Hide ((fil F j).length = 16) := ⟨fil_len HFL.out (by omega)⟩
          generalize T.getD j 0 = x at cx HX HS
          obtain ⟨x0, x1⟩ := HX.out
          go_wp2_with (first | ((with_reducible refine gate_store (p := 58) (v := .tmp 57) rfl ?_); refine store_cell rfl rfl 5 (.tmp 58) (.tmp 57) rfl g12 j (by first | rfl | go_simp) (.int .u8 x) rfl rfl rfl (by kernel_rfl) _ _ B12.out ?hlt ?_; (case hlt => rw [ia_size, HLL.out]; omega); intro w9 hb ho; rw [ia_set, HS.out] at hb; have B12' := Hide.mk hb; have HB' := Hide.mk (ho.below HB.out GEg12); have K4' := Hide.mk (ho.blk K4.out (by omega)); have KT' := Hide.mk (ho.blk KT.out (by omega)); clear B12 HB K4 KT hb ho))
          go_roundg (gk - 1)
          case measure => omega
          case rel => exact ⟨j + 1, by omega, by go_num, B12'.out, K4'.out, KT'.out, HB'.out⟩
        · obtain rfl : j = 16 := by omega
          rw [show ((16 : Nat) : Int) = 16 from rfl]
          have HE : Hide (fil F 16 = F) := ⟨fil_end HFL.out⟩
          rw [HE.out] at B12
          have GEg4 : w.heap.size ≤ g4 := GEg4
          go_wp2_with (first | ((with_reducible refine gate_dst (N := 59) rfl ?_); refine wpList_load_row rfl 25 (.tmp 12) rfl g12 rfl 25 _ (0, 0) _ B12.out Try.underlying25 rfl ?hsz ?_; (case hsz => rw [ia_size, HFL.out]; kernel_rfl)) | ((with_reducible refine gate_store (p := 4) (v := .tmp 59) rfl ?_); go_must (refine store_row rfl rfl 25 (.tmp 4) (.tmp 59) rfl g4 rfl (ia .u8 F) rfl (ia_one _ _) (by rw [ia_size, HFL.out]; kernel_rfl) _ _ K4.out (by rw [ia_size, ia_size, HFL.out]; rfl) ?_); intro w9 hb ho; have K4' := Hide.mk hb; have HB' := Hide.mk (ho.below HB.out GEg4); clear K4 HB; have K4 := K4'; have HB := HB'; clear K4' HB'; clear hb ho))
          refine bodyPost_ret (results_ct rfl _ _ g4 25 _ (0, 0) _ rfl K4.out Try.underlying25 rfl (by rw [ia_size, HFL.out]; kernel_rfl)) rfl ?_
          exact ⟨by rw [HF0.out]; rfl, HB.out⟩
end Go.Proofs.Ytlhhjdhbkhjhjaa.Po
