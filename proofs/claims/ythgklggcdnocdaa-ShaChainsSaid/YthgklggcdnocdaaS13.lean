/- The reference's Sum. -/
import Derived.Test.YthgklggcdnocdaaS11
import Derived.Test.YthgklggcdnocdaaS12
namespace Go.Proofs.Ythgklggcdnocdaa.Sh
open Go.RowKit Go.Proofs.YthgklggcdnocdaaW.PrintWords Go.Proofs.YthgklggcdnocdaaW.PrintLast Go.Proofs.YthgklggcdnocdaaW.PrintMore Mem Rg
set_option linter.unusedVariables false
set_option linter.unusedSimpArgs false
theorem chunk_len (P : List Int) (m i : Nat) (h : P.length = 64 * m) (hi : i < m) : ((P.drop (64 * i)).take 64).length = 64 := by rw [List.length_take, List.length_drop, h]; omega
theorem chunk_get (P : List Int) (i j : Nat) (hj : j < 64) : ((P.drop (64 * i)).take 64).getD j 0 = P.getD (64 * i + j) 0 := by
  rw [List.getD_eq_getElem?_getD, List.getElem?_take, if_pos hj, List.getElem?_drop, List.getD_eq_getElem?_getD]
theorem refsum_big (A : Option Addr) (cap n : Nat) (w : World) (hn : 1048576 < n) : Calls Try.prog 11 #[.slice A n cap] w fun e w' => e = .returned (.tuple #[.agg (ia .u8 (List.replicate 32 0)), .int .i64 3]) ∧ Below w.heap.size w w' := by
  have hd : decide ((1048576 : Int) < (n : Int)) = true := by simp; omega
  go_enter Try.func11, Try.ntmps11
  have HB0 := Hide.mk (Below.refl w.heap.size w)
  go_wp2_with (first | ((with_reducible refine gate_dst (N := 2) rfl ?_); refine box_event ?hg (N := 2) ?hd (cs := ia .u8 (List.replicate 32 0)) (t := 29) ?hr ?_; (case hd => rfl); (case hg => rfl); (case hr => kernel_rfl); intro g2 hg w1 hbox hb; have BKg2 := Hide.mk hbox; have HB1 := Hide.mk (below_step HB0.out hb); have GEg2 : w.heap.size ≤ g2 := (by rw [hg]; exact HB0.out.size); clear HB0; clear hbox hb hg) | ((with_reducible refine gate_dst (N := 14) rfl ?_); refine Kd.event_run rfl (v := .agg (ia .u8 (List.replicate 32 0))) ?hr ?_; (case hr => kernel_rfl)) | ((with_reducible refine gate_store (p := 2) (v := .tmp 14) rfl ?_); go_must (refine store_row rfl rfl 29 (.tmp 2) (.tmp 14) rfl g2 rfl (ia .u8 (List.replicate 32 0)) rfl (ia_one _ _) (by rw [ia_size]; kernel_rfl) _ _ BKg2.out rfl ?_); intro w9 hb ho; have BK2 := Hide.mk hb; have HB2 := Hide.mk (ho.below HB1.out GEg2); clear BKg2 HB1; have BKg2 := BK2; have HB1 := HB2; clear hb ho))
  refine bodyPost_ret (results_ct rfl _ _ g2 29 _ (0, 0) _ rfl BKg2.out Try.underlying29 rfl (by kernel_rfl)) rfl ?_
  exact ⟨rfl, HB1.out⟩
set_option maxHeartbeats 4000000 in
set_option maxRecDepth 100000 in
theorem refsum_any (A : Option Addr) (cap : Nat) (xs : List Int) (w : World) (hby : Bytes xs) (hn : xs.length ≤ 1048576) (hc : xs.length ≤ cap) (hr : ReadsInt w .u8 A xs.length xs) : Calls Try.prog 11 #[.slice A xs.length cap] w fun e w' => e = .returned (.tuple #[.agg (ia .u8 (sumF xs)), .int .i64 0]) ∧ Below w.heap.size w w' := by
  have hd : decide ((1048576 : Int) < (xs.length : Int)) = false := by simp; omega
  have HBY := Hide.mk hby
  have HN := Hide.mk hn
  have HC := Hide.mk hc
  have HR := Hide.mk hr
  clear hby hn hc hr
  go_enter Try.func11, Try.ntmps11
  have HB0 := Hide.mk (Below.refl w.heap.size w)
  go_wp2_with (first | ((with_reducible refine gate_dst (N := 2) rfl ?_); refine box_event ?hg (N := 2) ?hd (cs := ia .u8 (List.replicate 32 0)) (t := 29) ?hr ?_; (case hd => rfl); (case hg => rfl); (case hr => kernel_rfl); intro g2 hg w1 hbox hb; have BKg2 := Hide.mk hbox; have HB1 := Hide.mk (below_step HB0.out hb); have GEg2 : w.heap.size ≤ g2 := (by rw [hg]; exact HB0.out.size); clear HB0; clear hbox hb hg))
  refine (padded_any A cap xs _ HN.out HC.out (HR.out.below HB1.out)).mono ?_
  rintro e w2 ⟨B, dp, rfl, hrp, hb⟩
  have HB2 := Hide.mk (below_step HB1.out hb)
  have BK2 := Hide.mk (blk_below BKg2.out hb)
  have HPB := Hide.mk (pad_bytes HBY.out)
  have HPL := Hide.mk (pad_len xs)
  have HST : Hide (chainF hS (chunksN (pad xs) ((xs.length + 8) / 64 + 1)) = stF xs) := ⟨rfl⟩
  have HM : Hide (1 ≤ (xs.length + 8) / 64 + 1 ∧ (xs.length + 8) / 64 + 1 ≤ 20000) := ⟨by have := HN.out; omega⟩
  generalize pad xs = P at hrp HPB HPL HST ⊢
  generalize (xs.length + 8) / 64 + 1 = m at HPL HST HM
  have HRP := Hide.mk hrp
  clear hb HB1 BKg2 hrp HR HC HBY hd
  go_wp2_with fail
  refine (begin25 _).mono ?_
  rintro e w3 ⟨rfl, hb⟩
  have HB3 := Hide.mk (below_step HB2.out hb)
  have BK2' := Hide.mk (blk_below BK2.out hb)
  have HRP3 := Hide.mk (HRP.out.below hb)
  clear hb HB2 BK2 HRP
  rw [hS_list]
  go_wp2_with (first | ((with_reducible refine gate_dst (N := 5) rfl ?_); refine box_event ?hg (N := 5) ?hd (cs := ia .u32 (List.replicate 8 0)) (t := 23) ?hr ?_; (case hd => rfl); (case hg => rfl); (case hr => kernel_rfl); intro g5 hg w4 hbox hb; have Lg2g5 : g2 < g5 := (by rw [hg]; exact blk_lt BK2'.out); have BKg5 := Hide.mk hbox; have HB4 := Hide.mk (below_step HB3.out hb); have GEg5 : w.heap.size ≤ g5 := (by rw [hg]; exact HB3.out.size); clear HB3; have BK2'' := Hide.mk (blk_below BK2'.out hb); clear BK2'; have BK2' := BK2''; clear BK2''; have HRP5 := Hide.mk (HRP3.out.below hb); have KRA0 : Hide (∀ ad, B = some ad → 0 < P.length → ad.block ≠ g5) := ⟨fun ad e hp => (by obtain ⟨ad', e', hcell⟩ := HRP3.out.2.2 hp; rw [e] at e'; cases e'; have hh := World.block_lt_of_cell? _ _ (hcell 0 hp); rw [add_block] at hh; omega)⟩; clear HRP3; clear hbox hb hg) | ((with_reducible refine gate_store (p := 5) (v := .tmp 17) rfl ?_); go_must (refine store_row rfl rfl 23 (.tmp 5) (.tmp 17) rfl g5 rfl (ia .u32 hS.list) rfl (ia_one _ _) (by rw [ia_size, s8_len]; kernel_rfl) _ _ BKg5.out (by rw [ia_size, ia_size, s8_len]; rfl) ?_); intro w9 hb ho; have BKg5' := Hide.mk hb; have HB4' := Hide.mk (ho.below HB4.out GEg5); clear BKg5 HB4; have BKg5 := BKg5'; have HB4 := HB4'; clear BKg5' HB4'; have BK2'' := Hide.mk (ho.blk BK2'.out (by omega)); clear BK2'; have BK2' := BK2''; clear BK2''; have HRP5' := Hide.mk (reads_only ho HRP5.out (fun ad e => (fun hh => by by_cases hp : 0 < P.length; (exact KRA0.out ad e hp hh); (have h1 := HPL.out; have h2 := HM.out.1; omega)))); clear HRP5; have HRP5 := HRP5'; clear HRP5'; clear hb ho))
  have HB5 := HB4
  clear HB4
  go_loopw [6] (fun t wr => ∃ i : Nat, i ≤ m ∧ t = .int .i64 (((64 * i : Nat) : Int)) ∧ wr.heap[g5]? = some (.cells (ia .u32 (chainF hS (chunksN P i)).list) 23 (0, 0)) ∧ wr.heap[g2]? = some (.cells (ia .u8 (List.replicate 32 0)) 29 (0, 0)) ∧ ReadsInt wr .u8 B P.length P ∧ Below w.heap.size w wr) (fun t _ => 64 * m - (intOf t).toNat)
  case atStart => exact ⟨0, by omega, rfl, BKg5.out, BK2'.out, HRP5.out, HB5.out⟩
  case round =>
    clear BKg5 BK2' HRP5 HB5
    obtain ⟨i, hi, rfl, h5, h2, hrp, hb⟩ := hrel
    have K5 := Hide.mk h5
    have K2 := Hide.mk h2
    have KR := Hide.mk hrp
    have KB := Hide.mk hb
    have G5 := blk_lt h5
    have G2 := blk_lt h2
    clear h5 h2 hrp hb
    obtain ⟨wo, rfl⟩ : ∃ wo, wo = wr := ⟨wr, rfl⟩
    by_cases hlt : i < m
    · have hd : decide (64 * i < P.length) = true := by simp; rw [HPL.out]; omega
      have hd' : decide (64 * (i : Int) < (P.length : Int)) = true := by simp; rw [HPL.out]; omega
      obtain ⟨C, hC⟩ : ∃ C, (P.drop (64 * i)).take 64 = C := ⟨_, rfl⟩
      have HCL : Hide (C.length = 64) := ⟨by rw [← hC]; exact chunk_len P m i HPL.out hlt⟩
      have HCB : Hide (Bytes C) := ⟨by rw [← hC]; exact take_bytes (drop_bytes HPB.out _) _⟩
      have HCS : Hide (chunksN P (i + 1) = chunksN P i ++ [C]) := ⟨by rw [← hC]; exact chunks_succ P i⟩
      have HCG : Hide (∀ j, j < 64 → C.getD j 0 = P.getD (64 * i + j) 0) := ⟨fun j hj => by rw [← hC]; exact chunk_get P i j hj⟩
      clear hC
      go_wp2_with (first | ((with_reducible refine gate_dst (N := 7) rfl ?_); refine box_event ?hg (N := 7) ?hd (cs := ia .u8 (List.replicate 64 0)) (t := 24) ?hr ?_; (case hd => rfl); (case hg => rfl); (case hr => kernel_rfl); intro g7 hg w7 hbox hb; have GEg7' : wo.heap.size ≤ g7 := (by rw [hg]; exact Nat.le_refl _); have BKg7 := Hide.mk hbox; have KQ := Hide.mk hb; have HB7 := Hide.mk (below_step KB.out hb); clear hbox hb hg))
      have NK : g7 ≠ g5 ∧ g7 ≠ g2 := by omega
      go_loopw [8] (fun t wr => ∃ j : Nat, j ≤ 64 ∧ t = .int .i64 j ∧ wr.heap[g7]? = some (.cells (ia .u8 (C.take j ++ List.replicate (64 - j) 0)) 24 (0, 0)) ∧ Below wo.heap.size wo wr ∧ Below w.heap.size w wr) (fun t _ => 64 - (intOf t).toNat)
      case atStart => exact ⟨0, by omega, rfl, BKg7.out, KQ.out, HB7.out⟩
      case round =>
        clear BKg7 KQ HB7
        obtain ⟨j, hj, rfl, h7, hq, hb⟩ := hrel
        have K7 := Hide.mk h7
        have KQ := Hide.mk hq
        have KBq := Hide.mk hb
        clear h7 hq hb
        by_cases hltj : j < 64
        · have hdj : decide ((j : Int) < 64) = true := by simp; omega
          obtain ⟨ad, hB, hcell⟩ := KR.out.2.2 (by rw [HPL.out]; omega)
          subst hB
          have hc0 := hcell (64 * i + j) (by rw [HPL.out]; omega)
          have hadl : ad.block < wo.heap.size := by have := World.block_lt_of_cell? wo _ hc0; rwa [add_block] at this
          have c0 : wr.cell? (ad.add (64 * i + j)) = some (.int .u8 (P.getD (64 * i + j) 0)) := (KQ.out.cell (p := ad.add (64 * i + j)) (by rw [add_block]; exact hadl)).trans hc0
          have HFS := Hide.mk (fill_set C 64 j (P.getD (64 * i + j) 0) hltj HCL.out (HCG.out j hltj))
          generalize P.getD (64 * i + j) 0 = x at c0 HFS
          have e1 : IntKind.i64.wrap (((64 * i : Nat) : Int) + (j : Int)) = ((64 * i + j : Nat) : Int) := by rw [IntWalk.i64_in _ (by have := HM.out.2; omega)]; omega
          have e1' : IntKind.i64.wrap (64 * (i : Int) + (j : Int)) = ((64 * i + j : Nat) : Int) := by rw [IntWalk.i64_in _ (by have := HM.out.2; omega)]; omega
          have e2 : IntKind.i64.wrap ((j : Int) + 1) = (j : Int) + 1 := IntWalk.i64_in _ (by omega)
          have hi0 : (0 : Int) ≤ ((64 * i + j : Nat) : Int) := Int.natCast_nonneg _
          have hi1 : ((64 * i + j : Nat) : Int) < (P.length : Int) := by rw [HPL.out]; omega
          have hi2 : 64 * i + j < P.length := by rw [HPL.out]; omega
          have hj0 : (0 : Int) ≤ (j : Int) := Int.natCast_nonneg _
          have hj1 : (j : Int) < 64 := by omega
          clear hc0 hcell hd hd'
          go_wp2_with (first | ((with_reducible refine gate_store (p := 35) (v := .tmp 34) rfl ?_); refine store_cell rfl rfl 5 (.tmp 35) (.tmp 34) rfl g7 j rfl (.int .u8 x) rfl rfl rfl (by kernel_rfl) _ _ K7.out ?hlt ?_; (case hlt => rw [ia_size, List.length_append, List.length_take, HCL.out, List.length_replicate]; omega); intro w8 hb8 ho8; rw [ia_set, HFS.out] at hb8; have K78 := Hide.mk hb8; have KO8 := Hide.mk ho8; clear hb8 ho8))
          go_roundw
          case rel => exact ⟨j + 1, by omega, by go_num, K78.out, KO8.out.below KQ.out GEg7', KO8.out.below KBq.out (Nat.le_trans KB.out.size GEg7')⟩
          case measure => simp [intOf]; omega
        · obtain rfl : j = 64 := by omega
          rw [show ((64 : Nat) : Int) = 64 from rfl]
          have HE : Hide (C.take 64 ++ List.replicate (64 - 64) 0 = C) := ⟨by rw [List.take_of_length_le (by rw [HCL.out]; omega)]; simp⟩
          rw [HE.out] at K7
          have K5q := Hide.mk (blk_below K5.out KQ.out)
          have K2q := Hide.mk (blk_below K2.out KQ.out)
          have KRq := Hide.mk (KR.out.below KQ.out)
          have GE5 : w.heap.size ≤ g5 := GEg5
          have e3 : IntKind.i64.wrap (((64 * i : Nat) : Int) + 64) = ((64 * (i + 1) : Nat) : Int) := by rw [IntWalk.i64_in _ (by have := HM.out.2; omega)]; omega
          have e3' : IntKind.i64.wrap (64 * (i : Int) + 64) = ((64 * (i + 1) : Nat) : Int) := by rw [IntWalk.i64_in _ (by have := HM.out.2; omega)]; omega
          clear K5 K2 KR hd hd'
          go_wp2_with (first | ((with_reducible refine gate_dst (N := 36) rfl ?_); refine wpList_load_row rfl 23 (.tmp 5) rfl g5 rfl 23 _ (0, 0) _ K5q.out Try.underlying23 rfl ?hsz ?_; (case hsz => kernel_rfl)) | ((with_reducible refine gate_dst (N := 37) rfl ?_); refine wpList_load_row rfl 24 (.tmp 7) rfl g7 rfl 24 _ (0, 0) _ K7.out Try.underlying24 rfl ?hsz ?_; (case hsz => rw [ia_size, HCL.out]; kernel_rfl)))
          refine (refblock_any (chainF hS (chunksN P i)) C _ HCB.out HCL.out).mono ?_
          rintro e w9 ⟨rfl, hb9⟩
          have K59 := Hide.mk (blk_below K5q.out hb9)
          have K29 := Hide.mk (blk_below K2q.out hb9)
          have KR9 := Hide.mk (KRq.out.below hb9)
          have KB9 := Hide.mk (below_step KBq.out hb9)
          have KRA : Hide (∀ ad, B = some ad → 0 < P.length → ad.block ≠ g5) := KRA0
          clear hb9 K5q K2q KRq KBq K7 KQ
          rw [← chainF_snoc, ← HCS.out]
          go_wp2_with (first | ((with_reducible refine gate_store (p := 5) (v := .tmp 38) rfl ?_); go_must (refine store_row rfl rfl 23 (.tmp 5) (.tmp 38) rfl g5 rfl (ia .u32 (chainF hS (chunksN P (i + 1))).list) rfl (ia_one _ _) (by kernel_rfl) _ _ K59.out (by rw [ia_size, ia_size]; rfl) ?_); intro w10 hb10 ho10; have K510 := Hide.mk hb10; have KO10 := Hide.mk ho10; clear hb10 ho10))
          go_roundw
          case rel => exact ⟨i + 1, by omega, rfl, K510.out, KO10.out.blk K29.out (by omega), reads_only KO10.out KR9.out (fun ad e => KRA.out ad e (by rw [HPL.out]; omega)), KO10.out.below KB9.out GE5⟩
          case measure => simp [intOf]; omega
    · obtain rfl : i = m := by omega
      have hd : decide (64 * i < P.length) = false := by simp; rw [HPL.out]; omega
      have hd' : decide (64 * (i : Int) < (P.length : Int)) = false := by simp; rw [HPL.out]; omega
      rw [HST.out] at K5
      obtain ⟨s, hs⟩ : ∃ s, stF xs = s := ⟨_, rfl⟩
      rw [hs] at K5
      have HSS : Hide (outF s = sumF xs) := ⟨by rw [← hs]; rfl⟩
      clear hs HST
      go_wp2_with (first | ((with_reducible refine gate_dst (N := 9) rfl ?_); refine box_event ?hg (N := 9) ?hd (cs := ia .u8 (List.replicate 32 0)) (t := 29) ?hr ?_; (case hd => rfl); (case hg => rfl); (case hr => kernel_rfl); intro g9 hg w9 hbox hb; have Lg5g9 : g5 < g9 := (by rw [hg]; exact blk_lt K5.out); have Lg2g9 : g2 < g9 := (by rw [hg]; exact blk_lt K2.out); have BKg9 := Hide.mk hbox; have HB9 := Hide.mk (below_step KB.out hb); have GEg9 : w.heap.size ≤ g9 := (by rw [hg]; exact KB.out.size); clear KB; have K5' := Hide.mk (blk_below K5.out hb); clear K5; have K5 := K5'; clear K5'; have K2' := Hide.mk (blk_below K2.out hb); clear K2; have K2 := K2'; clear K2'; clear hbox hb hg))
      clear hd hd'
      go_loopw [10] (fun t wr => ∃ j : Nat, j ≤ 32 ∧ t = .int .i64 j ∧ wr.heap[g9]? = some (.cells (ia .u8 ((outF s).take j ++ List.replicate (32 - j) 0)) 29 (0, 0)) ∧ wr.heap[g5]? = some (.cells (ia .u32 s.list) 23 (0, 0)) ∧ wr.heap[g2]? = some (.cells (ia .u8 (List.replicate 32 0)) 29 (0, 0)) ∧ Below w.heap.size w wr) (fun t _ => 32 - (intOf t).toNat)
      case atStart => exact ⟨0, by omega, rfl, BKg9.out, K5.out, K2.out, HB9.out⟩
      case round =>
        clear BKg9 K5 K2 HB9
        obtain ⟨j, hj, rfl, h9, h5, h2, hb⟩ := hrel
        have K9 := Hide.mk h9
        have K5 := Hide.mk h5
        have K2 := Hide.mk h2
        have KB := Hide.mk hb
        clear h9 h5 h2 hb
        by_cases hltj : j < 32
        · have hd : decide ((j : Int) < 32) = true := by simp; omega
          have c4 : wr.cell? ⟨g5, j / 4, none⟩ = some (.int .u32 (s.list.getD (j / 4) 0)) := (blk_cell K5.out _).trans (ia_get _ _ _ (by rw [s8_len]; omega))
          have hq4 : j / 4 < 8 := by omega
          have HFS := Hide.mk (fill_set (outF s) 32 j (s.list.getD (j / 4) 0 / 2 ^ (24 - j % 4 * 8) % 256) hltj (outF_len s) (outF_get s j hltj))
          generalize s.list.getD (j / 4) 0 = x at c4 HFS
          have f1 : IntKind.i64.wrap ((j : Int) + 1) = (j : Int) + 1 := IntWalk.i64_in _ (by omega)
          have hi0 : (0 : Int) ≤ (j : Int) := Int.natCast_nonneg _
          have hi1 : (j : Int) < 32 := by omega
          go_wp2_with (first | ((with_reducible refine gate_store (p := 54) (v := .tmp 53) rfl ?_); refine store_cell rfl rfl 5 (.tmp 54) (.tmp 53) rfl g9 j rfl (.int .u8 (x / 2 ^ (24 - 8 * (j % 4)) % 256)) rfl rfl rfl (by kernel_rfl) _ _ K9.out ?hlt ?_; (case hlt => rw [ia_size, List.length_append, List.length_take, outF_len, List.length_replicate]; omega); intro w4 hb4 ho4; rw [ia_set, show 8 * (j % 4) = j % 4 * 8 from Nat.mul_comm _ _, HFS.out] at hb4; have K94 := Hide.mk hb4; have KO4 := Hide.mk ho4; clear hb4 ho4))
          go_roundw
          case rel => exact ⟨j + 1, by omega, by go_num, K94.out, KO4.out.blk K5.out (by omega), KO4.out.blk K2.out (by omega), KO4.out.below KB.out GEg9⟩
          case measure => simp [intOf]; omega
        · obtain rfl : j = 32 := by omega
          rw [show ((32 : Nat) : Int) = 32 from rfl]
          have HE : Hide ((outF s).take 32 ++ List.replicate (32 - 32) 0 = sumF xs) := ⟨by rw [List.take_of_length_le (by rw [outF_len]; omega), HSS.out]; simp⟩
          rw [HE.out] at K9
          have HSL : Hide ((sumF xs).length = 32) := ⟨outF_len _⟩
          go_wp2_with (first | ((with_reducible refine gate_dst (N := 55) rfl ?_); refine wpList_load_row rfl 29 (.tmp 9) rfl g9 rfl 29 _ (0, 0) _ K9.out Try.underlying29 rfl ?hsz ?_; (case hsz => rw [ia_size, HSL.out]; kernel_rfl)) | ((with_reducible refine gate_store (p := 2) (v := .tmp 55) rfl ?_); go_must (refine store_row rfl rfl 29 (.tmp 2) (.tmp 55) rfl g2 rfl (ia .u8 (sumF xs)) rfl (ia_one _ _) (by rw [ia_size, HSL.out]; kernel_rfl) _ _ K2.out (by rw [ia_size, ia_size, HSL.out]; rfl) ?_); intro w9 hb9 ho9; have K29 := Hide.mk hb9; have KO9 := Hide.mk ho9; clear hb9 ho9))
          refine bodyPost_ret (results_ct rfl _ _ g2 29 _ (0, 0) _ rfl K29.out Try.underlying29 rfl (by rw [ia_size, HSL.out]; kernel_rfl)) rfl ?_
          exact ⟨rfl, KO9.out.below KB.out GEg2⟩
end Go.Proofs.Ythgklggcdnocdaa.Sh
