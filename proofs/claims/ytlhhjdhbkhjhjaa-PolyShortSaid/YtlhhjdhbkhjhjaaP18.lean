/- PolyShort, the walk. -/
import Derived.Test.YtlhhjdhbkhjhjaaP16
namespace Go.Proofs.Ytlhhjdhbkhjhjaa.Po
open Go.RowKit Go.Proofs.YtlhhjdhbkhjhjaaW.PrintWords Go.Proofs.YtlhhjdhbkhjhjaaW.PrintLast Go.Proofs.YtlhhjdhbkhjhjaaW.PrintMore Mem Rg
attribute [local go_sem] Oper.semAt_some
set_option linter.unusedVariables false
set_option linter.unusedSimpArgs false
/-- A part of sixteen: one behind it if it is shorter. -/
def pad16 (x : List Int) : List Int := if x.length < 16 then x ++ 1 :: List.replicate (15 - x.length) 0 else x
theorem pad16_val {x : List Int} (hl : x.length ≤ 16) : valB (x ++ [1]) = valB (pad16 x) + 256 ^ 16 * (if x.length < 16 then 0 else 1) := by
  unfold pad16
  by_cases h : x.length < 16
  · rw [if_pos h, if_pos h, valB_append, valB_append]
    simp [valB, valB_zeros]
  · have e : x.length = 16 := by omega
    rw [if_neg h, if_neg h, valB_append, e]
    simp [valB]
theorem pad16_len {x : List Int} (hl : x.length ≤ 16) : (pad16 x).length = 16 := by
  unfold pad16
  split
  · rw [List.length_append, List.length_cons, List.length_replicate]; omega
  · omega
theorem pad16_bytes {x : List Int} (hb : Bytes x) : Bytes (pad16 x) := by
  unfold pad16
  split
  · intro y hy
    rcases List.mem_append.1 hy with h | h
    · exact hb y h
    · rcases List.mem_cons.1 h with rfl | h
      · decide
      · rw [(List.mem_replicate.1 h).2]; decide
  · exact hb
def chk (xs : List Int) (k : Nat) : List Int := (xs.drop (16 * k)).take 16
/-- The parts' numbers, added. -/
def sumP (xs : List Int) : Nat → Int
  | 0 => 0
  | k + 1 => sumP xs k + valB (pad16 (chk xs k))
def wantF (half xs : List Int) (k : Nat) : List Int := digits 16 (valB half + sumP xs k)
theorem wantF_step (half xs : List Int) (k : Nat) : digits 16 (valB (wantF half xs k) + valB (pad16 (chk xs k))) = wantF half xs (k + 1) := by
  unfold wantF
  rw [digits_cut, sumP, Int.add_assoc]
theorem wantF_zero {half : List Int} (hl : half.length = 16) (hb : Bytes half) (xs : List Int) : wantF half xs 0 = half := by
  unfold wantF
  rw [sumP, Int.add_zero]
  have := digits_valB half hb
  rwa [hl] at this
def keyH (half : List Int) : List Int := (1 :: List.replicate 15 0) ++ half
theorem keyH_len {half : List Int} (hl : half.length = 16) : (keyH half).length = 32 := by
  unfold keyH
  rw [List.length_append, hl]; rfl
theorem keyH_bytes {half : List Int} (hb : Bytes half) : Bytes (keyH half) := fun x hx => by
  rcases List.mem_append.1 hx with h | h
  · rcases List.mem_cons.1 h with rfl | h
    · decide
    · rw [(List.mem_replicate.1 h).2]; decide
  · exact hb x h
theorem chk_len (xs : List Int) (k : Nat) : (chk xs k).length = min 16 (xs.length - 16 * k) := by
  unfold chk
  rw [List.length_take, List.length_drop]
theorem chk_bytes {xs : List Int} (hb : Bytes xs) (k : Nat) : Bytes (chk xs k) := bytes_take (bytes_drop hb _) _
theorem pad_bd {x : List Int} (hb : Bytes x) (hl : x.length ≤ 16) : 0 ≤ valB (pad16 x) ∧ valB (pad16 x) < 340282366920938463463374607431768211456 := by
  have h := valB_bd (pad16 x) (pad16_bytes hb)
  rw [pad16_len hl] at h
  exact ⟨h.1, Int.lt_of_lt_of_le h.2 (by decide)⟩
theorem short_tag {half xs : List Int} (hl : half.length = 16) (hb : Bytes half) (hxb : Bytes xs) (hx : xs.length ≤ 31) : tagF (keyH half) xs = wantF half xs ((xs.length + 15) / 16) := by
  have e1 : (keyH half).take 16 = 1 :: List.replicate 15 0 := by unfold keyH; rw [List.take_append_of_le_length (by decide)]; rfl
  have e2 : (keyH half).drop 16 = half := by unfold keyH; rw [List.drop_append_of_le_length (by decide)]; rfl
  have e3 : valB (cl (1 :: List.replicate 15 0) 16) = 1 := by decide +kernel
  unfold tagF rF
  rw [e1, e2, e3]
  have hn : (xs.length + 15) / 16 = 0 ∨ (xs.length + 15) / 16 = 1 ∨ (xs.length + 15) / 16 = 2 := by omega
  have l0 : (chk xs 0).length ≤ 16 := by rw [chk_len]; omega
  have l1 : (chk xs 1).length ≤ 16 := by rw [chk_len]; omega
  have p0 := pad16_val l0
  have p1 := pad16_val l1
  have b0 := pad_bd (chk_bytes hxb 0) l0
  have b1 := pad_bd (chk_bytes hxb 1) l1
  unfold wantF
  rcases hn with h | h | h
  · rw [h]
    show digits 16 (0 + valB half) = digits 16 (valB half + 0)
    rw [Int.zero_add, Int.add_zero]
  · rw [h]
    have ea : accF 1 (chs xs 1) = (0 + valB (chk xs 0 ++ [1])) * 1 % PP := rfl
    have es : sumP xs 1 = 0 + valB (pad16 (chk xs 0)) := rfl
    rw [ea, es, Int.zero_add, Int.zero_add, Int.mul_one, p0]
    obtain ⟨k, hk⟩ : ∃ k : Int, (if (chk xs 0).length < 16 then (0 : Int) else 1) = k := ⟨_, rfl⟩
    have hk1 : 0 ≤ k ∧ k ≤ 1 := by rw [← hk]; split <;> decide
    rw [hk, Int.emod_eq_of_lt (by omega) (by unfold PP; omega)]
    rw [show valB (pad16 (chk xs 0)) + 256 ^ 16 * k + valB half = (valB half + valB (pad16 (chk xs 0))) + 256 ^ 16 * k by omega, digits_add]
  · rw [h]
    have ea : accF 1 (chs xs 2) = ((0 + valB (chk xs 0 ++ [1])) * 1 % PP + valB (chk xs 1 ++ [1])) * 1 % PP := rfl
    have es : sumP xs 2 = 0 + valB (pad16 (chk xs 0)) + valB (pad16 (chk xs 1)) := rfl
    have hl1 : (chk xs 1).length < 16 := by rw [chk_len]; omega
    rw [if_pos hl1] at p1
    rw [ea, es, Int.zero_add, Int.zero_add, Int.mul_one, Int.mul_one, p0, p1]
    obtain ⟨k, hk⟩ : ∃ k : Int, (if (chk xs 0).length < 16 then (0 : Int) else 1) = k := ⟨_, rfl⟩
    have hk1 : 0 ≤ k ∧ k ≤ 1 := by rw [← hk]; split <;> decide
    rw [hk]
    rw [Int.emod_eq_of_lt (a := valB (pad16 (chk xs 0)) + 256 ^ 16 * k) (by omega) (by unfold PP; omega), Int.emod_eq_of_lt (by omega) (by unfold PP; omega)]
    rw [show valB (pad16 (chk xs 0)) + 256 ^ 16 * k + (valB (pad16 (chk xs 1)) + 256 ^ 16 * 0) + valB half = (valB half + (valB (pad16 (chk xs 0)) + valB (pad16 (chk xs 1)))) + 256 ^ 16 * k by omega, digits_add]
set_option maxHeartbeats 1000000 in
set_option maxRecDepth 100000 in
theorem short_big (half : List Int) (A : Option Addr) (cap n : Nat) (w : World) (hn : 31 < n) : Calls Try.prog 6 #[.agg (ia .u8 half), .slice A n cap] w fun e w' => e = .returned (.bool true) ∧ Below w.heap.size w w' := by
  have hd : decide ((31 : Int) < (n : Int)) = true := by simp; omega
  have HB0 := Hide.mk (Below.refl w.heap.size w)
  go_enter Try.func6, Try.ntmps6
  go_wp2_with (first | ((with_reducible refine gate_dst (N := 2) rfl ?_); refine box_event ?hg (N := 2) ?hd (cs := ia .u8 half) (t := 25) ?hr ?_; (case hd => rfl); (case hg => rfl); (case hr => kernel_rfl); intro g2 hg w1 hbox hb; have BKg2 := Hide.mk hbox; have HB1' := Hide.mk (below_step HB0.out hb); have GEg2 : w.heap.size ≤ g2 := (by rw [hg]; exact HB0.out.size); clear HB0; have HB1 := HB1'; clear HB1'; clear hbox hb hg))
  refine (alive_any _).mono ?_
  rintro e w2 ⟨rfl, hb⟩
  have HB2 := Hide.mk (below_step HB1.out hb)
  clear hb HB1 BKg2
  go_wp2_with fail
  refine (alive_any _).mono ?_
  rintro e w3 ⟨rfl, hb⟩
  have HB3 := Hide.mk (below_step HB2.out hb)
  clear hb HB2
  go_wp2_with fail
  go_ret
  exact ⟨rfl, HB3.out⟩
set_option maxHeartbeats 1000000 in
set_option maxRecDepth 100000 in
theorem short_walk (half : List Int) (hk : half.length = 16) (hkb : Bytes half) (A : Option Addr) (cap : Nat) (xs : List Int) (w : World) (hby : Bytes xs) (hn : xs.length ≤ 31) (hc : xs.length ≤ cap) (hr : ReadsInt w .u8 A xs.length xs) : Calls Try.prog 6 #[.agg (ia .u8 half), .slice A xs.length cap] w fun e w' => e = .returned (.bool true) ∧ Below w.heap.size w w' := by
  have hd : decide ((31 : Int) < (xs.length : Int)) = false := by simp; omega
  have HK := Hide.mk (And.intro hk hkb)
  have HBY := Hide.mk hby
  have HN := Hide.mk hn
  have HC := Hide.mk hc
  have HR := Hide.mk hr
  clear hk hkb hby hn hc hr
  have HB0 := Hide.mk (Below.refl w.heap.size w)
  go_enter Try.func6, Try.ntmps6
  go_wp2_with (first | ((with_reducible refine gate_dst (N := 2) rfl ?_); refine box_event ?hg (N := 2) ?hd (cs := ia .u8 half) (t := 25) ?hr ?_; (case hd => rfl); (case hg => rfl); (case hr => kernel_rfl); intro g2 hg w1 hbox hb; have BKg2 := Hide.mk hbox; have HB1' := Hide.mk (below_step HB0.out hb); have GEg2 : w.heap.size ≤ g2 := (by rw [hg]; exact HB0.out.size); clear HB0; have HB1 := HB1'; clear HB1'; clear hbox hb hg))
  refine (alive_any _).mono ?_
  rintro e w2 ⟨rfl, hb⟩
  have HB2 := Hide.mk (below_step HB1.out hb)
  have K2 := Hide.mk (blk_below BKg2.out hb)
  clear hb HB1 BKg2
  go_wp2_with (first | ((with_reducible refine gate_dst (N := 19) rfl ?_); refine Kd.event_run rfl (v := .agg (ia .u8 key1)) ?hr ?_; (case hr => kernel_rfl)) | ((with_reducible refine gate_dst (N := 5) rfl ?_); refine box_event ?hg (N := 5) ?hd (cs := ia .u8 (List.replicate 32 0)) (t := 22) ?hr ?_; (case hd => rfl); (case hg => rfl); (case hr => kernel_rfl); intro g5 hg w3 hbox hb; have Lg2g5 : g2 < g5 := (by rw [hg]; exact blk_lt K2.out); have BKg5 := Hide.mk hbox; have HB3' := Hide.mk (below_step HB2.out hb); have GEg5 : w.heap.size ≤ g5 := (by rw [hg]; exact HB2.out.size); clear HB2; have HB3 := HB3'; clear HB3'; have K2' := Hide.mk (blk_below K2.out hb); clear K2; have K2 := K2'; clear K2'; clear hbox hb hg) | ((with_reducible refine gate_store (p := 5) (v := .tmp 19) rfl ?_); go_must (refine store_row rfl rfl 22 (.tmp 5) (.tmp 19) rfl g5 rfl (ia .u8 key1) rfl (ia_one _ _) (by rw [ia_size]; kernel_rfl) _ _ BKg5.out (by rfl) ?_); intro w4 hb ho; have BKg5' := Hide.mk hb; have HB3' := Hide.mk (ho.below HB3.out GEg5); clear BKg5 HB3; have BKg5 := BKg5'; have HB3 := HB3'; clear BKg5' HB3'; have K2' := Hide.mk (ho.blk K2.out (by omega)); clear K2; have K2 := K2'; clear K2'; clear hb ho))
  go_loopg [6] 16 (fun gp v wy => ∃ i : Nat, i + gp = 16 ∧ v = .int .i64 i ∧ wy.heap[g2]? = some (.cells (ia .u8 half) 25 (0, 0)) ∧ wy.heap[g5]? = some (.cells (ia .u8 ((1 :: List.replicate 15 0) ++ (half.take i ++ List.replicate (16 - i) 0))) 22 (0, 0)) ∧ Below w.heap.size w wy)
  case atStart => exact ⟨0, rfl, rfl, K2.out, BKg5.out, HB3.out⟩
  case round =>
    clear K2 BKg5 HB3
    obtain ⟨i, hi, rfl, h2, h5, hb⟩ := hrel
    have K2 := Hide.mk h2
    have K5 := Hide.mk h5
    have HB := Hide.mk hb
    clear h2 h5 hb
    by_cases hlt : i < 16
    · have hd : decide ((i : Int) < 16) = true := by simp; omega
      have cx := cell_row K2.out i (by rw [HK.out.1]; omega) rfl
      have HFS := Hide.mk (fill_set half 16 i (half.getD i 0) hlt HK.out.1 rfl)
      generalize half.getD i 0 = x at cx HFS
      obtain ⟨p, hp⟩ : ∃ p, 16 + i = p := ⟨_, rfl⟩
      have HPS : Hide (((1 :: List.replicate 15 (0 : Int)) ++ (half.take i ++ List.replicate (16 - i) 0)).set p x = (1 :: List.replicate 15 0) ++ (half.take (i + 1) ++ List.replicate (16 - (i + 1)) 0)) := ⟨by
        rw [← hp, List.set_append_right _ _ (by simp), show 16 + i - (1 :: List.replicate 15 (0 : Int)).length = i by simp, HFS.out]⟩
      have f1 : IntKind.i64.wrap ((i : Int) + 1) = (i : Int) + 1 := IntWalk.i64_in _ (by omega)
      have f2 : IntKind.i64.wrap (16 + (i : Int)) = (p : Int) := by rw [IntWalk.i64_in _ (by omega)]; omega
      have hi0 : (0 : Int) ≤ (i : Int) := Int.natCast_nonneg _
      have hi1 : (i : Int) < 16 := by omega
      have hp0 : (0 : Int) ≤ (p : Int) := Int.natCast_nonneg _
      have hp1 : (p : Int) < 32 := by omega
      have HPP : Hide (p < 32 ∧ 16 + i = p) := ⟨by omega, hp⟩
      clear hp
      go_wp2_with (first | ((with_reducible refine gate_store (p := 29) (v := .tmp 28) rfl ?_); refine store_cell rfl rfl 5 (.tmp 29) (.tmp 28) rfl g5 (p) (by first | rfl | go_simp) (.int .u8 x) rfl rfl rfl (by kernel_rfl) _ _ K5.out ?hlt ?_; (case hlt => rw [ia_size, List.length_append, List.length_append, List.length_take, List.length_replicate, HK.out.1]; have := HPP.out; simp; omega); intro w9 hb ho; rw [ia_set, HPS.out] at hb; clear cx; have K5' := Hide.mk hb; have HB' := Hide.mk (ho.below HB.out GEg5); clear K5 HB; have K5 := K5'; have HB := HB'; clear K5' HB'; have K2' := Hide.mk (ho.blk K2.out (by omega)); clear K2; have K2 := K2'; clear K2'; clear hb ho))
      go_roundg (gk - 1)
      case measure => omega
      case rel => exact ⟨i + 1, by omega, by go_num, K2.out, K5.out, HB.out⟩
    · obtain rfl : i = 16 := by omega
      rw [show ((16 : Nat) : Int) = 16 from rfl]
      have HE : Hide ((1 :: List.replicate 15 0) ++ (half.take 16 ++ List.replicate (16 - 16) 0) = keyH half) := ⟨by rw [List.take_of_length_le (by rw [HK.out.1]; omega), Nat.sub_self, List.replicate_zero, List.append_nil]; rfl⟩
      rw [HE.out] at K5
      have HWZ := Hide.mk (wantF_zero HK.out.1 HK.out.2 xs)
      clear hi hlt HE
      go_wp2_with (first | ((with_reducible refine gate_dst (N := 30) rfl ?_); refine wpList_load_row rfl 25 (.tmp 2) rfl g2 rfl 25 _ (0, 0) _ K2.out Try.underlying25 rfl ?hsz ?_; (case hsz => rw [ia_size, HK.out.1]; kernel_rfl)) | ((with_reducible refine gate_dst (N := 7) rfl ?_); refine box_event ?hg (N := 7) ?hd (cs := ia .u8 (List.replicate 16 0)) (t := 25) ?hr ?_; (case hd => rfl); (case hg => rfl); (case hr => kernel_rfl); intro g7 hg w5 hbox hb; have Lg2g7 : g2 < g7 := (by rw [hg]; exact blk_lt K2.out); have Lg5g7 : g5 < g7 := (by rw [hg]; exact blk_lt K5.out); have BKg7 := Hide.mk hbox; have HB5' := Hide.mk (below_step HB.out hb); have GEg7 : w.heap.size ≤ g7 := (by rw [hg]; exact HB.out.size); clear HB; have HB5 := HB5'; clear HB5'; have K2' := Hide.mk (blk_below K2.out hb); clear K2; have K2 := K2'; clear K2'; have K5' := Hide.mk (blk_below K5.out hb); clear K5; have K5 := K5'; clear K5'; clear hbox hb hg) | ((with_reducible refine gate_store (p := 7) (v := .tmp 30) rfl ?_); go_must (refine store_row rfl rfl 25 (.tmp 7) (.tmp 30) rfl g7 rfl (ia .u8 half) rfl (ia_one _ _) (by rw [ia_size, HK.out.1]; kernel_rfl) _ _ BKg7.out (by rw [ia_size, ia_size, HK.out.1]; rfl) ?_); intro w6 hb ho; have BKg7' := Hide.mk hb; have HB5' := Hide.mk (ho.below HB5.out GEg7); clear BKg7 HB5; have BKg7 := BKg7'; have HB5 := HB5'; clear BKg7' HB5'; have K2' := Hide.mk (ho.blk K2.out (by omega)); clear K2; have K2 := K2'; clear K2'; have K5' := Hide.mk (ho.blk K5.out (by omega)); clear K5; have K5 := K5'; clear K5'; clear hb ho))
      go_loopg [8] ((xs.length + 15) / 16) (fun gp v wy => ∃ k : Nat, k + gp = (xs.length + 15) / 16 ∧ v = .int .i64 ((16 * k : Nat) : Int) ∧ wy.heap[g5]? = some (.cells (ia .u8 (keyH half)) 22 (0, 0)) ∧ wy.heap[g7]? = some (.cells (ia .u8 (wantF half xs k)) 25 (0, 0)) ∧ Below w.heap.size w wy)
      case atStart => exact ⟨0, by omega, rfl, K5.out, by rw [HWZ.out]; exact BKg7.out, HB5.out⟩
      case round =>
        clear K2 K5 BKg7 HB5 HWZ
        obtain ⟨k, hk, rfl, h5, h7, hb⟩ := hrel
        have K5 := Hide.mk h5
        have K7 := Hide.mk h7
        have HB := Hide.mk hb
        clear h5 h7 hb
        have HWL : Hide ((wantF half xs k).length = 16 ∧ Bytes (wantF half xs k)) := ⟨digits_len _ _, digits_bytes _ _⟩
        obtain ⟨t, ht⟩ : ∃ t, 16 * k = t := ⟨_, rfl⟩
        rw [ht]
        have HT := Hide.mk ht
        clear ht
        by_cases hlt : t < xs.length
        · have hd : decide ((t : Int) < (xs.length : Int)) = true := decide_eq_true (by omega)
          have HXL : Hide ((chk xs k).length = min 16 (xs.length - t)) := ⟨by rw [chk_len, HT.out]⟩
          have HXB := Hide.mk (chk_bytes HBY.out k)
          have HXG : Hide (∀ i, i < (chk xs k).length → (chk xs k).getD i 0 = xs.getD (t + i) 0) := ⟨fun i hi => by
            rw [HXL.out] at hi
            unfold chk
            rw [HT.out, List.getD_eq_getElem?_getD, List.getD_eq_getElem?_getD, List.getElem?_take_of_lt (by omega), List.getElem?_drop]⟩
          have HWS := Hide.mk (wantF_step half xs k)
          obtain ⟨x, hx⟩ : ∃ x, chk xs k = x := ⟨_, rfl⟩
          rw [hx] at HXL HXB HXG HWS
          clear hx
          go_wp2_with (first | ((with_reducible refine gate_dst (N := 9) rfl ?_); refine box_event ?hg (N := 9) ?hd (cs := ia .u8 (List.replicate 16 0)) (t := 25) ?hr ?_; (case hd => rfl); (case hg => rfl); (case hr => kernel_rfl); intro g9 hg w7 hbox hb; have Lg5g9 : g5 < g9 := (by rw [hg]; exact blk_lt K5.out); have Lg7g9 : g7 < g9 := (by rw [hg]; exact blk_lt K7.out); have BKg9 := Hide.mk hbox; have HB7' := Hide.mk (below_step HB.out hb); have GEg9 : w.heap.size ≤ g9 := (by rw [hg]; exact HB.out.size); clear HB; have HB7 := HB7'; clear HB7'; have K5' := Hide.mk (blk_below K5.out hb); clear K5; have K5 := K5'; clear K5'; have K7' := Hide.mk (blk_below K7.out hb); clear K7; have K7 := K7'; clear K7'; clear hbox hb hg))
          go_loopg [10] x.length (fun gp v wy => ∃ i : Nat, i + gp = x.length ∧ v = .int .i64 i ∧ wy.heap[g5]? = some (.cells (ia .u8 (keyH half)) 22 (0, 0)) ∧ wy.heap[g7]? = some (.cells (ia .u8 (wantF half xs k)) 25 (0, 0)) ∧ wy.heap[g9]? = some (.cells (ia .u8 (x.take i ++ List.replicate (16 - i) 0)) 25 (0, 0)) ∧ Below w.heap.size w wy)
          case atStart => exact ⟨0, by omega, rfl, K5.out, K7.out, BKg9.out, HB7.out⟩
          case round =>
            clear K5 K7 BKg9 HB7
            obtain ⟨i, hi, rfl, h5, h7, h9, hb⟩ := hrel
            have K5 := Hide.mk h5
            have K7 := Hide.mk h7
            have K9 := Hide.mk h9
            have HB := Hide.mk hb
            clear h5 h7 h9 hb
            have f2 : IntKind.i64.wrap ((t : Int) + (i : Int)) = ((t + i : Nat) : Int) := by rw [IntWalk.i64_in _ (by have := HN.out; have := HXL.out; omega)]; omega
            obtain ⟨q, hq⟩ : ∃ q, t + i = q := ⟨_, rfl⟩
            rw [hq] at f2
            have HQ := Hide.mk hq
            clear hq
            by_cases hlx : i < x.length
            · have hd1 : decide ((i : Int) < 16) = true := decide_eq_true (by have := HXL.out; omega)
              have hd2 : decide ((q : Int) < (xs.length : Int)) = true := decide_eq_true (by have := HXL.out; have := HQ.out; omega)
              have hr := HR.out.below HB.out
              obtain ⟨ad, rfl, hcell⟩ := hr.2.2 (by omega)
              have cx := hcell q (by have := HXL.out; have := HQ.out; omega)
              clear hcell hr
              have HGV := Hide.mk (HXG.out i hlx)
              rw [HQ.out] at HGV
              generalize xs.getD q 0 = y at cx HGV
              have HFS : Hide ((x.take i ++ List.replicate (16 - i) 0).set i y = x.take (i + 1) ++ List.replicate (16 - (i + 1)) 0) := ⟨by
                have h1 : (x.take i).length = i := by rw [List.length_take]; omega
                have hi16 : i < 16 := by have := HXL.out; omega
                rw [List.set_append_right _ _ (by omega), h1, Nat.sub_self, show 16 - i = (16 - (i + 1)) + 1 by omega, List.replicate_succ, List.set_cons_zero, List.take_add_one, List.getElem?_eq_getElem hlx, List.append_assoc]
                have h2 := HGV.out
                rw [List.getD_eq_getElem?_getD, List.getElem?_eq_getElem hlx] at h2
                simp only [Option.getD_some] at h2
                rw [h2]
                rfl⟩
              have f1 : IntKind.i64.wrap ((i : Int) + 1) = (i : Int) + 1 := IntWalk.i64_in _ (by have := HXL.out; omega)
              have hi0 : (0 : Int) ≤ (i : Int) := Int.natCast_nonneg _
              have hi1 : (i : Int) < 16 := by have := HXL.out; omega
              have hq0 : (0 : Int) ≤ (q : Int) := Int.natCast_nonneg _
              have hq1 : (q : Int) < (xs.length : Int) := by have := HXL.out; have := HQ.out; omega
              have HI16 : Hide (i < 16) := ⟨by omega⟩
              go_wp2_with (first | ((with_reducible refine gate_store (p := 56) (v := .tmp 55) rfl ?_); refine store_cell rfl rfl 5 (.tmp 56) (.tmp 55) rfl g9 (i) (by first | rfl | go_simp) (.int .u8 y) rfl rfl rfl (by kernel_rfl) _ _ K9.out ?hlt ?_; (case hlt => rw [ia_size, List.length_append, List.length_take, List.length_replicate]; have := HI16.out; omega); intro w9 hb ho; rw [ia_set, HFS.out] at hb; clear cx; have K9' := Hide.mk hb; have HB' := Hide.mk (ho.below HB.out GEg9); clear K9 HB; have K9 := K9'; have HB := HB'; clear K9' HB'; have K5' := Hide.mk (ho.blk K5.out (by omega)); clear K5; have K5 := K5'; clear K5'; have K7' := Hide.mk (ho.blk K7.out (by omega)); clear K7; have K7 := K7'; clear K7'; clear hb ho))
              go_roundg (gk - 1)
              case measure => omega
              case rel => exact ⟨i + 1, by omega, by go_num, K5.out, K7.out, K9.out, HB.out⟩
            · obtain rfl : i = x.length := by omega
              have HTK : Hide (x.take x.length ++ List.replicate (16 - x.length) 0 = x ++ List.replicate (16 - x.length) 0) := ⟨by rw [List.take_length]⟩
              rw [HTK.out] at K9
              obtain ⟨n, hn⟩ : ∃ n, xs.length - t = n := ⟨_, rfl⟩
              have f3 : IntKind.i64.wrap ((xs.length : Int) - (t : Int)) = (n : Int) := by rw [IntWalk.i64_in _ (by have := HN.out; omega)]; omega
              have HNN : Hide (x.length = min 16 n ∧ 0 < n) := ⟨by rw [← hn]; exact HXL.out, by omega⟩
              have f4 : IntKind.i64.wrap ((t : Int) + 16) = ((16 * (k + 1) : Nat) : Int) := by rw [IntWalk.i64_in _ (by have := HN.out; omega)]; have := HT.out; omega
              have HLT := Hide.mk hlt
              have HHK := Hide.mk hk
              clear hn hi hlt hk
              by_cases h16 : n < 16
              · have hxn : x.length = n := by have := HNN.out; omega
                have hd1 : decide ((x.length : Int) < 16) = true := decide_eq_true (by omega)
                have hd2 : decide (q < xs.length) = false := decide_eq_false (by have := HXL.out; have := HQ.out; have := HLT.out; omega)
                have hd3 : decide ((n : Int) < 16) = true := decide_eq_true (by omega)
                have HPD : Hide ((x ++ List.replicate (16 - x.length) 0).set n 1 = pad16 x) := ⟨by
                  rw [pad16, if_pos (by omega), ← hxn, List.set_append_right _ _ (Nat.le_refl _), Nat.sub_self, show 16 - x.length = (15 - x.length) + 1 by omega, List.replicate_succ, List.set_cons_zero]⟩
                have HPL : Hide ((pad16 x).length = 16 ∧ Bytes (pad16 x)) := ⟨pad16_len (by omega), pad16_bytes HXB.out⟩
                have hn0 : (0 : Int) ≤ (n : Int) := Int.natCast_nonneg _
                have hn1 : (n : Int) < 16 := by omega
                have HXN := Hide.mk hxn
                clear hxn
                go_wp2_with (first | ((with_reducible refine gate_store (p := 66) (v := .const (.int .u8 1)) rfl ?_); refine store_cell rfl rfl 5 (.tmp 66) (.const (.int .u8 1)) rfl g9 (n) (by first | rfl | go_simp) (.int .u8 1) rfl rfl rfl (by kernel_rfl) _ _ K9.out ?hlt ?_; (case hlt => rw [ia_size, List.length_append, List.length_replicate, HXN.out]; omega); intro w9 hb ho; rw [ia_set, HPD.out] at hb; have K9' := Hide.mk hb; have HB' := Hide.mk (ho.below HB.out GEg9); clear K9 HB; have K9 := K9'; have HB := HB'; clear K9' HB'; have K5' := Hide.mk (ho.blk K5.out (by omega)); clear K5; have K5 := K5'; clear K5'; have K7' := Hide.mk (ho.blk K7.out (by omega)); clear K7; have K7 := K7'; clear K7'; clear hb ho) | ((with_reducible refine gate_dst (N := 67) rfl ?_); refine wpList_load_row rfl 25 (.tmp 7) rfl g7 rfl 25 _ (0, 0) _ K7.out Try.underlying25 rfl ?hsz ?_; (case hsz => rw [ia_size, HWL.out.1]; kernel_rfl)) | ((with_reducible refine gate_dst (N := 68) rfl ?_); refine wpList_load_row rfl 25 (.tmp 9) rfl g9 rfl 25 _ (0, 0) _ K9.out Try.underlying25 rfl ?hsz ?_; (case hsz => rw [ia_size, HPL.out.1]; kernel_rfl)))
                refine (sum_any (wantF half xs k) (pad16 x) HWL.out.1 HPL.out.1 HWL.out.2 HPL.out.2 _).mono ?_
                rintro e wb ⟨rfl, hb⟩
                rw [HWS.out]
                have HBb := Hide.mk (below_step HB.out hb)
                have K5b := Hide.mk (blk_below K5.out hb)
                have K7b := Hide.mk (blk_below K7.out hb)
                clear hb HB K5 K7 K9
                have HWM : Hide ((wantF half xs (k + 1)).length = 16) := ⟨digits_len _ _⟩
                go_wp2_with (first | ((with_reducible refine gate_store (p := 7) (v := .tmp 69) rfl ?_); go_must (refine store_row rfl rfl 25 (.tmp 7) (.tmp 69) rfl g7 rfl (ia .u8 (wantF half xs (k + 1))) rfl (ia_one _ _) (by rw [ia_size, HWM.out]; kernel_rfl) _ _ K7b.out (by rw [ia_size, ia_size, HWM.out, HWL.out.1]) ?_); intro wc hb ho; have K7b' := Hide.mk hb; have HBb' := Hide.mk (ho.below HBb.out GEg7); clear K7b HBb; have K7b := K7b'; have HBb := HBb'; clear K7b' HBb'; have K5b' := Hide.mk (ho.blk K5b.out (by omega)); clear K5b; have K5b := K5b'; clear K5b'; clear hb ho))
                go_roundg ((xs.length + 15) / 16 - (k + 1))
                case measure => have := HHK.out; have := HLT.out; have := HT.out; omega
                case rel => exact ⟨k + 1, by have := HHK.out; have := HLT.out; have := HT.out; omega, rfl, K5b.out, K7b.out, HBb.out⟩
              · have hx16 : x.length = 16 := by have := HNN.out; omega
                have hd1 : decide ((x.length : Int) < 16) = false := decide_eq_false (by omega)
                have hd3 : decide ((n : Int) < 16) = false := decide_eq_false (by omega)
                have HPD : Hide (x ++ List.replicate (16 - x.length) 0 = pad16 x) := ⟨by rw [pad16, if_neg (by omega), hx16]; simp⟩
                rw [HPD.out] at K9
                have HPL : Hide ((pad16 x).length = 16 ∧ Bytes (pad16 x)) := ⟨pad16_len (by omega), pad16_bytes HXB.out⟩
                clear hx16
                go_wp2_with (first | ((with_reducible refine gate_dst (N := 67) rfl ?_); refine wpList_load_row rfl 25 (.tmp 7) rfl g7 rfl 25 _ (0, 0) _ K7.out Try.underlying25 rfl ?hsz ?_; (case hsz => rw [ia_size, HWL.out.1]; kernel_rfl)) | ((with_reducible refine gate_dst (N := 68) rfl ?_); refine wpList_load_row rfl 25 (.tmp 9) rfl g9 rfl 25 _ (0, 0) _ K9.out Try.underlying25 rfl ?hsz ?_; (case hsz => rw [ia_size, HPL.out.1]; kernel_rfl)))
                refine (sum_any (wantF half xs k) (pad16 x) HWL.out.1 HPL.out.1 HWL.out.2 HPL.out.2 _).mono ?_
                rintro e wb ⟨rfl, hb⟩
                rw [HWS.out]
                have HBb := Hide.mk (below_step HB.out hb)
                have K5b := Hide.mk (blk_below K5.out hb)
                have K7b := Hide.mk (blk_below K7.out hb)
                clear hb HB K5 K7 K9
                have HWM : Hide ((wantF half xs (k + 1)).length = 16) := ⟨digits_len _ _⟩
                go_wp2_with (first | ((with_reducible refine gate_store (p := 7) (v := .tmp 69) rfl ?_); go_must (refine store_row rfl rfl 25 (.tmp 7) (.tmp 69) rfl g7 rfl (ia .u8 (wantF half xs (k + 1))) rfl (ia_one _ _) (by rw [ia_size, HWM.out]; kernel_rfl) _ _ K7b.out (by rw [ia_size, ia_size, HWM.out, HWL.out.1]) ?_); intro wc hb ho; have K7b' := Hide.mk hb; have HBb' := Hide.mk (ho.below HBb.out GEg7); clear K7b HBb; have K7b := K7b'; have HBb := HBb'; clear K7b' HBb'; have K5b' := Hide.mk (ho.blk K5b.out (by omega)); clear K5b; have K5b := K5b'; clear K5b'; clear hb ho))
                go_roundg ((xs.length + 15) / 16 - (k + 1))
                case measure => have := HHK.out; have := HLT.out; have := HT.out; omega
                case rel => exact ⟨k + 1, by have := HHK.out; have := HLT.out; have := HT.out; omega, rfl, K5b.out, K7b.out, HBb.out⟩
        · have hd : decide ((t : Int) < (xs.length : Int)) = false := decide_eq_false (by omega)
          have HKN : Hide (k = (xs.length + 15) / 16) := ⟨by have := HT.out; omega⟩
          have HTG : Hide (tagF (keyH half) xs = wantF half xs k) := ⟨by rw [HKN.out]; exact short_tag HK.out.1 HK.out.2 HBY.out HN.out⟩
          have HKL : Hide ((keyH half).length = 32 ∧ Bytes (keyH half)) := ⟨keyH_len HK.out.1, keyH_bytes HK.out.2⟩
          go_wp2_with fail
          refine Plan.region_plan (fun w' => w'.heap[g5]? = some (.cells (ia .u8 (keyH half)) 22 (0, 0)) ∧ w'.heap[g7]? = some (.cells (ia .u8 (wantF half xs k)) 25 (0, 0)) ∧ Below w.heap.size w w') [] [(0, 0, some 70), (1, 0, some 71), (3, 0, some 73), (2, 1, some 72), (4, 0, some 74), (5, 0, some 4)] (by kernel_rfl) (by kernel_rfl) (by decide) ⟨blk_drew K5.out, blk_drew K7.out, below_drew HB.out⟩ (fun wz ewz hS => ?_)
          clear ewz
          refine Plan.plan_load_row (a' := ?_) rfl rfl 22 (.tmp 5) rfl g5 rfl 22 (ia .u8 (keyH half)) (0, 0) _ (fun _ h => h.1) Try.underlying22 rfl (by rw [ia_size, HKL.out.1]; kernel_rfl) ?_ ?_
          rotate_left 1
          · simp only [Act.put, List.setIfInBounds_toArray, List.set_cons_zero, List.set_cons_succ]
            rfl
          (repeat (first | (refine Plan.plan_take (v := ?_) (a' := ?_) rfl ?_ ?_ ?_ ?_; rotate_left 2; (· rfl); (· (intro w' hs; go_simp; with_reducible rfl)); (· (simp only [Act.put, List.setIfInBounds_toArray, List.set_cons_zero, List.set_cons_succ]; rfl))) | (refine Plan.plan_skip (a' := ?_) rfl ?_ ?_ ?_; rotate_left 1; (· rfl); (· (simp only [Act.put, List.setIfInBounds_toArray, List.set_cons_zero, List.set_cons_succ]; rfl))) | (refine Plan.plan_pure (v := ?_) (a' := ?_) rfl ?_ ?_ ?_ ?_; rotate_left 2; (· rfl); (· (intro w'; go_simp; with_reducible rfl)); (· (simp only [Act.put, List.setIfInBounds_toArray, List.set_cons_zero, List.set_cons_succ]; rfl)))))
          refine Plan.plan_load_row (a' := ?_) rfl rfl 25 (.tmp 7) rfl g7 rfl 25 (ia .u8 (wantF half xs k)) (0, 0) _ (fun _ h => h.2.1) Try.underlying25 rfl (by rw [ia_size, HWL.out.1]; kernel_rfl) ?_ ?_
          rotate_left 1
          · simp only [Act.put, List.setIfInBounds_toArray, List.set_cons_zero, List.set_cons_succ]
            rfl
          refine Plan.plan_call rfl Try.func13 (by kernel_rfl) rfl #[.agg (ia .u8 (keyH half)), .slice A xs.length cap] rfl rfl rfl (by (try simp only [List.map_toArray, List.map_cons, List.map_nil]); rfl) ?_
          refine (oft_any (keyH half) HKL.out.1 HKL.out.2 A cap xs _ HBY.out (by have := HN.out; omega) HC.out (HR.out.below hS.2.2)).mono ?_
          rintro e wc ⟨rfl, hb⟩
          rw [HTG.out]
          have hS2 : wc.heap[g5]? = some (.cells (ia .u8 (keyH half)) 22 (0, 0)) ∧ wc.heap[g7]? = some (.cells (ia .u8 (wantF half xs k)) 25 (0, 0)) ∧ Below w.heap.size w wc := ⟨blk_below hS.1 hb, blk_below hS.2.1 hb, below_step hS.2.2 hb⟩
          clear hb hS
          refine ⟨_, rfl, hS2, ?_⟩
          intro a' ha
          simp only [Act.put, List.setIfInBounds_toArray, List.set_cons_zero, List.set_cons_succ] at ha
          subst ha
          refine Plan.plan_take (v := .bool true) (a' := ?_) rfl rfl (fun w' hs => (eqArr25 rfl rfl rfl HWL.out.1 HWL.out.1).trans (by rw [decide_eq_true rfl])) ?_ ?_
          rotate_left 1
          · simp only [Act.put, List.setIfInBounds_toArray, List.set_cons_zero, List.set_cons_succ]
            rfl
          (repeat (first | (refine Plan.plan_take (v := ?_) (a' := ?_) rfl ?_ ?_ ?_ ?_; rotate_left 2; (· rfl); (· (intro w' hs; go_simp; with_reducible rfl)); (· (simp only [Act.put, List.setIfInBounds_toArray, List.set_cons_zero, List.set_cons_succ]; rfl))) | (refine Plan.plan_skip (a' := ?_) rfl ?_ ?_ ?_; rotate_left 1; (· rfl); (· (simp only [Act.put, List.setIfInBounds_toArray, List.set_cons_zero, List.set_cons_succ]; rfl))) | (refine Plan.plan_pure (v := ?_) (a' := ?_) rfl ?_ ?_ ?_ ?_; rotate_left 2; (· rfl); (· (intro w'; go_simp; with_reducible rfl)); (· (simp only [Act.put, List.setIfInBounds_toArray, List.set_cons_zero, List.set_cons_succ]; rfl)))))
          refine Plan.plan_nil ?_
          have HF := Hide.mk hS2.2.2
          clear hS2
          go_wp2_with fail
          go_ret
          exact ⟨rfl, HF.out⟩
theorem short_all (half : List Int) (hk : half.length = 16) (hkb : Bytes half) (A : Option Addr) (cap : Nat) (xs : List Int) (w : World) (hby : Bytes xs) (hc : xs.length ≤ cap) (hr : ReadsInt w .u8 A xs.length xs) : Calls Try.prog 6 #[.agg (ia .u8 half), .slice A xs.length cap] w fun e w' => e = .returned (.bool true) ∧ Below w.heap.size w w' := by
  by_cases h : xs.length ≤ 31
  · exact short_walk half hk hkb A cap xs w hby h hc hr
  · exact short_big half A cap _ w (by omega)
end Go.Proofs.Ytlhhjdhbkhjhjaa.Po
