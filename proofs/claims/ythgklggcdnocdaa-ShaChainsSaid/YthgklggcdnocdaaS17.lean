/- ShaChains, the walk: the sum of bytes is what their blocks, one behind the other, lead to. -/
import Derived.Test.YthgklggcdnocdaaS13
import Derived.Test.YthgklggcdnocdaaS15
namespace Go.Proofs.Ythgklggcdnocdaa.Sh
open Go.RowKit Go.Proofs.YthgklggcdnocdaaW.PrintWords Go.Proofs.YthgklggcdnocdaaW.PrintLast Go.Proofs.YthgklggcdnocdaaW.PrintMore Mem Rg PShaSums
set_option linter.unusedVariables false
set_option linter.unusedSimpArgs false
/-- A slice's length. -/
theorem build8 {o : Oper} {a : Act} {x0 x1 x2 x3 x4 x5 x6 x7 : Operand} {v0 v1 v2 v3 v4 v5 v6 v7 : Int} {w : World} (ho : o.op = .buildSlice 27 8 #[(0, x0), (1, x1), (2, x2), (3, x3), (4, x4), (5, x5), (6, x6), (7, x7)])
    (h0 : a.eval x0 = .int .u8 v0) (h1 : a.eval x1 = .int .u8 v1) (h2 : a.eval x2 = .int .u8 v2) (h3 : a.eval x3 = .int .u8 v3) (h4 : a.eval x4 = .int .u8 v4) (h5 : a.eval x5 = .int .u8 v5) (h6 : a.eval x6 = .int .u8 v6) (h7 : a.eval x7 = .int .u8 v7) :
    (execOp a.eval o).run Try.prog w = .ok (.value (.slice (some ⟨w.heap.size, 0, none⟩) 8 8)) (w.alloc (.cells (ia .u8 [v0, v1, v2, v3, v4, v5, v6, v7]) 5 (0, 0))) := by
  unfold execOp
  simp only [ho, List.map_toArray, List.map_cons, List.map_nil, h0, h1, h2, h3, h4, h5, h6, h7]
  kernel_rfl
theorem shrStep32 {o : Oper} {a : Act} {x y : Operand} {X Y : Int} {n : Nat} {w : World} (ho : o.op = .binOp .shr 22 x y 3) (hx : a.eval x = .int .u32 X) (hy : a.eval y = .int .i64 Y) (h0 : 0 ≤ Y) (h1 : Y ≤ 32) (hn : Y.toNat = n) : (execOp a.eval o).run Try.prog w = .ok (.value (.int .u32 (X / 2 ^ n))) w := by
  unfold execOp
  simp only [ho, hx, hy]
  go_simp
theorem reads_far {w w1 : World} {A : Option Addr} {n : Nat} {xs : List Int} (h : ReadsInt w .u8 A n xs) (hb : Below w.heap.size w w1) : ReadsInt w1 .u8 A n xs := h.below hb
theorem reads_grown {w w1 : World} {A : Option Addr} {n : Nat} {xs : List Int} {row : Option Nat} (h : ReadsInt w .u8 A n xs) (hg : w.grownBy w1 row) (hA : ∀ ad, A = some ad → 0 < n → row ≠ some ad.block) : ReadsInt w1 .u8 A n xs := by
  refine ⟨h.1, h.2.1, fun hn => ?_⟩
  obtain ⟨ad, e, hc⟩ := h.2.2 hn
  refine ⟨ad, e, fun j hj => ?_⟩
  have h1 := hc j hj
  have hlt := World.block_lt_of_cell? w _ h1
  rw [add_block] at hlt
  exact (World.cell?_of_block (a := ad.add j) (by rw [add_block]; exact hg.block _ hlt (fun e2 => hA ad e hn e2.symm))).trans h1
set_option maxHeartbeats 8000000 in
set_option maxRecDepth 100000 in
theorem chains_walk (A : Option Addr) (cap : Nat) (xs : List Int) (w : World) (hby : Bytes xs) (hc : xs.length ≤ cap) (hr : ReadsInt w .u8 A xs.length xs) : Calls Try.prog 5 #[.slice A xs.length cap] w fun e w' => e = .returned (.bool true) ∧ Below w.heap.size w w' := by
  have HBY := Hide.mk hby
  have HC := Hide.mk hc
  have HR := Hide.mk hr
  clear hby hc hr
  by_cases h : 5000 < xs.length
  · have hd : decide ((5000 : Int) < (xs.length : Int)) = true := by simp; omega
    go_enter Try.func5, Try.ntmps5
    go_wp2_with fail
    refine (alive_any _).mono ?_
    rintro e w1 ⟨rfl, hb⟩
    have HB1 := Hide.mk hb
    clear hb
    go_wp2_with fail
    refine (alive_any _).mono ?_
    rintro e w2 ⟨rfl, hb⟩
    have HB2 := Hide.mk (below_step HB1.out hb)
    clear hb HB1
    go_wp2_with fail
    go_ret
    exact ⟨rfl, HB2.out⟩
  · have hd : decide ((5000 : Int) < (xs.length : Int)) = false := by simp; omega
    have HN : Hide (xs.length ≤ 5000) := ⟨by omega⟩
    have e1 : IntKind.u64.wrap (xs.length : Int) = (xs.length : Int) := IntWalk.u64_in _ (by omega)
    have e2 : IntKind.u64.wrap ((xs.length : Int) * 8) = (xs.length : Int) * 8 := IntWalk.u64_in _ (by omega)
    go_enter Try.func5, Try.ntmps5
    go_wp2_with fail
    refine (alive_any _).mono ?_
    rintro e w1 ⟨rfl, hb⟩
    have HB1 := Hide.mk hb
    have HR1 := Hide.mk (HR.out.below hb)
    have HAW : Hide (∀ ad, A = some ad → 0 < xs.length → (Value.slice none 0 0).ownBlock ≠ some ad.block) := ⟨fun ad _ _ e => by cases e⟩
    clear hb h
    go_wp2_with (first | ((with_reducible refine gate_builtin (b := .append) (xs := #[.tmp 20, .tmp 21]) rfl ?_); at_builtin; go_must (refine Kd.R_append_rows (Kd.int .u8) (w0 := w) w.heap.size rfl (.tmp 20) (.tmp 21) 27 5 (.int .u8 0) 1 rfl Try.underlying27 info5 rfl (by decide) (by decide) (.slice none 0 0) ([] : List Int) xs A xs.length cap (fun _ => True) (fun _ => False) rfl rfl (Kd.R_nil _ _ _ _ (fun _ => True)) (reads_C HR1.out) (fun _ _ h => h) (fun _ h => h.elim) (fun _ _ => trivial) HB1.out HB1.out.size (by have := HN.out; show (0 + xs.length) * 1 ≤ _; omega) ?_); intro v2 w2 ho hb hg hat; rw [List.nil_append] at ho; have HO2 := Hide.mk ho; have HB2 := Hide.mk hb; have HR2 := Hide.mk (reads_grown HR1.out hg HAW.out); clear HB1 HR1; clear ho hb hg hat) | ((with_reducible refine gate_builtin (b := .append) (xs := #[.tmp 23, .tmp 24]) rfl ?_); at_builtin; go_must (refine Kd.R_append (Kd.int .u8) (w0 := w) w.heap.size rfl (.tmp 23) (.tmp 24) 27 5 (.int .u8 0) 1 rfl Try.underlying27 info5 rfl (by decide) (by decide) v2 xs 128 [.int .u8 128] (fun _ => True) (fun _ => False) rfl rfl rfl (fun _ hk => hk.elim) (fun _ _ => trivial) HO2.out HB2.out HB2.out.size (by have := HN.out; show (xs.length + 1) * 1 ≤ _; omega) ?_); intro v3 w3 ho hb hg hat; have HO3 := Hide.mk ho; have HB3 := Hide.mk hb; clear HO2 HB2; clear ho hb hg hat))
    go_loopw [3] (fun v wr => ∃ (u : Value) (z : Nat), v = u ∧ z ≤ padz xs.length ∧ Kd.R (Kd.int .u8) 5 wr w.heap.size (fun _ => True) u (xs ++ 128 :: List.replicate z 0) ∧ Below w.heap.size w wr) (fun v _ => xs.length + 1 + padz xs.length - lenV v)
    case atStart => exact ⟨_, 0, rfl, Nat.zero_le _, by simpa using HO3.out, HB3.out⟩
    case round =>
      clear HO3 HB3
      obtain ⟨u, z, rfl, hz, ho, hb⟩ := hrel
      have HO := Hide.mk ho
      have HB := Hide.mk hb
      clear ho hb
      obtain ⟨A3, c3, rfl⟩ := Kd.R_slice HO.out
      obtain ⟨L, hL⟩ : ∃ L, xs ++ 128 :: List.replicate z 0 = L := ⟨_, rfl⟩
      rw [hL] at HO ⊢
      have HLL : Hide (L.length = xs.length + 1 + z) := ⟨by rw [← hL]; simp; omega⟩
      have HLE := Hide.mk hL
      clear hL
      by_cases hlt : z < padz xs.length
      · have hne : ((L.length : Int) % 64 != 56) = true := by
          have h1 := HLL.out
          unfold padz at hlt
          simp; omega
        go_wp2_with (first | ((with_reducible refine gate_builtin (b := .append) (xs := #[.tmp 30, .tmp 31]) rfl ?_); at_builtin; go_must (refine Kd.R_append (Kd.int .u8) (w0 := w) w.heap.size rfl (.tmp 30) (.tmp 31) 27 5 (.int .u8 0) 1 rfl Try.underlying27 info5 rfl (by decide) (by decide) (.slice A3 L.length c3) L 0 [.int .u8 0] (fun _ => True) (fun _ => False) rfl rfl rfl (fun _ hk => hk.elim) (fun _ _ => trivial) HO.out HB.out HB.out.size (by show (L.length + 1) * 1 ≤ _; have h1 := HLL.out; have h2 := HN.out; unfold padz at hz; omega) ?_); intro v5 w5 ho hb hg hat; have HO5 := Hide.mk ho; have HB5 := Hide.mk hb; clear HO HB; clear ho hb hg hat))
        go_roundw
        case rel => exact ⟨_, z + 1, rfl, by omega, by
          have := HO5.out
          rw [← HLE.out] at this
          simpa [List.replicate_succ'] using this, HB5.out⟩
        case measure =>
          obtain ⟨A5, c5, e5⟩ := Kd.R_slice HO5.out
          rw [e5]
          show _ - (L ++ [0]).length < _ - L.length
          have := HLL.out
          simp; omega
      · have hne : ((L.length : Int) % 64 != 56) = false := by
          have h1 := HLL.out
          unfold padz at hlt hz
          simp; omega
        go_wp2_with (first | ((with_reducible refine gate_dst (N := 61) rfl ?_); refine Kd.event_run rfl (w1 := wr.alloc (.cells (ia .u8 (be8 ((xs.length : Int) * 8))) 5 (0, 0))) (build8 rfl rfl rfl rfl rfl rfl rfl rfl rfl) ?_; have HN7 := Hide.mk (heap_alloc_new wr (.cells (ia .u8 (be8 ((xs.length : Int) * 8))) 5 (0, 0))); have HO7 := Hide.mk (Kd.R_alloc HO.out (.cells (ia .u8 (be8 ((xs.length : Int) * 8))) 5 (0, 0))); have HB7 := Hide.mk (below_step HB.out (below_alloc (Below.refl _ _) (.cells (ia .u8 (be8 ((xs.length : Int) * 8))) 5 (0, 0)))); clear HO HB; generalize wr.alloc (.cells (ia .u8 (be8 ((xs.length : Int) * 8))) 5 (0, 0)) = w7 at HN7 HO7 HB7 ⊢; generalize wr.heap.size = b7 at HN7 ⊢; have HR7 := Hide.mk (reads_C (reads_of_blk HN7.out (by show 8 ≤ 9223372036854775807; decide)))) | ((with_reducible refine gate_builtin (b := .append) (xs := #[.tmp 37, .tmp 61]) rfl ?_); at_builtin; go_must (refine Kd.R_append_rows (Kd.int .u8) (w0 := w) w.heap.size rfl (.tmp 37) (.tmp 61) 27 5 (.int .u8 0) 1 rfl Try.underlying27 info5 rfl (by decide) (by decide) (.slice A3 L.length c3) L (be8 ((xs.length : Int) * 8)) (some ⟨b7, 0, none⟩) 8 8 (fun _ => True) (fun _ => False) rfl rfl HO7.out HR7.out (fun _ _ h => h) (fun _ h => h.elim) (fun _ _ => trivial) HB7.out HB7.out.size (by show (L.length + 8) * 1 ≤ _; have h1 := HLL.out; have h2 := HN.out; unfold padz at hz; omega) ?_); intro v8 w8 ho hb hg hat; have HO8 := Hide.mk ho; have HB8 := Hide.mk hb; clear HO7 HB7 HN7 HR7; clear ho hb hg hat))
        refine (begin14 _).mono ?_
        rintro e w9 ⟨rfl, hb⟩
        obtain ⟨B, dp, rfl, _, hC⟩ := Kd.R_reads HO8.out
        have hzz : z = padz xs.length := by omega
        have HPE : Hide (L ++ be8 ((xs.length : Int) * 8) = pad xs) := ⟨by rw [← HLE.out, hzz]; unfold pad; rw [Int.mul_comm]; simp⟩
        rw [HPE.out] at hC ⊢
        have HRP := Hide.mk ((C_reads hC).below hb)
        have HB9 := Hide.mk (below_step HB8.out hb)
        have HPB := Hide.mk (pad_bytes HBY.out)
        have HPL := Hide.mk (pad_len xs)
        have HST : Hide (chainF hS (chunksN (pad xs) ((xs.length + 8) / 64 + 1)) = stF xs) := ⟨rfl⟩
        have HM : Hide (1 ≤ (xs.length + 8) / 64 + 1 ∧ (xs.length + 8) / 64 + 1 ≤ 20000) := ⟨by have := HN.out; omega⟩
        clear hC hb HO8 HB8 HPE hzz hlt hne hz hd e1 e2
        generalize pad xs = P at HRP HPB HPL HST ⊢
        generalize (xs.length + 8) / 64 + 1 = m at HPL HST HM
        rw [hS_list]
        have HR3 := HRP
        go_wp2_with (first | ((with_reducible refine gate_dst (N := 5) rfl ?_); refine box_event ?hg (N := 5) ?hd (cs := ia .u32 (List.replicate 8 0)) (t := 23) ?hr ?_; (case hd => rfl); (case hg => rfl); (case hr => kernel_rfl); intro g5 hg w10 hbox hb; have BKg5 := Hide.mk hbox; have HB10 := Hide.mk (below_step HB9.out hb); have GEg5 : w.heap.size ≤ g5 := (by rw [hg]; exact HB9.out.size); clear HB9; have HRP5 := Hide.mk (HRP.out.below hb); have KRA0 : Hide (∀ ad, B = some ad → 0 < P.length → ad.block ≠ g5) := ⟨fun ad e hp => (by obtain ⟨ad', e', hcell⟩ := HRP.out.2.2 hp; rw [e] at e'; cases e'; have hh := World.block_lt_of_cell? _ _ (hcell 0 hp); rw [add_block] at hh; omega)⟩; clear HRP; clear hbox hb hg) | ((with_reducible refine gate_store (p := 5) (v := .tmp 63) rfl ?_); go_must (refine store_row rfl rfl 23 (.tmp 5) (.tmp 63) rfl g5 rfl (ia .u32 hS.list) rfl (ia_one _ _) (by rw [ia_size, s8_len]; kernel_rfl) _ _ BKg5.out (by rw [ia_size, ia_size, s8_len]; rfl) ?_); intro w9 hb ho; have BKg5' := Hide.mk hb; have HB10' := Hide.mk (ho.below HB10.out GEg5); clear BKg5 HB10; have BKg5 := BKg5'; have HB10 := HB10'; clear BKg5' HB10'; have HRP5' := Hide.mk (reads_only ho HRP5.out (fun ad e => (fun hh => by by_cases hp : 0 < P.length; (exact KRA0.out ad e hp hh); (have h1 := HPL.out; have h2 := HM.out.1; omega)))); clear HRP5; have HRP5 := HRP5'; clear HRP5'; clear hb ho))
        have HB5 := HB10
        clear HB10 HR3
        go_loopw [6] (fun t wr => ∃ i : Nat, i ≤ m ∧ t = .int .i64 (((64 * i : Nat) : Int)) ∧ wr.heap[g5]? = some (.cells (ia .u32 (chainF hS (chunksN P i)).list) 23 (0, 0)) ∧ ReadsInt wr .u8 B P.length P ∧ Below w.heap.size w wr) (fun t _ => 64 * m - (intOf t).toNat)
        case atStart => exact ⟨0, by omega, rfl, BKg5.out, HRP5.out, HB5.out⟩
        case round =>
          clear BKg5 HRP5 HB5
          obtain ⟨i, hi, rfl, h5, hrp, hb⟩ := hrel
          have K5 := Hide.mk h5
          have KR := Hide.mk hrp
          have KB := Hide.mk hb
          have G5 := blk_lt h5
          clear h5 hrp hb
          obtain ⟨wo, rfl⟩ : ∃ wo, wo = wr := ⟨wr, rfl⟩
          by_cases hlt : i < m
          · have hd : decide (64 * i < P.length) = true := by simp; rw [HPL.out]; omega
            have hd' : decide (64 * (i : Int) < (P.length : Int)) = true := by simp; rw [HPL.out]; omega
            obtain ⟨C, hC⟩ : ∃ C, (P.drop (64 * i)).take 64 = C := ⟨_, rfl⟩
            have HCL : Hide (C.length = 64) := ⟨by rw [← hC]; exact chunk_len P m i HPL.out hlt⟩
            have HCB : Hide (Bytes C) := ⟨by rw [← hC]; exact take_bytes (drop_bytes HPB.out _) _⟩
            have HCS : Hide (chunksN P (i + 1) = chunksN P i ++ [C]) := ⟨by rw [← hC]; exact chunks_succ P i⟩
            have HCG : Hide (∀ j, j < 64 → C.getD j 0 = P.getD (64 * i + j) 0) := ⟨fun j hj => by rw [← hC]; exact chunk_get P i j hj⟩
            clear hC
            go_wp2_with (first | ((with_reducible refine gate_dst (N := 7) rfl ?_); refine box_event ?hg (N := 7) ?hd (cs := ia .u8 (List.replicate 64 0)) (t := 24) ?hr ?_; (case hd => rfl); (case hg => rfl); (case hr => kernel_rfl); intro g7 hg w7 hbox hb; have GEg7' : wo.heap.size ≤ g7 := (by rw [hg]; exact Nat.le_refl _); have BKg7 := Hide.mk hbox; have KQ := Hide.mk hb; have HB7 := Hide.mk (below_step KB.out hb); clear hbox hb hg))
            have NK : g7 ≠ g5 := by omega
            go_loopw [8] (fun t wr => ∃ j : Nat, j ≤ 64 ∧ t = .int .i64 j ∧ wr.heap[g7]? = some (.cells (ia .u8 (C.take j ++ List.replicate (64 - j) 0)) 24 (0, 0)) ∧ Below wo.heap.size wo wr ∧ Below w.heap.size w wr) (fun t _ => 64 - (intOf t).toNat)
            case atStart => exact ⟨0, by omega, rfl, BKg7.out, KQ.out, HB7.out⟩
            case round =>
              clear BKg7 KQ HB7
              obtain ⟨j, hj, rfl, h7, hq, hb⟩ := hrel
              have K7 := Hide.mk h7
              have KQ := Hide.mk hq
              have KBq := Hide.mk hb
              clear h7 hq hb
              by_cases hltj : j < 64
              · have hdj : decide ((j : Int) < 64) = true := by simp; omega
                obtain ⟨ad, hB, hcell⟩ := KR.out.2.2 (by rw [HPL.out]; omega)
                subst hB
                have hc0 := hcell (64 * i + j) (by rw [HPL.out]; omega)
                have hadl : ad.block < wo.heap.size := by have := World.block_lt_of_cell? wo _ hc0; rwa [add_block] at this
                have c0 : wr.cell? (ad.add (64 * i + j)) = some (.int .u8 (P.getD (64 * i + j) 0)) := (KQ.out.cell (p := ad.add (64 * i + j)) (by rw [add_block]; exact hadl)).trans hc0
                have HFS := Hide.mk (fill_set C 64 j (P.getD (64 * i + j) 0) hltj HCL.out (HCG.out j hltj))
                generalize P.getD (64 * i + j) 0 = x at c0 HFS
                have e1 : IntKind.i64.wrap (((64 * i : Nat) : Int) + (j : Int)) = ((64 * i + j : Nat) : Int) := by rw [IntWalk.i64_in _ (by have := HM.out.2; omega)]; omega
                have e1' : IntKind.i64.wrap (64 * (i : Int) + (j : Int)) = ((64 * i + j : Nat) : Int) := by rw [IntWalk.i64_in _ (by have := HM.out.2; omega)]; omega
                have e2 : IntKind.i64.wrap ((j : Int) + 1) = (j : Int) + 1 := IntWalk.i64_in _ (by omega)
                have hi0 : (0 : Int) ≤ ((64 * i + j : Nat) : Int) := Int.natCast_nonneg _
                have hi1 : ((64 * i + j : Nat) : Int) < (P.length : Int) := by rw [HPL.out]; omega
                have hi2 : 64 * i + j < P.length := by rw [HPL.out]; omega
                have hj0 : (0 : Int) ≤ (j : Int) := Int.natCast_nonneg _
                have hj1 : (j : Int) < 64 := by omega
                clear hc0 hcell hd hd'
                go_wp2_with (first | ((with_reducible refine gate_store (p := 81) (v := .tmp 80) rfl ?_); refine store_cell rfl rfl 5 (.tmp 81) (.tmp 80) rfl g7 j rfl (.int .u8 x) rfl rfl rfl (by kernel_rfl) _ _ K7.out ?hlt ?_; (case hlt => rw [ia_size, List.length_append, List.length_take, HCL.out, List.length_replicate]; omega); intro w8 hb8 ho8; rw [ia_set, HFS.out] at hb8; have K78 := Hide.mk hb8; have KO8 := Hide.mk ho8; clear hb8 ho8))
                go_roundw
                case rel => exact ⟨j + 1, by omega, by go_num, K78.out, KO8.out.below KQ.out GEg7', KO8.out.below KBq.out (Nat.le_trans KB.out.size GEg7')⟩
                case measure => simp [intOf]; omega
              · obtain rfl : j = 64 := by omega
                rw [show ((64 : Nat) : Int) = 64 from rfl]
                have HE : Hide (C.take 64 ++ List.replicate (64 - 64) 0 = C) := ⟨by rw [List.take_of_length_le (by rw [HCL.out]; omega)]; simp⟩
                rw [HE.out] at K7
                have K5q := Hide.mk (blk_below K5.out KQ.out)
                have KRq := Hide.mk (KR.out.below KQ.out)
                have GE5 : w.heap.size ≤ g5 := GEg5
                have e3 : IntKind.i64.wrap (((64 * i : Nat) : Int) + 64) = ((64 * (i + 1) : Nat) : Int) := by rw [IntWalk.i64_in _ (by have := HM.out.2; omega)]; omega
                have e3' : IntKind.i64.wrap (64 * (i : Int) + 64) = ((64 * (i + 1) : Nat) : Int) := by rw [IntWalk.i64_in _ (by have := HM.out.2; omega)]; omega
                clear K5 KR hd hd'
                go_wp2_with (first | ((with_reducible refine gate_dst (N := 82) rfl ?_); refine wpList_load_row rfl 23 (.tmp 5) rfl g5 rfl 23 _ (0, 0) _ K5q.out Try.underlying23 rfl ?hsz ?_; (case hsz => kernel_rfl)) | ((with_reducible refine gate_dst (N := 83) rfl ?_); refine wpList_load_row rfl 24 (.tmp 7) rfl g7 rfl 24 _ (0, 0) _ K7.out Try.underlying24 rfl ?hsz ?_; (case hsz => rw [ia_size, HCL.out]; kernel_rfl)))
                refine (block_any (chainF hS (chunksN P i)) C _ HCB.out HCL.out).mono ?_
                rintro e w9 ⟨rfl, hb9⟩
                have K59 := Hide.mk (blk_below K5q.out hb9)
                have KR9 := Hide.mk (KRq.out.below hb9)
                have KB9 := Hide.mk (below_step KBq.out hb9)
                have KRA : Hide (∀ ad, B = some ad → 0 < P.length → ad.block ≠ g5) := KRA0
                clear hb9 K5q KRq KBq K7 KQ
                rw [← chainF_snoc, ← HCS.out]
                go_wp2_with (first | ((with_reducible refine gate_store (p := 5) (v := .tmp 84) rfl ?_); go_must (refine store_row rfl rfl 23 (.tmp 5) (.tmp 84) rfl g5 rfl (ia .u32 (chainF hS (chunksN P (i + 1))).list) rfl (ia_one _ _) (by kernel_rfl) _ _ K59.out (by rw [ia_size, ia_size]; rfl) ?_); intro w10 hb10 ho10; have K510 := Hide.mk hb10; have KO10 := Hide.mk ho10; clear hb10 ho10))
                go_roundw
                case rel => exact ⟨i + 1, by omega, rfl, K510.out, reads_only KO10.out KR9.out (fun ad e => KRA.out ad e (by rw [HPL.out]; omega)), KO10.out.below KB9.out GE5⟩
                case measure => simp [intOf]; omega
          · obtain rfl : i = m := by omega
            have hd : decide (64 * i < P.length) = false := by simp; rw [HPL.out]; omega
            have hd' : decide (64 * (i : Int) < (P.length : Int)) = false := by simp; rw [HPL.out]; omega
            rw [HST.out] at K5
            obtain ⟨s, hs⟩ : ∃ s, stF xs = s := ⟨_, rfl⟩
            rw [hs] at K5
            have HSS : Hide (outF s = sumF xs) := ⟨by rw [← hs]; rfl⟩
            clear hs HST
            go_wp2_with fail
            refine (sum_any A cap xs _ HBY.out (by have := HN.out; omega) HC.out (reads_far HR.out KB.out)).mono ?_
            rintro e w11 ⟨rfl, hb⟩
            have HB11 := Hide.mk (below_step KB.out hb)
            have K511 := Hide.mk (blk_below K5.out hb)
            clear hb KB K5 KR hd hd'
            rw [← HSS.out]
            have HOL : Hide ((outF s).length = 32) := ⟨outF_len s⟩
            go_wp2_with (first | ((with_reducible refine gate_dst (N := 9) rfl ?_); refine box_event ?hg (N := 9) ?hd (cs := ia .u8 (List.replicate 32 0)) (t := 29) ?hr ?_; (case hd => rfl); (case hg => rfl); (case hr => kernel_rfl); intro g9 hg w12 hbox hb; have Lg5g9 : g5 < g9 := (by rw [hg]; exact blk_lt K511.out); have BKg9 := Hide.mk hbox; have HB12 := Hide.mk (below_step HB11.out hb); have GEg9 : w.heap.size ≤ g9 := (by rw [hg]; exact HB11.out.size); clear HB11; have K511' := Hide.mk (blk_below K511.out hb); clear K511; have K511 := K511'; clear K511'; clear hbox hb hg) | ((with_reducible refine gate_store (p := 9) (v := .tmp 88) rfl ?_); go_must (refine store_row rfl rfl 29 (.tmp 9) (.tmp 88) rfl g9 rfl (ia .u8 (outF s)) rfl (ia_one _ _) (by rw [ia_size, HOL.out]; kernel_rfl) _ _ BKg9.out (by rw [ia_size, ia_size, HOL.out]; rfl) ?_); intro w9b hb ho; have BKg9' := Hide.mk hb; have HB12' := Hide.mk (ho.below HB12.out GEg9); have K511' := Hide.mk (ho.blk K511.out (by omega)); clear BKg9 HB12 K511; have BKg9 := BKg9'; have HB12 := HB12'; have K511 := K511'; clear BKg9' HB12' K511'; clear hb ho))
            go_loopw [11] (fun t wr => ∃ j : Nat, j ≤ 32 ∧ t = .int .i64 j ∧ wr.heap[g9]? = some (.cells (ia .u8 (outF s)) 29 (0, 0)) ∧ wr.heap[g5]? = some (.cells (ia .u32 s.list) 23 (0, 0)) ∧ Below w.heap.size w wr) (fun t _ => 32 - (intOf t).toNat)
            case atStart => exact ⟨0, by omega, rfl, BKg9.out, K511.out, HB12.out⟩
            case round =>
              clear BKg9 K511 HB12
              obtain ⟨j, hj, rfl, h9, h5, hb⟩ := hrel
              have K9 := Hide.mk h9
              have K5 := Hide.mk h5
              have KB := Hide.mk hb
              clear h9 h5 hb
              by_cases hltj : j < 32
              · have hd : decide ((j : Int) < 32) = true := by simp; omega
                have c4 : wr.cell? ⟨g5, j / 4, none⟩ = some (.int .u32 (s.list.getD (j / 4) 0)) := (blk_cell K5.out _).trans (ia_get _ _ _ (by rw [s8_len]; omega))
                have c9 : wr.cell? ⟨g9, j, none⟩ = some (.int .u8 (s.list.getD (j / 4) 0 / 2 ^ (24 - 8 * (j % 4)) % 256)) := (blk_cell K9.out _).trans ((ia_get _ _ _ (by rw [HOL.out]; omega)).trans (by rw [outF_get s j hltj, Nat.mul_comm]))
                generalize s.list.getD (j / 4) 0 = x at c4 c9
                have hU : IntKind.u8.wrap (x / 2 ^ (24 - 8 * (j % 4))) = x / 2 ^ (24 - 8 * (j % 4)) % 256 := by rw [IntKind.wrap_u8]
                generalize x / 2 ^ (24 - 8 * (j % 4)) % 256 = y at c9 hU
                have hq4 : j / 4 < 8 := by omega
                have hq5 : (j : Int) / 4 < 8 := by omega
                have hq6 : (0 : Int) ≤ (j : Int) / 4 := by omega
                have hq7 : ((j : Int) / 4).toNat = j / 4 := by omega
                have hs1 : (0 : Int) ≤ 24 - 8 * ((j : Int) % 4) := by omega
                have hs2 : 24 - 8 * ((j : Int) % 4) ≤ 32 := by omega
                have hs3 : (24 - 8 * ((j : Int) % 4)).toNat = 24 - 8 * (j % 4) := by omega
                have hs4 : IntKind.i64.wrap (8 * ((j : Int) % 4)) = 8 * ((j : Int) % 4) := IntWalk.i64_in _ (by omega)
                have hs5 : IntKind.i64.wrap (24 - 8 * ((j : Int) % 4)) = 24 - 8 * ((j : Int) % 4) := IntWalk.i64_in _ (by omega)
                have HSY : Hide (IntKind.i64.wrap (24 - IntKind.i64.wrap (8 * ((j : Int)).tmod 4)) = 24 - 8 * ((j : Int) % 4)) := ⟨by rw [Int.tmod_eq_emod_of_nonneg (Int.natCast_nonneg _), hs4, hs5]⟩
                have hs6 : IntKind.i64.wrap ((j : Int) / 4) = (j : Int) / 4 := IntWalk.i64_in _ (by omega)
                have f1 : IntKind.i64.wrap ((j : Int) + 1) = (j : Int) + 1 := IntWalk.i64_in _ (by omega)
                have hi0 : (0 : Int) ≤ (j : Int) := Int.natCast_nonneg _
                have hi1 : (j : Int) < 32 := by omega
                go_wp2_with fail
                refine Plan.region_plan (fun w' => w'.cell? ⟨g9, j, none⟩ = some (.int .u8 y) ∧ w'.cell? ⟨g5, j / 4, none⟩ = some (.int .u32 x)) [] [(0, 0, some 94), (1, 0, some 95), (2, 0, some 96), (3, 0, some 97), (4, 0, some 98), (5, 0, some 99), (6, 0, some 100), (7, 0, some 101), (8, 0, some 102), (9, 0, some 103), (10, 0, some 104), (11, 0, some 105), (12, 0, some 106), (13, 0, some 107)] (by kernel_rfl) (by kernel_rfl) (by decide) ⟨c9, c4⟩ (fun wz ewz hS => ?_)
                have KBz := Hide.mk (below_of_drew ewz KB.out)
                have K9z := Hide.mk (blk_of_drew ewz K9.out)
                have K5z := Hide.mk (blk_of_drew ewz K5.out)
                clear ewz KB K9 K5 c4 c9
                (repeat (first | (refine Plan.plan_take (v := ?_) (a' := ?_) rfl ?_ ?_ ?_ ?_; rotate_left 2; (· rfl); (· (intro w' hs; go_simp; with_reducible rfl)); (· (simp only [Act.put, List.setIfInBounds_toArray, List.set_cons_zero, List.set_cons_succ]; rfl))) | (refine Plan.plan_skip (a' := ?_) rfl ?_ ?_ ?_; rotate_left 1; (· rfl); (· (simp only [Act.put, List.setIfInBounds_toArray, List.set_cons_zero, List.set_cons_succ]; rfl))) | (refine Plan.plan_pure (v := ?_) (a' := ?_) rfl ?_ ?_ ?_ ?_; rotate_left 2; (· rfl); (· (intro w'; go_simp; with_reducible rfl)); (· (simp only [Act.put, List.setIfInBounds_toArray, List.set_cons_zero, List.set_cons_succ]; rfl)))))
                refine Plan.plan_take (v := .int .u32 (x / 2 ^ (24 - 8 * (j % 4)))) (a' := ?_) rfl ?_ ?_ ?_ ?_
                rotate_left 1
                · rfl
                · intro w' hs
                  exact shrStep32 rfl rfl rfl (by rw [HSY.out]; omega) (by rw [HSY.out]; omega) (by rw [HSY.out]; omega)
                · simp only [Act.put, List.setIfInBounds_toArray, List.set_cons_zero, List.set_cons_succ]
                  rfl
                (repeat (first | (refine Plan.plan_take (v := ?_) (a' := ?_) rfl ?_ ?_ ?_ ?_; rotate_left 2; (· rfl); (· (intro w' hs; go_simp; with_reducible rfl)); (· (simp only [Act.put, List.setIfInBounds_toArray, List.set_cons_zero, List.set_cons_succ]; rfl))) | (refine Plan.plan_skip (a' := ?_) rfl ?_ ?_ ?_; rotate_left 1; (· rfl); (· (simp only [Act.put, List.setIfInBounds_toArray, List.set_cons_zero, List.set_cons_succ]; rfl))) | (refine Plan.plan_pure (v := ?_) (a' := ?_) rfl ?_ ?_ ?_ ?_; rotate_left 2; (· rfl); (· (intro w'; go_simp; with_reducible rfl)); (· (simp only [Act.put, List.setIfInBounds_toArray, List.set_cons_zero, List.set_cons_succ]; rfl)))))
                refine Plan.plan_nil ?_
                clear hS
                go_wp2_with fail
                go_roundw
                case rel => exact ⟨j + 1, by omega, by go_num, K9z.out, K5z.out, KBz.out⟩
                case measure => simp [intOf]; omega
              · obtain rfl : j = 32 := by omega
                rw [show ((32 : Nat) : Int) = 32 from rfl]
                go_wp2_with fail
                go_ret
                exact ⟨rfl, KB.out⟩
end Go.Proofs.Ythgklggcdnocdaa.Sh
