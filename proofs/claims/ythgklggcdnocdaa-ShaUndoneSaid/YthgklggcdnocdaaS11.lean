/- Sum: the sum of any bytes is what their padded blocks lead to. -/
import Derived.Test.YthgklggcdnocdaaS10
namespace Go.Proofs.Ythgklggcdnocdaa.Sh
open Go.RowKit Go.Proofs.YthgklggcdnocdaaW.PrintWords Go.Proofs.YthgklggcdnocdaaW.PrintLast Go.Proofs.YthgklggcdnocdaaW.PrintMore Mem Rg
attribute [local go_sem] Oper.semAt_some
set_option linter.unusedVariables false
set_option linter.unusedSimpArgs false
def hS : S8 := ⟨0x6a09e667, 0xbb67ae85, 0x3c6ef372, 0xa54ff53a, 0x510e527f, 0x9b05688c, 0x1f83d9ab, 0x5be0cd19⟩
theorem hS_list : hs = hS.list := hs_eq
def chainF (s : S8) (l : List (List Int)) : S8 := l.foldl blockF s
theorem chainF_snoc (s : S8) (l : List (List Int)) (x : List Int) : chainF s (l ++ [x]) = blockF (chainF s l) x := by simp [chainF]
def outF (s : S8) : List Int := (List.range 32).map fun i => s.list.getD (i / 4) 0 / 2 ^ (24 - i % 4 * 8) % 256
def stF (xs : List Int) : S8 := chainF hS (chunksN (pad xs) ((xs.length + 8) / 64 + 1))
def sumF (xs : List Int) : List Int := outF (stF xs)
theorem outF_len (s : S8) : (outF s).length = 32 := by simp [outF]
theorem outF_get (s : S8) (i : Nat) (hi : i < 32) : (outF s).getD i 0 = s.list.getD (i / 4) 0 / 2 ^ (24 - i % 4 * 8) % 256 := by
  simp [outF, List.getD_eq_getElem?_getD, List.getElem?_range hi]
theorem blocks23 (A : Option Addr) (n cap : Nat) (w : World) : Calls Try.prog 23 #[.slice A n cap] w fun e w' => ∃ g, e = .returned (.func (.func 32) #[] #[.pointer (some ⟨g, 0, none⟩)]) ∧ w'.heap[g]? = some (.cells #[.slice A n cap] 27 (0, 0)) ∧ Below w.heap.size w w' ∧ w.heap.size ≤ g := by
  go_enter Try.func23, Try.ntmps23
  go_wp2_with fail
  go_ret
  exact ⟨w.heap.size, rfl, heap_alloc_new w _, below_alloc (Below.refl _ _) _, Nat.le_refl _⟩
theorem load_row_eq {P : Program} {oi : Oper} {a : Act} {w : World} (ty : TypeId) (x : Operand) (ho : oi.op = .load ty x) (g : Nat) (hx : a.eval x = .pointer (some ⟨g, 0, none⟩)) (t : TypeId) (cs : Array Value) (fr : Nat × Nat) (dd : TypeDesc) (hg : w.heap[g]? = some (.cells cs t fr)) (hu : P.underlying ty = some dd) (hd : (match dd with | .struct _ | .array _ _ => true | _ => false) = true)
    (hsz : (P.info? ty).map (·.size) = some cs.size) : (execOp a.eval oi).run P w = .ok (.value (.agg cs)) w := by
  unfold execOp
  simp only [ho, hx, Instr.loadAt, Instr.sureAddr, Sem.run_bind, Sem.run_pure, Result.andThen_ok, run_loadVar_row w g t ty cs fr dd hg hu hd hsz]
theorem s8_len (s : S8) : s.list.length = 8 := rfl
theorem arg_putObj {x : List Int} {v : Value} {W : World} {l : Nat} {o : Obj} (h : Arg x v W) (hl : ∃ r, W.heap[l]? = some (.loop r)) : Arg x v (W.putObj l o) := by
  obtain ⟨ad, c, rfl, hb, hx, hr⟩ := h
  obtain ⟨r, hl⟩ := hl
  refine ⟨ad, c, rfl, hb, hx, hr.1, hr.2.1, fun hn => ?_⟩
  obtain ⟨ad', e, hc⟩ := hr.2.2 hn
  cases e
  refine ⟨ad, rfl, fun j hj => ?_⟩
  have h1 := hc j hj
  refine (World.cell?_of_block (a := ad.add j) (World.putObj_heap_other (fun e => ?_))).trans h1
  unfold World.cell? at h1
  rw [e, hl] at h1
  simp at h1
set_option maxHeartbeats 4000000 in
set_option maxRecDepth 100000 in
theorem sum_big (A : Option Addr) (cap n : Nat) (w : World) (hn : 1048576 < n) : Calls Try.prog 10 #[.slice A n cap] w fun e w' => e = .returned (.tuple #[.agg (ia .u8 (List.replicate 32 0)), .int .i64 3]) ∧ Below w.heap.size w w' := by
  have hd : decide ((1048576 : Int) < (n : Int)) = true := by simp; omega
  go_enter Try.func10, Try.ntmps10
  have HB0 := Hide.mk (Below.refl w.heap.size w)
  go_wp2_with (first | ((with_reducible refine gate_dst (N := 2) rfl ?_); refine box_event ?hg (N := 2) ?hd (cs := ia .u8 (List.replicate 32 0)) (t := 29) ?hr ?_; (case hd => rfl); (case hg => rfl); (case hr => kernel_rfl); intro g2 hg w1 hbox hb; have BKg2 := Hide.mk hbox; have HB1 := Hide.mk (below_step HB0.out hb); have GEg2 : w.heap.size ≤ g2 := (by rw [hg]; exact HB0.out.size); clear HB0; clear hbox hb hg) | ((with_reducible refine gate_dst (N := 11) rfl ?_); refine wpList_load_row rfl 29 (.tmp 2) rfl g2 rfl 29 _ (0, 0) _ BKg2.out Try.underlying29 rfl ?hsz ?_; (case hsz => kernel_rfl)) | ((with_reducible refine gate_store (p := 2) (v := .tmp 11) rfl ?_); go_must (refine store_row rfl rfl 29 (.tmp 2) (.tmp 11) rfl g2 rfl (ia .u8 (List.replicate 32 0)) rfl (ia_one _ _) (by rw [ia_size]; kernel_rfl) _ _ BKg2.out rfl ?_); intro w9 hb ho; have BK2 := Hide.mk hb; have HB2 := Hide.mk (ho.below HB1.out GEg2); clear BKg2 HB1; have BKg2 := BK2; have HB1 := HB2; clear hb ho))
  refine bodyPost_ret (results_ct rfl _ _ g2 29 _ (0, 0) _ rfl BKg2.out Try.underlying29 rfl (by kernel_rfl)) rfl ?_
  exact ⟨rfl, HB1.out⟩
set_option maxHeartbeats 4000000 in
set_option maxRecDepth 100000 in
theorem sum_any (A : Option Addr) (cap : Nat) (xs : List Int) (w : World) (hby : Bytes xs) (hn : xs.length ≤ 1048576) (hc : xs.length ≤ cap) (hr : ReadsInt w .u8 A xs.length xs) : Calls Try.prog 10 #[.slice A xs.length cap] w fun e w' => e = .returned (.tuple #[.agg (ia .u8 (sumF xs)), .int .i64 0]) ∧ Below w.heap.size w w' := by
  have hd : decide ((1048576 : Int) < (xs.length : Int)) = false := by simp; omega
  have HBY := Hide.mk hby
  have HN := Hide.mk hn
  have HC := Hide.mk hc
  have HR := Hide.mk hr
  have HAW : Hide (∀ ad, A = some ad → 0 < xs.length → ad.block < w.heap.size) := ⟨fun ad e hp => by
    obtain ⟨ad', e', hcell⟩ := hr.2.2 hp
    rw [e] at e'; cases e'
    have := World.block_lt_of_cell? w _ (hcell 0 hp)
    rwa [add_block] at this⟩
  clear hby hn hc hr
  refine (callsIn_wide (n := 9)).1 (callsIn_of_wp_marks Try.func10 rfl trivial ?_ rfl)
  simp only [Try.ntmps10, List.size_toArray, List.length_cons, List.length_nil, Nat.reduceAdd, Nat.reduceSub, Array.replicate_succ, Array.replicate_zero, List.push_toArray, List.append_toArray, List.nil_append, List.cons_append]
  refine wpIn_wide.2 ?_
  have HB0 := Hide.mk (Below.refl w.heap.size w)
  go_wp2_with (first | ((with_reducible refine gate_dst (N := 2) rfl ?_); refine box_event ?hg (N := 2) ?hd (cs := ia .u8 (List.replicate 32 0)) (t := 29) ?hr ?_; (case hd => rfl); (case hg => rfl); (case hr => kernel_rfl); intro g2 hg w1 hbox hb; have BKg2 := Hide.mk hbox; have HB1 := Hide.mk (below_step HB0.out hb); have GEg2 : w.heap.size ≤ g2 := (by rw [hg]; exact HB0.out.size); clear HB0; clear hbox hb hg))
  refine (begin_any _).mono ?_
  rintro e w2 ⟨rfl, hb⟩
  have HB2 := Hide.mk (below_step HB1.out hb)
  have BK2 := Hide.mk (blk_below BKg2.out hb)
  clear hb HB1 BKg2
  go_wp2_with fail
  refine (words_any _).mono ?_
  rintro e w3 ⟨rfl, hb⟩
  have HB3 := Hide.mk (below_step HB2.out hb)
  have BK2' := Hide.mk (blk_below BK2.out hb)
  clear hb HB2 BK2
  rw [hS_list]
  go_wp2_with (first | ((with_reducible refine gate_dst (N := 4) rfl ?_); refine box_event ?hg (N := 4) ?hd (cs := ia .u32 (List.replicate 8 0)) (t := 23) ?hr ?_; (case hd => rfl); (case hg => rfl); (case hr => kernel_rfl); intro g4 hg w4 hbox hb; have Lg2g4 : g2 < g4 := (by rw [hg]; exact blk_lt BK2'.out); have BKg4 := Hide.mk hbox; have HB4 := Hide.mk (below_step HB3.out hb); have GEg4 : w.heap.size ≤ g4 := (by rw [hg]; exact HB3.out.size); clear HB3; have BK2'' := Hide.mk (blk_below BK2'.out hb); clear BK2'; have BK2' := BK2''; clear BK2''; clear hbox hb hg) | ((with_reducible refine gate_dst (N := 5) rfl ?_); refine box_event ?hg (N := 5) ?hd (cs := ia .u32 (List.replicate 64 0)) (t := 39) ?hr ?_; (case hd => rfl); (case hg => rfl); (case hr => kernel_rfl); intro g5 hg w5 hbox hb; have Lg2g5 : g2 < g5 := (by rw [hg]; exact blk_lt BK2'.out); have Lg4g5 : g4 < g5 := (by rw [hg]; exact blk_lt BKg4.out); have BKg5 := Hide.mk hbox; have HB5 := Hide.mk (below_step HB4.out hb); have GEg5 : w.heap.size ≤ g5 := (by rw [hg]; exact HB4.out.size); clear HB4; have BK2'' := Hide.mk (blk_below BK2'.out hb); clear BK2'; have BK2' := BK2''; clear BK2''; have BKg4' := Hide.mk (blk_below BKg4.out hb); clear BKg4; have BKg4 := BKg4'; clear BKg4'; clear hbox hb hg) | ((with_reducible refine gate_store (p := 4) (v := .tmp 12) rfl ?_); go_must (refine store_row rfl rfl 23 (.tmp 4) (.tmp 12) rfl g4 rfl (ia .u32 hS.list) rfl (ia_one _ _) (by rw [ia_size, s8_len]; kernel_rfl) _ _ BKg4.out (by rw [ia_size, ia_size, s8_len]; rfl) ?_); intro w9 hb ho; have BKg4x := Hide.mk hb; have HB5' := Hide.mk (ho.below HB5.out GEg4); clear BKg4 HB5; have BKg4 := BKg4x; have HB5 := HB5'; clear BKg4x HB5'; have BK2'' := Hide.mk (ho.blk BK2'.out (by omega)); clear BK2'; have BK2' := BK2''; clear BK2''; have BKg5' := Hide.mk (ho.blk BKg5.out (by omega)); clear BKg5; have BKg5 := BKg5'; clear BKg5'; clear hb ho) | ((with_reducible refine gate_store (p := 5) (v := .tmp 13) rfl ?_); go_must (refine store_row rfl rfl 39 (.tmp 5) (.tmp 13) rfl g5 rfl (ia .u32 ks) rfl (ia_one _ _) (by rw [ia_size, ks_len]; kernel_rfl) _ _ BKg5.out (by rw [ia_size, ia_size, ks_len]; rfl) ?_); intro w9 hb ho; have BKg5' := Hide.mk hb; have HB5' := Hide.mk (ho.below HB5.out GEg5); clear BKg5 HB5; have BKg5 := BKg5'; have HB5 := HB5'; clear BKg5' HB5'; have BK2'' := Hide.mk (ho.blk BK2'.out (by omega)); clear BK2'; have BK2' := BK2''; clear BK2''; have BKg4' := Hide.mk (ho.blk BKg4.out (by omega)); clear BKg4; have BKg4 := BKg4'; clear BKg4'; clear hb ho))
  refine (blocks23 A xs.length cap _).mono ?_
  rintro e w6 ⟨bb, rfl, hbb, hb, hbg⟩
  have HB6 := Hide.mk (below_step HB5.out hb)
  have BK26 := Hide.mk (blk_below BK2'.out hb)
  have BK46 := Hide.mk (blk_below BKg4.out hb)
  have BK56 := Hide.mk (blk_below BKg5.out hb)
  have BKb := Hide.mk hbb
  have Lb2 : bb ≠ g2 := by have := blk_lt BK2'.out; omega
  have Lb4 : bb ≠ g4 := by have := blk_lt BKg4.out; omega
  have Lb5 : bb ≠ g5 := by have := blk_lt BKg5.out; omega
  have GEb : w.heap.size ≤ bb := Nat.le_trans HB5.out.size hbg
  clear hb hbb hbg HB5 BK2' BKg4 BKg5
  go_wp2_with fail
  refine range_w (α := List Int) (q := 6) (gf := 32) (lb := #[.pointer (some ⟨bb, 0, none⟩)]) (· = bb) (· = g4) (fun k e => by rw [e]; exact blk_lt BKb.out) (fun k e => by rw [e]; exact blk_lt BK46.out) rfl (Go.Proofs.enters_of Try.func32 (by kernel_rfl) rfl) Arg (fun x v W l o h k => arg_putObj h k)
    (fun pre W => W.heap[g4]? = some (.cells (ia .u32 (chainF hS pre).list) 23 (0, 0)) ∧ W.heap[g5]? = some (.cells (ia .u32 ks) 39 (0, 0)) ∧ W.heap[g2]? = some (.cells (ia .u8 (List.replicate 32 0)) 29 (0, 0)) ∧ Below w.heap.size w W)
    (fun ys => ys = chunksN (pad xs) ((xs.length + 8) / 64 + 1)) ?hI ⟨BK46.out, BK56.out, BK26.out, HB6.out⟩ ?hit ?assign ?body ?done
  case hI =>
    rintro pre W W1 ⟨h4, h5, h2, hb⟩ hs hk
    exact ⟨(hk.block g4 (blk_lt BK46.out) (Ne.symm Lb4)).trans h4, (hk.block g5 (blk_lt BK56.out) (Ne.symm Lb5)).trans h5, (hk.block g2 (blk_lt BK26.out) (Ne.symm Lb2)).trans h2, hk.below hb HB6.out.size (fun k e => by rw [e]; exact GEb)⟩
  case hit =>
    intro l J W hbw hl1 hl2 hJ hY h0
    exact blocks_in l bb A cap xs J (· = g4) W HBY.out (by have := HN.out; omega) (blk_below BKb.out hbw) HC.out ((HR.out.below (HB6.out)).below hbw)
      (fun ad e hp => by have h1 := HAW.out ad e hp; exact ⟨by omega, by have := blk_lt BKb.out; omega, by omega⟩) ⟨by omega, by have := blk_lt BKb.out; omega⟩ (fun k e => by rw [e]; exact Nat.lt_of_lt_of_le (blk_lt BK46.out) hbw.size) hl2 hJ hY h0
  case assign =>
    intro l v W K hK
    simp only [List.setIfInBounds_toArray, List.set_cons_zero, List.set_cons_succ] at hK ⊢
    gi_wp2
    exact hK
  case body =>
    rintro l pre x v W ⟨h4, h5, h2, hb⟩ ⟨ad, c, rfl, hxb, hxl, hxr⟩ hs
    have K4 := Hide.mk h4
    have K5 := Hide.mk h5
    have K2 := Hide.mk h2
    have KB := Hide.mk hb
    clear h4 h5 h2 hb
    simp only [List.setIfInBounds_toArray, List.set_cons_zero, List.set_cons_succ]
    have KX : Hide (Bytes x ∧ x.length = 64) := ⟨hxb, hxl⟩
    have KR := Hide.mk hxr
    clear hxb hxl hxr
    gi_wp2_with (first | ((with_reducible refine gate_in (N := 17) rfl ?_); refine in_run rfl rfl (by intro c hc; cases hc) (load_row_eq 23 (.tmp 4) rfl g4 rfl 23 (ia .u32 (chainF hS pre).list) (0, 0) _ K4.out Try.underlying23 rfl (by kernel_rfl)) ?_; simp only [Act.put, List.setIfInBounds_toArray, List.set_cons_zero, List.set_cons_succ]))
    refine ⟨trivial, ?_⟩
    refine (call_in (m := 8) (further_any (chainF hS pre) x ad c g5 _ KX.out.1 KR.out K5.out)).mono ?_
    rintro e w7 ⟨rfl, hb7⟩
    have K47 := Hide.mk (blk_below K4.out hb7)
    have KB7 := Hide.mk hb7
    clear hb7
    gi_wp2_with (first | ((with_reducible refine gate_in_store (p := 4) (v := .tmp 19) rfl ?_); refine in_skip rfl rfl (by intro c hc; cases hc) (Plan.run_row 23 (.tmp 4) (.tmp 19) rfl g4 rfl (ia .u32 (blockF (chainF hS pre) x).list) rfl (ia_one _ _) (by kernel_rfl) _ _ K47.out (by rw [ia_size, ia_size]; rfl)) ?_; have K48 := Hide.mk (Plan.row_cells K47.out (cs := ia .u32 (blockF (chainF hS pre) x).list) (by rw [ia_size, ia_size]; rfl)); have KO8 := Hide.mk (Only.setCells w7 g4 0 (ia .u32 (blockF (chainF hS pre) x).list).toList); generalize w7.setCells g4 0 (ia .u32 (blockF (chainF hS pre) x).list).toList = w8 at K48 KO8 ⊢; simp only [Act.put, List.setIfInBounds_toArray, List.set_cons_zero, List.set_cons_succ]))
    refine ⟨⟨by rw [chainF_snoc]; exact K48.out, KO8.out.blk (blk_below K5.out KB7.out) (by omega), KO8.out.blk (blk_below K2.out KB7.out) (by omega), KO8.out.below (below_step KB.out KB7.out) GEg4⟩, ?_⟩
    exact ⟨KO8.out.os.trans KB7.out.os, KO8.out.tape.trans KB7.out.tape, KO8.out.output.trans KB7.out.output, by rw [KO8.out.size]; exact KB7.out.size, fun k hk he => (KO8.out.other k he).trans (KB7.out.block k hk)⟩
  case done =>
    rintro D ys W hD rfl ⟨h4, h5, h2, hb⟩ hK
    have K4 := Hide.mk h4
    have K2 := Hide.mk h2
    have KB := Hide.mk hb
    have KD := Hide.mk hK
    have LDg2 : D ≠ g2 := by have := blk_lt BK26.out; omega
    have GED : w.heap.size ≤ D := Nat.le_trans HB6.out.size hD
    have HST : Hide (chainF hS (chunksN (pad xs) ((xs.length + 8) / 64 + 1)) = stF xs) := ⟨rfl⟩
    rw [HST.out] at K4
    obtain ⟨s, hs⟩ : ∃ s, stF xs = s := ⟨_, rfl⟩
    rw [hs] at K4
    have HSS : Hide (outF s = sumF xs) := ⟨by rw [← hs]; rfl⟩
    clear h4 h5 h2 hb hK hs HST BK26 BK46 BK56 BKb HB6
    go_wp2_with fail
    go_loopw [20] (fun t wr => ∃ i : Nat, i ≤ 32 ∧ t = .int .i64 i ∧ wr.heap[g4]? = some (.cells (ia .u32 s.list) 23 (0, 0)) ∧ wr.heap[g2]? = some (.cells (ia .u8 ((outF s).take i ++ List.replicate (32 - i) 0)) 29 (0, 0)) ∧ wr.heap[D]? = some (.deferred (some [])) ∧ Below w.heap.size w wr) (fun t _ => 32 - (intOf t).toNat)
    case atStart => exact ⟨0, by omega, rfl, K4.out, K2.out, KD.out, KB.out⟩
    case round =>
      clear K4 K2 KB KD
      obtain ⟨i, hi, rfl, h4, h2, hd2, hb⟩ := hrel
      have K4 := Hide.mk h4
      have K2 := Hide.mk h2
      have KD := Hide.mk hd2
      have KB := Hide.mk hb
      clear h4 h2 hd2 hb
      by_cases hlt : i < 32
      · have hd : decide ((i : Int) < 32) = true := by simp; omega
        have c4 : wr.cell? ⟨g4, i / 4, none⟩ = some (.int .u32 (s.list.getD (i / 4) 0)) := (blk_cell K4.out _).trans (ia_get _ _ _ (by rw [s8_len]; omega))
        have hq4 : i / 4 < 8 := by omega
        have HG := Hide.mk (outF_get s i hlt)
        have HFS := Hide.mk (fill_set (outF s) 32 i (s.list.getD (i / 4) 0 / 2 ^ (24 - i % 4 * 8) % 256) hlt (outF_len s) (outF_get s i hlt))
        generalize s.list.getD (i / 4) 0 = x at c4 HG HFS
        have f1 : IntKind.i64.wrap ((i : Int) + 1) = (i : Int) + 1 := IntWalk.i64_in _ (by omega)
        have hi0 : (0 : Int) ≤ (i : Int) := Int.natCast_nonneg _
        have hi1 : (i : Int) < 32 := by omega
        go_wp2_with (first | ((with_reducible refine gate_store (p := 34) (v := .tmp 33) rfl ?_); refine store_cell rfl rfl 5 (.tmp 34) (.tmp 33) rfl g2 i rfl (.int .u8 (x / 2 ^ (24 - i % 4 * 8) % 256)) rfl rfl rfl (by kernel_rfl) _ _ K2.out ?hlt ?_; (case hlt => rw [ia_size, List.length_append, List.length_take, outF_len, List.length_replicate]; omega); intro w4 hb4 ho4; rw [ia_set, HFS.out] at hb4; have K24 := Hide.mk hb4; have KO4 := Hide.mk ho4; clear hb4 ho4))
        go_roundw
        case rel => exact ⟨i + 1, by omega, by go_num, KO4.out.blk K4.out (by omega), K24.out, KO4.out.blk KD.out LDg2, KO4.out.below KB.out GEg2⟩
        case measure => simp [intOf]; omega
      · obtain rfl : i = 32 := by omega
        rw [show ((32 : Nat) : Int) = 32 from rfl]
        have HE : Hide ((outF s).take 32 ++ List.replicate (32 - 32) 0 = sumF xs) := ⟨by rw [List.take_of_length_le (by rw [outF_len]; omega), HSS.out]; simp⟩
        rw [HE.out] at K2
        have HSL : Hide ((sumF xs).length = 32) := ⟨outF_len _⟩
        go_wp2_with (first | ((with_reducible refine gate_dst (N := 36) rfl ?_); refine wpList_load_row rfl 29 (.tmp 2) rfl g2 rfl 29 _ (0, 0) _ K2.out Try.underlying29 rfl ?hsz ?_; (case hsz => rw [ia_size, HSL.out]; kernel_rfl)) | ((with_reducible refine gate_store (p := 2) (v := .tmp 36) rfl ?_); go_must (refine store_row rfl rfl 29 (.tmp 2) (.tmp 36) rfl g2 rfl (ia .u8 (sumF xs)) rfl (ia_one _ _) (by rw [ia_size, HSL.out]; kernel_rfl) _ _ K2.out rfl ?_); intro w9 hb9 ho9; have K29 := Hide.mk hb9; have KO9 := Hide.mk ho9; clear hb9 ho9))
        have KD9 := Hide.mk (KO9.out.blk KD.out LDg2)
        refine ⟨by simp, .inl ⟨_, _, rfl, run_takeDeferred KD9.out, ?_⟩⟩
        have K210 := (World.putObj_heap_other (w := w9) (r := D) (o := .deferred none) (Ne.symm LDg2)).trans K29.out
        exact ⟨_, results_ct rfl _ _ g2 29 _ (0, 0) _ rfl K210 Try.underlying29 rfl (by rw [ia_size, HSL.out]; kernel_rfl), rfl, (Keep.putObj w9 D (.deferred none) w.heap.size (ex := fun _ => False) (.inl GED)).below (KO9.out.below KB.out GEg2) (Nat.le_refl _) (fun _ h => h.elim)⟩
end Go.Proofs.Ythgklggcdnocdaa.Sh
