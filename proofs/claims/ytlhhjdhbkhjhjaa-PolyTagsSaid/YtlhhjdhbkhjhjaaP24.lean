/- The reference's R. -/
import Derived.Test.YtlhhjdhbkhjhjaaP23
namespace Go.Proofs.Ytlhhjdhbkhjhjaa.Po
open Go.RowKit Go.Proofs.YtlhhjdhbkhjhjaaW.PrintWords Go.Proofs.YtlhhjdhbkhjhjaaW.PrintLast Go.Proofs.YtlhhjdhbkhjhjaaW.PrintMore Mem Rg
attribute [local go_sem] Oper.semAt_some
set_option linter.unusedVariables false
set_option linter.unusedSimpArgs false
/-- The places 3, 7, .. -/
def r3 (l : List Int) : Nat → List Int
  | 0 => l
  | n + 1 => (r3 l n).set (3 + 4 * n) ((r3 l n).getD (3 + 4 * n) 0 % 16)
/-- The places 4, 8, .. -/
def r4 (l : List Int) : Nat → List Int
  | 0 => l
  | n + 1 => (r4 l n).set (4 + 4 * n) ((r4 l n).getD (4 + 4 * n) 0 - (r4 l n).getD (4 + 4 * n) 0 % 4)
theorem r3_len (l : List Int) : ∀ n, (r3 l n).length = l.length
  | 0 => rfl
  | n + 1 => by rw [r3, List.length_set]; exact r3_len l n
theorem r4_len (l : List Int) : ∀ n, (r4 l n).length = l.length
  | 0 => rfl
  | n + 1 => by rw [r4, List.length_set]; exact r4_len l n
theorem r3_sm {l : List Int} (h : Sm 255 l) : ∀ n, Sm 255 (r3 l n)
  | 0 => h
  | n + 1 => by
    rw [r3]
    have h1 := r3_sm h n (3 + 4 * n)
    exact (r3_sm h n).set _ (by omega) (by omega)
theorem r4_sm {l : List Int} (h : Sm 255 l) : ∀ n, Sm 255 (r4 l n)
  | 0 => h
  | n + 1 => by
    rw [r4]
    have h1 := r4_sm h n (4 + 4 * n)
    exact (r4_sm h n).set _ (by omega) (by omega)
def rL (key : List Int) : List Int := cl (key.take 16) 16 ++ [0]
theorem rL_len {key : List Int} (hk : key.length = 32) : (rL key).length = 17 := by rw [rL, List.length_append, cl_len, List.length_take, hk]; rfl
theorem rL_bytes {key : List Int} (h : Bytes key) : Bytes (rL key) := fun x hx => by
  rcases List.mem_append.1 hx with hx | hx
  · exact cl_bytes (bytes_take h 16) 16 x hx
  · rw [List.mem_singleton.1 hx]; decide
theorem rL_val (key : List Int) : valB (rL key) = rF key := by rw [rL, valB_append, rF]; simp [valB]
theorem r_eq {l : List Int} (hl : l.length = 16) : r4 (r3 (numF l false) 4) 3 = cl l 16 ++ [0] := by
  match l, hl with
  | [a0, a1, a2, a3, a4, a5, a6, a7, a8, a9, a10, a11, a12, a13, a14, a15], _ => simp [r4, r3, numF, one', cl, clampB]
theorem slice_arr21 {o : Oper} {a : Act} {w : World} (g : Nat) (ho : o.op = .slice 22 (.tmp 1) none (some (.const (.int .i64 16))) none) (hx : a.eval (.tmp 1) = .pointer (some ⟨g, 0, none⟩)) :
    (execOp a.eval o).run Try.prog w = .ok (.value (.slice (some ⟨g, 0, none⟩) 16 32)) w := by
  unfold execOp
  simp only [ho, hx, Option.map_some, Option.map_none]
  kernel_rfl
set_option maxHeartbeats 4000000 in
set_option maxRecDepth 100000 in
theorem R_any (key : List Int) (hk : key.length = 32) (hkb : Bytes key) (w : World) : Calls Try.prog 21 #[.agg (ia .u8 key)] w fun e w' => ∃ g, e = .returned (.slice (some ⟨g, 0, none⟩) 17 17) ∧ w.heap.size ≤ g ∧ w'.heap[g]? = some (.cells (ia .u64 (rL key)) 37 (0, 0)) ∧ Below w.heap.size w w' := by
  have HK := Hide.mk hk
  have HKB := Hide.mk hkb
  clear hk hkb
  go_enter Try.func21, Try.ntmps21
  have HB0 := Hide.mk (Below.refl w.heap.size w)
  go_wp2_with (first | ((with_reducible refine gate_dst (N := 1) rfl ?_); refine box_event ?hg (N := 1) ?hd (cs := ia .u8 key) (t := 22) ?hr ?_; (case hd => rfl); (case hg => rfl); (case hr => kernel_rfl); intro g2 hg w1 hbox hb; have BKg2 := Hide.mk hbox; have HB1 := Hide.mk (below_step HB0.out hb); clear HB0; clear hbox hb hg) | ((with_reducible refine gate_dst (N := 6) rfl ?_); refine Kd.event_run rfl (w1 := w1) (slice_arr21 g2 rfl rfl) ?_))
  have HKL : Hide ((key.take 16).length = 16) := ⟨by rw [List.length_take]; have := HK.out; omega⟩
  have hrk : ReadsInt w1 .u8 (some ⟨g2, 0, none⟩) (key.take 16).length (key.take 16) := by
    rw [HKL.out]
    have := reads_of_blk BKg2.out (by rw [HK.out]; decide)
    exact this.take_ 16 (by rw [HK.out]; decide)
  have hcl := number_any (some ⟨g2, 0, none⟩) 32 (key.take 16) false w1 (by rw [HKL.out]; decide) (bytes_take HKB.out 16) (by rw [HKL.out]; decide) hrk
  rw [HKL.out] at hcl
  refine hcl.mono ?_
  rintro e w3 ⟨g, rfl, hgg, hrow, hb⟩
  have HB3 := Hide.mk (below_step HB1.out hb)
  have BKg := Hide.mk hrow
  have GEg : w.heap.size ≤ g := Nat.le_trans HB1.out.size hgg
  have HEQ : Hide (r4 (r3 (numF (key.take 16) false) 4) 3 = rL key) := ⟨r_eq HKL.out⟩
  have HNL : Hide ((numF (key.take 16) false).length = 17) := ⟨numF_len (by rw [HKL.out]; decide) false⟩
  have HNS : Hide (Sm 255 (numF (key.take 16) false)) := ⟨Sm.of_bytes (numF_bytes (bytes_take HKB.out 16) false)⟩
  clear hb hrow hgg hrk hcl HB1 BKg2
  generalize numF (key.take 16) false = N at BKg HEQ HNL HNS
  go_wp2_with fail
  go_loopg [4] 4 (fun gp v wy => ∃ n i : Nat, n + gp = 4 ∧ i = 3 + 4 * n ∧ v = .int .i64 i ∧ wy.heap[g]? = some (.cells (ia .u64 (r3 N n)) 37 (0, 0)) ∧ Below w.heap.size w wy)
  case atStart => exact ⟨0, 3, rfl, rfl, rfl, BKg.out, HB3.out⟩
  case round =>
    clear BKg HB3
    obtain ⟨n, i, hn, hi, rfl, hg, hb⟩ := hrel
    have BKg := Hide.mk hg
    have HB := Hide.mk hb
    have HI := Hide.mk hi
    have hi3 : i ≤ 3 + 4 * n := Nat.le_of_eq hi
    have hi4 : 3 + 4 * n ≤ i := Nat.le_of_eq hi.symm
    clear hg hb hi
    by_cases hlt : n < 4
    · have hd : decide ((i : Int) < 16) = true := by simp; omega
      have hi0 : (0 : Int) ≤ (i : Int) := Int.natCast_nonneg _
      have hi1 : (i : Int) < 17 := by omega
      have f1 : IntKind.i64.wrap ((i : Int) + 4) = (i : Int) + 4 := IntWalk.i64_in _ (by omega)
      have HLL : Hide ((r3 N n).length = 17) := ⟨(r3_len _ _).trans HNL.out⟩
      have cx := blk_cell BKg.out i
      rw [ia_get _ _ _ (by rw [HLL.out]; omega)] at cx
      have HX := Hide.mk (r3_sm HNS.out n i)
      have HS : Hide (r3 N (n + 1) = (r3 N n).set i ((r3 N n).getD i 0 % 16)) := ⟨by rw [r3, ← HI.out]⟩
      generalize (r3 N n).getD i 0 = x at cx HX HS
      obtain ⟨x0, x1⟩ := HX.out
      go_wp2_with (first | ((with_reducible refine gate_store (p := 19) (v := .tmp 18) rfl ?_); refine store_cell rfl rfl 37 (.tmp 19) (.tmp 18) rfl g i (by first | rfl | go_simp) (.int .u64 (x % 16)) rfl rfl rfl (by kernel_rfl) _ _ BKg.out ?hlt ?_; (case hlt => rw [ia_size, HLL.out]; omega); intro w9 hb ho; rw [ia_set, ← HS.out] at hb; have BKg9 := Hide.mk hb; have HB9 := Hide.mk (ho.below HB.out GEg); clear BKg HB hb ho))
      go_roundg (gk - 1)
      case measure => omega
      case rel => exact ⟨n + 1, i + 4, by omega, by omega, by go_num, BKg9.out, HB9.out⟩
    · obtain rfl : n = 4 := by omega
      obtain rfl : i = 19 := by omega
      rw [show ((19 : Nat) : Int) = 19 from rfl]
      have HN3 : Hide ((r3 N 4).length = 17) := ⟨(r3_len _ _).trans HNL.out⟩
      have HS3 : Hide (Sm 255 (r3 N 4)) := ⟨r3_sm HNS.out 4⟩
      generalize r3 N 4 = M at BKg HN3 HS3 HEQ
      clear hn hi3 hi4 hlt HI
      go_wp2_with fail
      go_loopg [5] 3 (fun gp v wy => ∃ n i : Nat, n + gp = 3 ∧ i = 4 + 4 * n ∧ v = .int .i64 i ∧ wy.heap[g]? = some (.cells (ia .u64 (r4 M n)) 37 (0, 0)) ∧ Below w.heap.size w wy)
      case atStart => exact ⟨0, 4, rfl, rfl, rfl, BKg.out, HB.out⟩
      case round =>
        clear BKg HB
        obtain ⟨n, i, hn, hi, rfl, hg, hb⟩ := hrel
        have BKg := Hide.mk hg
        have HB := Hide.mk hb
        have HI := Hide.mk hi
        have hi3 : i ≤ 4 + 4 * n := Nat.le_of_eq hi
        have hi4 : 4 + 4 * n ≤ i := Nat.le_of_eq hi.symm
        clear hg hb hi
        by_cases hlt : n < 3
        · have hd : decide ((i : Int) < 16) = true := by simp; omega
          have hi0 : (0 : Int) ≤ (i : Int) := Int.natCast_nonneg _
          have hi1 : (i : Int) < 17 := by omega
          have f1 : IntKind.i64.wrap ((i : Int) + 4) = (i : Int) + 4 := IntWalk.i64_in _ (by omega)
          have HLL : Hide ((r4 M n).length = 17) := ⟨(r4_len _ _).trans HN3.out⟩
          have cx := blk_cell BKg.out i
          rw [ia_get _ _ _ (by rw [HLL.out]; omega)] at cx
          have HX := Hide.mk (r4_sm HS3.out n i)
          have HS : Hide (r4 M (n + 1) = (r4 M n).set i ((r4 M n).getD i 0 - (r4 M n).getD i 0 % 4)) := ⟨by rw [r4, ← HI.out]⟩
          generalize (r4 M n).getD i 0 = x at cx HX HS
          obtain ⟨x0, x1⟩ := HX.out
          have x2 : 0 ≤ x - x % 4 := by omega
          have x3 : x - x % 4 ≤ 255 := by omega
          have HV : Hide (IntKind.u64.wrap (x - x.tmod 4) = x - x % 4) := ⟨by rw [Int.tmod_eq_emod_of_nonneg x0]; exact wrap_in _ x2 (by omega)⟩
          go_wp2_with fail
          refine Plan.region_plan (fun w' => w'.cell? ⟨g, i, none⟩ = some (.int .u64 x)) [13] [(0, 0, some 24), (1, 0, some 25), (2, 0, some 26), (3, 0, some 27), (4, 0, some 28), (5, 0, some 29), (6, 0, some 30), (7, 0, some 31), (8, 0, some 32), (9, 0, some 33), (10, 0, some 34), (11, 0, some 35), (12, 0, some 36), (13, 2, none)] (by kernel_rfl) (by kernel_rfl) (by decide) cx (fun wz ewz hS => ?_)
          have HBz := Hide.mk (below_of_drew ewz HB.out)
          have Bz := Hide.mk (blk_of_drew ewz BKg.out)
          clear ewz cx BKg HB
          (repeat (first | (refine Plan.plan_take (v := ?_) (a' := ?_) rfl ?_ ?_ ?_ ?_; rotate_left 2; (· rfl); (· (intro w' hs; go_simp; with_reducible rfl)); (· (simp only [Act.put, List.setIfInBounds_toArray, List.set_cons_zero, List.set_cons_succ]; rfl))) | (refine Plan.plan_skip (a' := ?_) rfl ?_ ?_ ?_; rotate_left 1; (· rfl); (· (simp only [Act.put, List.setIfInBounds_toArray, List.set_cons_zero, List.set_cons_succ]; rfl))) | (refine Plan.plan_pure (v := ?_) (a' := ?_) rfl ?_ ?_ ?_ ?_; rotate_left 2; (· rfl); (· (intro w'; go_simp; with_reducible rfl)); (· (simp only [Act.put, List.setIfInBounds_toArray, List.set_cons_zero, List.set_cons_succ]; rfl)))))
          refine Plan.plan_last_cell rfl rfl rfl 37 (.tmp 36) (.tmp 35) rfl g i rfl (.int .u64 (IntKind.u64.wrap (x - x.tmod 4))) rfl rfl rfl (by kernel_rfl) _ _ Bz.out (by rw [ia_size, HLL.out]; omega) ?_
          intro w5 hb5 ho5
          rw [ia_set, HV.out, ← HS.out] at hb5
          have BK5 := Hide.mk hb5
          have HB5 := Hide.mk (ho5.below HBz.out GEg)
          clear hb5 ho5 Bz HBz hS
          refine Plan.plan_nil ?_
          go_wp2_with fail
          go_roundg (gk - 1)
          case measure => omega
          case rel => exact ⟨n + 1, i + 4, by omega, by omega, by go_num, BK5.out, HB5.out⟩
        · obtain rfl : n = 3 := by omega
          obtain rfl : i = 16 := by omega
          rw [show ((16 : Nat) : Int) = 16 from rfl]
          rw [HEQ.out] at BKg
          go_wp2_with fail
          go_ret
          exact ⟨g, rfl, GEg, BKg.out, HB.out⟩
end Go.Proofs.Ytlhhjdhbkhjhjaa.Po
