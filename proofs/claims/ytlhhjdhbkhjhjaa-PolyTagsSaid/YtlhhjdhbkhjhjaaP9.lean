/- Parts: slices.Chunk and what is made of it. -/
import Derived.Test.YtlhhjdhbkhjhjaaP8
import Derived.Test.YtlhhjdhbkhjhjaaKInv
import Derived.RegionIn
namespace Go.Proofs.Ytlhhjdhbkhjhjaa.Po
open Go.RowKit Go.Proofs.YtlhhjdhbkhjhjaaW.PrintWords Go.Proofs.YtlhhjdhbkhjhjaaW.PrintLast Go.Proofs.YtlhhjdhbkhjhjaaW.PrintMore Mem Rg
attribute [local go_sem] Oper.semAt_some
set_option linter.unusedVariables false
set_option linter.unusedSimpArgs false
/-- So many parts of sixteen. -/
def chs (l : List Int) (n : Nat) : List (List Int) := (List.range n).map fun i => (l.drop (16 * i)).take 16
theorem chs_succ (l : List Int) (n : Nat) : chs l (n + 1) = chs l n ++ [(l.drop (16 * n)).take 16] := by simp [chs, List.range_succ]
/-- What a round over the parts is handed. -/
def ArgC (x : List Int) (v : Value) (W : World) : Prop := ∃ ad c, v = .slice (some ad) x.length c ∧ Bytes x ∧ 1 ≤ x.length ∧ x.length ≤ 16 ∧ ReadsInt W .u8 (some ad) x.length x
theorem reads_keep {w w1 : World} {ex : Nat → Prop} {A : Option Addr} {n : Nat} {xs : List Int} (h : ReadsInt w .u8 A n xs) (hk : Keep w.heap.size ex w w1) (hA : ∀ ad, A = some ad → 0 < n → ¬ ex ad.block) : ReadsInt w1 .u8 A n xs := by
  refine ⟨h.1, h.2.1, fun hn => ?_⟩
  obtain ⟨ad, e, hc⟩ := h.2.2 hn
  refine ⟨ad, e, fun j hj => ?_⟩
  have h1 := hc j hj
  have hlt := World.block_lt_of_cell? w _ h1
  have hb : (ad.add j).block = ad.block := add_block _ _
  rw [hb] at hlt
  have h2 := hk.block ad.block hlt (hA ad e hn)
  exact (World.cell?_of_block (a := ad.add j) (by rw [hb]; exact h2)).trans h1
theorem chunk28 (A : Option Addr) (n cap : Nat) (w : World) : Calls Try.prog 28 #[.slice A n cap, .int .i64 16] w fun e w' => ∃ g q, e = .returned (.func (.func 32) #[] #[.pointer (some ⟨g, 0, none⟩), .pointer (some ⟨q, 0, none⟩)]) ∧ w'.heap[g]? = some (.cells #[.slice A n cap] 23 (0, 0)) ∧ w'.heap[q]? = some (.cells #[.int .i64 16] 3 (0, 0)) ∧ Below w.heap.size w w' ∧ w.heap.size ≤ g ∧ w.heap.size ≤ q := by
  go_enter Try.func28, Try.ntmps28
  go_wp2_with fail
  go_ret
  refine ⟨w.heap.size, w.heap.size + 1, by simp, ?_, ?_, below_alloc (below_alloc (Below.refl _ _) _) _, Nat.le_refl _, by omega⟩
  · exact (Below.heap_alloc _ _ _ (by simp)).trans (heap_alloc_new w _)
  · have := heap_alloc_new (w.alloc (.cells #[.slice A n cap] 23 (0, 0))) (.cells #[.int .i64 16] 3 (0, 0))
    simpa using this
theorem slice3 {o : Oper} {a : Act} {x lo hi mx : Operand} {w : World} (ad : Addr) (n c i m : Nat) (ho : o.op = .slice 23 x (some lo) (some hi) (some mx)) (hx : a.eval x = .slice (some ad) n c) (hlo : a.eval lo = .int .i64 (i : Int)) (hhi : a.eval hi = .int .i64 ((i + m : Nat) : Int)) (hmx : a.eval mx = .int .i64 ((i + m : Nat) : Int)) (hm : 1 ≤ m) (hc : i + m ≤ c) :
    (execOp a.eval o).run Try.prog w = .ok (.value (.slice (some (ad.add i)) m m)) w := by
  have hi' : (Try.prog.info? 5).map (·.size) = some 1 := by kernel_rfl
  obtain ⟨ii, hi', hs⟩ := Option.map_eq_some_iff.1 hi'
  have hu : Try.prog.underlying 23 = some (.slice (Try.prog.elem 23)) := by kernel_rfl
  have he : Try.prog.elem 23 = 5 := by kernel_rfl
  have hr := run_slice_lhm (w := w) 23 (some ad) n c hu .i64 .i64 .i64 (i : Int) ((i + m : Nat) : Int) ((i + m : Nat) : Int) (Int.natCast_nonneg _) (by omega) (Int.le_refl _) (by omega)
  have hc5 : Try.prog.cellsOf 5 = 1 := by kernel_rfl
  rw [he, run_sizeOf w hi', Result.andThen_ok, hc5] at hr
  have hsl : sliced (some ad) (i : Int).toNat ((i + m : Nat) : Int).toNat ((i + m : Nat) : Int).toNat 1 = .slice (some (ad.add i)) m m := by
    unfold sliced
    rw [Int.toNat_natCast, Int.toNat_natCast, if_neg (by omega), Nat.mul_one]
    simp
  rw [hsl] at hr
  unfold execOp
  simp only [ho, hx, hlo, hhi, hmx, Option.map_some, Option.map_none, run_sliceAt_slice (h := hu), hr, Sem.run_bind, Result.andThen_ok, Sem.run_pure]
theorem cut_reads {w : World} {ad : Addr} {n : Nat} {xs : List Int} (h : ReadsInt w .u8 (some ad) n xs) (i m : Nat) (him : i + m ≤ n) : ReadsInt w .u8 (some (ad.add i)) m ((xs.drop i).take m) := by
  refine ⟨by rw [List.length_take, List.length_drop, h.1]; omega, by have := h.2.1; omega, fun hm => ⟨_, rfl, fun j hj => ?_⟩⟩
  obtain ⟨ad', e, hc⟩ := h.2.2 (by omega)
  cases e
  rw [Addr.add_add, hc (i + j) (by omega)]
  congr 2
  rw [List.getD_eq_getElem?_getD, List.getD_eq_getElem?_getD, List.getElem?_take_of_lt hj, List.getElem?_drop]
theorem parts16 (A : Option Addr) (n cap : Nat) (w : World) : Calls Try.prog 16 #[.slice A n cap] w fun e w' => ∃ g, e = .returned (.func (.func 27) #[] #[.pointer (some ⟨g, 0, none⟩)]) ∧ w'.heap[g]? = some (.cells #[.slice A n cap] 23 (0, 0)) ∧ Below w.heap.size w w' ∧ w.heap.size ≤ g := by
  go_enter Try.func16, Try.ntmps16
  go_wp2_with fail
  go_ret
  exact ⟨w.heap.size, rfl, heap_alloc_new w _, below_alloc (Below.refl _ _) _, Nat.le_refl _⟩
set_option maxHeartbeats 4000000 in
set_option maxRecDepth 100000 in
theorem chunk_in (l bb qq : Nat) (A : Option Addr) (cap : Nat) (xs : List Int) (J : List (List Int) → World → Prop) (kp : Nat → Prop) (W : World)
    (hby : Bytes xs) (hlen : xs.length ≤ 140737488355328) (hbb : W.heap[bb]? = some (.cells #[.slice A xs.length cap] 23 (0, 0))) (hqq : W.heap[qq]? = some (.cells #[.int .i64 16] 3 (0, 0))) (hcap : xs.length ≤ cap) (hr : ReadsInt W .u8 A xs.length xs)
    (hA : ∀ ad, A = some ad → 0 < xs.length → ¬ kp ad.block ∧ ad.block ≠ l) (hkb : ¬ kp bb ∧ bb ≠ l) (hkq : ¬ kp qq ∧ qq ≠ l)
    (hJ : ∀ pre W1 W2, J pre W1 → Keep W.heap.size (fun _ => False) W1 W2 → J pre W2)
    (hY : ∀ pre x v W1, J pre W1 → ArgC x v W1 → Yld Try.prog l v W1 fun W' => J (pre ++ [x]) W' ∧ Keep W1.heap.size (fun k => k = l ∨ kp k) W1 W')
    (h0 : J [] W) :
    Calls Try.prog 32 #[.func (.yield l) #[] #[], .pointer (some ⟨bb, 0, none⟩), .pointer (some ⟨qq, 0, none⟩)] W fun e W' => (∃ v, e = .returned v) ∧ ∃ ys, ys = chs xs ((xs.length + 15) / 16) ∧ J ys W' := by
  refine (callsIn_wide (n := 9)).1 (callsIn_of_wp Try.func32 rfl trivial ?_)
  simp only [Try.ntmps32, List.size_toArray, List.length_cons, List.length_nil, Nat.reduceAdd, Nat.reduceSub, Array.replicate_succ, Array.replicate_zero, List.push_toArray, List.append_toArray, List.nil_append, List.cons_append]
  have HBY := Hide.mk hby
  have HLEN := Hide.mk hlen
  have HA := Hide.mk hA
  have HKB := Hide.mk hkb
  have HKQ := Hide.mk hkq
  have HJ := Hide.mk hJ
  have HY := Hide.mk hY
  have HJ0 := Hide.mk h0
  have HR0 := Hide.mk hr
  have HBB0 := Hide.mk hbb
  have HQQ0 := Hide.mk hqq
  have HCAP := Hide.mk hcap
  clear hby hlen hA hkb hkq hJ hY h0 hr hbb hqq hcap
  gi_wp2
  gi_loopw [4] (fun v wr => ∃ k : Nat, v = .int .i64 ((16 * k : Nat) : Int) ∧ 16 * k < xs.length + 16 ∧ wr.heap[bb]? = some (.cells #[.slice A xs.length cap] 23 (0, 0)) ∧ wr.heap[qq]? = some (.cells #[.int .i64 16] 3 (0, 0)) ∧ ReadsInt wr .u8 A xs.length xs ∧ J (chs xs k) wr ∧ W.heap.size ≤ wr.heap.size) (fun v _ => xs.length + 16 - (intOf v).toNat)
  case atStart => exact ⟨0, rfl, by omega, HBB0.out, HQQ0.out, HR0.out, HJ0.out, Nat.le_refl _⟩
  case round =>
    clear HBB0 HQQ0 HR0 HJ0
    obtain ⟨k, rfl, hk, hb, hq, hr, hj, hs⟩ := hrel
    have HB := Hide.mk hb
    have HQ := Hide.mk hq
    have HR := Hide.mk hr
    have HJr := Hide.mk hj
    have HS := Hide.mk hs
    have HK := Hide.mk hk
    have cb := (blk_cell hb 0).trans rfl
    have cq := (blk_cell hq 0).trans rfl
    clear hb hq hr hj hs hk
    obtain ⟨i, hi⟩ : ∃ i, 16 * k = i := ⟨_, rfl⟩
    rw [hi]
    have HI := Hide.mk hi
    clear hi
    by_cases hlt : i < xs.length
    · have hd : decide ((i : Int) < (xs.length : Int)) = true := by simp; omega
      have hi0 : (0 : Int) ≤ (i : Int) := Int.natCast_nonneg _
      have hi1 : (i : Int) ≤ (xs.length : Int) := by omega
      have hi2 : (i : Int) < (xs.length : Int) := by omega
      obtain ⟨ad, rfl, hcell⟩ := HR.out.2.2 (by omega)
      clear hcell
      gi_wp2
      gi_region
      obtain ⟨m, hm⟩ : ∃ m, min 16 (xs.length - i) = m := ⟨_, rfl⟩
      have HM := Hide.mk hm
      have e1 : (if ((xs.length - i : Nat) : Int) < 16 then ((xs.length - i : Nat) : Int) else 16) = (m : Int) := by split <;> omega
      rw [e1, if_neg (show ¬ cap = i by have := HCAP.out; omega)]
      have hm1 : 1 ≤ m := by omega
      have hm2 : i + m ≤ xs.length := by omega
      have hm3 : m ≤ 16 := by omega
      clear e1 hm cb cq
      obtain ⟨wz, ewz⟩ : ∃ wz, wr.drew = wz := ⟨_, rfl⟩
      rw [ewz]
      have HBz := Hide.mk (blk_of_drew ewz.symm HB.out)
      have HQz := Hide.mk (blk_of_drew ewz.symm HQ.out)
      have HBW := Hide.mk (below_of_drew ewz.symm (Below.refl wr.heap.size wr))
      have HRz := Hide.mk (HR.out.below HBW.out)
      have HJz := Hide.mk (HJ.out _ _ _ HJr.out (Keep.of_below HBW.out HS.out))
      have HSz := Hide.mk (Nat.le_trans HS.out HBW.out.size)
      clear ewz HB HQ HR HJr HS HBW
      have cb := (blk_cell HBz.out 0).trans rfl
      have cq := (blk_cell HQz.out 0).trans rfl
      have f1 : IntKind.i64.wrap ((i : Int) + (m : Int)) = ((i + m : Nat) : Int) := by rw [IntWalk.i64_in _ (by have := HLEN.out; omega)]; omega
      have HXL : Hide (((xs.drop i).take m).length = m) := ⟨by rw [List.length_take, List.length_drop]; omega⟩
      have HXE : Hide ((xs.drop i).take m = (xs.drop (16 * k)).take 16) := ⟨by
        rw [HI.out]
        by_cases h16 : m = 16
        · rw [h16]
        · rw [List.take_of_length_le (by rw [List.length_drop]; have := HM.out; omega), List.take_of_length_le (by rw [List.length_drop]; have := HM.out; omega)]⟩
      have hx : ArgC ((xs.drop i).take m) (.slice (some (ad.add i)) m m) wz := ⟨ad.add i, m, by rw [HXL.out], bytes_take (bytes_drop HBY.out _) _, by rw [HXL.out]; exact hm1, by rw [HXL.out]; exact hm3, by rw [HXL.out]; exact cut_reads HRz.out i m hm2⟩
      obtain ⟨fn, tmps, assign, body, hy, hR⟩ := HY.out _ _ _ _ HJz.out hx
      have HRR := Hide.mk hR
      clear hR hx
      gi_wp2_with (first | ((with_reducible refine gate_in (N := 28) rfl ?_); refine in_run rfl rfl (by intro c hc; cases hc) (slice3 ad _ _ i m rfl rfl rfl rfl rfl hm1 (by have := HCAP.out; omega)) ?_; simp only [Act.put, List.setIfInBounds_toArray, List.set_cons_zero, List.set_cons_succ]))
      refine (round_any HRR.out).mono ?_
      rintro e w2 ⟨rfl, hJ2, hK2⟩
      have HJ2 := Hide.mk hJ2
      have HS2 : Hide (W.heap.size ≤ w2.heap.size) := ⟨Nat.le_trans HSz.out hK2.size⟩
      have HB2 := Hide.mk ((hK2.block bb (blk_lt HBz.out) (fun h => by rcases h with h | h; exact HKB.out.2 h; exact HKB.out.1 h)).trans HBz.out)
      have HQ2 := Hide.mk ((hK2.block qq (blk_lt HQz.out) (fun h => by rcases h with h | h; exact HKQ.out.2 h; exact HKQ.out.1 h)).trans HQz.out)
      have HR2 := Hide.mk (reads_keep HRz.out hK2 (fun ad' e hp h => by rcases h with h | h; exact (HA.out ad' e hp).2 h; exact (HA.out ad' e hp).1 h))
      clear hJ2 hK2 HRR hy HBz HQz HRz HJz HSz cb cq f1
      have cq := (blk_cell HQ2.out 0).trans rfl
      have f2 : IntKind.i64.wrap ((i : Int) + 16) = ((16 * (k + 1) : Nat) : Int) := by rw [IntWalk.i64_in _ (by have := HLEN.out; omega)]; have := HI.out; omega
      gi_wp2
      go_roundw
      case rel => exact ⟨k + 1, by go_num, by have := HI.out; omega, HB2.out, HQ2.out, HR2.out, by rw [chs_succ, ← HXE.out]; exact HJ2.out, HS2.out⟩
      case measure => have := HI.out; simp [intOf]; omega
    · have hd : decide ((i : Int) < (xs.length : Int)) = false := by simp; omega
      gi_wp2
      go_end0
      refine ⟨⟨_, rfl⟩, _, rfl, ?_⟩
      rw [show (xs.length + 15) / 16 = k by have := HI.out; have := HK.out; omega]
      exact HJr.out
end Go.Proofs.Ytlhhjdhbkhjhjaa.Po
