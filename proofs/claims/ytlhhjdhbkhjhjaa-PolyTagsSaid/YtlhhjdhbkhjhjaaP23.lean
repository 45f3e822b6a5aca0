/- The reference's number. -/
import Derived.Test.YtlhhjdhbkhjhjaaP22
namespace Go.Proofs.Ytlhhjdhbkhjhjaa.Po
open Go.RowKit Go.Proofs.YtlhhjdhbkhjhjaaW.PrintWords Go.Proofs.YtlhhjdhbkhjhjaaW.PrintLast Go.Proofs.YtlhhjdhbkhjhjaaW.PrintMore Mem Rg
attribute [local go_sem] Oper.semAt_some
set_option linter.unusedVariables false
set_option linter.unusedSimpArgs false
theorem make17 {o : Oper} {a : Act} {w : World} (ho : o.op = .makeSlice 47 (.const (.int .i64 17)) (.const (.int .i64 17))) :
    (execOp a.eval o).run Try.prog w = .ok (.value (.slice (some ⟨w.heap.size, 0, none⟩) 17 17)) (w.alloc (.cells (ia .u64 (List.replicate 17 0)) 37 (0, 0))) := by
  unfold execOp
  simp only [ho]
  kernel_rfl
/-- The bytes, and one more. -/
def one' (one : Bool) : Int := if one then 1 else 0
def numF (l : List Int) (one : Bool) : List Int := l ++ one' one :: List.replicate (16 - l.length) 0
/-- The first of the bytes. -/
def nf (l : List Int) (i : Nat) : List Int := l.take i ++ List.replicate (17 - i) 0
theorem nf_len {l : List Int} {i : Nat} (hi : i ≤ l.length) (hl : l.length ≤ 16) : (nf l i).length = 17 := by rw [nf, List.length_append, List.length_take, List.length_replicate]; omega
theorem nf_set {l : List Int} {i : Nat} (hi : i < l.length) (hl : l.length ≤ 16) : (nf l i).set i (l.getD i 0) = nf l (i + 1) := by
  have e1 : (l.take i).length = i := by rw [List.length_take]; omega
  rw [nf, nf, List.set_append_right _ _ (by omega), e1, Nat.sub_self, show 17 - i = (17 - (i + 1)) + 1 by omega, List.replicate_succ, List.set_cons_zero, List.take_add_one, List.getD_eq_getElem?_getD, List.getElem?_eq_getElem hi, List.append_assoc]
  rfl
theorem nf_no {l : List Int} (hl : l.length ≤ 16) : nf l l.length = numF l false := by
  rw [nf, numF, List.take_length, show 17 - l.length = (16 - l.length) + 1 by omega, List.replicate_succ]
  rfl
theorem nf_yes {l : List Int} (hl : l.length ≤ 16) : (nf l l.length).set l.length 1 = numF l true := by
  rw [nf, numF, List.take_length, List.set_append_right _ _ (Nat.le_refl _), Nat.sub_self, show 17 - l.length = (16 - l.length) + 1 by omega, List.replicate_succ, List.set_cons_zero]
  rfl
theorem numF_len {l : List Int} (hl : l.length ≤ 16) (one : Bool) : (numF l one).length = 17 := by rw [numF, List.length_append, List.length_cons, List.length_replicate]; omega
theorem numF_bytes {l : List Int} (h : Bytes l) (one : Bool) : Bytes (numF l one) := fun x hx => by
  rw [numF] at hx
  rcases List.mem_append.1 hx with hx | hx
  · exact h x hx
  · rcases List.mem_cons.1 hx with rfl | hx
    · cases one <;> decide
    · rw [(List.mem_replicate.1 hx).2]; decide
theorem numF_val (l : List Int) : valB (numF l true) = valB (l ++ [1]) ∧ valB (numF l false) = valB l := by
  have e : valB (l ++ [1]) = valB l + 256 ^ l.length * 1 := by rw [valB_append]; rfl
  constructor
  · rw [numF, valB_append, e, valB, valB_zeros]; rfl
  · rw [numF, valB_append, valB, valB_zeros]; simp [one']
set_option maxHeartbeats 4000000 in
set_option maxRecDepth 100000 in
theorem number_any (A : Option Addr) (c : Nat) (l : List Int) (one : Bool) (w : World) (hl : l.length ≤ 16) (hb : Bytes l) (hc : l.length ≤ c) (hr : ReadsInt w .u8 A l.length l) : Calls Try.prog 22 #[.slice A l.length c, .bool one] w fun e w' => ∃ g, e = .returned (.slice (some ⟨g, 0, none⟩) 17 17) ∧ w.heap.size ≤ g ∧ w'.heap[g]? = some (.cells (ia .u64 (numF l one)) 37 (0, 0)) ∧ Below w.heap.size w w' := by
  have HL := Hide.mk hl
  have HBY := Hide.mk hb
  have HC := Hide.mk hc
  have HR := Hide.mk hr
  have HB0 := Hide.mk (Below.refl w.heap.size w)
  clear hl hb hc hr
  go_enter Try.func22, Try.ntmps22
  go_wp2_with (first | ((with_reducible refine gate_dst (N := 7) rfl ?_); refine Kd.event_run rfl (v := .slice (some ⟨w.heap.size, 0, none⟩) 17 17) (w1 := w.alloc (.cells (ia .u64 (List.replicate 17 0)) 37 (0, 0))) (make17 rfl) ?_; have BKg := Hide.mk (heap_alloc_new w (.cells (ia .u64 (List.replicate 17 0)) 37 (0, 0))); have HB1 := Hide.mk (below_alloc (Below.refl w.heap.size w) (.cells (ia .u64 (List.replicate 17 0)) 37 (0, 0))); obtain ⟨g, hg⟩ : ∃ g, g = w.heap.size := ⟨_, rfl⟩; have GEg : w.heap.size ≤ g := (by omega); generalize w.alloc (.cells (ia .u64 (List.replicate 17 0)) 37 (0, 0)) = w7 at BKg HB1 ⊢; rw [← hg] at BKg; rw [← hg]; clear hg))
  go_loopg [6] l.length (fun gp v wy => ∃ i : Nat, i + gp = l.length ∧ v = .int .i64 i ∧ wy.heap[g]? = some (.cells (ia .u64 (nf l i)) 37 (0, 0)) ∧ Below w.heap.size w wy)
  case atStart => exact ⟨0, by omega, rfl, by simpa [nf] using BKg.out, HB1.out⟩
  case round =>
    clear BKg HB1
    obtain ⟨i, hi, rfl, hg, hb⟩ := hrel
    have BKg := Hide.mk hg
    have HB := Hide.mk hb
    clear hg hb
    by_cases hlt : i < l.length
    · have hd : decide ((i : Int) < (l.length : Int)) = true := by simp; omega
      have hi0 : (0 : Int) ≤ (i : Int) := Int.natCast_nonneg _
      have hi1 : (i : Int) < (l.length : Int) := by omega
      have hi2 : (i : Int) < 17 := by have := HL.out; omega
      have f1 : IntKind.i64.wrap ((i : Int) + 1) = (i : Int) + 1 := IntWalk.i64_in _ (by omega)
      obtain ⟨ad, rfl, hcell⟩ := HR.out.2.2 (by omega)
      have hc0 := hcell i hlt
      have hadl : ad.block < w.heap.size := by have := World.block_lt_of_cell? w _ hc0; rwa [add_block] at this
      have c0 : wr.cell? (ad.add i) = some (.int .u8 (l.getD i 0)) := (HB.out.cell (p := ad.add i) (by rw [add_block]; exact hadl)).trans hc0
      have HX := Hide.mk (bytes_get HBY.out i)
      have HS := Hide.mk (nf_set hlt HL.out)
      have HNL : Hide ((nf l i).length = 17) := ⟨nf_len (by omega) HL.out⟩
      generalize l.getD i 0 = x at c0 HX HS
      obtain ⟨x0, x1⟩ := HX.out
      clear hcell hc0
      go_wp2_with (first | ((with_reducible refine gate_store (p := 21) (v := .tmp 20) rfl ?_); refine store_cell rfl rfl 37 (.tmp 21) (.tmp 20) rfl g i (by first | rfl | go_simp) (.int .u64 x) rfl rfl rfl (by kernel_rfl) _ _ BKg.out ?hlt ?_; (case hlt => rw [ia_size, HNL.out]; omega); intro w9 hb ho; rw [ia_set, HS.out] at hb; have BKg9 := Hide.mk hb; have HB9 := Hide.mk (ho.below HB.out GEg); clear BKg HB hb ho))
      go_roundg (gk - 1)
      case measure => omega
      case rel => exact ⟨i + 1, by omega, by go_num, BKg9.out, HB9.out⟩
    · obtain rfl : i = l.length := by omega
      have hd : decide ((l.length : Int) < (l.length : Int)) = false := by simp
      have hi0 : (0 : Int) ≤ (l.length : Int) := Int.natCast_nonneg _
      have hi2 : (l.length : Int) < 17 := by have := HL.out; omega
      have HNL : Hide ((nf l l.length).length = 17) := ⟨nf_len (Nat.le_refl _) HL.out⟩
      clear hi hlt
      cases one with
      | false =>
        have HN := Hide.mk (nf_no HL.out)
        go_wp2_with fail
        go_ret
        exact ⟨g, rfl, GEg, by rw [← HN.out]; exact BKg.out, HB.out⟩
      | true =>
        have HN := Hide.mk (nf_yes HL.out)
        go_wp2_with (first | ((with_reducible refine gate_store (p := 26) (v := .const (.int .u64 1)) rfl ?_); refine store_cell rfl rfl 37 (.tmp 26) (.const (.int .u64 1)) rfl g l.length (by first | rfl | go_simp) (.int .u64 1) rfl rfl rfl (by kernel_rfl) _ _ BKg.out ?hlt ?_; (case hlt => rw [ia_size, HNL.out]; omega); intro w9 hb ho; rw [ia_set, HN.out] at hb; have BKg9 := Hide.mk hb; have HB9 := Hide.mk (ho.below HB.out GEg); clear BKg HB hb ho))
        go_ret
        exact ⟨g, rfl, GEg, BKg9.out, HB9.out⟩
end Go.Proofs.Ytlhhjdhbkhjhjaa.Po
