/- The primes of the program. -/
import Derived.Test.YthgklggcdnocdaaS1
import Derived.Test.YthgklggcdnocdaaWWords
import Derived.WalkMore
import Derived.Deep.LoopGhost
import Derived.Maps.AppendAt
namespace Go.Proofs.Ythgklggcdnocdaa.Sh
open Go.RowKit Go.Proofs.YthgklggcdnocdaaW.PrintWords
set_option linter.unusedVariables false
set_option linter.unusedSimpArgs false
theorem prs_mono (m : Nat) : (prs m).length ≤ (prs (m + 1)).length := by
  show _ ≤ (if isP (prs m) (m + 2) = true then prs m ++ [((m + 2 : Nat) : Int)] else prs m).length
  split <;> simp
theorem prs_le {m n : Nat} (h : m ≤ n) : (prs m).length ≤ (prs n).length := by
  induction h with
  | refl => exact Nat.le_refl _
  | step _ ih => exact Nat.le_trans ih (prs_mono _)
theorem prs_prefix {m n : Nat} (h : m ≤ n) : prs m <+: prs n := by
  induction h with
  | refl => exact List.prefix_refl _
  | @step n h ih =>
    refine List.IsPrefix.trans ih ?_
    show _ <+: (if isP (prs n) (n + 2) = true then prs n ++ [((n + 2 : Nat) : Int)] else prs n)
    split
    · exact List.prefix_append _ _
    · exact List.prefix_refl _
theorem prs_eq {m n : Nat} (h : m ≤ n) (hl : (prs n).length ≤ (prs m).length) : prs m = prs n := (prs_prefix h).eq_of_length (Nat.le_antisymm (prs_le h) hl)
theorem prs_no (m : Nat) {q : Int} (hq : q ∈ prs m) (h : ((m : Int) + 2) % q = 0) : prs (m + 1) = prs m := by
  show (if isP (prs m) (m + 2) = true then prs m ++ [((m + 2 : Nat) : Int)] else prs m) = _
  rw [if_neg]
  intro hp
  have := List.all_eq_true.1 hp q hq
  simp [h] at this
theorem prs_yes (m : Nat) (h : ∀ q ∈ prs m, ((m : Int) + 2) % q ≠ 0) : prs (m + 1) = prs m ++ [(m : Int) + 2] := by
  show (if isP (prs m) (m + 2) = true then prs m ++ [((m + 2 : Nat) : Int)] else prs m) = _
  have hp : isP (prs m) (m + 2) = true := List.all_eq_true.2 fun q hq => by simpa using h q hq
  rw [if_pos hp]
  simp
theorem prs_range (m : Nat) : ∀ q ∈ prs m, 2 ≤ q ∧ q ≤ (m : Int) + 1 := by
  induction m with
  | zero => intro q hq; simp [prs] at hq
  | succ m ih =>
    intro q hq
    have : q ∈ (if isP (prs m) (m + 2) = true then prs m ++ [((m + 2 : Nat) : Int)] else prs m) := hq
    split at this
    · rcases List.mem_append.1 this with h | h
      · have := ih q h; omega
      · simp at h; omega
    · have := ih q this; omega
set_option maxHeartbeats 1000000 in
set_option maxRecDepth 100000 in
theorem primes_any (N M : Nat) (hN : (prs M).length = N) (hM : M ≤ 1000) (hN2 : N ≤ 1000) (w : World) : Calls Try.prog 27 #[.int .i64 N] w fun e w' => ∃ v, e = .returned v ∧ w'.ownsRow w.heap.size 36 1 v N (nums .u64 (prs M)) ∧ Below w.heap.size w w' := by
  have HN := Hide.mk hN
  clear hN
  go_enter Try.func27, Try.ntmps27
  go_wp2_with fail
  go_step3
  go_wp2_with fail
  go_step3
  go_wp2_with fail
  obtain ⟨G, hG⟩ : ∃ G, G = w.heap.size := ⟨_, rfl⟩
  have HG := Hide.mk hG
  clear hG
  go_loopw [2, 3] (fun v b wr => ∃ (m : Nat) (A : Option Addr) (c : Nat), m ≤ M ∧ v = .slice A (prs m).length c ∧ b = .int .u64 ((m : Int) + 2) ∧ wr.ownsRow G 36 1 (.slice A (prs m).length c) (prs m).length (nums .u64 (prs m)) ∧ Below G w wr) (fun _ b _ => M + 10 - (intOf b).toNat)
  case atStart => exact ⟨0, none, 0, Nat.zero_le _, rfl, rfl, own_nil _ _ _ _, Below.refl _ _⟩
  case round =>
    obtain ⟨m, A, c, hm, rfl, rfl, hown, hbel⟩ := hrel
    have HO := Hide.mk hown
    have HB := Hide.mk hbel
    have HR := Hide.mk (own_reads' hown)
    have hle := prs_le hm
    clear hown hbel
    by_cases hlt : (prs m).length < N
    · have hmM : m < M := by
        rcases Nat.lt_or_ge m M with h | h
        · exact h
        · have := HN.out; have e : m = M := by omega
          subst e; omega
      have hlt' : decide (((prs m).length : Int) < (N : Int)) = true := by simp; omega
      go_wp2_with fail
      go_loop [14] (fun t => ∃ j : Nat, t = .int .i64 j ∧ j ≤ (prs m).length ∧ ∀ q ∈ (prs m).take j, ((m : Int) + 2) % q ≠ 0) (fun t => (prs m).length - (intOf t).toNat)
      case atStart => exact ⟨0, rfl, Nat.zero_le _, by simp⟩
      case round =>
        obtain ⟨j, rfl, hj, hq⟩ := hrel
        have HQ := Hide.mk hq
        clear hq
        by_cases hjl : j < (prs m).length
        · obtain ⟨ad, rfl, hcell⟩ := HR.out.2.2 (by omega)
          have hc := hcell j hjl
          have hmem : (prs m).getD j 0 ∈ prs m := by rw [List.getD_eq_getElem?_getD, List.getElem?_eq_getElem hjl]; exact List.getElem_mem hjl
          have hrq := prs_range m _ hmem
          have HT : Hide ((prs m).take (j + 1) = (prs m).take j ++ [(prs m).getD j 0]) := ⟨by rw [List.take_succ_eq_append_getElem hjl, List.getD_eq_getElem?_getD, List.getElem?_eq_getElem hjl]; rfl⟩
          have HM := Hide.mk hmem
          clear hcell hmem
          obtain ⟨q, hqe⟩ : ∃ q, q = (prs m).getD j 0 := ⟨_, rfl⟩
          rw [← hqe] at hc hrq
          have HE := Hide.mk hqe
          clear hqe
          have hq0 : (q == 0) = false := by simp; omega
          by_cases hd : ((m : Int) + 2) % q = 0
          · have hd' : (((m : Int) + 2) % q == 0) = true := by simpa using hd
            have HD := Hide.mk hd
            clear hd
            go_wp2_with fail
            go_roundw
            case rel =>
              have e1 : prs (m + 1) = prs m := prs_no m (HE.out ▸ HM.out) HD.out
              exact ⟨m + 1, some ad, c, by omega, by rw [e1], by go_num, by rw [e1]; exact HO.out, HB.out⟩
            case measure => simp [intOf]; omega
          · have hd' : (((m : Int) + 2) % q == 0) = false := by simpa using hd
            have HD := Hide.mk hd
            clear hd
            go_wp2_with fail
            go_round
            case rel => exact ⟨j + 1, by go_num, by omega, by rw [HT.out]; intro x hx; rcases List.mem_append.1 hx with h | h; exact HQ.out x h; rw [List.mem_singleton.1 h, ← HE.out]; exact HD.out⟩
            case measure => simp [intOf]; omega
        · have e1 : Hide (prs (m + 1) = prs m ++ [(m : Int) + 2]) := ⟨prs_yes m (by have := HQ.out; rw [List.take_of_length_le (by omega)] at this; exact this)⟩
          go_wp2_with ((with_reducible refine gate_dst (N := 26) rfl ?_); refine print_append_num (w0 := w) G rfl (.tmp 23) (.tmp 25) 48 36 .u64 8 rfl Try.underlying48 (by kernel_rfl) (by decide) (.slice A (prs m).length c) (prs m) ((m : Int) + 2) rfl rfl HO.out HB.out (by rw [HG.out]; exact HB.out.size) (by omega) ?_; intro v1 w1 hown1 hb1 _ _; have HO1 := Hide.mk hown1; have HB1 := Hide.mk hb1; clear hown1 hb1)
          obtain ⟨A1, c1, hv⟩ := own_slice HO1.out
          subst hv
          go_roundw
          case rel => exact ⟨m + 1, A1, c1, by omega, by rw [e1.out], by go_num, by rw [e1.out]; exact HO1.out, HB1.out⟩
          case measure => simp [intOf]; omega
    · have hE : Hide (prs m = prs M) := ⟨prs_eq hm (by have := HN.out; omega)⟩
      go_wp2_with fail
      rw [Exit.noGoto_ret]
      go_ret
      exact ⟨_, rfl, by rw [← HG.out, ← hE.out, ← HN.out, ← hE.out]; exact HO.out, by rw [← HG.out]; exact HB.out⟩
end Go.Proofs.Ythgklggcdnocdaa.Sh
