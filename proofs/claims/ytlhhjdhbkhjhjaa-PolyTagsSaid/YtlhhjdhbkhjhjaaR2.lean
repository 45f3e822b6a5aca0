/- Contracts of the reference's functions on slices of words, as the kit's print wrote them for this claim; what it wrote for the functions 'number' and 'Left' is left out. -/
import Derived.Test.YtlhhjdhbkhjhjaaPPolyTagsx0
import Derived.Test.YtlhhjdhbkhjhjaaR1
namespace Go.Proofs.Ytlhhjdhbkhjhjaa.PPolyTags
open Go.RowKit Go.Proofs.YtlhhjdhbkhjhjaaW.PrintWords Go.Proofs.YtlhhjdhbkhjhjaaW.PrintLast Go.Proofs.YtlhhjdhbkhjhjaaW.PrintMore
attribute [local go_sem] max2_int min2_int max_two min_two max_three min_three max_four min_four   -- for this text's walks alone
set_option linter.unusedVariables false
set_option linter.unusedSimpArgs false

/-! ### mailcoachref05_fold: function 31 -/
mutual
def mailcoachref05_fold.l0 : Nat → List Int → List Int → Int → Option (List Int)
  | 0, _, _, _ => none
  | k + 1, x0, x3, x4 => if x4 < 17 then (if 0 ≤ x4 then (if x4 < (x0.length : Int) then (if x4 < (x3.length : Int) then (mailcoachref05_fold.l0 k x0 (x3.set (x4 : Int).toNat (rd x0 x4)) (wrap64 (x4 + 1))) else (none)) else (none)) else (none)) else (if 16 < (x0.length : Int) then (if 16 < (x3.length : Int) then (mailcoachref05_fold.l1 k x0 (x3.set (16 : Int).toNat (Int.tmod (rd x0 16) 4)) 16) else (none)) else (none))
def mailcoachref05_fold.l1 : Nat → List Int → List Int → Int → Option (List Int)
  | 0, _, _, _ => none
  | k + 1, x0, x3, x5 => if x5 < 34 then (if 0 ≤ x5 then (if x5 < (x0.length : Int) then (if (wrap64 (x5 + 1)) < 34 then (if 0 ≤ (wrap64 (x5 + 1)) then (if (wrap64 (x5 + 1)) < (x0.length : Int) then (if 0 ≤ (wrap64 (x5 - 16)) then (if (wrap64 (x5 - 16)) < (x3.length : Int) then (mailcoachref05_fold.l1 k x0 (x3.set ((wrap64 (x5 - 16)) : Int).toNat (IntKind.u64.wrap ((rd x3 (wrap64 (x5 - 16))) + (IntKind.u64.wrap (5 * (IntKind.u64.wrap ((IntKind.u64.wrap (Int.tdiv (rd x0 x5) 4)) + (IntKind.u64.wrap ((Int.tmod (rd x0 (wrap64 (x5 + 1))) 4) * 64))))))))) (wrap64 (x5 + 1))) else (none)) else (none)) else (none)) else (none)) else (if 0 ≤ (wrap64 (x5 - 16)) then (if (wrap64 (x5 - 16)) < (x3.length : Int) then (mailcoachref05_fold.l1 k x0 (x3.set ((wrap64 (x5 - 16)) : Int).toNat (IntKind.u64.wrap ((rd x3 (wrap64 (x5 - 16))) + (IntKind.u64.wrap (5 * (IntKind.u64.wrap (Int.tdiv (rd x0 x5) 4))))))) (wrap64 (x5 + 1))) else (none)) else (none))) else (none)) else (none)) else ((mailcoachref05_carried.f k x3 34).bind fun t139 => (some t139))
end
def mailcoachref05_fold.f (k : Nat) (l0 : List Int) : Option (List Int) := if 34 ≤ 35184372088832 then (mailcoachref05_fold.l0 k l0 (List.replicate 34 0) 0) else (none)
theorem mailcoachref05_fold.mono_l : ∀ k, (∀ y0 y1 y2, LeO (mailcoachref05_fold.l0 k y0 y1 y2) (mailcoachref05_fold.l0 (k + 1) y0 y1 y2)) ∧ (∀ y0 y1 y2, LeO (mailcoachref05_fold.l1 k y0 y1 y2) (mailcoachref05_fold.l1 (k + 1) y0 y1 y2))
  | 0 => ⟨fun _ _ _ r h => by simp [mailcoachref05_fold.l0] at h, fun _ _ _ r h => by simp [mailcoachref05_fold.l1] at h⟩
  | k + 1 => by
    obtain ⟨ih0, ih1⟩ := mailcoachref05_fold.mono_l k
    refine ⟨?_, ?_⟩
    · intro y0 y1 y2
      unfold mailcoachref05_fold.l0
      repeat' first
      | (with_reducible exact ih0 _ _ _)
      | (with_reducible exact ih1 _ _ _)
      | (with_reducible exact mailcoachref05_carried.mono _ _ _)
      | (with_reducible exact LeO.refl _)
      | (with_reducible exact LeO.none _)
      | (with_reducible refine LeO.ite ?_ ?_)
      | (with_reducible refine LeO.bind ?_ (fun _ => ?_))
      | exact ih0 _ _ _
      | exact ih1 _ _ _
      | exact mailcoachref05_carried.mono _ _ _
      | exact LeO.none _
      | refine LeO.ite ?_ ?_
      | refine LeO.bind ?_ (fun _ => ?_)
    · intro y0 y1 y2
      unfold mailcoachref05_fold.l1
      repeat' first
      | (with_reducible exact ih0 _ _ _)
      | (with_reducible exact ih1 _ _ _)
      | (with_reducible exact mailcoachref05_carried.mono _ _ _)
      | (with_reducible exact LeO.refl _)
      | (with_reducible exact LeO.none _)
      | (with_reducible refine LeO.ite ?_ ?_)
      | (with_reducible refine LeO.bind ?_ (fun _ => ?_))
      | exact ih0 _ _ _
      | exact ih1 _ _ _
      | exact mailcoachref05_carried.mono _ _ _
      | exact LeO.none _
      | refine LeO.ite ?_ ?_
      | refine LeO.bind ?_ (fun _ => ?_)
theorem mailcoachref05_fold.mono : ∀ a0 k, LeO (mailcoachref05_fold.f k a0) (mailcoachref05_fold.f (k + 1) a0) := by
  intro a0 k
  obtain ⟨ih0, ih1⟩ := mailcoachref05_fold.mono_l k
  unfold mailcoachref05_fold.f
  repeat' first
      | (with_reducible exact ih0 _ _ _)
      | (with_reducible exact ih1 _ _ _)
      | (with_reducible exact mailcoachref05_carried.mono _ _ _)
      | (with_reducible exact LeO.refl _)
      | (with_reducible exact LeO.none _)
      | (with_reducible refine LeO.ite ?_ ?_)
      | (with_reducible refine LeO.bind ?_ (fun _ => ?_))
      | exact ih0 _ _ _
      | exact ih1 _ _ _
      | exact mailcoachref05_carried.mono _ _ _
      | exact LeO.none _
      | refine LeO.ite ?_ ?_
      | refine LeO.bind ?_ (fun _ => ?_)
set_option maxHeartbeats 8000000 in
set_option maxRecDepth 100000 in
theorem mailcoachref05_fold.calls (k : Nat) (A0 : Option Addr) (c0 : Nat) (l0 : List Int) (r : List Int) (w : World) (hr0 : Kd.C (Kd.int .u64) w A0 l0.length l0) (hc0 : l0.length ≤ c0) (h : mailcoachref05_fold.f k l0 = some r) :
    Calls Try.prog 31 #[.slice A0 l0.length c0] w fun e w' => ∃ v0_ : Value, e = .returned (v0_) ∧ Kd.R (Kd.int .u64) 37 w' w.heap.size (fun _ => True) v0_ r ∧ Below w.heap.size w w' := by
  have HR0 := Aside0.mk hr0
  have HC0 := Aside0.mk hc0
  clear hr0 hc0
  have HB := Aside0.mk (Below.refl w.heap.size w)
  have H : (if 34 ≤ 35184372088832 then (mailcoachref05_fold.l0 k l0 (List.replicate 34 0) 0) else (none)) = some r := h
  clear h
  by_cases c2 : 34 ≤ 35184372088832
  · rw [if_pos c2] at H
    have c2b0 := eq_true c2
    have c2b1 : decide (34 ≤ 35184372088832) = true := decide_eq_true c2
    clear c2
    obtain ⟨y126, hy126⟩ : ∃ y_ : List Int, y_ = (List.replicate 34 0) := ⟨_, rfl⟩
    replace H : (mailcoachref05_fold.l0 k l0 y126 0) = some r := by first | (rw [hy126]; with_reducible exact H) | (have H2_ := (Option.bind_some _ _).symm.trans H; rw [hy126]; with_reducible exact H2_) | (have H2_ := (Option.bind_some _ _).symm.trans H; with_reducible exact H2_) | with_reducible exact H | (rw [hy126]; exact H) | exact H
    have Ny126 := Aside0.mk hy126
    clear hy126
    have H' := Aside0.mk H
    clear H
    go_enter Try.func31, Try.ntmps31
    go_wp2_with (first | ((with_reducible refine gate_dst (N := 7) rfl ?_); refine Kd.R_make (Kd.int .u64) _ 37 rfl (N := 7) rfl 47 _ _ rfl 34 rfl rfl Try.underlying47 (.int .u64 0) 8 info37 rfl (by decide) (by omega) 0 (ok := fun _ => True) (okp := fun _ => True) rfl (fun _ hk => hk) trivial (by omega) (by omega) (Below.refl _ _) (Nat.le_refl _) ?_; intro v127 w3 ho4 hb hg_ hnew_; clear hg_ hnew_; (first | rw [← Ny126.out] at ho4 | (simp only [Int.reduceToNat] at ho4; rw [← Ny126.out] at ho4)); have n0_ := Aside0.mk (Kd.R_lower ho4 (below_size (by repeat (first | (with_reducible first | exact HB.out | apply below_alloc | apply pw_below_drewN | apply below_drew1) | exact HB.out)))); have n1_ := Aside0.mk (below_step (by repeat (first | (with_reducible first | exact HB.out | apply below_alloc | apply pw_below_drewN | apply below_drew1) | exact HB.out)) hb); clear HB; have HO128 := n0_; have HB := n1_; clear n0_ n1_; clear hb ho4))
    go_loopg [4] k (fun kq v4 w' => ∃ (x3_1 : List Int) (x4_1 : Int), v4 = .int .i64 x4_1 ∧ Aside0 (mailcoachref05_fold.l0 kq l0 x3_1 x4_1 = some r) ∧ Aside0 (kq ≤ k) ∧ Aside0 (Kd.R (Kd.int .u64) 37 w' w.heap.size (fun _ => True) v127 x3_1) ∧ Aside0 (Below w.heap.size w w'))
    case atStart => exact ⟨(y126), (0), (by first | rfl | (simp; done) | (simp [*]; done)), H', ⟨Nat.le_refl _⟩, ⟨by (with_reducible repeat (first | apply Kd.R_alloc | apply Kd.R_drewN | apply Kd.R_drew)); exact HO128.out⟩, ⟨by repeat (first | (with_reducible first | exact HB.out | apply below_alloc | apply pw_below_drewN | apply below_drew1) | exact HB.out)⟩⟩
    case round =>
      clear H'
      try clear c2
      try clear c2b0
      try clear c2b1
      try clear p2
      try clear c3
      obtain ⟨x3_1, x4_1, rfl, HA, HK1, HO_3, HB⟩ := hrel
      cases gk with
      | zero => exact absurd HA.out (by simp [mailcoachref05_fold.l0])
      | succ k1 =>
        have H := HA.out
        clear HA
        simp only [mailcoachref05_fold.l0] at H
        by_cases c5 : x4_1 < 17
        · rw [if_pos c5] at H
          have c5b0 : decide (x4_1 < 17) = true := decide_eq_true c5
          clear c5
          by_cases c6 : 0 ≤ x4_1
          · rw [if_pos c6] at H
            have c6b0 : decide (0 ≤ x4_1) = true := decide_eq_true c6
            clear c6
            by_cases c7 : x4_1 < (l0.length : Int)
            · rw [if_pos c7] at H
              have c7b0 : decide (x4_1 < (l0.length : Int)) = true := decide_eq_true c7
              clear c7
              by_cases c8 : x4_1 < (x3_1.length : Int)
              · rw [if_pos c8] at H
                have c8b0 : decide (x4_1 < (x3_1.length : Int)) = true := decide_eq_true c8
                clear c8
                obtain ⟨y130, hy130⟩ : ∃ y_ : List Int, y_ = (x3_1.set (x4_1 : Int).toNat (rd l0 x4_1)) := ⟨_, rfl⟩
                replace H : (mailcoachref05_fold.l0 k1 l0 y130 (wrap64 (x4_1 + 1))) = some r := by first | (rw [hy130]; with_reducible exact H) | (have H2_ := (Option.bind_some _ _).symm.trans H; rw [hy130]; with_reducible exact H2_) | (have H2_ := (Option.bind_some _ _).symm.trans H; with_reducible exact H2_) | with_reducible exact H | (rw [hy130]; exact H) | exact H
                have Ny130 := Aside0.mk hy130
                clear hy130
                have H' := Aside0.mk H
                clear H
                have p129 : 0 ≤ (x4_1 : Int) := of_decide_eq_true (by first | (with_reducible assumption) | assumption)
                have q129 : x4_1 < (l0.length : Int) := of_decide_eq_true (by first | (with_reducible assumption) | assumption)
                obtain ⟨ad129, e129, hx129_0⟩ := Kd.at_int HR0.out x4_1 p129 q129
                cases e129
                replace hx129_0 := (HB.out.cell (World.block_lt_of_cell? w _ hx129_0)).trans hx129_0
                replace p129 := eq_true p129
                replace q129 := eq_true q129
                have p9 : 0 ≤ (x4_1 : Int) := of_decide_eq_true (by first | (with_reducible assumption) | assumption)
                have q9 : (x4_1 : Int) < ((x3_1.length : Int) : Int) := of_decide_eq_true (by first | (with_reducible assumption) | assumption)
                obtain ⟨go9, co9, eo9, gb9, gl9, cl9, HG9⟩ := Kd.R_form HO_3.out (by omega)
                (first | cases eo9 | (injection eo9 with ea_ en_ ec_; (first | subst ea_ | (injection ea_ with ea_; subst ea_)); subst ec_; clear en_))
                have GB9 := Aside0.mk gb9
                have GG9 := Aside0.mk HG9
                clear gb9 gl9 HG9
                obtain ⟨hx9_0, hf9_0⟩ := Kd.R_celln 0 HO_3.out (x4_1 : Int) p9 q9
                replace p9 := eq_true p9
                replace q9 := eq_true q9
                have HP10 := Kd.R_putg HO_3.out (x4_1 : Int) (rd l0 x4_1)
                go_wp2_with (first | ((with_reducible refine gate_store (t := 37) (p := 18) rfl ?_); refine store_event (t := 37) (p := 18) (v := ?vo_w11) (w1 := (wr.setCell ⟨go9, (x4_1 : Int).toNat, none⟩ (.int .u64 (rd l0 x4_1)))) ?hg ?ho ?hn ?hr ?_; (case ho => rfl); (case hg => rfl); (case hn => rfl); (case hr => first | (go_simp; done) | (go_simp; rfl)); intro w11 hw; have hg : wr.grownBy w11 (some go9) := (by rw [hw]; exact HP10.2); have hp_ : Kd.R (Kd.int .u64) 37 w11 w.heap.size (fun _ => True) (.slice (some ⟨go9, 0, none⟩) x3_1.length co9) y130 := (by rw [hw, Ny130.out]; exact HP10.1); clear HP10; have n0_ := Aside0.mk (hp_); have n1_ := Aside0.mk ((by rw [hw]; exact below_set (HB.out) GB9.out : Below w.heap.size w w11)); clear HO_3; clear HB; have HO_3 := n0_; have HB := n1_; clear n0_ n1_; clear hg hw hp_))
                go_roundg k1
                case measure => have := HK1.out; omega
                case rel => exact ⟨(y130), (wrap64 (x4_1 + 1)), (by first | rfl | (simp; done) | (simp [*]; done)), H', ⟨by have := HK1.out; omega⟩, ⟨by (with_reducible repeat (first | apply Kd.R_alloc | apply Kd.R_drewN | apply Kd.R_drew)); exact HO_3.out⟩, ⟨by repeat (first | (with_reducible first | exact HB.out | apply below_alloc | apply pw_below_drewN | apply below_drew1) | exact HB.out)⟩⟩
              · rw [if_neg c8] at H
                exact absurd H (by simp)
            · rw [if_neg c7] at H
              exact absurd H (by simp)
          · rw [if_neg c6] at H
            exact absurd H (by simp)
        · rw [if_neg c5] at H
          have c5b0 : decide (x4_1 < 17) = false := decide_eq_false c5
          clear c5
          by_cases c12 : 16 < (l0.length : Int)
          · rw [if_pos c12] at H
            have c12b0 : decide (16 < (l0.length : Int)) = true := decide_eq_true c12
            have c12b1 : decide (16 < l0.length) = true := decide_eq_true (by omega)
            clear c12
            by_cases c13 : 16 < (x3_1.length : Int)
            · rw [if_pos c13] at H
              have c13b0 : decide (16 < (x3_1.length : Int)) = true := decide_eq_true c13
              have c13b1 : decide (16 < x3_1.length) = true := decide_eq_true (by omega)
              clear c13
              obtain ⟨y132, hy132⟩ : ∃ y_ : List Int, y_ = (x3_1.set (16 : Int).toNat (Int.tmod (rd l0 16) 4)) := ⟨_, rfl⟩
              replace H : (mailcoachref05_fold.l1 k1 l0 y132 16) = some r := by first | (rw [hy132]; with_reducible exact H) | (have H2_ := (Option.bind_some _ _).symm.trans H; rw [hy132]; with_reducible exact H2_) | (have H2_ := (Option.bind_some _ _).symm.trans H; with_reducible exact H2_) | with_reducible exact H | (rw [hy132]; exact H) | exact H
              have Ny132 := Aside0.mk hy132
              clear hy132
              have H' := Aside0.mk H
              clear H
              have p131 : 0 ≤ (16 : Int) := (by omega)
              have q131 : 16 < (l0.length : Int) := of_decide_eq_true (by first | (with_reducible assumption) | assumption)
              obtain ⟨ad131, e131, hx131_0⟩ := Kd.at_int HR0.out 16 p131 q131
              cases e131
              (try simp only [show (16 : Int).toNat = 16 from rfl, Nat.reduceMul, Nat.reduceEqDiff, Go.Addr.add, ↓reduceIte] at hx131_0)
              have qi131 : (16 < l0.length) = True := eq_true (by omega)
              (try rw [show ((16 : Int)).toNat = 16 from rfl] at hx131_0)
              replace hx131_0 := (HB.out.cell (World.block_lt_of_cell? w _ hx131_0)).trans hx131_0
              replace p131 := eq_true p131
              replace q131 := eq_true q131
              have p14 : 0 ≤ (16 : Int) := (by omega)
              have q14 : (16 : Int) < ((x3_1.length : Int) : Int) := of_decide_eq_true (by first | (with_reducible assumption) | assumption)
              have qi14 : (16 < x3_1.length) = True := eq_true (by omega)
              obtain ⟨go14, co14, eo14, gb14, gl14, cl14, HG14⟩ := Kd.R_form HO_3.out (by omega)
              (first | cases eo14 | (injection eo14 with ea_ en_ ec_; (first | subst ea_ | (injection ea_ with ea_; subst ea_)); subst ec_; clear en_))
              have GB14 := Aside0.mk gb14
              have GG14 := Aside0.mk HG14
              clear gb14 gl14 HG14
              obtain ⟨hx14_0, hf14_0⟩ := Kd.R_celln 0 HO_3.out (16 : Int) p14 q14
              (try rw [show ((16 : Int)).toNat = 16 from rfl] at hx14_0)
              (try simp only [Nat.reduceMul, Nat.zero_mul, Nat.zero_add, Nat.reduceAdd] at hx14_0)
              (try rw [show ((16 : Int)).toNat = 16 from rfl] at hf14_0)
              (try simp only [Nat.reduceMul, Nat.zero_mul, Nat.zero_add, Nat.reduceAdd] at hf14_0)
              replace p14 := eq_true p14
              replace q14 := eq_true q14
              have HP15 := Kd.R_putg HO_3.out (16 : Int) (Int.tmod (rd l0 16) 4)
              go_wp2_with (first | ((with_reducible refine gate_store (t := 37) (p := 24) rfl ?_); refine store_event (t := 37) (p := 24) (v := ?vo_w16) (w1 := (wr.setCell ⟨go14, (16 : Int).toNat, none⟩ (.int .u64 (Int.tmod (rd l0 16) 4)))) ?hg ?ho ?hn ?hr ?_; (case ho => rfl); (case hg => rfl); (case hn => rfl); (case hr => first | (go_simp; done) | (go_simp; rfl)); intro w16 hw; have hg : wr.grownBy w16 (some go14) := (by rw [hw]; exact HP15.2); have hp_ : Kd.R (Kd.int .u64) 37 w16 w.heap.size (fun _ => True) (.slice (some ⟨go14, 0, none⟩) x3_1.length co14) y132 := (by rw [hw, Ny132.out]; exact HP15.1); clear HP15; have n0_ := Aside0.mk (hp_); have n1_ := Aside0.mk ((by rw [hw]; exact below_set (HB.out) GB14.out : Below w.heap.size w w16)); clear HO_3; clear HB; have HO_3 := n0_; have HB := n1_; clear n0_ n1_; clear hg hw hp_))
              go_loopg [5] k1 (fun kq v5 w' => ∃ (x3_2 : List Int) (x5_2 : Int), v5 = .int .i64 x5_2 ∧ Aside0 (mailcoachref05_fold.l1 kq l0 x3_2 x5_2 = some r) ∧ Aside0 (kq ≤ k1) ∧ Aside0 (Kd.R (Kd.int .u64) 37 w' w.heap.size (fun _ => True) (.slice (some ⟨go14, 0, none⟩) x3_1.length co14) x3_2) ∧ Aside0 (Below w.heap.size w w'))
              case atStart => exact ⟨(y132), (16), (by first | rfl | (simp; done) | (simp [*]; done)), H', ⟨Nat.le_refl _⟩, ⟨by (with_reducible repeat (first | apply Kd.R_alloc | apply Kd.R_drewN | apply Kd.R_drew)); exact HO_3.out⟩, ⟨by repeat (first | (with_reducible first | exact HB.out | apply below_alloc | apply pw_below_drewN | apply below_drew1) | exact HB.out)⟩⟩
              case round =>
                clear H'
                try clear c1
                try clear p1
                try clear q1
                try clear hx1
                try clear qi1
                try clear hf1
                try clear c2
                try clear c2b0
                try clear c2b1
                try clear p2
                try clear c3
                try clear c5
                try clear c5b0
                try clear c6
                try clear c6b0
                try clear p6
                try clear c7
                try clear c7b0
                try clear c8
                try clear c8b0
                try clear p9
                try clear q9
                try clear hx9
                try clear hf9
                try clear c12
                try clear c12b0
                try clear c12b1
                try clear p12
                try clear q12
                try clear hx12
                try clear c13
                try clear c13b0
                try clear c13b1
                try clear p13
                try clear q13
                try clear hx13
                try clear qi13
                try clear p14
                try clear q14
                try clear hx14
                try clear qi14
                try clear hf14
                try clear hx129_0
                try clear hx131_0
                try clear hx14_0
                try clear hx9_0
                try clear p129
                try clear p131
                try clear p14
                try clear p2
                try clear p9
                try clear q129
                try clear q131
                try clear q14
                try clear q9
                obtain ⟨x3_2, x5_2, rfl, HA, HK2, HO_3, HB⟩ := hrel
                have hl3_2 := (Kd.R_reads' HO_3.out).1
                rw [hl3_2] at HO_3
                (try simp only [hl3_2])
                cases gk with
                | zero => exact absurd HA.out (by simp [mailcoachref05_fold.l1])
                | succ k2 =>
                  have H := HA.out
                  clear HA
                  simp only [mailcoachref05_fold.l1] at H
                  by_cases c17 : x5_2 < 34
                  · rw [if_pos c17] at H
                    have c17b0 : decide (x5_2 < 34) = true := decide_eq_true c17
                    clear c17
                    by_cases c18 : 0 ≤ x5_2
                    · rw [if_pos c18] at H
                      have c18b0 : decide (0 ≤ x5_2) = true := decide_eq_true c18
                      clear c18
                      by_cases c19 : x5_2 < (l0.length : Int)
                      · rw [if_pos c19] at H
                        have c19b0 : decide (x5_2 < (l0.length : Int)) = true := decide_eq_true c19
                        clear c19
                        by_cases c20 : (wrap64 (x5_2 + 1)) < 34
                        · rw [if_pos c20] at H
                          have c20b0 : decide ((wrap64 (x5_2 + 1)) < 34) = true := decide_eq_true c20
                          clear c20
                          obtain ⟨ji21, hji21⟩ : ∃ j_ : Int, (wrap64 (x5_2 + 1)) = j_ := ⟨_, rfl⟩
                          replace H : (if 0 ≤ (ji21) then (if (ji21) < (l0.length : Int) then (if 0 ≤ (wrap64 (x5_2 - 16)) then (if (wrap64 (x5_2 - 16)) < (x3_2.length : Int) then (mailcoachref05_fold.l1 k2 l0 (x3_2.set ((wrap64 (x5_2 - 16)) : Int).toNat (IntKind.u64.wrap ((rd x3_2 (wrap64 (x5_2 - 16))) + (IntKind.u64.wrap (5 * (IntKind.u64.wrap ((IntKind.u64.wrap (Int.tdiv (rd l0 x5_2) 4)) + (IntKind.u64.wrap ((Int.tmod (rd l0 (ji21)) 4) * 64))))))))) ji21) else (none)) else (none)) else (none)) else (none)) = some r := by first | (rw [hji21] at H; exact H) | (simp only [hji21] at H ⊢; exact H)
                          (try rw [hji21] at c20b0)
                          have hji21w : (IntKind.i64.wrap (x5_2 + 1)) = ji21 := (i64_w _).trans hji21
                          by_cases c22 : 0 ≤ (ji21)
                          · rw [if_pos c22] at H
                            have c22b0 : decide (0 ≤ (ji21)) = true := decide_eq_true c22
                            clear c22
                            by_cases c23 : (ji21) < (l0.length : Int)
                            · rw [if_pos c23] at H
                              have c23b0 : decide ((ji21) < (l0.length : Int)) = true := decide_eq_true c23
                              clear c23
                              obtain ⟨ji24, hji24⟩ : ∃ j_ : Int, (wrap64 (x5_2 - 16)) = j_ := ⟨_, rfl⟩
                              replace H : (if 0 ≤ (ji24) then (if (ji24) < (x3_2.length : Int) then (mailcoachref05_fold.l1 k2 l0 (x3_2.set ((ji24) : Int).toNat (IntKind.u64.wrap ((rd x3_2 (ji24)) + (IntKind.u64.wrap (5 * (IntKind.u64.wrap ((IntKind.u64.wrap (Int.tdiv (rd l0 x5_2) 4)) + (IntKind.u64.wrap ((Int.tmod (rd l0 (ji21)) 4) * 64))))))))) ji21) else (none)) else (none)) = some r := by first | (rw [hji24] at H; exact H) | (simp only [hji24] at H ⊢; exact H)
                              have hji24w : (IntKind.i64.wrap (x5_2 - 16)) = ji24 := (i64_w _).trans hji24
                              by_cases c25 : 0 ≤ (ji24)
                              · rw [if_pos c25] at H
                                have c25b0 : decide (0 ≤ (ji24)) = true := decide_eq_true c25
                                clear c25
                                by_cases c26 : (ji24) < (x3_2.length : Int)
                                · rw [if_pos c26] at H
                                  have c26b0 : decide ((ji24) < (x3_2.length : Int)) = true := decide_eq_true c26
                                  clear c26
                                  obtain ⟨y136, hy136⟩ : ∃ y_ : List Int, y_ = (x3_2.set ((ji24) : Int).toNat (IntKind.u64.wrap ((rd x3_2 (ji24)) + (IntKind.u64.wrap (5 * (IntKind.u64.wrap ((IntKind.u64.wrap (Int.tdiv (rd l0 x5_2) 4)) + (IntKind.u64.wrap ((Int.tmod (rd l0 (ji21)) 4) * 64))))))))) := ⟨_, rfl⟩
                                  replace H : (mailcoachref05_fold.l1 k2 l0 y136 ji21) = some r := by first | (rw [hy136]; with_reducible exact H) | (have H2_ := (Option.bind_some _ _).symm.trans H; rw [hy136]; with_reducible exact H2_) | (have H2_ := (Option.bind_some _ _).symm.trans H; with_reducible exact H2_) | with_reducible exact H | (rw [hy136]; exact H) | exact H
                                  have Ny136 := Aside0.mk hy136
                                  clear hy136
                                  have H' := Aside0.mk H
                                  clear H
                                  have p133 : 0 ≤ (x5_2 : Int) := of_decide_eq_true (by first | (with_reducible assumption) | assumption)
                                  have q133 : x5_2 < (l0.length : Int) := of_decide_eq_true (by first | (with_reducible assumption) | assumption)
                                  obtain ⟨ad133, e133, hx133_0⟩ := Kd.at_int HR0.out x5_2 p133 q133
                                  obtain rfl : ad131 = ad133 := (by injection e133)
                                  replace hx133_0 := (HB.out.cell (World.block_lt_of_cell? w _ hx133_0)).trans hx133_0
                                  replace p133 := eq_true p133
                                  replace q133 := eq_true q133
                                  have p134 : 0 ≤ ((ji21) : Int) := of_decide_eq_true (by first | (with_reducible assumption) | assumption)
                                  have q134 : (ji21) < (l0.length : Int) := of_decide_eq_true (by first | (with_reducible assumption) | assumption)
                                  obtain ⟨ad134, e134, hx134_0⟩ := Kd.at_int HR0.out (ji21) p134 q134
                                  obtain rfl : ad131 = ad134 := (by injection e134)
                                  replace hx134_0 := (HB.out.cell (World.block_lt_of_cell? w _ hx134_0)).trans hx134_0
                                  replace p134 := eq_true p134
                                  replace q134 := eq_true q134
                                  have p135 : 0 ≤ ((ji24) : Int) := of_decide_eq_true (by first | (with_reducible assumption) | assumption)
                                  have q135 : (ji24) < (x3_2.length : Int) := of_decide_eq_true (by first | (with_reducible assumption) | assumption)
                                  obtain ⟨ad135, e135, hx135_0⟩ := Kd.at_int (Kd.R_reads' HO_3.out).2.2 (ji24) p135 q135
                                  obtain rfl : (⟨go14, 0, none⟩ : Addr) = ad135 := (by injection e135)
                                  (first | simp only [add_plain] at hx135_0 | simp only [add_at] at hx135_0 | simp only [Addr.add, Nat.zero_add] at hx135_0 | skip)
                                  replace p135 := eq_true p135
                                  replace q135 := eq_true q135
                                  have p27 : 0 ≤ ((ji24) : Int) := of_decide_eq_true (by first | (with_reducible assumption) | assumption)
                                  have q27 : ((ji24) : Int) < ((x3_2.length : Int) : Int) := of_decide_eq_true (by first | (with_reducible assumption) | assumption)
                                  obtain ⟨hx27_0, hf27_0⟩ := Kd.R_celln 0 HO_3.out ((ji24) : Int) p27 q27
                                  replace p27 := eq_true p27
                                  replace q27 := eq_true q27
                                  have HP28 := Kd.R_putg HO_3.out ((ji24) : Int) (IntKind.u64.wrap ((rd x3_2 (ji24)) + (IntKind.u64.wrap (5 * (IntKind.u64.wrap ((IntKind.u64.wrap (Int.tdiv (rd l0 x5_2) 4)) + (IntKind.u64.wrap ((Int.tmod (rd l0 (ji21)) 4) * 64))))))))
                                  go_wp2_with (first | ((with_reducible refine gate_store (t := 37) (p := 57) rfl ?_); refine store_event (t := 37) (p := 57) (v := ?vo_w29) (w1 := (wr.setCell ⟨go14, ((ji24) : Int).toNat, none⟩ (.int .u64 (IntKind.u64.wrap ((rd x3_2 (ji24)) + (IntKind.u64.wrap (5 * (IntKind.u64.wrap ((IntKind.u64.wrap (Int.tdiv (rd l0 x5_2) 4)) + (IntKind.u64.wrap ((Int.tmod (rd l0 (ji21)) 4) * 64))))))))))) ?hg ?ho ?hn ?hr ?_; (case ho => rfl); (case hg => rfl); (case hn => rfl); (case hr => first | (go_simp; done) | (go_simp; rfl)); intro w29 hw; have hg : wr.grownBy w29 (some go14) := (by rw [hw]; exact HP28.2); have hp_ : Kd.R (Kd.int .u64) 37 w29 w.heap.size (fun _ => True) (.slice (some ⟨go14, 0, none⟩) x3_2.length co14) y136 := (by rw [hw, Ny136.out]; exact HP28.1); clear HP28; have n0_ := Aside0.mk (hp_); have n1_ := Aside0.mk ((by rw [hw]; exact below_set (HB.out) GB14.out : Below w.heap.size w w29)); clear HO_3; clear HB; have HO_3 := n0_; have HB := n1_; clear n0_ n1_; clear hg hw hp_))
                                  (try simp only [← hl3_2])
                                  go_roundg k2
                                  case measure => have := HK1.out; have := HK2.out; omega
                                  case rel => exact ⟨(y136), (ji21), (by first | rfl | (simp; done) | (simp only [← hji21] <;> (first | rfl | simp)) | (simp [*]; done)), H', ⟨by have := HK1.out; have := HK2.out; omega⟩, ⟨by (try simp only [hl3_2]); (with_reducible repeat (first | apply Kd.R_alloc | apply Kd.R_drewN | apply Kd.R_drew)); exact HO_3.out⟩, ⟨by repeat (first | (with_reducible first | exact HB.out | apply below_alloc | apply pw_below_drewN | apply below_drew1) | exact HB.out)⟩⟩
                                · rw [if_neg c26] at H
                                  exact absurd H (by simp)
                              · rw [if_neg c25] at H
                                exact absurd H (by simp)
                            · rw [if_neg c23] at H
                              exact absurd H (by simp)
                          · rw [if_neg c22] at H
                            exact absurd H (by simp)
                        · rw [if_neg c20] at H
                          have c20b0 : decide ((wrap64 (x5_2 + 1)) < 34) = false := decide_eq_false c20
                          clear c20
                          obtain ⟨ji30, hji30⟩ : ∃ j_ : Int, (wrap64 (x5_2 - 16)) = j_ := ⟨_, rfl⟩
                          replace H : (if 0 ≤ (ji30) then (if (ji30) < (x3_2.length : Int) then (mailcoachref05_fold.l1 k2 l0 (x3_2.set ((ji30) : Int).toNat (IntKind.u64.wrap ((rd x3_2 (ji30)) + (IntKind.u64.wrap (5 * (IntKind.u64.wrap (Int.tdiv (rd l0 x5_2) 4))))))) (wrap64 (x5_2 + 1))) else (none)) else (none)) = some r := by first | (rw [hji30] at H; exact H) | (simp only [hji30] at H ⊢; exact H)
                          have hji30w : (IntKind.i64.wrap (x5_2 - 16)) = ji30 := (i64_w _).trans hji30
                          by_cases c31 : 0 ≤ (ji30)
                          · rw [if_pos c31] at H
                            have c31b0 : decide (0 ≤ (ji30)) = true := decide_eq_true c31
                            clear c31
                            by_cases c32 : (ji30) < (x3_2.length : Int)
                            · rw [if_pos c32] at H
                              have c32b0 : decide ((ji30) < (x3_2.length : Int)) = true := decide_eq_true c32
                              clear c32
                              obtain ⟨y138, hy138⟩ : ∃ y_ : List Int, y_ = (x3_2.set ((ji30) : Int).toNat (IntKind.u64.wrap ((rd x3_2 (ji30)) + (IntKind.u64.wrap (5 * (IntKind.u64.wrap (Int.tdiv (rd l0 x5_2) 4))))))) := ⟨_, rfl⟩
                              replace H : (mailcoachref05_fold.l1 k2 l0 y138 (wrap64 (x5_2 + 1))) = some r := by first | (rw [hy138]; with_reducible exact H) | (have H2_ := (Option.bind_some _ _).symm.trans H; rw [hy138]; with_reducible exact H2_) | (have H2_ := (Option.bind_some _ _).symm.trans H; with_reducible exact H2_) | with_reducible exact H | (rw [hy138]; exact H) | exact H
                              have Ny138 := Aside0.mk hy138
                              clear hy138
                              have H' := Aside0.mk H
                              clear H
                              have p133 : 0 ≤ (x5_2 : Int) := of_decide_eq_true (by first | (with_reducible assumption) | assumption)
                              have q133 : x5_2 < (l0.length : Int) := of_decide_eq_true (by first | (with_reducible assumption) | assumption)
                              obtain ⟨ad133, e133, hx133_0⟩ := Kd.at_int HR0.out x5_2 p133 q133
                              obtain rfl : ad131 = ad133 := (by injection e133)
                              replace hx133_0 := (HB.out.cell (World.block_lt_of_cell? w _ hx133_0)).trans hx133_0
                              replace p133 := eq_true p133
                              replace q133 := eq_true q133
                              have p137 : 0 ≤ ((ji30) : Int) := of_decide_eq_true (by first | (with_reducible assumption) | assumption)
                              have q137 : (ji30) < (x3_2.length : Int) := of_decide_eq_true (by first | (with_reducible assumption) | assumption)
                              obtain ⟨ad137, e137, hx137_0⟩ := Kd.at_int (Kd.R_reads' HO_3.out).2.2 (ji30) p137 q137
                              obtain rfl : (⟨go14, 0, none⟩ : Addr) = ad137 := (by injection e137)
                              (first | simp only [add_plain] at hx137_0 | simp only [add_at] at hx137_0 | simp only [Addr.add, Nat.zero_add] at hx137_0 | skip)
                              replace p137 := eq_true p137
                              replace q137 := eq_true q137
                              have p33 : 0 ≤ ((ji30) : Int) := of_decide_eq_true (by first | (with_reducible assumption) | assumption)
                              have q33 : ((ji30) : Int) < ((x3_2.length : Int) : Int) := of_decide_eq_true (by first | (with_reducible assumption) | assumption)
                              obtain ⟨hx33_0, hf33_0⟩ := Kd.R_celln 0 HO_3.out ((ji30) : Int) p33 q33
                              replace p33 := eq_true p33
                              replace q33 := eq_true q33
                              have HP34 := Kd.R_putg HO_3.out ((ji30) : Int) (IntKind.u64.wrap ((rd x3_2 (ji30)) + (IntKind.u64.wrap (5 * (IntKind.u64.wrap (Int.tdiv (rd l0 x5_2) 4))))))
                              go_wp2_with (first | ((with_reducible refine gate_store (t := 37) (p := 57) rfl ?_); refine store_event (t := 37) (p := 57) (v := ?vo_w35) (w1 := (wr.setCell ⟨go14, ((ji30) : Int).toNat, none⟩ (.int .u64 (IntKind.u64.wrap ((rd x3_2 (ji30)) + (IntKind.u64.wrap (5 * (IntKind.u64.wrap (Int.tdiv (rd l0 x5_2) 4))))))))) ?hg ?ho ?hn ?hr ?_; (case ho => rfl); (case hg => rfl); (case hn => rfl); (case hr => first | (go_simp; done) | (go_simp; rfl)); intro w35 hw; have hg : wr.grownBy w35 (some go14) := (by rw [hw]; exact HP34.2); have hp_ : Kd.R (Kd.int .u64) 37 w35 w.heap.size (fun _ => True) (.slice (some ⟨go14, 0, none⟩) x3_2.length co14) y138 := (by rw [hw, Ny138.out]; exact HP34.1); clear HP34; have n0_ := Aside0.mk (hp_); have n1_ := Aside0.mk ((by rw [hw]; exact below_set (HB.out) GB14.out : Below w.heap.size w w35)); clear HO_3; clear HB; have HO_3 := n0_; have HB := n1_; clear n0_ n1_; clear hg hw hp_))
                              (try simp only [← hl3_2])
                              go_roundg k2
                              case measure => have := HK1.out; have := HK2.out; omega
                              case rel => exact ⟨(y138), (wrap64 (x5_2 + 1)), (by first | rfl | (simp; done) | (simp [*]; done)), H', ⟨by have := HK1.out; have := HK2.out; omega⟩, ⟨by (try simp only [hl3_2]); (with_reducible repeat (first | apply Kd.R_alloc | apply Kd.R_drewN | apply Kd.R_drew)); exact HO_3.out⟩, ⟨by repeat (first | (with_reducible first | exact HB.out | apply below_alloc | apply pw_below_drewN | apply below_drew1) | exact HB.out)⟩⟩
                            · rw [if_neg c32] at H
                              exact absurd H (by simp)
                          · rw [if_neg c31] at H
                            exact absurd H (by simp)
                      · rw [if_neg c19] at H
                        exact absurd H (by simp)
                    · rw [if_neg c18] at H
                      exact absurd H (by simp)
                  · rw [if_neg c17] at H
                    have c17b0 : decide (x5_2 < 34) = false := decide_eq_false c17
                    clear c17
                    replace H := Option.bind_eq_some_iff.mp H
                    obtain ⟨t139, A360, H⟩ := H
                    replace H : (some t139) = some r := H
                    have A36 := Aside0.mk A360
                    clear A360
                    obtain rfl := Option.some.inj H
                    go_wp2_with (first | ((with_reducible refine gate_callee (f := 30) rfl ?_); refine goesL_ (some 59) rfl rfl Try.func30 (by kernel_rfl) rfl #[.slice (some ⟨go14, 0, none⟩) x3_2.length co14, .int .i64 34] rfl (by (try simp only [List.map_toArray, List.map_cons, List.map_nil]); first | done | rfl | (simp only [List.length_drop, List.length_take]; rfl)) ?_; (with_reducible refine (mailcoachref05_carried.calls k2 _ _ x3_2 34 t139 _ ?side1 ?side2 A36.out).mono ?_); (case side1 => repeat (first | exact (Kd.R_reads' HO_3.out).2.2 | (with_reducible refine Kd.C_alloc ?_ _) | (with_reducible refine Kd.C_drewN ?_ _) | (with_reducible refine Kd.C_drew ?_))); (case side2 => exact (Kd.R_reads' HO_3.out).2.1); rintro e w37 ⟨v140, rfl, ho0, hb⟩; refine ⟨_, rfl, ?_⟩; have n0_ := Aside0.mk (Kd.R_elder' (by (with_reducible repeat (first | apply Kd.R_alloc | apply Kd.R_drewN | apply Kd.R_drew)); exact HO_3.out) (Kd.R_base ho0) hb); have n1_ := Aside0.mk (Kd.R_lower (Kd.R_new' ho0 (Kd.R_lt (by (with_reducible repeat (first | apply Kd.R_alloc | apply Kd.R_drewN | apply Kd.R_drew)); exact HO_3.out))) (below_size (by repeat (first | (with_reducible first | exact HB.out | apply below_alloc | apply pw_below_drewN | apply below_drew1) | exact HB.out)))); have n2_ := Aside0.mk (below_step (by repeat (first | (with_reducible first | exact HB.out | apply below_alloc | apply pw_below_drewN | apply below_drew1) | exact HB.out)) hb); clear HO_3; clear HB; have HO_3 := n0_; have HO141 := n1_; have HB := n2_; clear n0_ n1_ n2_; (try clear hb); (try clear hb2); (try clear hk); (try clear hi); (try clear ho0)))
                    go_ret
                    exact ⟨_, by first | rfl | (simp [errW_none, errW_some] <;> rfl) | (simp [*, errW_none, errW_some] <;> rfl), by (with_reducible repeat (first | apply Kd.R_alloc | apply Kd.R_drewN | apply Kd.R_drew)); exact Kd.R_mono HO141.out (fun _ hk => trivial), by repeat (first | (with_reducible first | exact HB.out | apply below_alloc | apply pw_below_drewN | apply below_drew1) | exact HB.out)⟩
            · rw [if_neg c13] at H
              exact absurd H (by simp)
          · rw [if_neg c12] at H
            exact absurd H (by simp)
  · rw [if_neg c2] at H
    exact absurd H (by simp)

end Go.Proofs.Ytlhhjdhbkhjhjaa.PPolyTags
