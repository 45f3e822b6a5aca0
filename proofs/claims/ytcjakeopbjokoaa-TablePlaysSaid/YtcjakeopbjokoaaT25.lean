/- TablePlays, the walk: whatever comes, and whatever room there is. -/
import Derived.Test.YtcjakeopbjokoaaT10
import Derived.Test.YtcjakeopbjokoaaT24
namespace Go.Proofs.Ytcjakeopbjokoaa.Tb
open Go.RowKit Go.Proofs.YtcjakeopbjokoaaW.PrintWords Go.Proofs.YtcjakeopbjokoaaW.PrintLast Go.Proofs.YtcjakeopbjokoaaW.PrintMore Mem
set_option linter.unusedVariables false
set_option linter.unusedSimpArgs false
set_option maxHeartbeats 8000000 in
set_option maxRecDepth 100000 in
theorem plays_walk (room : Int) (ad : Option Addr) (l : List Ac) (cap : Nat) (w : World) (hr : RAc w ad l) (hl : l.length ≤ 4398046511000) (hf : ∀ a ∈ l, (0 ≤ a.k ∧ a.k ≤ 255) ∧ a.f.1.length ≤ 1125899906842624 ∧ a.f.2.length ≤ 1125899906842624) :
    Calls Try.prog 6 #[.int .i64 room, .slice ad l.length cap] w fun e w' => e = .returned (.bool true) ∧ Below w.heap.size w w' := by
  have HR := Hide.mk hr
  have HF := Hide.mk hf
  have HL := Hide.mk hl
  clear hr hf hl
  go_enter Try.func6, Try.ntmps6
  go_wp2_with fail
  go_loopw [5, 6] (fun n i wr => ∃ (A : Int) (k : Nat), k ≤ l.length ∧ n = .int .i64 A ∧ i = .int .i64 k ∧ Below w.heap.size w wr) (fun _ i _ => l.length - (intOf i).toNat)
  case atStart => exact ⟨0, 0, Nat.zero_le _, rfl, rfl, Below.refl _ _⟩
  case round =>
    obtain ⟨A, k, hk, rfl, rfl, hb⟩ := hrel
    have HB := Hide.mk hb
    clear hb
    by_cases hlt : k < l.length
    · obtain ⟨b, o, rfl, hbw, hx⟩ := rac_at HR.out k hlt
      have hx := range_below (w0 := w) hx HB.out hbw
      generalize l.getD k a0 = x at hx
      have c0 : wr.cell? ⟨b, o + k * 4 + 1, none⟩ = some (.string ⟨x.f.1.toArray⟩) := hx 1 _ rfl
      have c1 : wr.cell? ⟨b, o + k * 4 + 2, none⟩ = some (.string ⟨x.f.2.toArray⟩) := hx 2 _ rfl
      clear hx
      have hd : decide ((k : Int) < (l.length : Int)) = true := by simp; omega
      have hi1 : (k : Int) < (l.length : Int) := by omega
      have hi0 : (0 : Int) ≤ (k : Int) := Int.natCast_nonneg _
      have hw : IntKind.i64.wrap ((k : Int) + 1) = (k : Int) + 1 := IntWalk.i64_in _ (by have := HL.out; omega)
      go_wp2_with fail
      refine Plan.region_plan (fun w' => w'.cell? ⟨b, o + k * 4 + 1, none⟩ = some (.string ⟨x.f.1.toArray⟩) ∧ w'.cell? ⟨b, o + k * 4 + 2, none⟩ = some (.string ⟨x.f.2.toArray⟩)) [] [(0, 0, some 25), (1, 0, some 26), (2, 0, some 27), (3, 0, some 28), (4, 0, some 29), (5, 0, some 30), (6, 0, some 31), (7, 0, some 32), (8, 0, some 33), (9, 0, some 34), (10, 0, some 35), (11, 0, some 36), (12, 0, some 37), (13, 0, some 38), (14, 0, some 39), (15, 0, some 40), (16, 0, some 41), (17, 0, some 42), (18, 0, some 5)] (by kernel_rfl) (by kernel_rfl) (by decide) ⟨c0, c1⟩ (fun wz ewz hS => ?_)
      have HBz := Hide.mk (below_of_drew ewz HB.out)
      clear ewz HB c0 c1
      (repeat (first | (refine Plan.plan_take (v := ?_) (a' := ?_) rfl ?_ ?_ ?_ ?_; rotate_left 2; (· rfl); (· (intro w' hs; go_simp; with_reducible rfl)); (· (simp only [Act.put, List.setIfInBounds_toArray, List.set_cons_zero, List.set_cons_succ]; rfl))) | (refine Plan.plan_skip (a' := ?_) rfl ?_ ?_ ?_; rotate_left 1; (· rfl); (· (simp only [Act.put, List.setIfInBounds_toArray, List.set_cons_zero, List.set_cons_succ]; rfl))) | (refine Plan.plan_pure (v := ?_) (a' := ?_) rfl ?_ ?_ ?_ ?_; rotate_left 2; (· rfl); (· (intro w'; go_simp; with_reducible rfl)); (· (simp only [Act.put, List.setIfInBounds_toArray, List.set_cons_zero, List.set_cons_succ]; rfl)))))
      refine Plan.plan_nil ?_
      clear hS
      go_wp2_with fail
      go_roundw
      case rel => exact ⟨_, k + 1, by omega, rfl, by go_num, HBz.out⟩
      case measure => simp [intOf]; omega
    · obtain rfl : k = l.length := by omega
      have hd : decide ((l.length : Int) < (l.length : Int)) = false := by simp
      by_cases hA : 50000 < A
      · have hA2 : decide (50000 < A) = true := by simp [hA]
        go_wp2_with (go_at_call 11; refine (lives_any _).mono ?_; rintro e w2 ⟨rfl, hb2⟩)
        go_ret
        exact ⟨rfl, below_step HB.out hb2⟩
      · have hA2 : decide (50000 < A) = false := by simp [hA]
        by_cases h20 : 2000 < l.length
        · have h202 : decide ((2000 : Int) < (l.length : Int)) = true := by simp; omega
          go_wp2_with (go_at_call 11; refine (lives_any _).mono ?_; rintro e w2 ⟨rfl, hb2⟩)
          go_ret
          exact ⟨rfl, below_step HB.out hb2⟩
        · have h202 : decide ((2000 : Int) < (l.length : Int)) = false := by simp; omega
          have HL2 : Hide (l.length ≤ 2000) := ⟨by omega⟩
          clear hk hlt hA
          by_cases hbad : room < 0 ∨ 4096 < room
          · go_wp2_with fail
            refine (new_bad room _ hbad).mono ?_
            rintro e w1 ⟨rfl, hb⟩
            have HB1 := Hide.mk (below_step HB.out hb)
            clear hb HB
            go_wp2_with fail
            refine (rnew_bad room _ hbad).mono ?_
            rintro e w2 ⟨rfl, hb⟩
            have HB2 := Hide.mk (below_step HB1.out hb)
            clear hb HB1
            go_wp2_with fail
            refine (get_nil 0 _).mono ?_
            rintro e w3 ⟨rfl, hb⟩
            have HB3 := Hide.mk (below_step HB2.out hb)
            clear hb HB2
            go_wp2_with (first | ((with_reducible refine gate_dst (N := 11) rfl ?_); refine box_event ?hg (N := 11) ?hd (cs := fa [([], [])]) (t := 23) ?hr ?_; (case hd => rfl); (case hg => rfl); (case hr => kernel_rfl); intro g11 hg w4 hbox hb; have BKg11 := Hide.mk hbox; have HB4 := Hide.mk (below_step HB3.out hb); have GEg11 : w.heap.size ≤ g11 := (by rw [hg]; exact HB3.out.size); clear HB3; clear hbox hb hg) | ((with_reducible refine gate_store (p := 11) (v := .tmp 76) rfl ?_); go_must (refine store_row rfl rfl 23 (.tmp 11) (.tmp 76) rfl g11 rfl (fa [([], [])]) rfl (fa_one _) (by rw [fa_size]; kernel_rfl) _ _ BKg11.out rfl ?_); intro w4b hb ho; have HB5 := Hide.mk (ho.below HB4.out GEg11); clear HB4 BKg11; clear hb ho) | ((with_reducible refine gate_dst (N := 79) rfl ?_); refine Kd.event_run rfl (v := fv ([], [])) ?hr ?_; (case hr => kernel_rfl)))
            refine (add_nil ([], []) _).mono ?_
            rintro e w6 ⟨rfl, hb⟩
            have HB6 := Hide.mk (below_step HB5.out hb)
            clear hb HB5
            go_wp2_with fail
            refine (room_nil 0 _).mono ?_
            rintro e w7 ⟨rfl, hb⟩
            have HB7 := Hide.mk (below_step HB6.out hb)
            clear hb HB6
            go_wp2_with fail
            refine (came_nil _).mono ?_
            rintro e w8 ⟨rfl, hb⟩
            have HB8 := Hide.mk (below_step HB7.out hb)
            clear hb HB7
            go_wp2_with fail
            refine (gone_nil _).mono ?_
            rintro e w9 ⟨rfl, hb⟩
            have HB9 := Hide.mk (below_step HB8.out hb)
            clear hb HB8
            go_wp2_with fail
            refine (size_nil _).mono ?_
            rintro e w10 ⟨rfl, hb⟩
            have HB10 := Hide.mk (below_step HB9.out hb)
            clear hb HB9
            go_wp2_with fail
            refine (lives_any _).mono ?_
            rintro e w11 ⟨rfl, hb⟩
            have HB11 := Hide.mk (below_step HB10.out hb)
            clear hb HB10
            go_wp2_with fail
            go_ret
            exact ⟨rfl, HB11.out⟩
          · have hm0 : 0 ≤ room := by omega
            have hm1 : room ≤ 4096 := by omega
            clear hbad
            go_wp2_with fail
            refine (new_good room _ hm0 hm1).mono ?_
            rintro e w1 ⟨g, rfl, hb1, hgg, hT⟩
            have HB1 := Hide.mk (below_step HB.out hb1)
            have HT1 := Hide.mk (hT w.heap.size HB.out.size)
            clear hb1 hgg hT
            go_wp2_with fail
            refine (rnew_good room _ hm0 hm1).mono ?_
            rintro e w2 ⟨gr, rfl, hb2, hgg, hT⟩
            have HP : Hide (Pt w w2 g gr (.slice none 0 0) (.slice none 0 0) ⟨room, 0, 0, []⟩ ⟨room, 0, 0, []⟩) := ⟨⟨HT1.out.below hb2, hT w.heap.size HB1.out.size, (by have := HT1.out.lt; omega), (by intro e; cases e), (by intro e; cases e), (by intro k e; cases e), below_step HB1.out hb2⟩⟩
            clear hb2 hgg hT HB1 HT1 HB hd hA2 h202
            go_wp2_with fail
            go_loopw [13] (fun i wr => ∃ (k : Nat) (v v2 : Value) (t : TS), k ≤ l.length ∧ i = .int .i64 k ∧ Pt w wr g gr v v2 t t ∧ TOk t ∧ t.gone + (t.l.length : Int) ≤ k) (fun i _ => l.length - (intOf i).toNat)
            case atStart => exact ⟨0, _, _, _, Nat.zero_le _, rfl, HP.out, ⟨rfl, by show (0 : Int) ≤ 4096; decide, hm0, hm1, by show (0 : Int) ≤ 0; decide, by show (0 : Int) + (([] : List F).length : Int) ≤ 4611686018427387904; decide⟩, by show (0 : Int) + (([] : List F).length : Int) ≤ 0; decide⟩
            case round =>
              clear HP
              obtain ⟨k, v, v2, t, hk, rfl, hP, hO, hcnt⟩ := hrel
              have HP := Hide.mk hP
              have HO := Hide.mk hO
              have HCN := Hide.mk hcnt
              clear hP hO hcnt
              by_cases hlt : k < l.length
              · obtain ⟨b, o, rfl, hbw, hx⟩ := rac_at HR.out k hlt
                have hff := HF.out _ (getD_memA hlt)
                generalize l.getD k a0 = x at hx hff
                have HX := Hide.mk (range_below (w0 := w) hx HP.out.low hbw)
                clear hx
                obtain ⟨xk, xf, xn⟩ := x
                obtain ⟨⟨hk0, hk1⟩, hf1, hf2⟩ := hff
                have hd : decide ((k : Int) < (l.length : Int)) = true := by simp; omega
                have hi1 : (k : Int) < (l.length : Int) := by omega
                have hi0 : (0 : Int) ≤ (k : Int) := Int.natCast_nonneg _
                have hw : IntKind.i64.wrap ((k : Int) + 1) = (k : Int) + 1 := IntWalk.i64_in _ (by have := HL.out; omega)
                have HG : Hide (0 ≤ t.gone ∧ t.gone + t.l.length ≤ 4611686018427387904) := ⟨HO.out.gone0, HO.out.gone1⟩
                have hj : xk % 4 = 0 ∨ xk % 4 = 1 ∨ xk % 4 = 2 ∨ xk % 4 = 3 := by omega
                have ht : xk.tmod 4 = xk % 4 := Int.tmod_eq_emod_of_nonneg hk0
                rcases hj with hj | hj | hj | hj
                · rw [hj] at ht
                  go_wp2_with (first | ((with_reducible refine gate_dst (N := 116) rfl ?_); refine wpList_load_mid rfl 46 (.tmp 115) rfl b (o + k * 4) rfl (acl ⟨xk, xf, xn⟩) _ HX.out Try.underlying46 rfl (by kernel_rfl) ?_) | ((with_reducible refine gate_dst (N := 14) rfl ?_); refine box_event ?hg (N := 14) ?hd (cs := (acl a0).toArray) (t := 46) ?hr ?_; (case hd => rfl); (case hg => rfl); (case hr => kernel_rfl); intro q hg w6 hbox hb; have BKq := Hide.mk hbox; have NGq : Hide (∀ k, (k = g ∨ k = gr ∨ v.ownBlock = some k ∨ v2.ownBlock = some k) → k ≠ q) := ⟨fun k hk e => (by have := HP.out.lt k hk; omega)⟩; have GEq : w.heap.size ≤ q := (by rw [hg]; exact HP.out.low.size); have HP6 := Hide.mk (HP.out.below hb); clear HX hbox hb hg) | ((with_reducible refine gate_store (p := 14) (v := .tmp 116) rfl ?_); go_must (refine store_row rfl rfl 46 (.tmp 14) (.tmp 116) rfl q rfl ((acl ⟨xk, xf, xn⟩).toArray) rfl (acl_one _) (by kernel_rfl) _ _ BKq.out rfl ?_); intro w7 hb ho; have BKq7 := Hide.mk hb; have HP7 := Hide.mk (HP6.out.only ho GEq NGq.out); clear hb ho BKq HP6; have cq0 : w7.cell? ⟨q, 0, none⟩ = some (.int .u8 xk) := (blk_cell BKq7.out 0).trans rfl; have cq3 : w7.cell? ⟨q, 3, none⟩ = some (.int .i64 xn) := (blk_cell BKq7.out 3).trans rfl))
                  have hrq : w7.rangeAt q 1 [sv xf.1, sv xf.2] := fun j u hj => (by have := blk_cell BKq7.out (1 + j); rw [this]; match j, hj with | 0, hj => exact hj | 1, hj => exact hj)
                  clear cq0 cq3
                  refine Plan.region_plan (fun w' => w'.rangeAt q 1 [sv xf.1, sv xf.2]) [] [(0, 0, some 147), (1, 0, some 148), (2, 0, some 149), (4, 0, some 151), (5, 0, some 152), (6, 0, some 153), (3, 1, some 150), (7, 1, some 154), (8, 0, some 155)] (by kernel_rfl) (by kernel_rfl) (by decide) hrq (fun wz ewz hS => ?_)
                  have HP8 := Hide.mk (HP7.out.drew ewz)
                  have LQ8 : q < wz.heap.size := (by have := blk_lt (blk_of_drew ewz BKq7.out); exact this)
                  clear ewz HP7 BKq7 hrq
                  (repeat (first | (refine Plan.plan_take (v := ?_) (a' := ?_) rfl ?_ ?_ ?_ ?_; rotate_left 2; (· rfl); (· (intro w' hs; go_simp; with_reducible rfl)); (· (simp only [Act.put, List.setIfInBounds_toArray, List.set_cons_zero, List.set_cons_succ]; rfl))) | (refine Plan.plan_skip (a' := ?_) rfl ?_ ?_ ?_; rotate_left 1; (· rfl); (· (simp only [Act.put, List.setIfInBounds_toArray, List.set_cons_zero, List.set_cons_succ]; rfl))) | (refine Plan.plan_pure (v := ?_) (a' := ?_) rfl ?_ ?_ ?_ ?_; rotate_left 2; (· rfl); (· (intro w'; go_simp; with_reducible rfl)); (· (simp only [Act.put, List.setIfInBounds_toArray, List.set_cons_zero, List.set_cons_succ]; rfl)))))
                  refine Plan.plan_load_mid (a' := ?_) rfl rfl 23 (.tmp 148) rfl q 1 rfl [sv xf.1, sv xf.2] _ (fun _ h => h) Try.underlying23 rfl (by kernel_rfl) ?_ ?_
                  rotate_left
                  · simp only [Act.put, List.setIfInBounds_toArray, List.set_cons_zero, List.set_cons_succ]
                    rfl
                  (repeat (first | (refine Plan.plan_take (v := ?_) (a' := ?_) rfl ?_ ?_ ?_ ?_; rotate_left 2; (· rfl); (· (intro w' hs; go_simp; with_reducible rfl)); (· (simp only [Act.put, List.setIfInBounds_toArray, List.set_cons_zero, List.set_cons_succ]; rfl))) | (refine Plan.plan_skip (a' := ?_) rfl ?_ ?_ ?_; rotate_left 1; (· rfl); (· (simp only [Act.put, List.setIfInBounds_toArray, List.set_cons_zero, List.set_cons_succ]; rfl))) | (refine Plan.plan_pure (v := ?_) (a' := ?_) rfl ?_ ?_ ?_ ?_; rotate_left 2; (· rfl); (· (intro w'; go_simp; with_reducible rfl)); (· (simp only [Act.put, List.setIfInBounds_toArray, List.set_cons_zero, List.set_cons_succ]; rfl)))))
                  refine Plan.plan_load_mid (a' := ?_) rfl rfl 23 (.tmp 152) rfl q 1 rfl [sv xf.1, sv xf.2] _ (fun _ h => h) Try.underlying23 rfl (by kernel_rfl) ?_ ?_
                  rotate_left
                  · simp only [Act.put, List.setIfInBounds_toArray, List.set_cons_zero, List.set_cons_succ]
                    rfl
                  (repeat (first | (refine Plan.plan_take (v := ?_) (a' := ?_) rfl ?_ ?_ ?_ ?_; rotate_left 2; (· rfl); (· (intro w' hs; go_simp; with_reducible rfl)); (· (simp only [Act.put, List.setIfInBounds_toArray, List.set_cons_zero, List.set_cons_succ]; rfl))) | (refine Plan.plan_skip (a' := ?_) rfl ?_ ?_ ?_; rotate_left 1; (· rfl); (· (simp only [Act.put, List.setIfInBounds_toArray, List.set_cons_zero, List.set_cons_succ]; rfl))) | (refine Plan.plan_pure (v := ?_) (a' := ?_) rfl ?_ ?_ ?_ ?_; rotate_left 2; (· rfl); (· (intro w'; go_simp; with_reducible rfl)); (· (simp only [Act.put, List.setIfInBounds_toArray, List.set_cons_zero, List.set_cons_succ]; rfl)))))
                  refine Plan.plan_call rfl Try.func13 (by kernel_rfl) rfl #[.pointer (some ⟨g, 0, none⟩), fv xf] rfl rfl rfl (by (try simp only [List.map_toArray, List.map_cons, List.map_nil]); rfl) ?_
                  refine (add_any w.heap.size g v t xf _ HP8.out.tab HO.out (by have := HCN.out; omega) hf1 hf2 HP8.out.low.size).mono ?_
                  rintro e w9 ⟨rfl, va, hT, hU, hv⟩
                  have HP9 := Hide.mk (HP8.out.updA hT hU (by rcases hv with hv | hv; exact .inl hv; exact .inr (.inr hv)))
                  have hS2 : w9.rangeAt q 1 [sv xf.1, sv xf.2] := range_upd hS hU LQ8 (Ne.symm (NGq.out g (.inl rfl))) (fun e => NGq.out q (.inr (.inr (.inl e))) rfl)
                  have LQ9 : q < w9.heap.size := Nat.lt_of_lt_of_le LQ8 hU.size
                  refine ⟨_, rfl, hS2, ?_⟩
                  clear hT hU hv HP8 hS
                  intro a' ha
                  simp only [Act.put, List.setIfInBounds_toArray, List.set_cons_zero, List.set_cons_succ] at ha
                  subst ha
                  (repeat (first | (refine Plan.plan_take (v := ?_) (a' := ?_) rfl ?_ ?_ ?_ ?_; rotate_left 2; (· rfl); (· (intro w' hs; go_simp; with_reducible rfl)); (· (simp only [Act.put, List.setIfInBounds_toArray, List.set_cons_zero, List.set_cons_succ]; rfl))) | (refine Plan.plan_skip (a' := ?_) rfl ?_ ?_ ?_; rotate_left 1; (· rfl); (· (simp only [Act.put, List.setIfInBounds_toArray, List.set_cons_zero, List.set_cons_succ]; rfl))) | (refine Plan.plan_pure (v := ?_) (a' := ?_) rfl ?_ ?_ ?_ ?_; rotate_left 2; (· rfl); (· (intro w'; go_simp; with_reducible rfl)); (· (simp only [Act.put, List.setIfInBounds_toArray, List.set_cons_zero, List.set_cons_succ]; rfl)))))
                  refine Plan.plan_call rfl Try.func20 (by kernel_rfl) rfl #[.pointer (some ⟨gr, 0, none⟩), fv xf] rfl rfl rfl (by (try simp only [List.map_toArray, List.map_cons, List.map_nil]); rfl) ?_
                  refine (radd_any w.heap.size gr v2 t xf _ HP9.out.rtab HO.out (by have := HCN.out; omega) hf1 hf2 HP9.out.low.size).mono ?_
                  rintro e w10 ⟨rfl, vb, hT, hU, hv⟩
                  have HP10 := Hide.mk (HP9.out.updB hT hU hv)
                  have hS3 : w10.rangeAt q 1 [sv xf.1, sv xf.2] := range_upd hS2 hU LQ9 (Ne.symm (NGq.out gr (.inr (.inl rfl)))) (fun e => NGq.out q (.inr (.inr (.inr e))) rfl)
                  refine ⟨_, rfl, hS3, ?_⟩
                  clear hT hU hv HP9 hS2
                  intro a' ha
                  simp only [Act.put, List.setIfInBounds_toArray, List.set_cons_zero, List.set_cons_succ] at ha
                  subst ha
                  have HO2 := Hide.mk (addT_ok HO.out xf (by have := HCN.out; omega)).1
                  have HC2 := Hide.mk (addT_cnt HO.out xf k HCN.out)
                  generalize addT t xf = tn at HP10 HO2 HC2
                  generalize addC t xf = ec
                  have HG2 : Hide (0 ≤ tn.gone ∧ tn.gone + tn.l.length ≤ 4611686018427387904) := ⟨HO2.out.gone0, HO2.out.gone1⟩
                  (repeat (first | (refine Plan.plan_take (v := ?_) (a' := ?_) rfl ?_ ?_ ?_ ?_; rotate_left 2; (· rfl); (· (intro w' hs; go_simp; with_reducible rfl)); (· (simp only [Act.put, List.setIfInBounds_toArray, List.set_cons_zero, List.set_cons_succ]; rfl))) | (refine Plan.plan_skip (a' := ?_) rfl ?_ ?_ ?_; rotate_left 1; (· rfl); (· (simp only [Act.put, List.setIfInBounds_toArray, List.set_cons_zero, List.set_cons_succ]; rfl))) | (refine Plan.plan_pure (v := ?_) (a' := ?_) rfl ?_ ?_ ?_ ?_; rotate_left 2; (· rfl); (· (intro w'; go_simp; with_reducible rfl)); (· (simp only [Act.put, List.setIfInBounds_toArray, List.set_cons_zero, List.set_cons_succ]; rfl)))))
                  refine Plan.plan_nil ?_
                  clear hS3 NGq
                  go_wp2_with fail
                  refine (came_any w.heap.size g _ _ _ HP10.out.tab HG2.out).mono ?_
                  rintro e wa1 ⟨rfl, hb⟩
                  have HQ1 := Hide.mk (HP10.out.below hb)
                  clear hb HP10
                  go_wp2_with fail
                  refine (rcame_any w.heap.size gr _ _ _ HQ1.out.rtab HG2.out).mono ?_
                  rintro e wa2 ⟨rfl, hb⟩
                  have HQ2 := Hide.mk (HQ1.out.below hb)
                  clear hb HQ1
                  go_wp2_with fail
                  refine (gone_any w.heap.size g _ _ _ HQ2.out.tab).mono ?_
                  rintro e wa3 ⟨rfl, hb⟩
                  have HQ3 := Hide.mk (HQ2.out.below hb)
                  clear hb HQ2
                  go_wp2_with fail
                  refine (rgone_any w.heap.size gr _ _ _ HQ3.out.rtab).mono ?_
                  rintro e wa4 ⟨rfl, hb⟩
                  have HQ4 := Hide.mk (HQ3.out.below hb)
                  clear hb HQ3
                  go_wp2_with fail
                  refine (size_any w.heap.size g _ _ _ HQ4.out.tab).mono ?_
                  rintro e wa5 ⟨rfl, hb⟩
                  have HQ5 := Hide.mk (HQ4.out.below hb)
                  clear hb HQ4
                  go_wp2_with fail
                  refine (rsize_any w.heap.size gr _ _ _ HQ5.out.rtab HO2.out.small).mono ?_
                  rintro e wa6 ⟨rfl, hb⟩
                  have HQ6 := Hide.mk (HQ5.out.below hb)
                  clear hb HQ5
                  rw [← HO2.out.size]
                  go_wp2_with fail
                  go_roundw
                  case rel => exact ⟨k + 1, _, _, _, by omega, by go_num, HQ6.out, HO2.out, HC2.out⟩
                  case measure => simp [intOf]; omega
                · rw [hj] at ht
                  go_wp2_with (first | ((with_reducible refine gate_dst (N := 116) rfl ?_); refine wpList_load_mid rfl 46 (.tmp 115) rfl b (o + k * 4) rfl (acl ⟨xk, xf, xn⟩) _ HX.out Try.underlying46 rfl (by kernel_rfl) ?_) | ((with_reducible refine gate_dst (N := 14) rfl ?_); refine box_event ?hg (N := 14) ?hd (cs := (acl a0).toArray) (t := 46) ?hr ?_; (case hd => rfl); (case hg => rfl); (case hr => kernel_rfl); intro q hg w6 hbox hb; have BKq := Hide.mk hbox; have NGq : Hide (∀ k, (k = g ∨ k = gr ∨ v.ownBlock = some k ∨ v2.ownBlock = some k) → k ≠ q) := ⟨fun k hk e => (by have := HP.out.lt k hk; omega)⟩; have GEq : w.heap.size ≤ q := (by rw [hg]; exact HP.out.low.size); have HP6 := Hide.mk (HP.out.below hb); clear HX hbox hb hg) | ((with_reducible refine gate_store (p := 14) (v := .tmp 116) rfl ?_); go_must (refine store_row rfl rfl 46 (.tmp 14) (.tmp 116) rfl q rfl ((acl ⟨xk, xf, xn⟩).toArray) rfl (acl_one _) (by kernel_rfl) _ _ BKq.out rfl ?_); intro w7 hb ho; have BKq7 := Hide.mk hb; have HP7 := Hide.mk (HP6.out.only ho GEq NGq.out); clear hb ho BKq HP6; have cq0 : w7.cell? ⟨q, 0, none⟩ = some (.int .u8 xk) := (blk_cell BKq7.out 0).trans rfl; have cq3 : w7.cell? ⟨q, 3, none⟩ = some (.int .i64 xn) := (blk_cell BKq7.out 3).trans rfl))
                  have hrq : w7.rangeAt q 1 [sv xf.1, sv xf.2] := fun j u hj => (by have := blk_cell BKq7.out (1 + j); rw [this]; match j, hj with | 0, hj => exact hj | 1, hj => exact hj)
                  clear cq0 cq3
                  refine Plan.region_plan (fun w' => w'.rangeAt q 1 [sv xf.1, sv xf.2]) [] [(0, 0, some 147), (1, 0, some 148), (2, 0, some 149), (4, 0, some 151), (5, 0, some 152), (6, 0, some 153), (3, 1, some 150), (7, 1, some 154), (8, 0, some 155)] (by kernel_rfl) (by kernel_rfl) (by decide) hrq (fun wz ewz hS => ?_)
                  have HP8 := Hide.mk (HP7.out.drew ewz)
                  have LQ8 : q < wz.heap.size := (by have := blk_lt (blk_of_drew ewz BKq7.out); exact this)
                  clear ewz HP7 BKq7 hrq
                  (repeat (first | (refine Plan.plan_take (v := ?_) (a' := ?_) rfl ?_ ?_ ?_ ?_; rotate_left 2; (· rfl); (· (intro w' hs; go_simp; with_reducible rfl)); (· (simp only [Act.put, List.setIfInBounds_toArray, List.set_cons_zero, List.set_cons_succ]; rfl))) | (refine Plan.plan_skip (a' := ?_) rfl ?_ ?_ ?_; rotate_left 1; (· rfl); (· (simp only [Act.put, List.setIfInBounds_toArray, List.set_cons_zero, List.set_cons_succ]; rfl))) | (refine Plan.plan_pure (v := ?_) (a' := ?_) rfl ?_ ?_ ?_ ?_; rotate_left 2; (· rfl); (· (intro w'; go_simp; with_reducible rfl)); (· (simp only [Act.put, List.setIfInBounds_toArray, List.set_cons_zero, List.set_cons_succ]; rfl)))))
                  refine Plan.plan_load_mid (a' := ?_) rfl rfl 23 (.tmp 148) rfl q 1 rfl [sv xf.1, sv xf.2] _ (fun _ h => h) Try.underlying23 rfl (by kernel_rfl) ?_ ?_
                  rotate_left
                  · simp only [Act.put, List.setIfInBounds_toArray, List.set_cons_zero, List.set_cons_succ]
                    rfl
                  (repeat (first | (refine Plan.plan_take (v := ?_) (a' := ?_) rfl ?_ ?_ ?_ ?_; rotate_left 2; (· rfl); (· (intro w' hs; go_simp; with_reducible rfl)); (· (simp only [Act.put, List.setIfInBounds_toArray, List.set_cons_zero, List.set_cons_succ]; rfl))) | (refine Plan.plan_skip (a' := ?_) rfl ?_ ?_ ?_; rotate_left 1; (· rfl); (· (simp only [Act.put, List.setIfInBounds_toArray, List.set_cons_zero, List.set_cons_succ]; rfl))) | (refine Plan.plan_pure (v := ?_) (a' := ?_) rfl ?_ ?_ ?_ ?_; rotate_left 2; (· rfl); (· (intro w'; go_simp; with_reducible rfl)); (· (simp only [Act.put, List.setIfInBounds_toArray, List.set_cons_zero, List.set_cons_succ]; rfl)))))
                  refine Plan.plan_load_mid (a' := ?_) rfl rfl 23 (.tmp 152) rfl q 1 rfl [sv xf.1, sv xf.2] _ (fun _ h => h) Try.underlying23 rfl (by kernel_rfl) ?_ ?_
                  rotate_left
                  · simp only [Act.put, List.setIfInBounds_toArray, List.set_cons_zero, List.set_cons_succ]
                    rfl
                  (repeat (first | (refine Plan.plan_take (v := ?_) (a' := ?_) rfl ?_ ?_ ?_ ?_; rotate_left 2; (· rfl); (· (intro w' hs; go_simp; with_reducible rfl)); (· (simp only [Act.put, List.setIfInBounds_toArray, List.set_cons_zero, List.set_cons_succ]; rfl))) | (refine Plan.plan_skip (a' := ?_) rfl ?_ ?_ ?_; rotate_left 1; (· rfl); (· (simp only [Act.put, List.setIfInBounds_toArray, List.set_cons_zero, List.set_cons_succ]; rfl))) | (refine Plan.plan_pure (v := ?_) (a' := ?_) rfl ?_ ?_ ?_ ?_; rotate_left 2; (· rfl); (· (intro w'; go_simp; with_reducible rfl)); (· (simp only [Act.put, List.setIfInBounds_toArray, List.set_cons_zero, List.set_cons_succ]; rfl)))))
                  refine Plan.plan_call rfl Try.func13 (by kernel_rfl) rfl #[.pointer (some ⟨g, 0, none⟩), fv xf] rfl rfl rfl (by (try simp only [List.map_toArray, List.map_cons, List.map_nil]); rfl) ?_
                  refine (add_any w.heap.size g v t xf _ HP8.out.tab HO.out (by have := HCN.out; omega) hf1 hf2 HP8.out.low.size).mono ?_
                  rintro e w9 ⟨rfl, va, hT, hU, hv⟩
                  have HP9 := Hide.mk (HP8.out.updA hT hU (by rcases hv with hv | hv; exact .inl hv; exact .inr (.inr hv)))
                  have hS2 : w9.rangeAt q 1 [sv xf.1, sv xf.2] := range_upd hS hU LQ8 (Ne.symm (NGq.out g (.inl rfl))) (fun e => NGq.out q (.inr (.inr (.inl e))) rfl)
                  have LQ9 : q < w9.heap.size := Nat.lt_of_lt_of_le LQ8 hU.size
                  refine ⟨_, rfl, hS2, ?_⟩
                  clear hT hU hv HP8 hS
                  intro a' ha
                  simp only [Act.put, List.setIfInBounds_toArray, List.set_cons_zero, List.set_cons_succ] at ha
                  subst ha
                  (repeat (first | (refine Plan.plan_take (v := ?_) (a' := ?_) rfl ?_ ?_ ?_ ?_; rotate_left 2; (· rfl); (· (intro w' hs; go_simp; with_reducible rfl)); (· (simp only [Act.put, List.setIfInBounds_toArray, List.set_cons_zero, List.set_cons_succ]; rfl))) | (refine Plan.plan_skip (a' := ?_) rfl ?_ ?_ ?_; rotate_left 1; (· rfl); (· (simp only [Act.put, List.setIfInBounds_toArray, List.set_cons_zero, List.set_cons_succ]; rfl))) | (refine Plan.plan_pure (v := ?_) (a' := ?_) rfl ?_ ?_ ?_ ?_; rotate_left 2; (· rfl); (· (intro w'; go_simp; with_reducible rfl)); (· (simp only [Act.put, List.setIfInBounds_toArray, List.set_cons_zero, List.set_cons_succ]; rfl)))))
                  refine Plan.plan_call rfl Try.func20 (by kernel_rfl) rfl #[.pointer (some ⟨gr, 0, none⟩), fv xf] rfl rfl rfl (by (try simp only [List.map_toArray, List.map_cons, List.map_nil]); rfl) ?_
                  refine (radd_any w.heap.size gr v2 t xf _ HP9.out.rtab HO.out (by have := HCN.out; omega) hf1 hf2 HP9.out.low.size).mono ?_
                  rintro e w10 ⟨rfl, vb, hT, hU, hv⟩
                  have HP10 := Hide.mk (HP9.out.updB hT hU hv)
                  have hS3 : w10.rangeAt q 1 [sv xf.1, sv xf.2] := range_upd hS2 hU LQ9 (Ne.symm (NGq.out gr (.inr (.inl rfl)))) (fun e => NGq.out q (.inr (.inr (.inr e))) rfl)
                  refine ⟨_, rfl, hS3, ?_⟩
                  clear hT hU hv HP9 hS2
                  intro a' ha
                  simp only [Act.put, List.setIfInBounds_toArray, List.set_cons_zero, List.set_cons_succ] at ha
                  subst ha
                  have HO2 := Hide.mk (addT_ok HO.out xf (by have := HCN.out; omega)).1
                  have HC2 := Hide.mk (addT_cnt HO.out xf k HCN.out)
                  generalize addT t xf = tn at HP10 HO2 HC2
                  generalize addC t xf = ec
                  have HG2 : Hide (0 ≤ tn.gone ∧ tn.gone + tn.l.length ≤ 4611686018427387904) := ⟨HO2.out.gone0, HO2.out.gone1⟩
                  (repeat (first | (refine Plan.plan_take (v := ?_) (a' := ?_) rfl ?_ ?_ ?_ ?_; rotate_left 2; (· rfl); (· (intro w' hs; go_simp; with_reducible rfl)); (· (simp only [Act.put, List.setIfInBounds_toArray, List.set_cons_zero, List.set_cons_succ]; rfl))) | (refine Plan.plan_skip (a' := ?_) rfl ?_ ?_ ?_; rotate_left 1; (· rfl); (· (simp only [Act.put, List.setIfInBounds_toArray, List.set_cons_zero, List.set_cons_succ]; rfl))) | (refine Plan.plan_pure (v := ?_) (a' := ?_) rfl ?_ ?_ ?_ ?_; rotate_left 2; (· rfl); (· (intro w'; go_simp; with_reducible rfl)); (· (simp only [Act.put, List.setIfInBounds_toArray, List.set_cons_zero, List.set_cons_succ]; rfl)))))
                  refine Plan.plan_nil ?_
                  clear hS3 NGq
                  go_wp2_with fail
                  refine (came_any w.heap.size g _ _ _ HP10.out.tab HG2.out).mono ?_
                  rintro e wa1 ⟨rfl, hb⟩
                  have HQ1 := Hide.mk (HP10.out.below hb)
                  clear hb HP10
                  go_wp2_with fail
                  refine (rcame_any w.heap.size gr _ _ _ HQ1.out.rtab HG2.out).mono ?_
                  rintro e wa2 ⟨rfl, hb⟩
                  have HQ2 := Hide.mk (HQ1.out.below hb)
                  clear hb HQ1
                  go_wp2_with fail
                  refine (gone_any w.heap.size g _ _ _ HQ2.out.tab).mono ?_
                  rintro e wa3 ⟨rfl, hb⟩
                  have HQ3 := Hide.mk (HQ2.out.below hb)
                  clear hb HQ2
                  go_wp2_with fail
                  refine (rgone_any w.heap.size gr _ _ _ HQ3.out.rtab).mono ?_
                  rintro e wa4 ⟨rfl, hb⟩
                  have HQ4 := Hide.mk (HQ3.out.below hb)
                  clear hb HQ3
                  go_wp2_with fail
                  refine (size_any w.heap.size g _ _ _ HQ4.out.tab).mono ?_
                  rintro e wa5 ⟨rfl, hb⟩
                  have HQ5 := Hide.mk (HQ4.out.below hb)
                  clear hb HQ4
                  go_wp2_with fail
                  refine (rsize_any w.heap.size gr _ _ _ HQ5.out.rtab HO2.out.small).mono ?_
                  rintro e wa6 ⟨rfl, hb⟩
                  have HQ6 := Hide.mk (HQ5.out.below hb)
                  clear hb HQ5
                  rw [← HO2.out.size]
                  go_wp2_with fail
                  go_roundw
                  case rel => exact ⟨k + 1, _, _, _, by omega, by go_num, HQ6.out, HO2.out, HC2.out⟩
                  case measure => simp [intOf]; omega
                · rw [hj] at ht
                  go_wp2_with (first | ((with_reducible refine gate_dst (N := 116) rfl ?_); refine wpList_load_mid rfl 46 (.tmp 115) rfl b (o + k * 4) rfl (acl ⟨xk, xf, xn⟩) _ HX.out Try.underlying46 rfl (by kernel_rfl) ?_) | ((with_reducible refine gate_dst (N := 14) rfl ?_); refine box_event ?hg (N := 14) ?hd (cs := (acl a0).toArray) (t := 46) ?hr ?_; (case hd => rfl); (case hg => rfl); (case hr => kernel_rfl); intro q hg w6 hbox hb; have BKq := Hide.mk hbox; have NGq : Hide (∀ k, (k = g ∨ k = gr ∨ v.ownBlock = some k ∨ v2.ownBlock = some k) → k ≠ q) := ⟨fun k hk e => (by have := HP.out.lt k hk; omega)⟩; have GEq : w.heap.size ≤ q := (by rw [hg]; exact HP.out.low.size); have HP6 := Hide.mk (HP.out.below hb); clear HX hbox hb hg) | ((with_reducible refine gate_store (p := 14) (v := .tmp 116) rfl ?_); go_must (refine store_row rfl rfl 46 (.tmp 14) (.tmp 116) rfl q rfl ((acl ⟨xk, xf, xn⟩).toArray) rfl (acl_one _) (by kernel_rfl) _ _ BKq.out rfl ?_); intro w7 hb ho; have BKq7 := Hide.mk hb; have HP7 := Hide.mk (HP6.out.only ho GEq NGq.out); clear hb ho BKq HP6; have cq0 : w7.cell? ⟨q, 0, none⟩ = some (.int .u8 xk) := (blk_cell BKq7.out 0).trans rfl; have cq3 : w7.cell? ⟨q, 3, none⟩ = some (.int .i64 xn) := (blk_cell BKq7.out 3).trans rfl))
                  clear cq0
                  refine Plan.region_plan (fun w' => w'.cell? ⟨q, 3, none⟩ = some (.int .i64 xn)) [] [(0, 0, some 158), (1, 0, some 159), (2, 0, some 160), (4, 0, some 162), (5, 0, some 163), (6, 0, some 164), (3, 1, some 161), (7, 1, some 165), (8, 0, some 166)] (by kernel_rfl) (by kernel_rfl) (by decide) cq3 (fun wz ewz hS => ?_)
                  have HP8 := Hide.mk (HP7.out.drew ewz)
                  have LQ8 : q < wz.heap.size := (by have := blk_lt (blk_of_drew ewz BKq7.out); exact this)
                  clear ewz HP7 BKq7 cq3
                  (repeat (first | (refine Plan.plan_take (v := ?_) (a' := ?_) rfl ?_ ?_ ?_ ?_; rotate_left 2; (· rfl); (· (intro w' hs; go_simp; with_reducible rfl)); (· (simp only [Act.put, List.setIfInBounds_toArray, List.set_cons_zero, List.set_cons_succ]; rfl))) | (refine Plan.plan_skip (a' := ?_) rfl ?_ ?_ ?_; rotate_left 1; (· rfl); (· (simp only [Act.put, List.setIfInBounds_toArray, List.set_cons_zero, List.set_cons_succ]; rfl))) | (refine Plan.plan_pure (v := ?_) (a' := ?_) rfl ?_ ?_ ?_ ?_; rotate_left 2; (· rfl); (· (intro w'; go_simp; with_reducible rfl)); (· (simp only [Act.put, List.setIfInBounds_toArray, List.set_cons_zero, List.set_cons_succ]; rfl)))))
                  refine Plan.plan_call rfl Try.func19 (by kernel_rfl) rfl #[.pointer (some ⟨g, 0, none⟩), .int .i64 xn] rfl rfl rfl (by (try simp only [List.map_toArray, List.map_cons, List.map_nil]); rfl) ?_
                  refine (room_any w.heap.size g v t xn _ HP8.out.tab HO.out).mono ?_
                  rintro e w9 ⟨rfl, va, hT, hU, hv⟩
                  have HP9 := Hide.mk (HP8.out.updA hT hU (.inl hv))
                  have hS2 : w9.cell? ⟨q, 3, none⟩ = some (.int .i64 xn) := (World.cell?_of_block (a := ⟨q, 3, none⟩) (hU.block q LQ8 (Ne.symm (NGq.out g (.inl rfl))) (fun e => NGq.out q (.inr (.inr (.inl e.symm))) rfl))).trans hS
                  have LQ9 : q < w9.heap.size := Nat.lt_of_lt_of_le LQ8 hU.size
                  refine ⟨_, rfl, hS2, ?_⟩
                  clear hT hU hv HP8 hS
                  intro a' ha
                  simp only [Act.put, List.setIfInBounds_toArray, List.set_cons_zero, List.set_cons_succ] at ha
                  subst ha
                  (repeat (first | (refine Plan.plan_take (v := ?_) (a' := ?_) rfl ?_ ?_ ?_ ?_; rotate_left 2; (· rfl); (· (intro w' hs; go_simp; with_reducible rfl)); (· (simp only [Act.put, List.setIfInBounds_toArray, List.set_cons_zero, List.set_cons_succ]; rfl))) | (refine Plan.plan_skip (a' := ?_) rfl ?_ ?_ ?_; rotate_left 1; (· rfl); (· (simp only [Act.put, List.setIfInBounds_toArray, List.set_cons_zero, List.set_cons_succ]; rfl))) | (refine Plan.plan_pure (v := ?_) (a' := ?_) rfl ?_ ?_ ?_ ?_; rotate_left 2; (· rfl); (· (intro w'; go_simp; with_reducible rfl)); (· (simp only [Act.put, List.setIfInBounds_toArray, List.set_cons_zero, List.set_cons_succ]; rfl)))))
                  refine Plan.plan_call rfl Try.func21 (by kernel_rfl) rfl #[.pointer (some ⟨gr, 0, none⟩), .int .i64 xn] rfl rfl rfl (by (try simp only [List.map_toArray, List.map_cons, List.map_nil]); rfl) ?_
                  refine (rroom_any w.heap.size gr v2 t xn _ HP9.out.rtab HO.out HP9.out.low.size).mono ?_
                  rintro e w10 ⟨rfl, vb, hT, hU, hv⟩
                  have HP10 := Hide.mk (HP9.out.updB hT hU hv)
                  have hS3 : w10.cell? ⟨q, 3, none⟩ = some (.int .i64 xn) := (World.cell?_of_block (a := ⟨q, 3, none⟩) (hU.block q LQ9 (Ne.symm (NGq.out gr (.inr (.inl rfl)))) (fun e => NGq.out q (.inr (.inr (.inr e.symm))) rfl))).trans hS2
                  refine ⟨_, rfl, hS3, ?_⟩
                  clear hT hU hv HP9 hS2
                  intro a' ha
                  simp only [Act.put, List.setIfInBounds_toArray, List.set_cons_zero, List.set_cons_succ] at ha
                  subst ha
                  have HO2 := Hide.mk (roomT_ok HO.out xn).1
                  have HC2 : Hide ((roomT t xn).gone + ((roomT t xn).l.length : Int) ≤ ((k + 1 : Nat) : Int)) := ⟨by rw [(roomT_ok HO.out xn).2]; have := HCN.out; omega⟩
                  generalize roomT t xn = tn at HP10 HO2 HC2
                  generalize roomC xn = ec
                  have HG2 : Hide (0 ≤ tn.gone ∧ tn.gone + tn.l.length ≤ 4611686018427387904) := ⟨HO2.out.gone0, HO2.out.gone1⟩
                  (repeat (first | (refine Plan.plan_take (v := ?_) (a' := ?_) rfl ?_ ?_ ?_ ?_; rotate_left 2; (· rfl); (· (intro w' hs; go_simp; with_reducible rfl)); (· (simp only [Act.put, List.setIfInBounds_toArray, List.set_cons_zero, List.set_cons_succ]; rfl))) | (refine Plan.plan_skip (a' := ?_) rfl ?_ ?_ ?_; rotate_left 1; (· rfl); (· (simp only [Act.put, List.setIfInBounds_toArray, List.set_cons_zero, List.set_cons_succ]; rfl))) | (refine Plan.plan_pure (v := ?_) (a' := ?_) rfl ?_ ?_ ?_ ?_; rotate_left 2; (· rfl); (· (intro w'; go_simp; with_reducible rfl)); (· (simp only [Act.put, List.setIfInBounds_toArray, List.set_cons_zero, List.set_cons_succ]; rfl)))))
                  refine Plan.plan_nil ?_
                  clear hS3 NGq
                  go_wp2_with fail
                  refine (came_any w.heap.size g _ _ _ HP10.out.tab HG2.out).mono ?_
                  rintro e wa1 ⟨rfl, hb⟩
                  have HQ1 := Hide.mk (HP10.out.below hb)
                  clear hb HP10
                  go_wp2_with fail
                  refine (rcame_any w.heap.size gr _ _ _ HQ1.out.rtab HG2.out).mono ?_
                  rintro e wa2 ⟨rfl, hb⟩
                  have HQ2 := Hide.mk (HQ1.out.below hb)
                  clear hb HQ1
                  go_wp2_with fail
                  refine (gone_any w.heap.size g _ _ _ HQ2.out.tab).mono ?_
                  rintro e wa3 ⟨rfl, hb⟩
                  have HQ3 := Hide.mk (HQ2.out.below hb)
                  clear hb HQ2
                  go_wp2_with fail
                  refine (rgone_any w.heap.size gr _ _ _ HQ3.out.rtab).mono ?_
                  rintro e wa4 ⟨rfl, hb⟩
                  have HQ4 := Hide.mk (HQ3.out.below hb)
                  clear hb HQ3
                  go_wp2_with fail
                  refine (size_any w.heap.size g _ _ _ HQ4.out.tab).mono ?_
                  rintro e wa5 ⟨rfl, hb⟩
                  have HQ5 := Hide.mk (HQ4.out.below hb)
                  clear hb HQ4
                  go_wp2_with fail
                  refine (rsize_any w.heap.size gr _ _ _ HQ5.out.rtab HO2.out.small).mono ?_
                  rintro e wa6 ⟨rfl, hb⟩
                  have HQ6 := Hide.mk (HQ5.out.below hb)
                  clear hb HQ5
                  rw [← HO2.out.size]
                  go_wp2_with fail
                  go_roundw
                  case rel => exact ⟨k + 1, _, _, _, by omega, by go_num, HQ6.out, HO2.out, HC2.out⟩
                  case measure => simp [intOf]; omega
                · rw [hj] at ht
                  obtain ⟨xu, hxu⟩ : ∃ xu, IntKind.u64.wrap xn = xu := ⟨_, rfl⟩
                  have hxu0 : 0 ≤ xu ∧ xu ≤ 18446744073709551615 := by rw [← hxu, IntKind.wrap_u64]; omega
                  have hxu2 : xn % 18446744073709551616 = xu := by rw [← hxu, IntKind.wrap_u64]
                  obtain ⟨y, ec, hgv⟩ := getV_form t xu
                  have HGV := Hide.mk hgv
                  clear hgv
                  go_wp2_with (first | ((with_reducible refine gate_dst (N := 116) rfl ?_); refine wpList_load_mid rfl 46 (.tmp 115) rfl b (o + k * 4) rfl (acl ⟨xk, xf, xn⟩) _ HX.out Try.underlying46 rfl (by kernel_rfl) ?_) | ((with_reducible refine gate_dst (N := 14) rfl ?_); refine box_event ?hg (N := 14) ?hd (cs := (acl a0).toArray) (t := 46) ?hr ?_; (case hd => rfl); (case hg => rfl); (case hr => kernel_rfl); intro q hg w6 hbox hb; have BKq := Hide.mk hbox; have NGq : Hide (∀ k, (k = g ∨ k = gr ∨ v.ownBlock = some k ∨ v2.ownBlock = some k) → k ≠ q) := ⟨fun k hk e => (by have := HP.out.lt k hk; omega)⟩; have GEq : w.heap.size ≤ q := (by rw [hg]; exact HP.out.low.size); have HP6 := Hide.mk (HP.out.below hb); clear HX hbox hb hg) | ((with_reducible refine gate_store (p := 14) (v := .tmp 116) rfl ?_); go_must (refine store_row rfl rfl 46 (.tmp 14) (.tmp 116) rfl q rfl ((acl ⟨xk, xf, xn⟩).toArray) rfl (acl_one _) (by kernel_rfl) _ _ BKq.out rfl ?_); intro w7 hb ho; have BKq7 := Hide.mk hb; have HP7 := Hide.mk (HP6.out.only ho GEq NGq.out); clear hb ho BKq HP6; have cq0 : w7.cell? ⟨q, 0, none⟩ = some (.int .u8 xk) := (blk_cell BKq7.out 0).trans rfl; have cq3 : w7.cell? ⟨q, 3, none⟩ = some (.int .i64 xn) := (blk_cell BKq7.out 3).trans rfl))
                  refine (get_any w.heap.size g v t xu _ HP7.out.tab HG.out hxu0.1 hxu0.2).mono ?_
                  rintro e w8 ⟨rfl, hb⟩
                  rw [HGV.out]
                  have HP8 := Hide.mk (HP7.out.below hb)
                  have BKq8 := Hide.mk (blk_below BKq7.out hb)
                  clear hb HP7 BKq7 cq0 cq3
                  go_wp2_with (first | ((with_reducible refine gate_dst (N := 15) rfl ?_); refine box_event ?hg (N := 15) ?hd (cs := fa [([], [])]) (t := 23) ?hr ?_; (case hd => rfl); (case hg => rfl); (case hr => kernel_rfl); intro p1 hg w9 hbox hb; have BKp1 := Hide.mk hbox; have NGp1 : Hide (∀ k, (k = g ∨ k = gr ∨ v.ownBlock = some k ∨ v2.ownBlock = some k) → k ≠ p1) := ⟨fun k hk e => (by have := HP8.out.lt k hk; omega)⟩; have GEp1 : w.heap.size ≤ p1 := (by rw [hg]; exact HP8.out.low.size); have HP9 := Hide.mk (HP8.out.below hb); have BKq9 := Hide.mk (blk_below BKq8.out hb); have Lqp1 : q < p1 := (by rw [hg]; exact blk_lt BKq8.out); clear hbox hb hg) | ((with_reducible refine gate_store (p := 15) (v := .tmp 126) rfl ?_); go_must (refine store_row rfl rfl 23 (.tmp 15) (.tmp 126) rfl p1 rfl (fa [y]) rfl (fa_one _) (by rw [fa_size]; kernel_rfl) _ _ BKp1.out rfl ?_); intro w10 hb ho; have BKp1' := Hide.mk hb; have HP10 := Hide.mk (HP9.out.only ho GEp1 NGp1.out); have cq4 : w10.cell? ⟨q, 3, none⟩ = some (.int .i64 xn) := (blk_cell (ho.blk BKq9.out (by omega)) 3).trans rfl; clear BKp1 HP9; have BKp1 := BKp1'; clear BKp1'; clear hb ho))
                  refine (rget_any w.heap.size gr v2 t xu _ HP10.out.rtab HG.out hxu0.1 hxu0.2).mono ?_
                  rintro e w11 ⟨rfl, hb⟩
                  rw [HGV.out]
                  have HP11 := Hide.mk (HP10.out.below hb)
                  have BKp11 := Hide.mk (blk_below BKp1.out hb)
                  clear hb HP10 cq4 BKq8 BKq9 BKp1
                  have hyy : (!decide (y = y)) = false := by simp
                  go_wp2_with (first | ((with_reducible refine gate_dst (N := 17) rfl ?_); refine box_event ?hg (N := 17) ?hd (cs := fa [([], [])]) (t := 23) ?hr ?_; (case hd => rfl); (case hg => rfl); (case hr => kernel_rfl); intro p2 hg w12 hbox hb; have BKp2 := Hide.mk hbox; have NGp2 : Hide (∀ k, (k = g ∨ k = gr ∨ v.ownBlock = some k ∨ v2.ownBlock = some k) → k ≠ p2) := ⟨fun k hk e => (by have := HP11.out.lt k hk; omega)⟩; have GEp2 : w.heap.size ≤ p2 := (by rw [hg]; exact HP11.out.low.size); have HP12 := Hide.mk (HP11.out.below hb); have BKp12 := Hide.mk (blk_below BKp11.out hb); have Lp1p2 : p1 < p2 := (by rw [hg]; exact blk_lt BKp11.out); clear hbox hb hg) | ((with_reducible refine gate_store (p := 17) (v := .tmp 134) rfl ?_); go_must (refine store_row rfl rfl 23 (.tmp 17) (.tmp 134) rfl p2 rfl (fa [y]) rfl (fa_one _) (by rw [fa_size]; kernel_rfl) _ _ BKp2.out rfl ?_); intro w13 hb ho; have BKp2' := Hide.mk hb; have HP13 := Hide.mk (HP12.out.only ho GEp2 NGp2.out); have BKp13 := Hide.mk (ho.blk BKp12.out (by omega)); clear BKp2 HP12; have BKp2 := BKp2'; clear BKp2'; clear hb ho) | ((with_reducible refine gate_dst (N := 136) rfl ?_); refine wpList_load_row rfl 23 (.tmp 15) rfl p1 rfl 23 (fa [y]) (0, 0) _ BKp13.out Try.underlying23 rfl ?hsz ?_; (case hsz => kernel_rfl)) | ((with_reducible refine gate_dst (N := 137) rfl ?_); refine wpList_load_row rfl 23 (.tmp 17) rfl p2 rfl 23 (fa [y]) (0, 0) _ BKp2.out Try.underlying23 rfl ?hsz ?_; (case hsz => kernel_rfl)) | ((with_reducible refine gate_dst (N := 138) rfl ?_); refine Kd.event_run rfl (neStep2 rfl rfl rfl) ?_))
                  have HO2 := HO
                  have HG2 := HG
                  have HC2 : Hide (t.gone + (t.l.length : Int) ≤ ((k + 1 : Nat) : Int)) := ⟨by have := HCN.out; omega⟩
                  refine (came_any w.heap.size g _ _ _ HP13.out.tab HG2.out).mono ?_
                  rintro e wa1 ⟨rfl, hb⟩
                  have HQ1 := Hide.mk (HP13.out.below hb)
                  clear hb HP13
                  go_wp2_with fail
                  refine (rcame_any w.heap.size gr _ _ _ HQ1.out.rtab HG2.out).mono ?_
                  rintro e wa2 ⟨rfl, hb⟩
                  have HQ2 := Hide.mk (HQ1.out.below hb)
                  clear hb HQ1
                  go_wp2_with fail
                  refine (gone_any w.heap.size g _ _ _ HQ2.out.tab).mono ?_
                  rintro e wa3 ⟨rfl, hb⟩
                  have HQ3 := Hide.mk (HQ2.out.below hb)
                  clear hb HQ2
                  go_wp2_with fail
                  refine (rgone_any w.heap.size gr _ _ _ HQ3.out.rtab).mono ?_
                  rintro e wa4 ⟨rfl, hb⟩
                  have HQ4 := Hide.mk (HQ3.out.below hb)
                  clear hb HQ3
                  go_wp2_with fail
                  refine (size_any w.heap.size g _ _ _ HQ4.out.tab).mono ?_
                  rintro e wa5 ⟨rfl, hb⟩
                  have HQ5 := Hide.mk (HQ4.out.below hb)
                  clear hb HQ4
                  go_wp2_with fail
                  refine (rsize_any w.heap.size gr _ _ _ HQ5.out.rtab HO2.out.small).mono ?_
                  rintro e wa6 ⟨rfl, hb⟩
                  have HQ6 := Hide.mk (HQ5.out.below hb)
                  clear hb HQ5
                  rw [← HO2.out.size]
                  go_wp2_with fail
                  go_roundw
                  case rel => exact ⟨k + 1, _, _, _, by omega, by go_num, HQ6.out, HO2.out, HC2.out⟩
                  case measure => simp [intOf]; omega
              · obtain rfl : k = l.length := by omega
                have hd : decide ((l.length : Int) < (l.length : Int)) = false := by simp
                go_wp2_with fail
                refine (lives_any _).mono ?_
                rintro e w3 ⟨rfl, hb3⟩
                have HB3 := Hide.mk (below_step HP.out.low hb3)
                clear hb3
                go_wp2_with fail
                go_ret
                exact ⟨rfl, HB3.out⟩
end Go.Proofs.Ytcjakeopbjokoaa.Tb
