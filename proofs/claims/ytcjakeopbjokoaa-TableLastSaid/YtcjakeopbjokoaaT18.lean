/- TableLast, the walk: those that are there are the last ones that came. -/
import Derived.Test.YtcjakeopbjokoaaT10
import Derived.Test.YtcjakeopbjokoaaT17
namespace Go.Proofs.Ytcjakeopbjokoaa.Tb
open Go.RowKit Go.Proofs.YtcjakeopbjokoaaW.PrintWords Go.Proofs.YtcjakeopbjokoaaW.PrintLast Go.Proofs.YtcjakeopbjokoaaW.PrintMore Mem
set_option linter.unusedVariables false
set_option linter.unusedSimpArgs false
set_option maxHeartbeats 4000000 in
set_option maxRecDepth 100000 in
theorem last_walk (room : Int) (a0 : Option Addr) (l : List F) (cap : Nat) (w : World) (h0 : 0 ≤ room) (h1 : room ≤ 65535) (hr : RF w a0 l) (hl : l.length ≤ 4398046511000) (hf : ∀ f ∈ l, f.1.length ≤ 1125899906842624 ∧ f.2.length ≤ 1125899906842624) :
    Calls Try.prog 4 #[.int .u16 room, .slice a0 l.length cap] w fun e w' => e = .returned (.bool true) ∧ Below w.heap.size w w' := by
  have HR := Hide.mk hr
  have HF := Hide.mk hf
  have HL := Hide.mk hl
  clear hr hf hl
  go_enter Try.func4, Try.ntmps4
  go_wp2_with fail
  go_loopw [5, 6] (fun n i wr => ∃ (A : Int) (k : Nat), k ≤ l.length ∧ n = .int .i64 A ∧ i = .int .i64 k ∧ Below w.heap.size w wr) (fun _ i _ => l.length - (intOf i).toNat)
  case atStart => exact ⟨0, 0, Nat.zero_le _, rfl, rfl, Below.refl _ _⟩
  case round =>
    obtain ⟨A, k, hk, rfl, rfl, hb⟩ := hrel
    have HB := Hide.mk hb
    clear hb
    by_cases hlt : k < l.length
    · obtain ⟨b, o, rfl, hbw, hx⟩ := rf_at HR.out k hlt
      have hx := range_below (w0 := w) hx HB.out hbw
      generalize l.getD k ([], []) = x at hx
      have c0 : wr.cell? ⟨b, o + k * 2, none⟩ = some (.string ⟨x.1.toArray⟩) := hx 0 _ rfl
      have c1 : wr.cell? ⟨b, o + k * 2 + 1, none⟩ = some (.string ⟨x.2.toArray⟩) := hx 1 _ rfl
      clear hx
      have hd : decide ((k : Int) < (l.length : Int)) = true := by simp; omega
      have hi1 : (k : Int) < (l.length : Int) := by omega
      have hi0 : (0 : Int) ≤ (k : Int) := Int.natCast_nonneg _
      have hw : IntKind.i64.wrap ((k : Int) + 1) = (k : Int) + 1 := IntWalk.i64_in _ (by have := HL.out; omega)
      go_wp2_with fail
      refine Plan.region_plan (fun w' => w'.cell? ⟨b, o + k * 2, none⟩ = some (.string ⟨x.1.toArray⟩) ∧ w'.cell? ⟨b, o + k * 2 + 1, none⟩ = some (.string ⟨x.2.toArray⟩)) [] [(0, 0, some 24), (1, 0, some 25), (2, 0, some 26), (3, 0, some 27), (4, 0, some 28), (5, 0, some 29), (6, 0, some 30), (7, 0, some 31), (8, 0, some 32), (9, 0, some 33), (10, 0, some 34), (11, 0, some 35), (12, 0, some 36), (13, 0, some 37), (14, 0, some 38), (15, 0, some 39), (16, 0, some 5)] (by kernel_rfl) (by kernel_rfl) (by decide) ⟨c0, c1⟩ (fun wz ewz hS => ?_)
      have HBz := Hide.mk (below_of_drew ewz HB.out)
      clear ewz HB c0 c1
      (repeat (first | (refine Plan.plan_take (v := ?_) (a' := ?_) rfl ?_ ?_ ?_ ?_; rotate_left 2; (· rfl); (· (intro w' hs; go_simp; with_reducible rfl)); (· (simp only [Act.put, List.setIfInBounds_toArray, List.set_cons_zero, List.set_cons_succ]; rfl))) | (refine Plan.plan_skip (a' := ?_) rfl ?_ ?_ ?_; rotate_left 1; (· rfl); (· (simp only [Act.put, List.setIfInBounds_toArray, List.set_cons_zero, List.set_cons_succ]; rfl))) | (refine Plan.plan_pure (v := ?_) (a' := ?_) rfl ?_ ?_ ?_ ?_; rotate_left 2; (· rfl); (· (intro w'; go_simp; with_reducible rfl)); (· (simp only [Act.put, List.setIfInBounds_toArray, List.set_cons_zero, List.set_cons_succ]; rfl)))))
      refine Plan.plan_nil ?_
      clear hS
      go_wp2_with fail
      go_roundw
      case rel => exact ⟨_, k + 1, by omega, rfl, by go_num, HBz.out⟩
      case measure => simp [intOf]; omega
    · obtain rfl : k = l.length := by omega
      have hd : decide ((l.length : Int) < (l.length : Int)) = false := by simp
      by_cases hA : 50000 < A
      · have hA2 : decide (50000 < A) = true := by simp [hA]
        go_wp2_with (go_at_call 11; refine (lives_any _).mono ?_; rintro e w2 ⟨rfl, hb2⟩)
        go_ret
        exact ⟨rfl, below_step HB.out hb2⟩
      · have hA2 : decide (50000 < A) = false := by simp [hA]
        clear hk hlt hA
        have hm0 : 0 ≤ room % 4097 := by omega
        have hm1 : room % 4097 ≤ 4096 := by omega
        have hm2 : room.tmod 4097 = room % 4097 := Int.tmod_eq_emod_of_nonneg h0
        generalize room % 4097 = m at hm0 hm1 hm2
        have hmod : IntKind.i64.wrap m = m := IntWalk.i64_in _ (by omega)
        have hrw : IntKind.i64.wrap room = room := IntWalk.i64_in _ (by omega)
        go_wp2_with fail
        refine (new_good m _ hm0 hm1).mono ?_
        rintro e w1 ⟨g, rfl, hb1, hgg, hT⟩
        have HM := Hide.mk (show Mm w w1 g (.slice none 0 0) (.slice none 0 0) ⟨m, 0, 0, []⟩ [] from ⟨hT w.heap.size HB.out.size, .inl (World.ownsRow_nil _ _ _ _), (by intro e; cases e), (by intro k e; cases e), below_step HB.out hb1⟩)
        clear hb1 hgg hT HB hd hA2 hm2 hmod hrw
        go_wp2_with fail
        go_loopw [10, 11] (fun vx i wr => ∃ (k : Nat) (v vc : Value) (t : TS) (c : List F), k ≤ l.length ∧ vx = vc ∧ i = .int .i64 k ∧ Mm w wr g v vc t c ∧ Rl t m c ∧ c.length ≤ k) (fun _ i _ => l.length - (intOf i).toNat)
        case atStart => exact ⟨0, _, _, _, [], Nat.zero_le _, rfl, rfl, HM.out, ⟨⟨rfl, by show (0 : Int) ≤ 4096; decide, hm0, hm1, by show (0 : Int) ≤ 0; decide, by show (0 : Int) + (([] : List F).length : Int) ≤ 4611686018427387904; decide⟩, rfl, rfl, rfl, hm0⟩, Nat.le_refl _⟩
        case round =>
          clear HM
          obtain ⟨k, v, vc, t, c, hk, rfl, rfl, hM, hRl, hc⟩ := hrel
          have HM := Hide.mk hM
          have HRl := Hide.mk hRl
          clear hM hRl
          obtain ⟨A1, cc, rfl⟩ := HM.out.row.slice
          by_cases hlt : k < l.length
          · obtain ⟨b, o, rfl, hbw, hx⟩ := rf_at HR.out k hlt
            have hff := HF.out _ (getD_mem hlt)
            generalize l.getD k ([], []) = x at hx hff
            have HX := Hide.mk hx
            have hx := range_below (w0 := w) hx HM.out.low hbw
            have c0 : wr.cell? ⟨b, o + k * 2, none⟩ = some (.string ⟨x.1.toArray⟩) := hx 0 _ rfl
            have c1 : wr.cell? ⟨b, o + k * 2 + 1, none⟩ = some (.string ⟨x.2.toArray⟩) := hx 1 _ rfl
            clear hx
            obtain ⟨hf1, hf2⟩ := hff
            have hd : decide ((k : Int) < (l.length : Int)) = true := by simp; omega
            have hi1 : (k : Int) < (l.length : Int) := by omega
            have hi0 : (0 : Int) ≤ (k : Int) := Int.natCast_nonneg _
            have hw : IntKind.i64.wrap ((k : Int) + 1) = (k : Int) + 1 := IntWalk.i64_in _ (by have := HL.out; omega)
            have e1 : IntKind.i64.wrap ((x.1.length : Int) + (x.2.length : Int)) = (x.1.length : Int) + (x.2.length : Int) := IntWalk.i64_in _ (by omega)
            have e2 : IntKind.i64.wrap ((x.1.length : Int) + (x.2.length : Int) + 32) = (x.1.length : Int) + (x.2.length : Int) + 32 := IntWalk.i64_in _ (by omega)
            by_cases hfit : (x.1.length : Int) + (x.2.length : Int) + 32 ≤ m
            · have hfd : decide ((x.1.length : Int) + (x.2.length : Int) + 32 ≤ m) = true := by simp [hfit]
              have HA : Hide (addC t x = 0) := ⟨if_neg (by rw [HRl.out.room]; unfold fsz; omega)⟩
              go_wp2_with fail
              refine Plan.region_plan (fun w' => w'.cell? ⟨b, o + k * 2, none⟩ = some (.string ⟨x.1.toArray⟩) ∧ w'.cell? ⟨b, o + k * 2 + 1, none⟩ = some (.string ⟨x.2.toArray⟩)) [] [(0, 0, some 59), (1, 0, some 60), (2, 0, some 61), (3, 0, some 62), (4, 0, some 63), (5, 0, some 64), (6, 0, some 65), (7, 0, some 66), (8, 0, some 67), (9, 0, some 68), (10, 0, some 69), (11, 0, some 70), (12, 0, some 71), (13, 0, some 72), (14, 0, some 73), (15, 0, some 74), (16, 0, some 12)] (by kernel_rfl) (by kernel_rfl) (by decide) ⟨c0, c1⟩ (fun wz ewz hS => ?_)
              have HMz := Hide.mk (HM.out.drew ewz)
              clear ewz HM c0 c1
              (repeat (first | (refine Plan.plan_take (v := ?_) (a' := ?_) rfl ?_ ?_ ?_ ?_; rotate_left 2; (· rfl); (· (intro w' hs; go_simp; with_reducible rfl)); (· (simp only [Act.put, List.setIfInBounds_toArray, List.set_cons_zero, List.set_cons_succ]; rfl))) | (refine Plan.plan_skip (a' := ?_) rfl ?_ ?_ ?_; rotate_left 1; (· rfl); (· (simp only [Act.put, List.setIfInBounds_toArray, List.set_cons_zero, List.set_cons_succ]; rfl))) | (refine Plan.plan_pure (v := ?_) (a' := ?_) rfl ?_ ?_ ?_ ?_; rotate_left 2; (· rfl); (· (intro w'; go_simp; with_reducible rfl)); (· (simp only [Act.put, List.setIfInBounds_toArray, List.set_cons_zero, List.set_cons_succ]; rfl)))))
              refine Plan.plan_nil ?_
              clear hS e1 e2 hfd
              have HX1 := Hide.mk (range_below (w0 := w) HX.out HMz.out.low hbw)
              go_wp2_with (first | ((with_reducible refine gate_dst (N := 79) rfl ?_); refine wpList_load_mid rfl 23 (.tmp 78) rfl b (o + k * 2) rfl [sv x.1, sv x.2] _ HX1.out Try.underlying23 rfl (by kernel_rfl) ?_))
              refine (add_any w.heap.size g v t x _ HMz.out.tab HRl.out.ok (by have := HRl.out.cl; have := HL.out; omega) hf1 hf2 HMz.out.low.size).mono ?_
              rintro e w5 ⟨rfl, v5, hT, hU, hv⟩
              rw [HA.out]
              have HM5 := Hide.mk (HMz.out.upd hT hU hv)
              have HR5 := Hide.mk (HRl.out.add x (by unfold fsz; omega) (by have := HL.out; omega))
              have HX5 := Hide.mk (range_below (w0 := w) HX.out HM5.out.low hbw)
              clear hT hU hv HMz HRl HX1 HA
              generalize addT t x = t5 at HM5 HR5
              have HLc : Hide (c.length ≤ 4398046511102) := ⟨by have := HL.out; omega⟩
              go_wp2_with (first | ((with_reducible refine gate_dst (N := 98) rfl ?_); refine wpList_load_mid rfl 23 (.tmp 97) rfl b (o + k * 2) rfl [sv x.1, sv x.2] _ HX5.out Try.underlying23 rfl (by kernel_rfl) ?_) | ((with_reducible refine gate_dst (N := 99) rfl ?_); refine Kd.event_run rfl (v := .slice (some ⟨w5.heap.size, 0, none⟩) 1 1) (w1 := w5.alloc (.cells (fa [x]) 23 (0, 0))) (buildStep rfl rfl) ?_; have HN7 := Hide.mk (heap_alloc_new w5 (.cells (fa [x]) 23 (0, 0))); have HM7 := Hide.mk (HM5.out.below (below_alloc (Below.refl _ _) (.cells (fa [x]) 23 (0, 0)))); clear HM5 HX5; generalize w5.alloc (.cells (fa [x]) 23 (0, 0)) = w7 at HN7 HM7 ⊢; generalize w5.heap.size = b7 at HN7 ⊢; obtain ⟨v8, w8, hr8, hls8, hgr8, hat8⟩ := ls_append (ty := 31) HM7.out.row x (range_tbl HN7.out) HLc.out HM7.out.low.size; have HAP := Hide.mk hr8; have HM8 := Hide.mk (HM7.out.grow hls8 hgr8 hat8); clear hr8 hls8 hgr8 hat8) | ((with_reducible refine gate_dst (N := 100) rfl ?_); refine Kd.event_run rfl (v := v8) (w1 := w8) (appendStep rfl rfl rfl HAP.out) ?_; clear HAP HM7 HN7))
              go_roundw
              case rel => exact ⟨k + 1, _, _, _, _, by omega, rfl, by go_num, HM8.out, HR5.out, by simp; omega⟩
              case measure => simp [intOf]; omega
            · have hfd : decide ((x.1.length : Int) + (x.2.length : Int) + 32 ≤ m) = false := by simp [hfit]
              have HA : Hide (addC t x = 6 ∧ addT t x = t) := ⟨if_pos (by rw [HRl.out.room]; unfold fsz; omega), if_pos (by rw [HRl.out.room]; unfold fsz; omega)⟩
              go_wp2_with fail
              refine Plan.region_plan (fun w' => w'.cell? ⟨b, o + k * 2, none⟩ = some (.string ⟨x.1.toArray⟩) ∧ w'.cell? ⟨b, o + k * 2 + 1, none⟩ = some (.string ⟨x.2.toArray⟩)) [] [(0, 0, some 59), (1, 0, some 60), (2, 0, some 61), (3, 0, some 62), (4, 0, some 63), (5, 0, some 64), (6, 0, some 65), (7, 0, some 66), (8, 0, some 67), (9, 0, some 68), (10, 0, some 69), (11, 0, some 70), (12, 0, some 71), (13, 0, some 72), (14, 0, some 73), (15, 0, some 74), (16, 0, some 12)] (by kernel_rfl) (by kernel_rfl) (by decide) ⟨c0, c1⟩ (fun wz ewz hS => ?_)
              have HMz := Hide.mk (HM.out.drew ewz)
              clear ewz HM c0 c1
              (repeat (first | (refine Plan.plan_take (v := ?_) (a' := ?_) rfl ?_ ?_ ?_ ?_; rotate_left 2; (· rfl); (· (intro w' hs; go_simp; with_reducible rfl)); (· (simp only [Act.put, List.setIfInBounds_toArray, List.set_cons_zero, List.set_cons_succ]; rfl))) | (refine Plan.plan_skip (a' := ?_) rfl ?_ ?_ ?_; rotate_left 1; (· rfl); (· (simp only [Act.put, List.setIfInBounds_toArray, List.set_cons_zero, List.set_cons_succ]; rfl))) | (refine Plan.plan_pure (v := ?_) (a' := ?_) rfl ?_ ?_ ?_ ?_; rotate_left 2; (· rfl); (· (intro w'; go_simp; with_reducible rfl)); (· (simp only [Act.put, List.setIfInBounds_toArray, List.set_cons_zero, List.set_cons_succ]; rfl)))))
              refine Plan.plan_nil ?_
              clear hS e1 e2 hfd
              have HX1 := Hide.mk (range_below (w0 := w) HX.out HMz.out.low hbw)
              go_wp2_with (first | ((with_reducible refine gate_dst (N := 79) rfl ?_); refine wpList_load_mid rfl 23 (.tmp 78) rfl b (o + k * 2) rfl [sv x.1, sv x.2] _ HX1.out Try.underlying23 rfl (by kernel_rfl) ?_))
              refine (add_any w.heap.size g v t x _ HMz.out.tab HRl.out.ok (by have := HRl.out.cl; have := HL.out; omega) hf1 hf2 HMz.out.low.size).mono ?_
              rintro e w5 ⟨rfl, v5, hT, hU, hv⟩
              rw [HA.out.1]
              rw [HA.out.2] at hT
              have HM5 := Hide.mk (HMz.out.upd hT hU hv)
              clear hT hU hv HMz HX1 HA
              go_wp2_with fail
              go_roundw
              case rel => exact ⟨k + 1, _, _, _, _, by omega, rfl, by go_num, HM5.out, HRl.out, by omega⟩
              case measure => simp [intOf]; omega
          · obtain rfl : k = l.length := by omega
            have hd : decide ((l.length : Int) < (l.length : Int)) = false := by simp
            have hcl := HRl.out.cl
            have hg0 := HRl.out.ok.gone0
            have hLc := HL.out
            have hgc : 0 ≤ t.gone ∧ t.gone + t.l.length ≤ 4611686018427387904 := ⟨hg0, by omega⟩
            have hwc : IntKind.u64.wrap (c.length : Int) = (c.length : Int) := IntWalk.u64_in _ (by omega)
            have hgd : decide ((c.length : Int) < t.gone) = false := by simp; omega
            have hsm : t.size ≤ m := HRl.out.sz
            have hsd : decide (m < t.size) = false := by simp; omega
            go_wp2_with fail
            refine (came_any w.heap.size g v t _ HM.out.tab hgc).mono ?_
            rintro e w1b ⟨rfl, hb⟩
            rw [hcl]
            have HM1 := Hide.mk (HM.out.below hb)
            clear hb HM
            go_wp2_with fail
            refine (gone_any w.heap.size g v t _ HM1.out.tab).mono ?_
            rintro e w2b ⟨rfl, hb⟩
            have HM2 := Hide.mk (HM1.out.below hb)
            clear hb HM1
            go_wp2_with fail
            refine (came_any w.heap.size g v t _ HM2.out.tab hgc).mono ?_
            rintro e w3b ⟨rfl, hb⟩
            rw [hcl]
            have HM3 := Hide.mk (HM2.out.below hb)
            clear hb HM2
            go_wp2_with fail
            refine (size_any w.heap.size g v t _ HM3.out.tab).mono ?_
            rintro e w4b ⟨rfl, hb⟩
            have HM4 := Hide.mk (HM3.out.below hb)
            clear hb HM3
            go_wp2_with fail
            clear hd hgd hsd hk hlt hwc
            go_loopw [14, 15] (fun s j wr => ∃ (i : Nat), i ≤ c.length ∧ s = .int .i64 (tot ((c.take i).drop t.gone.toNat)) ∧ j = .int .i64 i ∧ Mm w wr g v (.slice A1 c.length cc) t c) (fun _ j _ => c.length - (intOf j).toNat)
            case atStart => exact ⟨0, Nat.zero_le _, by rw [tot_take_lo' _ _ _ (Nat.zero_le _)], rfl, HM4.out⟩
            case round =>
              clear HM4
              obtain ⟨i, hi, rfl, rfl, hM⟩ := hrel
              have HM := Hide.mk hM
              clear hM
              have HTL := Hide.mk HRl.out.tl
              by_cases hlt : i < c.length
              · have hd : decide ((i : Int) < (c.length : Int)) = true := by simp; omega
                have hi1 : (i : Int) < (c.length : Int) := by omega
                have hi0 : (0 : Int) ≤ (i : Int) := Int.natCast_nonneg _
                have hw : IntKind.i64.wrap ((i : Int) + 1) = (i : Int) + 1 := IntWalk.i64_in _ (by omega)
                have hwu : IntKind.u64.wrap (i : Int) = (i : Int) := IntWalk.u64_in _ (by omega)
                have HGV := Hide.mk (HRl.out.get i hlt)
                by_cases hig : (i : Int) < t.gone
                · have hgd : decide ((i : Int) < t.gone) = true := by simp [hig]
                  have HT0 : Hide (tot ((c.take i).drop t.gone.toNat) = tot ((c.take (i + 1)).drop t.gone.toNat)) := ⟨by rw [tot_take_lo _ _ _ (by omega), tot_take_lo' _ _ _ (by omega)]⟩
                  go_wp2_with fail
                  refine (get_any w.heap.size g v t i _ HM.out.tab hgc hi0 (by omega)).mono ?_
                  rintro e w5 ⟨rfl, hb⟩
                  rw [HGV.out, if_neg (by omega)]
                  have HM5 := Hide.mk (HM.out.below hb)
                  clear hb HM
                  go_wp2_with (first | ((with_reducible refine gate_dst (N := 16) rfl ?_); refine box_event ?hg (N := 16) ?hd (cs := fa [([], [])]) (t := 23) ?hr ?_; (case hd => rfl); (case hg => rfl); (case hr => kernel_rfl); intro q hg w6 hbox hb; have BKq := Hide.mk hbox; have NGq : Hide (∀ k, (k = g ∨ v.ownBlock = some k ∨ (Value.slice A1 c.length cc).ownBlock = some k) → k ≠ q) := ⟨fun k hk e => (by have := HM5.out.lt k hk; omega)⟩; have GEq : w.heap.size ≤ q := (by rw [hg]; exact HM5.out.low.size); have HM6 := Hide.mk (HM5.out.below hb); clear HM5 hbox hb hg) | ((with_reducible refine gate_store (p := 16) (v := .tmp 131) rfl ?_); go_must (refine store_row rfl rfl 23 (.tmp 16) (.tmp 131) rfl q rfl (fa [([], [])]) rfl (fa_one _) (by rw [fa_size]; kernel_rfl) _ _ BKq.out rfl ?_); intro w7 hb ho; have BKq7 := Hide.mk hb; have HM7 := Hide.mk (HM6.out.only ho GEq NGq.out); clear hb ho BKq HM6))
                  refine (gone_any w.heap.size g v t _ HM7.out.tab).mono ?_
                  rintro e w8 ⟨rfl, hb⟩
                  have HM8 := Hide.mk (HM7.out.below hb)
                  clear hb HM7 BKq7
                  go_wp2_with fail
                  go_roundw
                  case rel => exact ⟨i + 1, by omega, by rw [HT0.out], by go_num, HM8.out⟩
                  case measure => simp [intOf]; omega
                · have hgd : decide ((i : Int) < t.gone) = false := by simp; omega
                  obtain ⟨y, hy⟩ : ∃ y, c.getD i ([], []) = y := ⟨_, rfl⟩
                  have HT0 := Hide.mk (tot_take_hi c i t.gone.toNat (by omega) hlt)
                  have hle := tot_take_le c (i + 1) t.gone.toNat
                  rw [← HTL.out] at hle
                  have hnn := tot_nonneg ((c.take i).drop t.gone.toNat)
                  have hsz := HRl.out.ok.size
                  have hsml := HRl.out.ok.small
                  rw [HT0.out, hy] at hle
                  rw [hy] at HT0
                  have HS0 : Hide (tot ((c.take (i + 1)).drop t.gone.toNat) = tot ((c.take i).drop t.gone.toNat) + (y.1.length : Int) + (y.2.length : Int) + 32) := ⟨by rw [HT0.out]; unfold fsz; omega⟩
                  have hyl : tot ((c.take i).drop t.gone.toNat) + (y.1.length : Int) + (y.2.length : Int) + 32 ≤ 4096 := by unfold fsz at hle; omega
                  clear hsz hsml
                  generalize tot ((c.take i).drop t.gone.toNat) = sz at HT0 HS0 hle hnn hyl ⊢
                  have e1 : IntKind.i64.wrap (sz + (y.1.length : Int)) = sz + (y.1.length : Int) := IntWalk.i64_in _ (by omega)
                  have e2 : IntKind.i64.wrap (sz + (y.1.length : Int) + (y.2.length : Int)) = sz + (y.1.length : Int) + (y.2.length : Int) := IntWalk.i64_in _ (by omega)
                  have e3 : IntKind.i64.wrap (sz + (y.1.length : Int) + (y.2.length : Int) + 32) = sz + (y.1.length : Int) + (y.2.length : Int) + 32 := IntWalk.i64_in _ (by omega)
                  have hne : (!decide (y = y)) = false := by simp
                  go_wp2_with fail
                  refine (get_any w.heap.size g v t i _ HM.out.tab hgc hi0 (by omega)).mono ?_
                  rintro e w5 ⟨rfl, hb⟩
                  rw [HGV.out, if_pos (by omega), hy]
                  have HM5 := Hide.mk (HM.out.below hb)
                  clear hb HM HT0
                  go_wp2_with (first | ((with_reducible refine gate_dst (N := 16) rfl ?_); refine box_event ?hg (N := 16) ?hd (cs := fa [([], [])]) (t := 23) ?hr ?_; (case hd => rfl); (case hg => rfl); (case hr => kernel_rfl); intro q hg w6 hbox hb; have BKq := Hide.mk hbox; have NGq : Hide (∀ k, (k = g ∨ v.ownBlock = some k ∨ (Value.slice A1 c.length cc).ownBlock = some k) → k ≠ q) := ⟨fun k hk e => (by have := HM5.out.lt k hk; omega)⟩; have GEq : w.heap.size ≤ q := (by rw [hg]; exact HM5.out.low.size); have HM6 := Hide.mk (HM5.out.below hb); clear HM5 hbox hb hg) | ((with_reducible refine gate_store (p := 16) (v := .tmp 131) rfl ?_); go_must (refine store_row rfl rfl 23 (.tmp 16) (.tmp 131) rfl q rfl (fa [y]) rfl (fa_one _) (by rw [fa_size]; kernel_rfl) _ _ BKq.out rfl ?_); intro w7 hb ho; have BKq7 := Hide.mk hb; have HM7 := Hide.mk (HM6.out.only ho GEq NGq.out); clear hb ho BKq HM6))
                  refine (gone_any w.heap.size g v t _ HM7.out.tab).mono ?_
                  rintro e w8 ⟨rfl, hb⟩
                  have HM8 := Hide.mk (HM7.out.below hb)
                  have BK8 := Hide.mk (blk_below BKq7.out hb)
                  clear hb HM7 BKq7
                  obtain ⟨b2, o2, c2, cur2, hsl, _, _, hrg⟩ := HM8.out.row.range (by omega)
                  cases hsl
                  have hrr := range_one hrg i hlt
                  rw [hy] at hrr
                  clear hrg
                  go_wp2_with fail
                  refine Plan.region_plan (fun w' => w'.heap[q]? = some (.cells (fa [y]) 23 (0, 0)) ∧ w'.rangeAt b2 (o2 + i * 2) [sv y.1, sv y.2]) [] [(0, 0, some 140), (1, 0, some 141), (2, 0, some 142), (3, 0, some 143), (4, 0, some 144), (5, 0, some 145), (6, 0, some 146), (7, 0, some 147), (8, 0, some 148), (9, 0, some 149)] (by kernel_rfl) (by kernel_rfl) (by decide) ⟨blk_drew BK8.out, hrr⟩ (fun wz ewz hS => ?_)
                  have HMz := Hide.mk (HM8.out.drew ewz)
                  have BKz := Hide.mk (blk_of_drew ewz BK8.out)
                  clear ewz HM8 BK8 hrr
                  (repeat (first | (refine Plan.plan_take (v := ?_) (a' := ?_) rfl ?_ ?_ ?_ ?_; rotate_left 2; (· rfl); (· (intro w' hs; go_simp; with_reducible rfl)); (· (simp only [Act.put, List.setIfInBounds_toArray, List.set_cons_zero, List.set_cons_succ]; rfl))) | (refine Plan.plan_skip (a' := ?_) rfl ?_ ?_ ?_; rotate_left 1; (· rfl); (· (simp only [Act.put, List.setIfInBounds_toArray, List.set_cons_zero, List.set_cons_succ]; rfl))) | (refine Plan.plan_pure (v := ?_) (a' := ?_) rfl ?_ ?_ ?_ ?_; rotate_left 2; (· rfl); (· (intro w'; go_simp; with_reducible rfl)); (· (simp only [Act.put, List.setIfInBounds_toArray, List.set_cons_zero, List.set_cons_succ]; rfl)))))
                  refine Plan.plan_load_row (a' := ?_) rfl rfl 23 (.tmp 16) rfl q rfl 23 (fa [y]) (0, 0) _ (fun _ h => h.1) Try.underlying23 rfl (by kernel_rfl) ?_ ?_
                  rotate_left
                  · simp only [Act.put, List.setIfInBounds_toArray, List.set_cons_zero, List.set_cons_succ]
                    rfl
                  (repeat (first | (refine Plan.plan_take (v := ?_) (a' := ?_) rfl ?_ ?_ ?_ ?_; rotate_left 2; (· rfl); (· (intro w' hs; go_simp; with_reducible rfl)); (· (simp only [Act.put, List.setIfInBounds_toArray, List.set_cons_zero, List.set_cons_succ]; rfl))) | (refine Plan.plan_skip (a' := ?_) rfl ?_ ?_ ?_; rotate_left 1; (· rfl); (· (simp only [Act.put, List.setIfInBounds_toArray, List.set_cons_zero, List.set_cons_succ]; rfl))) | (refine Plan.plan_pure (v := ?_) (a' := ?_) rfl ?_ ?_ ?_ ?_; rotate_left 2; (· rfl); (· (intro w'; go_simp; with_reducible rfl)); (· (simp only [Act.put, List.setIfInBounds_toArray, List.set_cons_zero, List.set_cons_succ]; rfl)))))
                  refine Plan.plan_load_mid (a' := ?_) rfl rfl 23 (.tmp 146) rfl b2 (o2 + i * 2) rfl [sv (y).1, sv (y).2] _ (fun _ h => h.2) Try.underlying23 rfl (by kernel_rfl) ?_ ?_
                  rotate_left
                  · simp only [Act.put, List.setIfInBounds_toArray, List.set_cons_zero, List.set_cons_succ]
                    rfl
                  refine Plan.plan_take (v := .bool (!decide (y = y))) (a' := ?_) rfl ?_ ?_ ?_ ?_
                  rotate_left 1
                  · rfl
                  · intro w' hs
                    exact neStep rfl rfl rfl
                  · simp only [Act.put, List.setIfInBounds_toArray, List.set_cons_zero, List.set_cons_succ]
                    rfl
                  (repeat (first | (refine Plan.plan_take (v := ?_) (a' := ?_) rfl ?_ ?_ ?_ ?_; rotate_left 2; (· rfl); (· (intro w' hs; go_simp; with_reducible rfl)); (· (simp only [Act.put, List.setIfInBounds_toArray, List.set_cons_zero, List.set_cons_succ]; rfl))) | (refine Plan.plan_skip (a' := ?_) rfl ?_ ?_ ?_; rotate_left 1; (· rfl); (· (simp only [Act.put, List.setIfInBounds_toArray, List.set_cons_zero, List.set_cons_succ]; rfl))) | (refine Plan.plan_pure (v := ?_) (a' := ?_) rfl ?_ ?_ ?_ ?_; rotate_left 2; (· rfl); (· (intro w'; go_simp; with_reducible rfl)); (· (simp only [Act.put, List.setIfInBounds_toArray, List.set_cons_zero, List.set_cons_succ]; rfl)))))
                  refine Plan.plan_nil ?_
                  clear hS
                  have d0 : wz.cell? ⟨q, 0, none⟩ = some (.string ⟨y.1.toArray⟩) := (blk_cell BKz.out 0).trans rfl
                  have d1 : wz.cell? ⟨q, 1, none⟩ = some (.string ⟨y.2.toArray⟩) := (blk_cell BKz.out 1).trans rfl
                  go_wp2_with fail
                  go_roundw
                  case rel => exact ⟨i + 1, by omega, by rw [HS0.out], by go_num, HMz.out⟩
                  case measure => simp [intOf]; omega
              · obtain rfl : i = c.length := by omega
                have hd : decide ((c.length : Int) < (c.length : Int)) = false := by simp
                have hfin : tot ((c.take c.length).drop t.gone.toNat) = t.size := by rw [List.take_length, ← HTL.out]; exact HRl.out.ok.size.symm
                rw [hfin]
                go_wp2_with fail
                refine (size_any w.heap.size g v t _ HM.out.tab).mono ?_
                rintro e w5 ⟨rfl, hb⟩
                have HM5 := Hide.mk (HM.out.below hb)
                clear hb HM
                go_wp2_with fail
                refine (lives_any _).mono ?_
                rintro e w6 ⟨rfl, hb⟩
                have HB6 := Hide.mk (below_step HM5.out.low hb)
                clear hb HM5
                go_wp2_with fail
                go_ret
                exact ⟨rfl, HB6.out⟩
end Go.Proofs.Ytcjakeopbjokoaa.Tb
