/- The twin's less: the eldest go. -/
import Derived.Test.YtcjakeopbjokoaaT21
namespace Go.Proofs.Ytcjakeopbjokoaa.Tb
open Go.RowKit Go.Proofs.YtcjakeopbjokoaaW.PrintWords Go.Proofs.YtcjakeopbjokoaaW.PrintLast Go.Proofs.YtcjakeopbjokoaaW.PrintMore Mem
set_option linter.unusedVariables false
set_option linter.unusedSimpArgs false
theorem sliceLoStep {o : Oper} {a : Act} {x : Operand} {b off n c : Nat} {w : World} (ho : o.op = .slice 31 x (some (.const (.int .i64 1))) none none) (hx : a.eval x = .slice (some ⟨b, off, none⟩) (n + 1) c) (hc : n + 1 ≤ c) :
    (execOp a.eval o).run Try.prog w = .ok (.value (.slice (some ⟨b, if c = 1 then off else off + 2, none⟩) n (c - 1))) w := by
  have hi : (Try.prog.info? 23).isSome = true := by kernel_rfl
  obtain ⟨ii, hi⟩ := Option.isSome_iff_exists.1 hi
  have hc2 : Try.prog.cellsOf 23 = 2 := by kernel_rfl
  have hu : Try.prog.underlying 31 = some (.slice (Try.prog.elem 31)) := by kernel_rfl
  have he : Try.prog.elem 31 = 23 := by kernel_rfl
  have hr := run_slice_l w 31 (some ⟨b, off, none⟩) (n + 1) c hu .i64 1 (by decide) (by omega)
  rw [he, run_sizeOf w hi, hc2] at hr
  have hs : sliced (some ⟨b, off, none⟩) (1 : Int).toNat (n + 1) c 2 = .slice (some ⟨b, if c = 1 then off else off + 2, none⟩) n (c - 1) := by
    unfold sliced
    by_cases h1 : c = 1
    · subst h1; simp
    · rw [if_neg (by show ¬ c = 1; exact h1), if_neg h1]
      simp [Addr.add_mid]
  rw [Result.andThen_ok, hs] at hr
  unfold execOp
  simp only [ho, hx, Option.map_some, Option.map_none, run_sliceAt_slice (h := hu), show a.eval (.const (.int .i64 1)) = .int .i64 1 from rfl, hr, Sem.run_bind, Result.andThen_ok, Sem.run_pure]
theorem copyTail {w : World} {b o c : Nat} {f : F} {l : List F} (base : Nat) (hr : w.rangeAt b o (fc (f :: l))) (hc : l.length + 1 ≤ c) (hl : l.length ≤ 4398046511102) (hbase : base ≤ w.heap.size) :
    ∃ v' w', (∀ (o1 : Oper) (a : Act) (x : Operand), o1.op = .call { callee := .builtin .append, args := #[.const (.slice none 0 0), x], argTypes := #[31, 31] } → a.eval x = .slice (some ⟨b, if c = 1 then o else o + 2, none⟩) l.length (c - 1) → (execOp a.eval o1).run Try.prog w = .ok (.value v') w') ∧ LS w' base v' l ∧ w.grownBy w' none ∧ (v'.ownBlock = none ∨ ∃ q, v'.ownBlock = some q ∧ w.heap.size ≤ q) := by
  have hinfo : (Try.prog.info? 23).map (fun i => (i.zero, i.size, i.bytes)) = some (some (fv ([], [])), 2, 32) := by kernel_rfl
  obtain ⟨i, hi, hz⟩ := Option.map_eq_some_iff.1 hinfo
  simp only [Prod.mk.injEq] at hz
  obtain ⟨hz0, hz1, hz2⟩ := hz
  have hnews : ∀ j u, (fc l)[j]? = some u → w.cell? ((⟨b, if c = 1 then o else o + 2, none⟩ : Addr).add j) = some u := fun j u hj => by
    have hjl : j < 2 * l.length := by have := (List.getElem?_eq_some_iff.1 hj).1; rw [fc_len] at this; simpa [Nat.mul_comm] using this
    rw [if_neg (by omega), Addr.add_mid]
    have := range_tail hr j u hj
    exact this
  have h1 : ∀ u ∈ fc l, u.oneCell' = true := by
    intro u hu
    simp only [fc, List.mem_flatMap] at hu
    obtain ⟨x, _, hx⟩ := hu
    simp only [List.mem_cons, List.not_mem_nil, or_false] at hx
    rcases hx with rfl | rfl <;> rfl
  obtain ⟨v', w', hrun, hown, hg, _, hat⟩ := run_append_own_at (P := Try.prog) (w := w) base 31 31 23 i (fv ([], [])) 2 32 Try.underlying31 hi hz0 hz1 hz2 rfl (by decide) (.slice none 0 0) 0 [] (World.ownsRow_nil _ _ _ _) ⟨b, if c = 1 then o else o + 2, none⟩ l.length (c - 1) (fc l) (by rw [fc_len]; first | rfl | omega) hnews h1 (by simp only [maxLen]; omega) (by omega) hbase
  rw [Nat.zero_add, List.nil_append] at hown
  refine ⟨v', w', fun o1 a x ho hx => ?_, .inl hown, hg, ?_⟩
  · have hty : ∀ ty, (Builtin.append_ #[31, 31] ty #[.slice none 0 0, .slice (some ⟨b, if c = 1 then o else o + 2, none⟩) l.length (c - 1)]).run Try.prog w = .ok v' w' := fun ty => hrun
    unfold execOp
    simp only [ho, resolve, invoke, builtin, Sem.run_bind, Sem.run_pure, Result.andThen_ok, List.map_toArray, List.map_cons, List.map_nil, hx, show a.eval (.const (.slice none 0 0)) = .slice none 0 0 from rfl, hty]
  · rcases hat with hat | hat
    · exact .inl hat
    · exact .inr ⟨_, hat, Nat.le_refl _⟩
/-- A new row for the table. -/
theorem RTab.row_ {w w8 w9 : World} {base g : Nat} {v v3 : Value} {t t1 : TS} (h : RTab w base g v t) (hg : w.grownBy w8 none) (hr : LS w8 base v3 t1.l) (h8 : w8.heap[g]? = some (.cells (rcells t v) 63 (0, 0))) (hb : w9.heap[g]? = some (.cells (rcells t1 v3) 63 (0, 0))) (ho : Only g w8 w9) : RTab w9 base g v3 t1 :=
  ⟨h.low, hb, hr.kept fun k hk => ho.other k (fun e => hr.ne h8 (by decide) (by rw [← e]; exact hk.symm))⟩
def rlenAt (g : Nat) (w : World) : Nat := match w.cell? ⟨g, 1, none⟩ with | some (.slice _ n _) => n | _ => 0
set_option maxHeartbeats 4000000 in
set_option maxRecDepth 100000 in
theorem rless_any (base g : Nat) (v : Value) (t : TS) (n : Int) (w : World) (h : RTab w base g v t) (ho : TOk t) (hn0 : 0 ≤ n) (hn1 : n ≤ 4503599627370496) (hbase : base ≤ w.heap.size) :
    Calls Try.prog 34 #[.pointer (some ⟨g, 0, none⟩), .int .i64 n] w fun e w' => e = .returned (.tuple #[]) ∧ ∃ v', RTab w' base g v' (fitsT t n) ∧ Upd g v w w' ∧ (v'.ownBlock = v.ownBlock ∨ v'.ownBlock = none ∨ ∃ q, v'.ownBlock = some q ∧ w.heap.size ≤ q) := by
  have HT := Hide.mk h
  have HO := Hide.mk ho
  have HBS := Hide.mk hbase
  clear h ho hbase
  go_enter Try.func34, Try.ntmps34
  go_wp2_with fail
  go_loopw [4] (fun _ wr => ∃ v1 t1, RTab wr base g v1 t1 ∧ TOk t1 ∧ fitsT t1 n = fitsT t n ∧ Upd g v w wr ∧ (v1.ownBlock = v.ownBlock ∨ v1.ownBlock = none ∨ ∃ q, v1.ownBlock = some q ∧ w.heap.size ≤ q)) (fun _ wr => rlenAt g wr)
  case atStart => exact ⟨v, t, HT.out, HO.out, rfl, Upd.refl _ _ _, .inl rfl⟩
  case round =>
    obtain ⟨v1, t1, hT, hO, hF, hU, hv⟩ := hrel
    obtain ⟨A, c, rfl⟩ := hT.row.slice
    obtain ⟨r1, s1, g1, l1⟩ := t1
    obtain ⟨k1, k2, k3⟩ := hT.cells
    have HT1 := Hide.mk hT
    have HO1 := Hide.mk hO
    have HF := Hide.mk hF
    have HU := Hide.mk hU
    have HV := Hide.mk hv
    clear hT hO hF hU hv
    cases l1 with
    | nil =>
      go_wp2_with fail
      refine Plan.region_plan (fun w' => w'.cell? ⟨g, 0, none⟩ = some (.int .i64 r1) ∧ w'.cell? ⟨g, 1, none⟩ = some (.slice A 0 c)) [] [(0, 0, some 4), (1, 0, some 5), (2, 0, some 6), (3, 0, some 7), (4, 0, some 8), (5, 0, some 9), (6, 0, some 10), (7, 0, some 11), (9, 0, some 13), (11, 0, some 15), (12, 0, some 16), (13, 0, some 17), (14, 0, some 18), (8, 1, some 12), (10, 0, some 14), (15, 0, some 19), (16, 0, some 20)] (by kernel_rfl) (by kernel_rfl) (by decide) ⟨k1, k2⟩ (fun wz ewz hS => ?_)
      have HT2 := Hide.mk (HT1.out.drew ewz)
      have HU2 := Hide.mk (HU.out.trans (Upd.of_below (g := g) (v := v) (below_of_drew ewz (Below.refl _ _))) (.inl rfl))
      clear ewz HT1 HU k1 k2 k3
      (repeat (first | (refine Plan.plan_take (v := ?_) (a' := ?_) rfl ?_ ?_ ?_ ?_; rotate_left 2; (· rfl); (· (intro w' hs; go_simp; with_reducible rfl)); (· (simp only [Act.put, List.setIfInBounds_toArray, List.set_cons_zero, List.set_cons_succ]; rfl))) | (refine Plan.plan_skip (a' := ?_) rfl ?_ ?_ ?_; rotate_left 1; (· rfl); (· (simp only [Act.put, List.setIfInBounds_toArray, List.set_cons_zero, List.set_cons_succ]; rfl))) | (refine Plan.plan_pure (v := ?_) (a' := ?_) rfl ?_ ?_ ?_ ?_; rotate_left 2; (· rfl); (· (intro w'; go_simp; with_reducible rfl)); (· (simp only [Act.put, List.setIfInBounds_toArray, List.set_cons_zero, List.set_cons_succ]; rfl)))))
      refine Plan.plan_skip1 (a' := ?_) rfl rfl rfl hS ?_ ?_
      rotate_left 1
      · simp only [Act.put, List.setIfInBounds_toArray, List.set_cons_zero, List.set_cons_succ]
        rfl
      (repeat (first | (refine Plan.plan_take (v := ?_) (a' := ?_) rfl ?_ ?_ ?_ ?_; rotate_left 2; (· rfl); (· (intro w' hs; go_simp; with_reducible rfl)); (· (simp only [Act.put, List.setIfInBounds_toArray, List.set_cons_zero, List.set_cons_succ]; rfl))) | (refine Plan.plan_skip (a' := ?_) rfl ?_ ?_ ?_; rotate_left 1; (· rfl); (· (simp only [Act.put, List.setIfInBounds_toArray, List.set_cons_zero, List.set_cons_succ]; rfl))) | (refine Plan.plan_pure (v := ?_) (a' := ?_) rfl ?_ ?_ ?_ ?_; rotate_left 2; (· rfl); (· (intro w'; go_simp; with_reducible rfl)); (· (simp only [Act.put, List.setIfInBounds_toArray, List.set_cons_zero, List.set_cons_succ]; rfl)))))
      refine Plan.plan_nil ?_
      clear hS
      go_wp2_with fail
      refine bodyPost_end (results_list (rs := []) (vs := []) rfl (by decide) Vals.nil) rfl ?_
      have e0 : fitsT t n = ⟨r1, s1, g1, []⟩ := HF.out.symm
      exact ⟨rfl, _, by rw [e0]; exact HT2.out, HU2.out, HV.out⟩
    | cons f l1 =>
      obtain ⟨b, o, c', cur, he, hbb, hbk, hra⟩ := HT1.out.row.range (by simp)
      cases he
      have hsm := HO1.out.small
      have htn := tot_nonneg l1
      have htl := tot_len l1
      have hfp := fsz_pos f
      have hsz : s1 = fsz f + tot l1 := HO1.out.size
      have hr0 : 0 ≤ r1 := HO1.out.room0
      have hr1 : r1 ≤ 4096 := HO1.out.room1
      have hg0 : 0 ≤ g1 := HO1.out.gone0
      have hg1 : g1 + ((l1.length + 1 : Nat) : Int) ≤ 4611686018427387904 := HO1.out.gone1
      change fsz f + tot l1 ≤ 4096 at hsm
      have e1 : IntKind.i64.wrap (s1 + n) = s1 + n := IntWalk.i64_in _ (by omega)
      have HM : Hide (rlenAt g wr = l1.length + 1) := ⟨by unfold rlenAt; rw [k2]; rfl⟩
      have HCAP : Hide (l1.length + 1 ≤ c) := ⟨HT1.out.row.cap.2⟩
      have HSZ := Hide.mk hsz
      have HSM := Hide.mk hsm
      have HTOT : Hide (tot (f :: l1) = s1) := ⟨hsz.symm⟩
      clear hsz hsm
      have hl0 : (0 : Int) < ((l1.length + 1 : Nat) : Int) := by omega
      have HL1 : Hide (l1.length ≤ 4398046511102) := ⟨by have := HSM.out; omega⟩
      clear hbk hra
      by_cases hmore : r1 < s1 + n
      · have d1 : decide (r1 < s1 + n) = true := by simp [hmore]
        go_wp2_with fail
        refine Plan.region_plan (fun w' => w'.cell? ⟨g, 0, none⟩ = some (.int .i64 r1) ∧ w'.cell? ⟨g, 1, none⟩ = some (.slice (some ⟨b, o, none⟩) (l1.length + 1) c)) [] [(0, 0, some 4), (1, 0, some 5), (2, 0, some 6), (3, 0, some 7), (4, 0, some 8), (5, 0, some 9), (6, 0, some 10), (7, 0, some 11), (9, 0, some 13), (11, 0, some 15), (12, 0, some 16), (13, 0, some 17), (14, 0, some 18), (8, 1, some 12), (10, 0, some 14), (15, 0, some 19), (16, 0, some 20)] (by kernel_rfl) (by kernel_rfl) (by decide) ⟨k1, k2⟩ (fun wz ewz hS => ?_)
        have HT2 := Hide.mk (HT1.out.drew ewz)
        have HU2 := Hide.mk (HU.out.trans (Upd.of_below (g := g) (v := v) (below_of_drew ewz (Below.refl _ _))) (.inl rfl))
        clear ewz HT1 HU k1 k2 k3
        (repeat (first | (refine Plan.plan_take (v := ?_) (a' := ?_) rfl ?_ ?_ ?_ ?_; rotate_left 2; (· rfl); (· (intro w' hs; go_simp; with_reducible rfl)); (· (simp only [Act.put, List.setIfInBounds_toArray, List.set_cons_zero, List.set_cons_succ]; rfl))) | (refine Plan.plan_skip (a' := ?_) rfl ?_ ?_ ?_; rotate_left 1; (· rfl); (· (simp only [Act.put, List.setIfInBounds_toArray, List.set_cons_zero, List.set_cons_succ]; rfl))) | (refine Plan.plan_pure (v := ?_) (a' := ?_) rfl ?_ ?_ ?_ ?_; rotate_left 2; (· rfl); (· (intro w'; go_simp; with_reducible rfl)); (· (simp only [Act.put, List.setIfInBounds_toArray, List.set_cons_zero, List.set_cons_succ]; rfl)))))
        refine Plan.plan_call rfl Try.func25 (by kernel_rfl) rfl #[.pointer (some ⟨g, 0, none⟩)] rfl rfl rfl (by (try simp only [List.map_toArray, List.map_cons, List.map_nil]); rfl) ?_
        refine (rsize_any base g _ _ _ HT2.out (by exact HO1.out.small)).mono ?_
        rintro e w4 ⟨rfl, hb4⟩
        have HT4 := Hide.mk (HT2.out.below hb4)
        have HU4 := Hide.mk (HU2.out.trans (Upd.of_below (g := g) (v := v) hb4) (.inl rfl))
        have hS2 : w4.cell? ⟨g, 0, none⟩ = some (.int .i64 r1) ∧ w4.cell? ⟨g, 1, none⟩ = some (.slice (some ⟨b, o, none⟩) (l1.length + 1) c) := ⟨(hb4.cell (p := ⟨g, 0, none⟩) HT2.out.lt).trans hS.1, (hb4.cell (p := ⟨g, 1, none⟩) HT2.out.lt).trans hS.2⟩
        refine ⟨_, rfl, hS2, ?_⟩
        clear hb4 HT2 HU2 hS
        intro a' ha
        rw [HTOT.out] at ha
        simp only [Act.put, List.setIfInBounds_toArray, List.set_cons_zero, List.set_cons_succ] at ha
        subst ha
        (repeat (first | (refine Plan.plan_take (v := ?_) (a' := ?_) rfl ?_ ?_ ?_ ?_; rotate_left 2; (· rfl); (· (intro w' hs; go_simp; with_reducible rfl)); (· (simp only [Act.put, List.setIfInBounds_toArray, List.set_cons_zero, List.set_cons_succ]; rfl))) | (refine Plan.plan_skip (a' := ?_) rfl ?_ ?_ ?_; rotate_left 1; (· rfl); (· (simp only [Act.put, List.setIfInBounds_toArray, List.set_cons_zero, List.set_cons_succ]; rfl))) | (refine Plan.plan_pure (v := ?_) (a' := ?_) rfl ?_ ?_ ?_ ?_; rotate_left 2; (· rfl); (· (intro w'; go_simp; with_reducible rfl)); (· (simp only [Act.put, List.setIfInBounds_toArray, List.set_cons_zero, List.set_cons_succ]; rfl)))))
        refine Plan.plan_nil ?_
        clear hS2
        obtain ⟨k1, k2, k3⟩ := HT4.out.cells
        obtain ⟨b', o', c', cur', he', hbb', hbk', hra⟩ := HT4.out.row.range (by simp)
        cases he'
        obtain ⟨v5, w5, hcp, hls5, hg5, hat5⟩ := copyTail base hra HCAP.out HL1.out (Nat.le_trans HBS.out HU4.out.size)
        have HCP := Hide.mk hcp
        have HLS := Hide.mk hls5
        have HG5 := Hide.mk hg5
        have HAT : Hide (v5.ownBlock = v.ownBlock ∨ v5.ownBlock = none ∨ ∃ q, v5.ownBlock = some q ∧ w.heap.size ≤ q) := ⟨by
          rcases hat5 with hat5 | ⟨q, hq, hq2⟩
          · exact .inr (.inl hat5)
          · exact .inr (.inr ⟨q, hq, Nat.le_trans HU4.out.size hq2⟩)⟩
        have HB5 : Hide (w5.heap[g]? = some (.cells (rcells ⟨r1, s1, g1, f :: l1⟩ (.slice (some ⟨b, o, none⟩) (l1.length + 1) c)) 63 (0, 0))) := ⟨(hg5.block g HT4.out.lt (by simp)).trans HT4.out.blk⟩
        have HVC : Hide (v5.cells = #[v5] ∧ v5.oneCell' = true) := ⟨by obtain ⟨A3, c3, rfl⟩ := HLS.out.slice; exact ⟨rfl, rfl⟩⟩
        have HU5 := Hide.mk (HU4.out.trans (Upd.of_grown (g := g) (v := .slice none 0 0) hg5) (.inr (.inl rfl)))
        clear hcp hls5 hg5 hat5 hra hbk'
        have e3 : IntKind.u64.wrap (g1 + 1) = g1 + 1 := by rw [IntKind.wrap_u64]; omega
        go_wp2_with (first | ((with_reducible refine gate_dst (N := 26) rfl ?_); refine Kd.event_run rfl (sliceLoStep rfl rfl HCAP.out) ?_) | ((with_reducible refine gate_dst (N := 27) rfl ?_); refine Kd.event_run rfl (v := v5) (w1 := w5) (HCP.out _ _ _ rfl rfl) ?_; clear k1 k2 k3 HCP) | ((with_reducible refine gate_store (p := 29) (v := .tmp 27) rfl ?_); go_must (refine store_cell rfl rfl 31 (.tmp 29) (.tmp 27) rfl g 1 rfl v5 rfl HVC.out.1 HVC.out.2 (by kernel_rfl) _ _ HB5.out (by show 1 < 3; decide) ?_); intro w7 hb7 ho7; have HT7 := Hide.mk (RTab.row_ (t1 := ⟨r1, s1 - fsz f, g1, l1⟩) HT4.out HG5.out HLS.out HB5.out hb7 ho7); have HU7 := Hide.mk (HU5.out.trans (Upd.of_only (v := v) ho7 (blk_lt HB5.out)) (.inl rfl)); clear hb7 ho7 HT4 HU4 HU5 HB5 HLS HG5; have k3 := HT7.out.cells.2.2) | ((with_reducible refine gate_store (p := 36) (v := .tmp 34) rfl ?_); go_must (refine store_cell rfl rfl 37 (.tmp 36) (.tmp 34) rfl g 2 rfl (.int .u64 (g1 + 1)) rfl rfl rfl (by kernel_rfl) _ _ HT7.out.blk (by show 2 < 3; decide) ?_); intro w8 hb8 ho8; have HT8 := Hide.mk (HT7.out.set_ (t1 := ⟨r1, s1 - fsz f, g1 + 1, l1⟩) hb8 ho8 rfl); have HU8 := Hide.mk (HU7.out.trans (Upd.of_only (v := v) ho8 HT7.out.lt) (.inl rfl)); clear hb8 ho8 HT7 HU7))
        go_roundw
        case rel => exact ⟨_, ⟨r1, s1 - fsz f, g1 + 1, l1⟩, HT8.out, ⟨by have := HSZ.out; show s1 - fsz f = tot l1; omega, by have := HSM.out; show tot l1 ≤ 4096; omega, hr0, hr1, by show 0 ≤ g1 + 1; omega, by show g1 + 1 + (l1.length : Int) ≤ _; omega⟩, by
          rw [← HF.out]
          exact (if_pos hmore).symm, HU8.out, HAT.out⟩
        case measure =>
          obtain ⟨A8, c8, e8⟩ := HT8.out.row.slice
          have m1 : rlenAt g w8 = l1.length := by unfold rlenAt; rw [HT8.out.cells.2.1, e8]
          have m2 := HM.out
          show rlenAt g w8 < rlenAt g wr
          omega
      · have d1 : decide (r1 < s1 + n) = false := by simp [hmore]
        go_wp2_with fail
        refine Plan.region_plan (fun w' => w'.cell? ⟨g, 0, none⟩ = some (.int .i64 r1) ∧ w'.cell? ⟨g, 1, none⟩ = some (.slice (some ⟨b, o, none⟩) (l1.length + 1) c)) [] [(0, 0, some 4), (1, 0, some 5), (2, 0, some 6), (3, 0, some 7), (4, 0, some 8), (5, 0, some 9), (6, 0, some 10), (7, 0, some 11), (9, 0, some 13), (11, 0, some 15), (12, 0, some 16), (13, 0, some 17), (14, 0, some 18), (8, 1, some 12), (10, 0, some 14), (15, 0, some 19), (16, 0, some 20)] (by kernel_rfl) (by kernel_rfl) (by decide) ⟨k1, k2⟩ (fun wz ewz hS => ?_)
        have HT2 := Hide.mk (HT1.out.drew ewz)
        have HU2 := Hide.mk (HU.out.trans (Upd.of_below (g := g) (v := v) (below_of_drew ewz (Below.refl _ _))) (.inl rfl))
        clear ewz HT1 HU k1 k2 k3
        (repeat (first | (refine Plan.plan_take (v := ?_) (a' := ?_) rfl ?_ ?_ ?_ ?_; rotate_left 2; (· rfl); (· (intro w' hs; go_simp; with_reducible rfl)); (· (simp only [Act.put, List.setIfInBounds_toArray, List.set_cons_zero, List.set_cons_succ]; rfl))) | (refine Plan.plan_skip (a' := ?_) rfl ?_ ?_ ?_; rotate_left 1; (· rfl); (· (simp only [Act.put, List.setIfInBounds_toArray, List.set_cons_zero, List.set_cons_succ]; rfl))) | (refine Plan.plan_pure (v := ?_) (a' := ?_) rfl ?_ ?_ ?_ ?_; rotate_left 2; (· rfl); (· (intro w'; go_simp; with_reducible rfl)); (· (simp only [Act.put, List.setIfInBounds_toArray, List.set_cons_zero, List.set_cons_succ]; rfl)))))
        refine Plan.plan_call rfl Try.func25 (by kernel_rfl) rfl #[.pointer (some ⟨g, 0, none⟩)] rfl rfl rfl (by (try simp only [List.map_toArray, List.map_cons, List.map_nil]); rfl) ?_
        refine (rsize_any base g _ _ _ HT2.out (by exact HO1.out.small)).mono ?_
        rintro e w4 ⟨rfl, hb4⟩
        have HT4 := Hide.mk (HT2.out.below hb4)
        have HU4 := Hide.mk (HU2.out.trans (Upd.of_below (g := g) (v := v) hb4) (.inl rfl))
        have hS2 : w4.cell? ⟨g, 0, none⟩ = some (.int .i64 r1) ∧ w4.cell? ⟨g, 1, none⟩ = some (.slice (some ⟨b, o, none⟩) (l1.length + 1) c) := ⟨(hb4.cell (p := ⟨g, 0, none⟩) HT2.out.lt).trans hS.1, (hb4.cell (p := ⟨g, 1, none⟩) HT2.out.lt).trans hS.2⟩
        refine ⟨_, rfl, hS2, ?_⟩
        clear hb4 HT2 HU2 hS
        intro a' ha
        rw [HTOT.out] at ha
        simp only [Act.put, List.setIfInBounds_toArray, List.set_cons_zero, List.set_cons_succ] at ha
        subst ha
        (repeat (first | (refine Plan.plan_take (v := ?_) (a' := ?_) rfl ?_ ?_ ?_ ?_; rotate_left 2; (· rfl); (· (intro w' hs; go_simp; with_reducible rfl)); (· (simp only [Act.put, List.setIfInBounds_toArray, List.set_cons_zero, List.set_cons_succ]; rfl))) | (refine Plan.plan_skip (a' := ?_) rfl ?_ ?_ ?_; rotate_left 1; (· rfl); (· (simp only [Act.put, List.setIfInBounds_toArray, List.set_cons_zero, List.set_cons_succ]; rfl))) | (refine Plan.plan_pure (v := ?_) (a' := ?_) rfl ?_ ?_ ?_ ?_; rotate_left 2; (· rfl); (· (intro w'; go_simp; with_reducible rfl)); (· (simp only [Act.put, List.setIfInBounds_toArray, List.set_cons_zero, List.set_cons_succ]; rfl)))))
        refine Plan.plan_nil ?_
        clear hS2
        go_wp2_with fail
        refine bodyPost_end (results_list (rs := []) (vs := []) rfl (by decide) Vals.nil) rfl ?_
        have e0 : fitsT t n = ⟨r1, s1, g1, f :: l1⟩ := HF.out.symm.trans (if_neg (show ¬ r1 < s1 + n by omega))
        exact ⟨rfl, _, by rw [e0]; exact HT4.out, HU4.out, HV.out⟩
end Go.Proofs.Ytcjakeopbjokoaa.Tb
