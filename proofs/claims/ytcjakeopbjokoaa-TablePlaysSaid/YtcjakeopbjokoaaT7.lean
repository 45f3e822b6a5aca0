/- fits: the eldest go. -/
import Derived.Test.YtcjakeopbjokoaaT6
namespace Go.Proofs.Ytcjakeopbjokoaa.Tb
open Go.RowKit Go.Proofs.YtcjakeopbjokoaaW.PrintWords Go.Proofs.YtcjakeopbjokoaaW.PrintLast Go.Proofs.YtcjakeopbjokoaaW.PrintMore Mem
set_option linter.unusedVariables false
set_option linter.unusedSimpArgs false
def tot : List F → Int
  | [] => 0
  | f :: l => fsz f + tot l
theorem fsz_pos (f : F) : 32 ≤ fsz f := by unfold fsz; omega
theorem tot_nonneg : ∀ l : List F, 0 ≤ tot l
  | [] => Int.le_refl _
  | f :: l => by have := tot_nonneg l; have := fsz_pos f; show 0 ≤ fsz f + tot l; omega
theorem tot_len : ∀ l : List F, 32 * (l.length : Int) ≤ tot l
  | [] => Int.le_refl _
  | f :: l => by have := tot_len l; have := fsz_pos f; show 32 * ((l.length + 1 : Nat) : Int) ≤ fsz f + tot l; omega
def fitsG (room n : Int) : Int → Int → List F → TS
  | s, g, [] => ⟨room, s, g, []⟩
  | s, g, f :: l => if room < s + n then fitsG room n (s - fsz f) (g + 1) l else ⟨room, s, g, f :: l⟩
def fitsT (t : TS) (n : Int) : TS := fitsG t.room n t.size t.gone t.l
structure TOk (t : TS) : Prop where
  size : t.size = tot t.l
  small : tot t.l ≤ 4096
  room0 : 0 ≤ t.room
  room1 : t.room ≤ 4096
  gone0 : 0 ≤ t.gone
  gone1 : t.gone + t.l.length ≤ 4611686018427387904
def lenAt (g : Nat) (w : World) : Nat := match w.cell? ⟨g, 4, none⟩ with | some (.slice _ n _) => n | _ => 0
theorem Tab.cells {w : World} {base g : Nat} {v : Value} {t : TS} (h : Tab w base g v t) : w.cell? ⟨g, 1, none⟩ = some (.int .i64 t.room) ∧ w.cell? ⟨g, 2, none⟩ = some (.int .i64 t.size) ∧ w.cell? ⟨g, 3, none⟩ = some (.int .u64 t.gone) ∧ w.cell? ⟨g, 4, none⟩ = some v :=
  ⟨(blk_cell h.blk 1).trans rfl, (blk_cell h.blk 2).trans rfl, (blk_cell h.blk 3).trans rfl, (blk_cell h.blk 4).trans rfl⟩
theorem Tab.drew {w w1 : World} {base g : Nat} {v : Value} {t : TS} (h : Tab w base g v t) (e : w1 = w.drew) : Tab w1 base g v t := h.below (below_of_drew e (Below.refl _ _))
/-- One cell of the table's block is set. -/
theorem Tab.set_ {w w1 : World} {base g : Nat} {v : Value} {t t1 : TS} (h : Tab w base g v t) (hb : w1.heap[g]? = some (.cells (tcells t1 v) 59 (0, 0))) (ho : Only g w w1) (hl : t1.l = t.l) : Tab w1 base g v t1 :=
  ⟨h.low, hb, by rw [hl]; exact h.row.kept fun k hk => ho.other k (fun e => h.row.ne h.blk (by decide) (by rw [hk, e]))⟩
theorem LS.cap {w : World} {base n c : Nat} {A : Option Addr} {l : List F} (h : LS w base (.slice A n c) l) : n = l.length ∧ l.length ≤ c := by
  rcases h with ⟨_, ⟨e, h0⟩ | ⟨g, cap, cur, e, _, _, hc, _⟩⟩ | ⟨b, o, cur, e, _⟩
  · cases e; exact ⟨h0.symm, by omega⟩
  · cases e; exact ⟨rfl, hc⟩
  · cases e; exact ⟨rfl, Nat.le_refl _⟩
theorem LS.tail {w : World} {base b o c : Nat} {f : F} {l : List F} (h : LS w base (.slice (some ⟨b, o, none⟩) (l.length + 1) c) (f :: l)) : LS w base (.slice (some ⟨b, if l.length = 0 then o else o + 2, none⟩) l.length l.length) l := by
  obtain ⟨b', o', c', cur, e, h1, h2, h3⟩ := h.range (by simp)
  cases e
  refine .inr ⟨b, _, cur, rfl, h1, h2, ?_⟩
  by_cases h0 : l.length = 0
  · rw [List.length_eq_zero_iff.1 h0]
    intro j v hj
    simp [fc] at hj
  · rw [if_neg h0]
    exact range_tail h3
theorem sliceStep {o : Oper} {a : Act} {x l h m : Operand} {b off n c : Nat} {w : World} (ho : o.op = .slice 31 x (some l) (some h) (some m)) (hx : a.eval x = .slice (some ⟨b, off, none⟩) (n + 1) c) (hl : a.eval l = .int .i64 1) (hh : a.eval h = .int .i64 ((n : Int) + 1)) (hm : a.eval m = .int .i64 ((n : Int) + 1)) (hc : n + 1 ≤ c) :
    (execOp a.eval o).run Try.prog w = .ok (.value (.slice (some ⟨b, if n = 0 then off else off + 2, none⟩) n n)) w := by
  have hi : (Try.prog.info? 23).isSome = true := by kernel_rfl
  obtain ⟨ii, hi⟩ := Option.isSome_iff_exists.1 hi
  have hc2 : Try.prog.cellsOf 23 = 2 := by kernel_rfl
  have hu : Try.prog.underlying 31 = some (.slice (Try.prog.elem 31)) := by kernel_rfl
  have he : Try.prog.elem 31 = 23 := by kernel_rfl
  have hr := run_slice_lhm w 31 (some ⟨b, off, none⟩) (n + 1) c hu .i64 .i64 .i64 1 ((n : Int) + 1) ((n : Int) + 1) (by omega) (by omega) (by omega) (by omega)
  rw [he, run_sizeOf w hi, hc2] at hr
  have hs : sliced (some ⟨b, off, none⟩) (1 : Int).toNat ((n : Int) + 1).toNat ((n : Int) + 1).toNat 2 = .slice (some ⟨b, if n = 0 then off else off + 2, none⟩) n n := by
    have e : ((n : Int) + 1).toNat = n + 1 := by omega
    unfold sliced
    rw [e]
    by_cases h0 : n = 0
    · subst h0; rfl
    · rw [if_neg h0, if_neg (by show ¬ n + 1 = 1; omega)]
      simp [Addr.add_mid]
  rw [Result.andThen_ok, hs] at hr
  unfold execOp
  simp only [ho, hx, hl, hh, hm, Option.map_some, run_sliceAt_slice (h := hu), hr, Sem.run_bind, Result.andThen_ok, Sem.run_pure]
theorem Tab.next {w w1 : World} {base g b o c : Nat} {f : F} {l : List F} {r s go : Int} (h : Tab w base g (.slice (some ⟨b, o, none⟩) (l.length + 1) c) ⟨r, s, go, f :: l⟩) (hb : w1.heap[g]? = some (.cells (tcells ⟨r, s, go, l⟩ (.slice (some ⟨b, if l.length = 0 then o else o + 2, none⟩) l.length l.length)) 59 (0, 0))) (ho : Only g w w1) :
    Tab w1 base g (.slice (some ⟨b, if l.length = 0 then o else o + 2, none⟩) l.length l.length) ⟨r, s, go, l⟩ :=
  ⟨h.low, hb, h.row.tail.kept fun k hk => ho.other k (fun e => h.row.ne h.blk (by decide) (by rw [← e]; exact hk.symm))⟩
set_option maxHeartbeats 2000000 in
set_option maxRecDepth 100000 in
theorem fits_any (base g : Nat) (v : Value) (t : TS) (n : Int) (w : World) (h : Tab w base g v t) (ho : TOk t) (hn0 : 0 ≤ n) (hn1 : n ≤ 4503599627370496) :
    Calls Try.prog 33 #[.pointer (some ⟨g, 0, none⟩), .int .i64 n] w fun e w' => e = .returned (.tuple #[]) ∧ ∃ v', Tab w' base g v' (fitsT t n) ∧ Upd g v w w' ∧ v'.ownBlock = v.ownBlock := by
  have HT := Hide.mk h
  have HO := Hide.mk ho
  clear h ho
  go_enter Try.func33, Try.ntmps33
  go_wp2_with fail
  go_loopw [22] (fun _ wr => ∃ v1 t1, Tab wr base g v1 t1 ∧ TOk t1 ∧ fitsT t1 n = fitsT t n ∧ Upd g v w wr ∧ v1.ownBlock = v.ownBlock) (fun _ wr => lenAt g wr)
  case atStart => exact ⟨v, t, HT.out, HO.out, rfl, Upd.refl _ _ _, rfl⟩
  case round =>
    obtain ⟨v1, t1, hT, hO, hF, hU, hv⟩ := hrel
    obtain ⟨A, c, rfl⟩ := hT.row.slice
    obtain ⟨r1, s1, g1, l1⟩ := t1
    obtain ⟨k1, k2, k3, k4⟩ := hT.cells
    have HT1 := Hide.mk hT
    have HO1 := Hide.mk hO
    have HF := Hide.mk hF
    have HU := Hide.mk hU
    have HV := Hide.mk hv
    clear hT hO hF hU hv
    cases l1 with
    | nil =>
      go_wp2_with fail
      refine Plan.region_plan (fun w' => w'.cell? ⟨g, 1, none⟩ = some (.int .i64 r1) ∧ w'.cell? ⟨g, 2, none⟩ = some (.int .i64 s1) ∧ w'.cell? ⟨g, 4, none⟩ = some (.slice A 0 c)) [] [(0, 0, some 4), (1, 0, some 5), (2, 0, some 6), (3, 0, some 7), (4, 0, some 8), (5, 0, some 9), (6, 0, some 10), (7, 0, some 11), (8, 0, some 12), (9, 0, some 13), (10, 0, some 14), (11, 0, some 15), (12, 0, some 16), (13, 0, some 17), (14, 0, some 18), (15, 0, some 19), (16, 0, some 20), (17, 0, some 21), (18, 0, some 22)] (by kernel_rfl) (by kernel_rfl) (by decide) ⟨k1, k2, k4⟩ (fun wz ewz hS => ?_)
      have HT2 := Hide.mk (HT1.out.drew ewz)
      have HU2 := Hide.mk (HU.out.trans (Upd.of_below (g := g) (v := v) (below_of_drew ewz (Below.refl _ _))) (.inl rfl))
      clear ewz HT1 HU k1 k2 k3 k4
      (repeat (first | (refine Plan.plan_take (v := ?_) (a' := ?_) rfl ?_ ?_ ?_ ?_; rotate_left 2; (· rfl); (· (intro w' hs; go_simp; with_reducible rfl)); (· (simp only [Act.put, List.setIfInBounds_toArray, List.set_cons_zero, List.set_cons_succ]; rfl))) | (refine Plan.plan_skip (a' := ?_) rfl ?_ ?_ ?_; rotate_left 1; (· rfl); (· (simp only [Act.put, List.setIfInBounds_toArray, List.set_cons_zero, List.set_cons_succ]; rfl))) | (refine Plan.plan_pure (v := ?_) (a' := ?_) rfl ?_ ?_ ?_ ?_; rotate_left 2; (· rfl); (· (intro w'; go_simp; with_reducible rfl)); (· (simp only [Act.put, List.setIfInBounds_toArray, List.set_cons_zero, List.set_cons_succ]; rfl)))))
      refine Plan.plan_nil ?_
      clear hS
      go_wp2_with fail
      refine bodyPost_end (results_list (rs := []) (vs := []) rfl (by decide) Vals.nil) rfl ?_
      have e0 : fitsT t n = ⟨r1, s1, g1, []⟩ := HF.out.symm
      exact ⟨rfl, _, by rw [e0]; exact HT2.out, HU2.out, HV.out⟩
    | cons f l1 =>
      obtain ⟨b, o, c', cur, he, hbb, hbk, hra⟩ := HT1.out.row.range (by simp)
      cases he
      have hx := range_one hra 0 (by simp)
      have hsm := HO1.out.small
      have htl := tot_len l1
      have htn := tot_nonneg l1
      have hfp := fsz_pos f
      have hsz : s1 = fsz f + tot l1 := HO1.out.size
      have hr0 : 0 ≤ r1 := HO1.out.room0
      have hr1 : r1 ≤ 4096 := HO1.out.room1
      have hg0 : 0 ≤ g1 := HO1.out.gone0
      have hg1 : g1 + ((l1.length + 1 : Nat) : Int) ≤ 4611686018427387904 := HO1.out.gone1
      change fsz f + tot l1 ≤ 4096 at hsm
      have e1 : IntKind.i64.wrap (s1 + n) = s1 + n := IntWalk.i64_in _ (by omega)
      have HM : Hide (lenAt g wr = l1.length + 1) := ⟨by unfold lenAt; rw [k4]; rfl⟩
      have HCAP : Hide (l1.length + 1 ≤ c) := ⟨HT1.out.row.cap.2⟩
      have HSZ := Hide.mk hsz
      have HSM := Hide.mk hsm
      clear hsz hsm
      have hl0 : (0 : Int) < ((l1.length + 1 : Nat) : Int) := by omega
      clear hbk
      by_cases hmore : r1 < s1 + n
      · have d1 : decide (r1 < s1 + n) = true := by simp [hmore]
        go_wp2_with fail
        refine Plan.region_plan (fun w' => w'.cell? ⟨g, 1, none⟩ = some (.int .i64 r1) ∧ w'.cell? ⟨g, 2, none⟩ = some (.int .i64 s1) ∧ w'.cell? ⟨g, 4, none⟩ = some (.slice (some ⟨b, o, none⟩) (l1.length + 1) c)) [] [(0, 0, some 4), (1, 0, some 5), (2, 0, some 6), (3, 0, some 7), (4, 0, some 8), (5, 0, some 9), (6, 0, some 10), (7, 0, some 11), (8, 0, some 12), (9, 0, some 13), (10, 0, some 14), (11, 0, some 15), (12, 0, some 16), (13, 0, some 17), (14, 0, some 18), (15, 0, some 19), (16, 0, some 20), (17, 0, some 21), (18, 0, some 22)] (by kernel_rfl) (by kernel_rfl) (by decide) ⟨k1, k2, k4⟩ (fun wz ewz hS => ?_)
        have HT2 := Hide.mk (HT1.out.drew ewz)
        have HU2 := Hide.mk (HU.out.trans (Upd.of_below (g := g) (v := v) (below_of_drew ewz (Below.refl _ _))) (.inl rfl))
        clear ewz HT1 HU k1 k2 k3 k4 hx hra
        (repeat (first | (refine Plan.plan_take (v := ?_) (a' := ?_) rfl ?_ ?_ ?_ ?_; rotate_left 2; (· rfl); (· (intro w' hs; go_simp; with_reducible rfl)); (· (simp only [Act.put, List.setIfInBounds_toArray, List.set_cons_zero, List.set_cons_succ]; rfl))) | (refine Plan.plan_skip (a' := ?_) rfl ?_ ?_ ?_; rotate_left 1; (· rfl); (· (simp only [Act.put, List.setIfInBounds_toArray, List.set_cons_zero, List.set_cons_succ]; rfl))) | (refine Plan.plan_pure (v := ?_) (a' := ?_) rfl ?_ ?_ ?_ ?_; rotate_left 2; (· rfl); (· (intro w'; go_simp; with_reducible rfl)); (· (simp only [Act.put, List.setIfInBounds_toArray, List.set_cons_zero, List.set_cons_succ]; rfl)))))
        refine Plan.plan_nil ?_
        clear hS
        go_wp2_with fail
        obtain ⟨k1, k2, k3, k4⟩ := HT2.out.cells
        obtain ⟨b', o', c', cur', he', hbb', hbk', hra⟩ := HT2.out.row.range (by simp)
        cases he'
        have hx : wz.rangeAt b o [sv f.1, sv f.2] := range_one hra 0 (by simp)
        clear hbk' hra
        refine Plan.region_plan (fun w' => w'.cell? ⟨g, 2, none⟩ = some (.int .i64 s1) ∧ w'.cell? ⟨g, 4, none⟩ = some (.slice (some ⟨b, o, none⟩) (l1.length + 1) c) ∧ w'.rangeAt b o [sv f.1, sv f.2]) [14] [(0, 0, some 23), (1, 0, some 24), (2, 0, some 25), (3, 0, some 26), (4, 0, some 27), (5, 0, some 28), (6, 0, some 29), (7, 0, some 30), (8, 0, some 31), (9, 0, some 32), (10, 1, some 33), (11, 0, some 34), (12, 0, some 35), (13, 0, some 36), (14, 2, none)] (by kernel_rfl) (by kernel_rfl) (by decide) ⟨k2, k4, hx⟩ (fun wy ewy hS => ?_)
        have HT3 := Hide.mk (HT2.out.drew ewy)
        have HU3 := Hide.mk (HU2.out.trans (Upd.of_below (g := g) (v := v) (below_of_drew ewy (Below.refl _ _))) (.inl rfl))
        clear ewy HT2 HU2 k1 k2 k3 k4 hx
        (repeat (first | (refine Plan.plan_take (v := ?_) (a' := ?_) rfl ?_ ?_ ?_ ?_; rotate_left 2; (· rfl); (· (intro w' hs; go_simp; with_reducible rfl)); (· (simp only [Act.put, List.setIfInBounds_toArray, List.set_cons_zero, List.set_cons_succ]; rfl))) | (refine Plan.plan_skip (a' := ?_) rfl ?_ ?_ ?_; rotate_left 1; (· rfl); (· (simp only [Act.put, List.setIfInBounds_toArray, List.set_cons_zero, List.set_cons_succ]; rfl))) | (refine Plan.plan_pure (v := ?_) (a' := ?_) rfl ?_ ?_ ?_ ?_; rotate_left 2; (· rfl); (· (intro w'; go_simp; with_reducible rfl)); (· (simp only [Act.put, List.setIfInBounds_toArray, List.set_cons_zero, List.set_cons_succ]; rfl)))))
        refine Plan.plan_load_mid (a' := ?_) rfl rfl 23 (.tmp 31) rfl b (o) rfl [sv (f).1, sv (f).2] _ (fun _ h => h.2.2) Try.underlying23 rfl (by kernel_rfl) ?_ ?_
        rotate_left
        · simp only [Act.put, List.setIfInBounds_toArray, List.set_cons_zero, List.set_cons_succ]
          rfl
        (repeat (first | (refine Plan.plan_take (v := ?_) (a' := ?_) rfl ?_ ?_ ?_ ?_; rotate_left 2; (· rfl); (· (intro w' hs; go_simp; with_reducible rfl)); (· (simp only [Act.put, List.setIfInBounds_toArray, List.set_cons_zero, List.set_cons_succ]; rfl))) | (refine Plan.plan_skip (a' := ?_) rfl ?_ ?_ ?_; rotate_left 1; (· rfl); (· (simp only [Act.put, List.setIfInBounds_toArray, List.set_cons_zero, List.set_cons_succ]; rfl))) | (refine Plan.plan_pure (v := ?_) (a' := ?_) rfl ?_ ?_ ?_ ?_; rotate_left 2; (· rfl); (· (intro w'; go_simp; with_reducible rfl)); (· (simp only [Act.put, List.setIfInBounds_toArray, List.set_cons_zero, List.set_cons_succ]; rfl)))))
        refine Plan.plan_call rfl Try.func32 (by kernel_rfl) rfl #[fv f] rfl rfl rfl (by (try simp only [List.map_toArray, List.map_cons, List.map_nil]); rfl) ?_
        refine (size32 f _ (by have := HSM.out; unfold fsz at this; omega) (by have := HSM.out; unfold fsz at this; omega)).mono ?_
        rintro e w4 ⟨rfl, hb4⟩
        have HT4 := Hide.mk (HT3.out.below hb4)
        have HU4 := Hide.mk (HU3.out.trans (Upd.of_below (g := g) (v := v) hb4) (.inl rfl))
        have hS2 : w4.cell? ⟨g, 2, none⟩ = some (.int .i64 s1) ∧ w4.cell? ⟨g, 4, none⟩ = some (.slice (some ⟨b, o, none⟩) (l1.length + 1) c) ∧ w4.rangeAt b o [sv f.1, sv f.2] := ⟨(hb4.cell (p := ⟨g, 2, none⟩) HT3.out.lt).trans hS.1, (hb4.cell (p := ⟨g, 4, none⟩) HT3.out.lt).trans hS.2.1, range_below (w0 := wy) hS.2.2 hb4 (HT3.out.row.lt b rfl).2⟩
        refine ⟨_, rfl, hS2, ?_⟩
        clear hb4 HT3 HU3 hS
        intro a' ha
        simp only [Act.put, List.setIfInBounds_toArray, List.set_cons_zero, List.set_cons_succ] at ha
        subst ha
        have e2 : IntKind.i64.wrap (s1 - fsz f) = s1 - fsz f := by have := HSZ.out; have := HSM.out; exact IntWalk.i64_in _ (by omega)
        (repeat (first | (refine Plan.plan_take (v := ?_) (a' := ?_) rfl ?_ ?_ ?_ ?_; rotate_left 2; (· rfl); (· (intro w' hs; go_simp; with_reducible rfl)); (· (simp only [Act.put, List.setIfInBounds_toArray, List.set_cons_zero, List.set_cons_succ]; rfl))) | (refine Plan.plan_skip (a' := ?_) rfl ?_ ?_ ?_; rotate_left 1; (· rfl); (· (simp only [Act.put, List.setIfInBounds_toArray, List.set_cons_zero, List.set_cons_succ]; rfl))) | (refine Plan.plan_pure (v := ?_) (a' := ?_) rfl ?_ ?_ ?_ ?_; rotate_left 2; (· rfl); (· (intro w'; go_simp; with_reducible rfl)); (· (simp only [Act.put, List.setIfInBounds_toArray, List.set_cons_zero, List.set_cons_succ]; rfl)))))
        refine Plan.plan_last_cell rfl rfl rfl 3 (.tmp 36) (.tmp 34) rfl g 2 rfl (.int .i64 (s1 - fsz f)) rfl rfl rfl (by kernel_rfl) _ _ HT4.out.blk (by show 2 < 5; decide) ?_
        intro w5 hb5 ho5
        have HT5 := Hide.mk (HT4.out.set_ (t1 := ⟨r1, s1 - fsz f, g1, f :: l1⟩) hb5 ho5 rfl)
        have HU5 := Hide.mk (HU4.out.trans (Upd.of_only (v := v) ho5 HT4.out.lt) (.inl rfl))
        clear hb5 ho5 HT4 HU4 hS2
        refine Plan.plan_nil ?_
        go_wp2_with fail
        obtain ⟨k1, k2, k3, k4⟩ := HT5.out.cells
        refine Plan.region_plan (fun w' => w'.cell? ⟨g, 4, none⟩ = some (.slice (some ⟨b, o, none⟩) (l1.length + 1) c)) [18] [(0, 0, some 37), (1, 0, some 38), (2, 0, some 39), (3, 0, some 40), (4, 0, some 41), (5, 0, some 42), (6, 0, some 43), (7, 0, some 44), (8, 0, some 45), (9, 0, some 46), (10, 0, some 47), (11, 0, some 48), (12, 0, some 49), (13, 0, some 50), (14, 0, some 51), (15, 0, some 52), (16, 0, some 53), (17, 0, some 54), (18, 2, none)] (by kernel_rfl) (by kernel_rfl) (by decide) k4 (fun wy2 ewy2 hS => ?_)
        have HT6 := Hide.mk (HT5.out.drew ewy2)
        have HU6 := Hide.mk (HU5.out.trans (Upd.of_below (g := g) (v := v) (below_of_drew ewy2 (Below.refl _ _))) (.inl rfl))
        clear ewy2 HT5 HU5 k1 k2 k3 k4
        (repeat (first | (refine Plan.plan_take (v := ?_) (a' := ?_) rfl ?_ ?_ ?_ ?_; rotate_left 2; (· rfl); (· (intro w' hs; go_simp; with_reducible rfl)); (· (simp only [Act.put, List.setIfInBounds_toArray, List.set_cons_zero, List.set_cons_succ]; rfl))) | (refine Plan.plan_skip (a' := ?_) rfl ?_ ?_ ?_; rotate_left 1; (· rfl); (· (simp only [Act.put, List.setIfInBounds_toArray, List.set_cons_zero, List.set_cons_succ]; rfl))) | (refine Plan.plan_pure (v := ?_) (a' := ?_) rfl ?_ ?_ ?_ ?_; rotate_left 2; (· rfl); (· (intro w'; go_simp; with_reducible rfl)); (· (simp only [Act.put, List.setIfInBounds_toArray, List.set_cons_zero, List.set_cons_succ]; rfl)))))
        refine Plan.plan_take (v := .slice (some ⟨b, if l1.length = 0 then o else o + 2, none⟩) l1.length l1.length) (a' := ?_) rfl ?_ ?_ ?_ ?_
        rotate_left 1
        · rfl
        · intro w' hs
          exact sliceStep rfl rfl rfl rfl rfl HCAP.out
        · simp only [Act.put, List.setIfInBounds_toArray, List.set_cons_zero, List.set_cons_succ]
          rfl
        (repeat (first | (refine Plan.plan_take (v := ?_) (a' := ?_) rfl ?_ ?_ ?_ ?_; rotate_left 2; (· rfl); (· (intro w' hs; go_simp; with_reducible rfl)); (· (simp only [Act.put, List.setIfInBounds_toArray, List.set_cons_zero, List.set_cons_succ]; rfl))) | (refine Plan.plan_skip (a' := ?_) rfl ?_ ?_ ?_; rotate_left 1; (· rfl); (· (simp only [Act.put, List.setIfInBounds_toArray, List.set_cons_zero, List.set_cons_succ]; rfl))) | (refine Plan.plan_pure (v := ?_) (a' := ?_) rfl ?_ ?_ ?_ ?_; rotate_left 2; (· rfl); (· (intro w'; go_simp; with_reducible rfl)); (· (simp only [Act.put, List.setIfInBounds_toArray, List.set_cons_zero, List.set_cons_succ]; rfl)))))
        refine Plan.plan_last_cell rfl rfl rfl 31 (.tmp 54) (.tmp 52) rfl g 4 rfl (.slice (some ⟨b, if l1.length = 0 then o else o + 2, none⟩) l1.length l1.length) rfl rfl rfl (by kernel_rfl) _ _ HT6.out.blk (by show 4 < 5; decide) ?_
        intro w7 hb7 ho7
        have HT7 := Hide.mk (HT6.out.next hb7 ho7)
        have HU7 := Hide.mk (HU6.out.trans (Upd.of_only (v := v) ho7 HT6.out.lt) (.inl rfl))
        clear hb7 ho7 HT6 HU6 hS
        refine Plan.plan_nil ?_
        obtain ⟨k1, k2, k3, k4⟩ := HT7.out.cells
        have e3 : IntKind.u64.wrap (g1 + 1) = g1 + 1 := by rw [IntKind.wrap_u64]; omega
        go_wp2_with ((with_reducible refine gate_store (p := 61) (v := .tmp 59) rfl ?_); go_must (refine store_cell rfl rfl 37 (.tmp 61) (.tmp 59) rfl g 3 rfl (.int .u64 (g1 + 1)) rfl rfl rfl (by kernel_rfl) _ _ HT7.out.blk (by show 3 < 5; decide) ?_); intro w8 hb8 ho8; have HT8 := Hide.mk (HT7.out.set_ (t1 := ⟨r1, s1 - fsz f, g1 + 1, l1⟩) hb8 ho8 rfl); have HU8 := Hide.mk (HU7.out.trans (Upd.of_only (v := v) ho8 HT7.out.lt) (.inl rfl)); clear hb8 ho8 HT7 HU7)
        go_roundw
        case rel => exact ⟨_, ⟨r1, s1 - fsz f, g1 + 1, l1⟩, HT8.out, ⟨by have := HSZ.out; show s1 - fsz f = tot l1; omega, by have := HSM.out; show tot l1 ≤ 4096; omega, hr0, hr1, by show 0 ≤ g1 + 1; omega, by show g1 + 1 + (l1.length : Int) ≤ _; omega⟩, by
          rw [← HF.out]
          exact (if_pos hmore).symm, HU8.out, HV.out⟩
        case measure =>
          have m1 : lenAt g w8 = l1.length := by unfold lenAt; rw [HT8.out.cells.2.2.2]
          have m2 := HM.out
          show lenAt g w8 < lenAt g wr
          omega
      · have d1 : decide (r1 < s1 + n) = false := by simp [hmore]
        go_wp2_with fail
        refine Plan.region_plan (fun w' => w'.cell? ⟨g, 1, none⟩ = some (.int .i64 r1) ∧ w'.cell? ⟨g, 2, none⟩ = some (.int .i64 s1) ∧ w'.cell? ⟨g, 4, none⟩ = some (.slice (some ⟨b, o, none⟩) (l1.length + 1) c)) [] [(0, 0, some 4), (1, 0, some 5), (2, 0, some 6), (3, 0, some 7), (4, 0, some 8), (5, 0, some 9), (6, 0, some 10), (7, 0, some 11), (8, 0, some 12), (9, 0, some 13), (10, 0, some 14), (11, 0, some 15), (12, 0, some 16), (13, 0, some 17), (14, 0, some 18), (15, 0, some 19), (16, 0, some 20), (17, 0, some 21), (18, 0, some 22)] (by kernel_rfl) (by kernel_rfl) (by decide) ⟨k1, k2, k4⟩ (fun wz ewz hS => ?_)
        have HT2 := Hide.mk (HT1.out.drew ewz)
        have HU2 := Hide.mk (HU.out.trans (Upd.of_below (g := g) (v := v) (below_of_drew ewz (Below.refl _ _))) (.inl rfl))
        clear ewz HT1 HU k1 k2 k3 k4 hx hra
        (repeat (first | (refine Plan.plan_take (v := ?_) (a' := ?_) rfl ?_ ?_ ?_ ?_; rotate_left 2; (· rfl); (· (intro w' hs; go_simp; with_reducible rfl)); (· (simp only [Act.put, List.setIfInBounds_toArray, List.set_cons_zero, List.set_cons_succ]; rfl))) | (refine Plan.plan_skip (a' := ?_) rfl ?_ ?_ ?_; rotate_left 1; (· rfl); (· (simp only [Act.put, List.setIfInBounds_toArray, List.set_cons_zero, List.set_cons_succ]; rfl))) | (refine Plan.plan_pure (v := ?_) (a' := ?_) rfl ?_ ?_ ?_ ?_; rotate_left 2; (· rfl); (· (intro w'; go_simp; with_reducible rfl)); (· (simp only [Act.put, List.setIfInBounds_toArray, List.set_cons_zero, List.set_cons_succ]; rfl)))))
        refine Plan.plan_nil ?_
        clear hS
        go_wp2_with fail
        refine bodyPost_end (results_list (rs := []) (vs := []) rfl (by decide) Vals.nil) rfl ?_
        have e0 : fitsT t n = ⟨r1, s1, g1, f :: l1⟩ := HF.out.symm.trans (if_neg (show ¬ r1 < s1 + n by omega))
        exact ⟨rfl, _, by rw [e0]; exact HT2.out, HU2.out, HV.out⟩
end Go.Proofs.Ytcjakeopbjokoaa.Tb
