/- TwinBytes, LeftBytes. -/
import Derived.Test.YtlhhjdhbkhjhjaaP6
import Derived.ArgAppend
namespace Go.Proofs.Ytlhhjdhbkhjhjaa.Po
open Go.RowKit Go.Proofs.YtlhhjdhbkhjhjaaW.PrintWords Go.Proofs.YtlhhjdhbkhjhjaaW.PrintLast Go.Proofs.YtlhhjdhbkhjhjaaW.PrintMore Mem Rg
attribute [local go_sem] Oper.semAt_some
set_option linter.unusedVariables false
set_option linter.unusedSimpArgs false
theorem reads_C {w : World} {A : Option Addr} {n : Nat} {xs : List Int} (h : ReadsInt w .u8 A n xs) : Kd.C (Kd.int .u8) w A n xs := by
  refine ⟨h.1, h.2.1, fun hn => ?_⟩
  obtain ⟨ad, e, hc⟩ := h.2.2 hn
  refine ⟨ad, e, fun j p hj => ⟨[.int .u8 p], rfl, rfl, fun i u hi => ?_⟩⟩
  match i with
  | 0 =>
    have hjl : j < n := by rw [← h.1]; exact (List.getElem?_eq_some_iff.1 hj).1
    have := hc j hjl
    rw [List.getD_eq_getElem?_getD, hj] at this
    cases hi
    rw [show j * (Kd.int .u8).sz + 0 = j from by show j * 1 + 0 = j; omega]
    exact this
  | i + 1 => cases hi
theorem C_reads {w : World} {A : Option Addr} {n : Nat} {xs : List Int} (h : Kd.C (Kd.int .u8) w A n xs) : ReadsInt w .u8 A n xs := by
  refine ⟨h.1, h.2.1, fun hn => ?_⟩
  obtain ⟨ad, e, hc⟩ := h.2.2 hn
  refine ⟨ad, e, fun j hj => ?_⟩
  obtain ⟨c, h1, h2, h3⟩ := hc j (xs.getD j 0) (by rw [List.getD_eq_getElem?_getD, List.getElem?_eq_getElem (by rw [h.1]; exact hj)]; rfl)
  have e2 : c = [.int .u8 (xs.getD j 0)] := h2
  have := h3 0 (.int .u8 (xs.getD j 0)) (by rw [e2]; rfl)
  rwa [show j * (Kd.int .u8).sz + 0 = j from by show j * 1 + 0 = j; omega] at this
/-- One byte more, behind a row of the call's own. -/
theorem app8 {w : World} {base b3 : Nat} {v : Value} {xs : List Int} {x : Int} (ty : TypeId) (h : w.ownsRow base 5 1 v xs.length (xs.map (Value.int .u8))) (hb : w.heap[b3]? = some (.cells #[.int .u8 x] 5 (0, 0))) (hl : xs.length ≤ 1099511627776) (hbase : base ≤ w.heap.size) :
    ∃ v' w', (Builtin.append_ #[23, 23] ty #[v, .slice (some ⟨b3, 0, none⟩) 1 1]).run Try.prog w = .ok v' w' ∧ w'.ownsRow base 5 1 v' (xs ++ [x]).length ((xs ++ [x]).map (Value.int .u8)) ∧ w.grownBy w' v.ownBlock ∧ (v'.ownBlock = v.ownBlock ∨ ∃ b, v'.ownBlock = some b ∧ w.heap.size ≤ b) := by
  have hinfo : (Try.prog.info? 5).map (fun i => (i.zero, i.size, i.bytes)) = some (some (.int .u8 0), 1, 1) := by kernel_rfl
  obtain ⟨i, hi, hz⟩ := Option.map_eq_some_iff.1 hinfo
  simp only [Prod.mk.injEq] at hz
  obtain ⟨hz0, hz1, hz2⟩ := hz
  have hnews : ∀ j u, [Value.int .u8 x][j]? = some u → w.cell? ((⟨b3, 0, none⟩ : Addr).add j) = some u := fun j u hj => by
    rw [Addr.add_mid]
    have h1 : w.cell? ⟨b3, 0 + j, none⟩ = #[Value.int .u8 x][0 + j]? := blk_cell hb (0 + j)
    rw [h1, ← hj]
    match j with
    | 0 => rfl
    | j + 1 => simp
  have h1 : ∀ u ∈ [Value.int .u8 x], u.oneCell' = true := by
    intro u hu
    simp only [List.mem_cons, List.not_mem_nil, or_false] at hu
    subst hu; rfl
  obtain ⟨v', w', hr, hown, hg, _, hat⟩ := run_append_own_at (P := Try.prog) w base 23 ty 5 i (.int .u8 0) 1 1 Try.underlying23 hi hz0 hz1 hz2 rfl (by decide) v xs.length (xs.map (Value.int .u8)) h ⟨b3, 0, none⟩ 1 1 [.int .u8 x] rfl hnews h1 (by simp only [maxLen]; omega) (by omega) hbase
  refine ⟨v', w', hr, ?_, hg, ?_⟩
  · rw [List.length_append, List.map_append]; exact hown
  · rcases hat with hat | hat
    · exact .inl hat
    · exact .inr ⟨_, hat, Nat.le_refl _⟩
theorem appendStep {o : Oper} {a : Act} {s x : Operand} {v u v' : Value} {w w' : World} (ho : o.op = .call { callee := .builtin .append, args := #[s, x], argTypes := #[23, 23] }) (hs : a.eval s = v) (hx : a.eval x = u) (hr : (Builtin.append_ #[23, 23] o.type #[v, u]).run Try.prog w = .ok v' w') : (execOp a.eval o).run Try.prog w = .ok (.value v') w' := by
  unfold execOp
  simp only [ho, resolve, invoke, builtin, Sem.run_bind, Sem.run_pure, Result.andThen_ok, List.map_toArray, List.map_cons, List.map_nil, hs, hx, hr]
theorem buildStep {o : Oper} {a : Act} {x : Operand} {f : Int} {w : World} (ho : o.op = .buildSlice 23 1 #[(0, x)]) (hx : a.eval x = .int .u8 f) :
    (execOp a.eval o).run Try.prog w = .ok (.value (.slice (some ⟨w.heap.size, 0, none⟩) 1 1)) (w.alloc (.cells #[.int .u8 f] 5 (0, 0))) := by
  unfold execOp
  simp only [ho, List.map_toArray, List.map_cons, List.map_nil, hx]
  kernel_rfl
theorem makeOwn (base n : Nat) (w : World) (hn : n ≤ 281474976710656) (hbase : base ≤ w.heap.size) : ∃ v w', (∀ (o : Oper) (a : Act) (y : Operand), o.op = .makeSlice 23 (.const (.int .i64 0)) y → a.eval y = .int .i64 (n : Int) → (execOp a.eval o).run Try.prog w = .ok (.value v) w') ∧ w'.ownsRow base 5 1 v 0 [] ∧ w.grownBy w' none := by
  have hinfo : (Try.prog.info? 5).map (fun i => (i.zero, i.size, i.bytes)) = some (some (.int .u8 0), 1, 1) := by kernel_rfl
  obtain ⟨i, hi, hz⟩ := Option.map_eq_some_iff.1 hinfo
  simp only [Prod.mk.injEq] at hz
  obtain ⟨hz0, hz1, hz2⟩ := hz
  obtain ⟨w', h1, h2, h3⟩ := run_make_own (P := Try.prog) (w := w) base 23 5 i (.int .u8 0) 1 Try.underlying23 hi hz0 hz1 .i64 .i64 n (by rw [hz2]; omega) (by simp only [maxLen]; omega) hbase
  refine ⟨_, w', fun o a y ho hy => ?_, h2, h3⟩
  unfold execOp
  simp only [ho, hy, show a.eval (.const (.int .i64 0)) = .int .i64 0 from rfl, h1, Sem.run_bind, Result.andThen_ok, Sem.run_pure]
theorem slice_hi_var {o : Oper} {a : Act} {x y : Operand} {A : Option Addr} {n c : Nat} {w : World} (m : Nat) (ho : o.op = .slice 23 x none (some y) none) (hx : a.eval x = .slice A n c) (hy : a.eval y = .int .i64 (m : Int)) (hm : m ≤ c) :
    (execOp a.eval o).run Try.prog w = .ok (.value (.slice A m c)) w := by
  have hi : (Try.prog.info? 5).isSome = true := by kernel_rfl
  obtain ⟨ii, hi⟩ := Option.isSome_iff_exists.1 hi
  have hu : Try.prog.underlying 23 = some (.slice (Try.prog.elem 23)) := by kernel_rfl
  have he : Try.prog.elem 23 = 5 := by kernel_rfl
  have hr := run_slice_h w 23 A n c hu .i64 (m : Int) (Int.natCast_nonneg _) (by omega)
  rw [he, run_sizeOf w hi] at hr
  have hA : A.map (·.add 0) = A := by cases A <;> rfl
  have hs : ∀ s, sliced A 0 (m : Int).toNat c s = .slice A m c := fun s => by
    unfold sliced
    simp [hA]
  rw [Result.andThen_ok, hs] at hr
  unfold execOp
  simp only [ho, hx, hy, Option.map_some, Option.map_none, run_sliceAt_slice (h := hu), hr, Sem.run_bind, Result.andThen_ok, Sem.run_pure]
set_option maxHeartbeats 4000000 in
set_option maxRecDepth 100000 in
theorem twin_any (A : Option Addr) (c : Nat) (xs : List Int) (w : World) (hn : xs.length ≤ 4194304000) (hr : ReadsInt w .u8 A xs.length xs) : Calls Try.prog 7 #[.slice A xs.length c] w fun e w' => ∃ g d, e = .returned (.slice (some ⟨g, 0, none⟩) xs.length d) ∧ xs.length + 1 ≤ d ∧ ReadsInt w' .u8 (some ⟨g, 0, none⟩) (xs.length + 1) (xs ++ [77]) ∧ Below w.heap.size w w' ∧ w.heap.size ≤ g := by
  have HN := Hide.mk hn
  have HR := Hide.mk hr
  obtain ⟨v0, w1, hmk, hown, hgr⟩ := makeOwn w.heap.size (xs.length + 1) w (by omega) (Nat.le_refl _)
  have HMK := Hide.mk hmk
  have HO := Hide.mk hown
  have HB := Hide.mk (show Below w.heap.size w w1 from ⟨hgr.os, hgr.tape, hgr.output, hgr.size, fun k hk => hgr.block k hk (by simp)⟩)
  have e1 : IntKind.i64.wrap ((xs.length : Int) + 1) = ((xs.length + 1 : Nat) : Int) := by rw [IntWalk.i64_in _ (by omega)]; omega
  have hv : v0.cells = #[v0] ∧ v0.oneCell' = true := by
    rcases hown.2 with ⟨rfl, _⟩ | ⟨g, cap, cur, rfl, _⟩ <;> exact ⟨rfl, rfl⟩
  clear hn hr hmk hown hgr
  go_enter Try.func7, Try.ntmps7
  go_wp2_with (first | ((with_reducible refine gate_dst (N := 8) rfl ?_); refine Kd.event_run rfl (v := v0) (w1 := w1) (HMK.out _ _ _ rfl rfl) ?_; clear HMK))
  clear e1
  go_loopw [3, 4] (fun v i wr => ∃ (k : Nat) (u : Value), k ≤ xs.length ∧ v = u ∧ i = .int .i64 k ∧ wr.ownsRow w.heap.size 5 1 u (xs.take k).length ((xs.take k).map (Value.int .u8)) ∧ Below w.heap.size w wr) (fun _ i _ => xs.length - (intOf i).toNat)
  case atStart => exact ⟨0, v0, Nat.zero_le _, rfl, rfl, HO.out, HB.out⟩
  case round =>
    clear HO HB hv
    obtain ⟨k, u, hk, rfl, rfl, ho, hb⟩ := hrel
    have HO := Hide.mk ho
    have HB := Hide.mk hb
    clear ho hb
    by_cases hlt : k < xs.length
    · have hd : decide ((k : Int) < (xs.length : Int)) = true := by simp; omega
      have hi0 : (0 : Int) ≤ (k : Int) := Int.natCast_nonneg _
      have hi1 : (k : Int) < (xs.length : Int) := by omega
      have hw : IntKind.i64.wrap ((k : Int) + 1) = (k : Int) + 1 := IntWalk.i64_in _ (by have := HN.out; omega)
      obtain ⟨ad, rfl, hcell⟩ := HR.out.2.2 (by omega)
      have hc0 := hcell k hlt
      have hadl : ad.block < w.heap.size := by have := World.block_lt_of_cell? w _ hc0; rwa [add_block] at this
      have hc : wr.cell? (ad.add k) = some (.int .u8 (xs.getD k 0)) := (HB.out.cell (p := ad.add k) (by rw [add_block]; exact hadl)).trans hc0
      have HT : Hide (xs.take k ++ [xs.getD k 0] = xs.take (k + 1)) := ⟨by rw [List.take_add_one, List.getD_eq_getElem?_getD, List.getElem?_eq_getElem hlt]; rfl⟩
      generalize xs.getD k 0 = x at hc HT
      have HTL : Hide ((xs.take k).length ≤ 1099511627776) := ⟨by rw [List.length_take]; have := HN.out; omega⟩
      clear hcell hc0
      go_wp2_with (first | ((with_reducible refine gate_dst (N := 20) rfl ?_); refine Kd.event_run rfl (v := .slice (some ⟨wr.heap.size, 0, none⟩) 1 1) (w1 := wr.alloc (.cells #[.int .u8 x] 5 (0, 0))) (buildStep rfl rfl) ?_; have HN7 := Hide.mk (heap_alloc_new wr (.cells #[.int .u8 x] 5 (0, 0))); have HO7 := Hide.mk (own_move HO.out (fun q hq => (Below.heap_alloc wr (.cells #[.int .u8 x] 5 (0, 0)) q (by obtain ⟨cells, hh⟩ := own_typed HO.out q hq; exact blk_lt hh)))); have HB7 := Hide.mk (below_step HB.out (below_alloc (Below.refl _ _) (.cells #[.int .u8 x] 5 (0, 0)))); clear HO HB hc; generalize wr.alloc (.cells #[.int .u8 x] 5 (0, 0)) = w7 at HN7 HO7 HB7 ⊢; generalize wr.heap.size = b7 at HN7 ⊢; obtain ⟨v8, w8, hr8, ho8, hgr8, hat8⟩ := app8 23 HO7.out HN7.out HTL.out HB7.out.size; have HAP := Hide.mk hr8; have HO8 := Hide.mk ho8; have HB8 := Hide.mk (show Below w.heap.size w w8 from HB7.out.trans ⟨hgr8.os, hgr8.tape, hgr8.output, hgr8.size, fun q hq => hgr8.block q (Nat.lt_of_lt_of_le hq HB7.out.size) (fun e => (by rcases HO7.out.2 with ⟨rfl, _⟩ | ⟨g, cap, cur, rfl, hg, _⟩; (simp [Value.ownBlock] at e); (simp [Value.ownBlock] at e; omega)))⟩); clear hr8 ho8 hgr8 hat8) | ((with_reducible refine gate_dst (N := 21) rfl ?_); refine Kd.event_run rfl (v := v8) (w1 := w8) (appendStep rfl rfl rfl HAP.out) ?_; clear HAP HN7 HO7 HB7))
      go_roundw
      case rel => exact ⟨k + 1, _, by omega, rfl, by go_num, by rw [← HT.out]; exact HO8.out, HB8.out⟩
      case measure => simp [intOf]; omega
    · obtain rfl : k = xs.length := by omega
      have hd : decide ((xs.length : Int) < (xs.length : Int)) = false := by simp
      have HTL : Hide ((xs.take xs.length).length ≤ 1099511627776) := ⟨by rw [List.length_take]; have := HN.out; omega⟩
      have HTT : Hide (xs.take xs.length = xs) := ⟨List.take_length⟩
      go_wp2_with (first | ((with_reducible refine gate_dst (N := 23) rfl ?_); refine Kd.event_run rfl (v := .slice (some ⟨wr.heap.size, 0, none⟩) 1 1) (w1 := wr.alloc (.cells #[.int .u8 77] 5 (0, 0))) (buildStep rfl rfl) ?_; have HN7 := Hide.mk (heap_alloc_new wr (.cells #[.int .u8 77] 5 (0, 0))); have HO7 := Hide.mk (own_move HO.out (fun q hq => (Below.heap_alloc wr (.cells #[.int .u8 77] 5 (0, 0)) q (by obtain ⟨cells, hh⟩ := own_typed HO.out q hq; exact blk_lt hh)))); have HB7 := Hide.mk (below_step HB.out (below_alloc (Below.refl _ _) (.cells #[.int .u8 77] 5 (0, 0)))); clear HO HB; generalize wr.alloc (.cells #[.int .u8 77] 5 (0, 0)) = w7 at HN7 HO7 HB7 ⊢; generalize wr.heap.size = b7 at HN7 ⊢; obtain ⟨v8, w8, hr8, ho8, hgr8, hat8⟩ := app8 23 HO7.out HN7.out HTL.out HB7.out.size; have HAP := Hide.mk hr8; rw [HTT.out] at ho8; obtain ⟨g8, c8, hv8, hg8, hcc8⟩ : ∃ g c, v8 = .slice (some ⟨g, 0, none⟩) (xs ++ [77]).length c ∧ w.heap.size ≤ g ∧ (xs ++ [77]).length ≤ c := (by rcases ho8.2 with ⟨_, h0⟩ | ⟨g, cap, cur, e, hb, _, hc, _⟩; (simp at h0); (exact ⟨g, cap, e, hb, hc⟩)); have HCC := Hide.mk hcc8; have HG8 := Hide.mk hg8; have HO8 := Hide.mk ho8; have HB8 := Hide.mk (show Below w.heap.size w w8 from HB7.out.trans ⟨hgr8.os, hgr8.tape, hgr8.output, hgr8.size, fun q hq => hgr8.block q (Nat.lt_of_lt_of_le hq HB7.out.size) (fun e => (by rcases HO7.out.2 with ⟨rfl, _⟩ | ⟨g, cap, cur, rfl, hg, _⟩; (simp [Value.ownBlock] at e); (simp [Value.ownBlock] at e; omega)))⟩); clear hr8 ho8 hgr8 hat8 hcc8 hg8; subst hv8) | ((with_reducible refine gate_dst (N := 24) rfl ?_); refine Kd.event_run rfl (w1 := w8) (appendStep rfl rfl rfl HAP.out) ?_; clear HAP HN7 HO7 HB7) | ((with_reducible refine gate_dst (N := 27) rfl ?_); refine Kd.event_run rfl (w1 := w8) (slice_hi_var xs.length rfl rfl rfl (by have := HCC.out; simp at this; omega)) ?_))
      go_ret
      refine ⟨g8, c8, rfl, by have := HCC.out; simpa using this, ?_, HB8.out, HG8.out⟩
      refine ⟨by simp, by have := HN.out; omega, fun _ => ⟨_, rfl, fun j hj => ?_⟩⟩
      have := World.ownsRow.cells HO8.out (g := g8) rfl j (.int .u8 ((xs ++ [77]).getD j 0)) (by rw [List.getElem?_map, List.getD_eq_getElem?_getD, List.getElem?_eq_getElem (by simp; omega)]; rfl)
      exact this
set_option maxHeartbeats 4000000 in
set_option maxRecDepth 100000 in
theorem left_any (g d : Nat) (A : Option Addr) (c : Nat) (xs : List Int) (w : World) (hn : xs.length ≤ 4194304000) (hd : xs.length + 1 ≤ d) (ht : ReadsInt w .u8 (some ⟨g, 0, none⟩) (xs.length + 1) (xs ++ [77])) (hr : ReadsInt w .u8 A xs.length xs) : Calls Try.prog 10 #[.slice (some ⟨g, 0, none⟩) xs.length d, .slice A xs.length c] w fun e w' => e = .returned (.bool true) ∧ Below w.heap.size w w' := by
  have HN := Hide.mk hn
  have HT := Hide.mk ht
  have HR := Hide.mk hr
  have HD := Hide.mk hd
  have hcap : decide (d ≤ xs.length) = false := by simp; omega
  clear hn ht hr hd
  go_enter Try.func10, Try.ntmps10
  go_wp2_with fail
  go_loopw [5] (fun t wr => ∃ k : Nat, k ≤ xs.length ∧ t = .int .i64 k ∧ Below w.heap.size w wr) (fun t _ => xs.length - (intOf t).toNat)
  case atStart => exact ⟨0, Nat.zero_le _, rfl, Below.refl _ _⟩
  case round =>
    obtain ⟨k, hk, rfl, hb⟩ := hrel
    have HB := Hide.mk hb
    clear hb
    by_cases hlt : k < xs.length
    · have hd : decide ((k : Int) < (xs.length : Int)) = true := by simp; omega
      have hi0 : (0 : Int) ≤ (k : Int) := Int.natCast_nonneg _
      have hi1 : (k : Int) < (xs.length : Int) := by omega
      have hw : IntKind.i64.wrap ((k : Int) + 1) = (k : Int) + 1 := IntWalk.i64_in _ (by have := HN.out; omega)
      obtain ⟨ad, rfl, hcell⟩ := HR.out.2.2 (by omega)
      obtain ⟨ad', had, hcell'⟩ := HT.out.2.2 (by omega)
      cases had
      have hc0 := hcell k hlt
      have hc1 := hcell' k (by omega)
      have hadl : ad.block < w.heap.size := by have := World.block_lt_of_cell? w _ hc0; rwa [add_block] at this
      have hgl : g < w.heap.size := by have := World.block_lt_of_cell? w _ hc1; rwa [add_block] at this
      have he : (xs ++ [77]).getD k 0 = xs.getD k 0 := by rw [List.getD_eq_getElem?_getD, List.getElem?_append_left hlt, List.getD_eq_getElem?_getD]
      rw [he, Addr.add_mid, Nat.zero_add] at hc1
      have c0 : wr.cell? (ad.add k) = some (.int .u8 (xs.getD k 0)) := (HB.out.cell (p := ad.add k) (by rw [add_block]; exact hadl)).trans hc0
      have c1 : wr.cell? ⟨g, k, none⟩ = some (.int .u8 (xs.getD k 0)) := (HB.out.cell (p := ⟨g, k, none⟩) hgl).trans hc1
      generalize xs.getD k 0 = x at c0 c1
      clear hcell hcell' hc0 hc1 he
      go_wp2_with fail
      refine Plan.region_plan (fun w' => w'.cell? ⟨g, k, none⟩ = some (.int .u8 x) ∧ w'.cell? (ad.add k) = some (.int .u8 x)) [] [(0, 0, some 25), (1, 0, some 26), (2, 0, some 27), (3, 0, some 28), (4, 0, some 29), (5, 0, some 30), (6, 0, some 31), (7, 0, some 32), (8, 0, some 33)] (by kernel_rfl) (by kernel_rfl) (by decide) ⟨c1, c0⟩ (fun wz ewz hS => ?_)
      have HBz := Hide.mk (below_of_drew ewz HB.out)
      clear ewz HB c0 c1
      (repeat (first | (refine Plan.plan_take (v := ?_) (a' := ?_) rfl ?_ ?_ ?_ ?_; rotate_left 2; (· rfl); (· (intro w' hs; go_simp; with_reducible rfl)); (· (simp only [Act.put, List.setIfInBounds_toArray, List.set_cons_zero, List.set_cons_succ]; rfl))) | (refine Plan.plan_skip (a' := ?_) rfl ?_ ?_ ?_; rotate_left 1; (· rfl); (· (simp only [Act.put, List.setIfInBounds_toArray, List.set_cons_zero, List.set_cons_succ]; rfl))) | (refine Plan.plan_pure (v := ?_) (a' := ?_) rfl ?_ ?_ ?_ ?_; rotate_left 2; (· rfl); (· (intro w'; go_simp; with_reducible rfl)); (· (simp only [Act.put, List.setIfInBounds_toArray, List.set_cons_zero, List.set_cons_succ]; rfl)))))
      refine Plan.plan_nil ?_
      clear hS
      go_wp2_with fail
      go_roundw
      case rel => exact ⟨k + 1, by omega, by go_num, HBz.out⟩
      case measure => simp [intOf]; omega
    · obtain rfl : k = xs.length := by omega
      have hd : decide ((xs.length : Int) < (xs.length : Int)) = false := by simp
      have e1 : IntKind.i64.wrap ((xs.length : Int) + 1) = ((xs.length + 1 : Nat) : Int) := by rw [IntWalk.i64_in _ (by have := HN.out; omega)]; omega
      obtain ⟨ad', had, hcell'⟩ := HT.out.2.2 (by omega)
      cases had
      have hc1 := hcell' xs.length (by omega)
      have hgl : g < w.heap.size := by have := World.block_lt_of_cell? w _ hc1; rwa [add_block] at this
      have he : (xs ++ [77]).getD xs.length 0 = 77 := by simp [List.getD_eq_getElem?_getD]
      rw [he, Addr.add_mid, Nat.zero_add] at hc1
      have c1 : wr.cell? ⟨g, xs.length, none⟩ = some (.int .u8 77) := (HB.out.cell (p := ⟨g, xs.length, none⟩) hgl).trans hc1
      clear hcell' hc1 he
      have hi0 : (0 : Int) ≤ (xs.length : Int) := Int.natCast_nonneg _
      have hi2 : xs.length < xs.length + 1 := by omega
      have hi1 : (xs.length : Int) < ((xs.length + 1 : Nat) : Int) := by omega
      go_wp2_with (first | ((with_reducible refine gate_dst (N := 38) rfl ?_); refine Kd.event_run rfl (w1 := wr) (slice_hi_var (xs.length + 1) rfl rfl rfl HD.out) ?_))
      go_ret
      exact ⟨rfl, HB.out⟩
end Go.Proofs.Ytlhhjdhbkhjhjaa.Po
