/- The reference's carried: the places of a number, each below 256. -/
import Derived.Test.YtlhhjdhbkhjhjaaP20
namespace Go.Proofs.Ytlhhjdhbkhjhjaa.Po
open Go.RowKit Go.Proofs.YtlhhjdhbkhjhjaaW.PrintWords Go.Proofs.YtlhhjdhbkhjhjaaW.PrintLast Go.Proofs.YtlhhjdhbkhjhjaaW.PrintMore Mem Rg
attribute [local go_sem] Oper.semAt_some
set_option linter.unusedVariables false
set_option linter.unusedSimpArgs false
/-- Words at the head of a block. -/
def RowW (w : World) (g : Nat) (l : List Int) : Prop := ∃ cur, w.heap[g]? = some (.cells cur 37 (0, 0)) ∧ l.length ≤ cur.size ∧ cur.toList.take l.length = l.map (Value.int .u64)
theorem roww_get {cur : Array Value} {l : List Int} (h : cur.toList.take l.length = l.map (Value.int .u64)) (i : Nat) (hi : i < l.length) : cur[i]? = some (.int .u64 (l.getD i 0)) := by
  have h1 : (cur.toList.take l.length)[i]? = (l.map (Value.int .u64))[i]? := by rw [h]
  rw [List.getElem?_take_of_lt hi, Array.getElem?_toList, List.getElem?_map, List.getElem?_eq_getElem hi] at h1
  rw [h1, List.getD_eq_getElem?_getD, List.getElem?_eq_getElem hi]
  rfl
theorem roww_cell {w : World} {g : Nat} {cur : Array Value} {l : List Int} (hb : w.heap[g]? = some (.cells cur 37 (0, 0))) (h : cur.toList.take l.length = l.map (Value.int .u64)) (i : Nat) (hi : i < l.length) : w.cell? ⟨g, i, none⟩ = some (.int .u64 (l.getD i 0)) :=
  (blk_cell hb i).trans (roww_get h i hi)
theorem roww_set {cur : Array Value} {l : List Int} (hs : l.length ≤ cur.size) (h : cur.toList.take l.length = l.map (Value.int .u64)) (i : Nat) (x : Int) : (cur.setIfInBounds i (.int .u64 x)).toList.take (l.set i x).length = (l.set i x).map (Value.int .u64) := by
  rw [List.length_set, Array.toList_setIfInBounds, List.map_set, List.take_set, h]
theorem RowW.reads {w : World} {g : Nat} {l : List Int} (h : RowW w g l) (hl : l.length ≤ 9223372036854775807) : ReadsInt w .u64 (some ⟨g, 0, none⟩) l.length l := by
  obtain ⟨cur, hb, hs, ht⟩ := h
  refine ⟨rfl, hl, fun _ => ⟨_, rfl, fun j hj => ?_⟩⟩
  rw [Addr.add_mid, Nat.zero_add]
  exact roww_cell hb ht j hj
theorem RowW.of_own {w : World} {base : Nat} {v : Value} {l : List Int} (h : w.ownsRow base 37 1 v l.length (l.map (Value.int .u64))) (h0 : 0 < l.length) : ∃ g cap, v = .slice (some ⟨g, 0, none⟩) l.length cap ∧ l.length ≤ cap ∧ base ≤ g ∧ RowW w g l := by
  rcases h.2 with ⟨_, e⟩ | ⟨g, cap, cur, rfl, hb, hg, hn, _, hs, ht⟩
  · omega
  · refine ⟨g, cap, rfl, hn, hb, cur, hg, by omega, by rw [Nat.mul_one] at ht; exact ht⟩
/-- One word more, behind a row of the call's own. -/
theorem app64 {w : World} {base b3 : Nat} {v : Value} {xs : List Int} {x : Int} (ty : TypeId) (h : w.ownsRow base 37 1 v xs.length (xs.map (Value.int .u64))) (hb : w.heap[b3]? = some (.cells #[.int .u64 x] 37 (0, 0))) (hl : xs.length ≤ 1000) (hbase : base ≤ w.heap.size) :
    ∃ v' w', (Builtin.append_ #[47, 47] ty #[v, .slice (some ⟨b3, 0, none⟩) 1 1]).run Try.prog w = .ok v' w' ∧ w'.ownsRow base 37 1 v' (xs ++ [x]).length ((xs ++ [x]).map (Value.int .u64)) ∧ w.grownBy w' v.ownBlock ∧ (v'.ownBlock = v.ownBlock ∨ ∃ b, v'.ownBlock = some b ∧ w.heap.size ≤ b) := by
  have hinfo : (Try.prog.info? 37).map (fun i => (i.zero, i.size, i.bytes)) = some (some (.int .u64 0), 1, 8) := by kernel_rfl
  obtain ⟨i, hi, hz⟩ := Option.map_eq_some_iff.1 hinfo
  simp only [Prod.mk.injEq] at hz
  obtain ⟨hz0, hz1, hz2⟩ := hz
  have hnews : ∀ j u, [Value.int .u64 x][j]? = some u → w.cell? ((⟨b3, 0, none⟩ : Addr).add j) = some u := fun j u hj => by
    rw [Addr.add_mid]
    have h1 : w.cell? ⟨b3, 0 + j, none⟩ = #[Value.int .u64 x][0 + j]? := blk_cell hb (0 + j)
    rw [h1, ← hj]
    match j with
    | 0 => rfl
    | j + 1 => simp
  have h1 : ∀ u ∈ [Value.int .u64 x], u.oneCell' = true := by
    intro u hu
    simp only [List.mem_cons, List.not_mem_nil, or_false] at hu
    subst hu; rfl
  obtain ⟨v', w', hr, hown, hg, _, hat⟩ := run_append_own_at (P := Try.prog) w base 47 ty 37 i (.int .u64 0) 1 8 Try.underlying47 hi hz0 hz1 hz2 rfl (by decide) v xs.length (xs.map (Value.int .u64)) h ⟨b3, 0, none⟩ 1 1 [.int .u64 x] rfl hnews h1 (by simp only [maxLen]; omega) (by omega) hbase
  refine ⟨v', w', hr, ?_, hg, ?_⟩
  · rw [List.length_append, List.map_append]; exact hown
  · rcases hat with hat | hat
    · exact .inl hat
    · exact .inr ⟨_, hat, Nat.le_refl _⟩
theorem appendStep64 {o : Oper} {a : Act} {s x : Operand} {v u v' : Value} {w w' : World} (ho : o.op = .call { callee := .builtin .append, args := #[s, x], argTypes := #[47, 47] }) (hs : a.eval s = v) (hx : a.eval x = u) (hr : (Builtin.append_ #[47, 47] o.type #[v, u]).run Try.prog w = .ok v' w') : (execOp a.eval o).run Try.prog w = .ok (.value v') w' := by
  unfold execOp
  simp only [ho, resolve, invoke, builtin, Sem.run_bind, Sem.run_pure, Result.andThen_ok, List.map_toArray, List.map_cons, List.map_nil, hs, hx, hr]
theorem buildStep64 {o : Oper} {a : Act} {x : Operand} {f : Int} {w : World} (ho : o.op = .buildSlice 47 1 #[(0, x)]) (hx : a.eval x = .int .u64 f) :
    (execOp a.eval o).run Try.prog w = .ok (.value (.slice (some ⟨w.heap.size, 0, none⟩) 1 1)) (w.alloc (.cells #[.int .u64 f] 37 (0, 0))) := by
  unfold execOp
  simp only [ho, List.map_toArray, List.map_cons, List.map_nil, hx]
  kernel_rfl
theorem carry_eq (n : Nat) (o : List Int) (m x t : Int) : (o ++ [(m + x) % 256]) ++ digits n ((m + x) / 256 + t) = o ++ digits (n + 1) (m + (x + 256 * t)) := by
  rw [digits, List.append_assoc, List.singleton_append, show (m + (x + 256 * t)) % 256 = (m + x) % 256 by omega, show (m + (x + 256 * t)) / 256 = (m + x) / 256 + t by omega]
set_option maxHeartbeats 4000000 in
set_option maxRecDepth 100000 in
theorem refcarried_any (A : Option Addr) (c : Nat) (l : List Int) (w : World) (hl : l.length = 34) (hs : Sm 1152921504606846976 l) (hc : 34 ≤ c) (hr : ReadsInt w .u64 A 34 l) : Calls Try.prog 30 #[.slice A 34 c, .int .i64 34] w fun e w' => ∃ g f, e = .returned (.slice (some ⟨g, 0, none⟩) 34 f) ∧ 34 ≤ f ∧ w.heap.size ≤ g ∧ RowW w' g (digits 34 (valB l)) ∧ Below w.heap.size w w' := by
  have HL := Hide.mk hl
  have HS := Hide.mk hs
  have HR := Hide.mk hr
  have HB0 := Hide.mk (Below.refl w.heap.size w)
  have HO0 := Hide.mk (own_nil w w.heap.size 37 1)
  clear hl hs hc hr
  go_enter Try.func30, Try.ntmps30
  go_wp2_with fail
  go_loopg [5, 6, 7] 34 (fun gp v5 v6 v7 wy => ∃ (k : Nat) (m : Int) (o : List Int), k + gp = 34 ∧ v7 = .int .i64 k ∧ v6 = .int .u64 m ∧ 0 ≤ m ∧ m ≤ 1152921504606846976 ∧ Hide (o.length = k) ∧ Hide (o ++ digits gp (m + valB (l.drop k)) = digits 34 (valB l)) ∧ Hide (wy.ownsRow w.heap.size 37 1 v5 o.length (o.map (Value.int .u64))) ∧ Hide (Below w.heap.size w wy))
  case atStart => exact ⟨0, 0, [], rfl, rfl, rfl, Int.le_refl _, by decide, ⟨rfl⟩, ⟨by simp⟩, HO0, HB0⟩
  case round =>
    clear HO0 HB0
    obtain ⟨k, m, o, hk, rfl, rfl, hm0, hm1, HOL, HE, HO, HB⟩ := hrel
    by_cases hlt : k < 34
    · have hd : decide ((k : Int) < 34) = true := by simp; omega
      have hi0 : (0 : Int) ≤ (k : Int) := Int.natCast_nonneg _
      have hi1 : (k : Int) < 34 := by omega
      have f1 : IntKind.i64.wrap ((k : Int) + 1) = (k : Int) + 1 := IntWalk.i64_in _ (by omega)
      obtain ⟨ad, rfl, hcell⟩ := HR.out.2.2 (by decide)
      have hc0 := hcell k hlt
      have hadl : ad.block < w.heap.size := by have := World.block_lt_of_cell? w _ hc0; rwa [add_block] at this
      have c0 : wr.cell? (ad.add k) = some (.int .u64 (l.getD k 0)) := (HB.out.cell (p := ad.add k) (by rw [add_block]; exact hadl)).trans hc0
      have HX := Hide.mk (HS.out k)
      obtain ⟨q, rfl⟩ : ∃ q, gk = q + 1 := ⟨gk - 1, by omega⟩
      have HE2 : Hide ((o ++ [(m + l.getD k 0) % 256]) ++ digits q ((m + l.getD k 0) / 256 + valB (l.drop (k + 1))) = digits 34 (valB l)) := ⟨by rw [carry_eq, ← HE.out, drop_getD l k (by rw [HL.out]; exact hlt)]; rfl⟩
      generalize l.getD k 0 = x at c0 HX HE2
      obtain ⟨x0, x1⟩ := HX.out
      have HOB : Hide (o.length ≤ 1000) := ⟨by rw [HOL.out]; omega⟩
      clear hcell hc0 HE
      go_wp2_with (first | ((with_reducible refine gate_dst (N := 26) rfl ?_); refine Kd.event_run rfl (v := .slice (some ⟨wr.heap.size, 0, none⟩) 1 1) (w1 := wr.alloc (.cells #[.int .u64 ((m + x) % 256)] 37 (0, 0))) (buildStep64 rfl rfl) ?_; have HN7 := Hide.mk (heap_alloc_new wr (.cells #[.int .u64 ((m + x) % 256)] 37 (0, 0))); have HO7 := Hide.mk (own_move HO.out (fun q hq => (Below.heap_alloc wr (.cells #[.int .u64 ((m + x) % 256)] 37 (0, 0)) q (by obtain ⟨cells, hh⟩ := own_typed HO.out q hq; exact blk_lt hh)))); have HB7 := Hide.mk (below_step HB.out (below_alloc (Below.refl _ _) (.cells #[.int .u64 ((m + x) % 256)] 37 (0, 0)))); clear HO HB c0; generalize wr.alloc (.cells #[.int .u64 ((m + x) % 256)] 37 (0, 0)) = w7 at HN7 HO7 HB7 ⊢; generalize wr.heap.size = b7 at HN7 ⊢; obtain ⟨v8, w8, hr8, ho8, hgr8, hat8⟩ := app64 47 HO7.out HN7.out HOB.out HB7.out.size; have HAP := Hide.mk hr8; have HO8 := Hide.mk ho8; have HB8 := Hide.mk (show Below w.heap.size w w8 from HB7.out.trans ⟨hgr8.os, hgr8.tape, hgr8.output, hgr8.size, fun q hq => hgr8.block q (Nat.lt_of_lt_of_le hq HB7.out.size) (fun e => (by rcases HO7.out.2 with ⟨rfl, _⟩ | ⟨g, cap, cur, rfl, hg, _⟩; (simp [Value.ownBlock] at e); (simp [Value.ownBlock] at e; omega)))⟩); clear hr8 ho8 hgr8 hat8) | ((with_reducible refine gate_dst (N := 27) rfl ?_); refine Kd.event_run rfl (v := v8) (w1 := w8) (appendStep64 rfl rfl rfl HAP.out) ?_; clear HAP HN7 HO7 HB7))
      go_roundg q
      case measure => omega
      case rel => exact ⟨k + 1, (m + x) / 256, o ++ [(m + x) % 256], by omega, by go_num, rfl, by omega, by omega, ⟨by rw [List.length_append, HOL.out]; rfl⟩, HE2, HO8, HB8⟩
    · obtain rfl : k = 34 := by omega
      obtain rfl : gk = 0 := by omega
      rw [show ((34 : Nat) : Int) = 34 from rfl]
      have HF : Hide (o = digits 34 (valB l)) := ⟨by rw [← HE.out]; simp [digits]⟩
      obtain ⟨g, f, rfl, hf, hg, hrow⟩ := RowW.of_own HO.out (by rw [HOL.out]; decide)
      have HROW := Hide.mk hrow
      rw [HOL.out] at hf ⊢
      clear hrow HE HO hlt hk
      go_wp2_with fail
      go_ret
      exact ⟨g, f, rfl, hf, hg, by rw [← HF.out]; exact HROW.out, HB.out⟩
end Go.Proofs.Ytlhhjdhbkhjhjaa.Po
