/- Tag. -/
import Derived.Test.YtlhhjdhbkhjhjaaP11
import Derived.Test.YtlhhjdhbkhjhjaaP10
import Derived.Test.YtlhhjdhbkhjhjaaP3
import Derived.Test.YtlhhjdhbkhjhjaaP4
namespace Go.Proofs.Ytlhhjdhbkhjhjaa.Po
open Go.RowKit Go.Proofs.YtlhhjdhbkhjhjaaW.PrintWords Go.Proofs.YtlhhjdhbkhjhjaaW.PrintLast Go.Proofs.YtlhhjdhbkhjhjaaW.PrintMore Mem Rg
attribute [local go_sem] Oper.semAt_some
set_option linter.unusedVariables false
set_option linter.unusedSimpArgs false
/-- Bytes at the head of a block. -/
def Row (w : World) (g : Nat) (l : List Int) : Prop := ∃ cur, w.heap[g]? = some (.cells cur 5 (0, 0)) ∧ l.length ≤ cur.size ∧ cur.toList.take l.length = l.map (Value.int .u8)
theorem row_get {cur : Array Value} {l : List Int} (h : cur.toList.take l.length = l.map (Value.int .u8)) (i : Nat) (hi : i < l.length) : cur[i]? = some (.int .u8 (l.getD i 0)) := by
  have h1 : (cur.toList.take l.length)[i]? = (l.map (Value.int .u8))[i]? := by rw [h]
  rw [List.getElem?_take_of_lt hi, Array.getElem?_toList, List.getElem?_map, List.getElem?_eq_getElem hi] at h1
  rw [h1, List.getD_eq_getElem?_getD, List.getElem?_eq_getElem hi]
  rfl
theorem row_cell {w : World} {g : Nat} {cur : Array Value} {l : List Int} (hb : w.heap[g]? = some (.cells cur 5 (0, 0))) (h : cur.toList.take l.length = l.map (Value.int .u8)) (i : Nat) (hi : i < l.length) : w.cell? ⟨g, i, none⟩ = some (.int .u8 (l.getD i 0)) :=
  (blk_cell hb i).trans (row_get h i hi)
theorem row_set {cur : Array Value} {l : List Int} (hs : l.length ≤ cur.size) (h : cur.toList.take l.length = l.map (Value.int .u8)) (i : Nat) (x : Int) : (cur.setIfInBounds i (.int .u8 x)).toList.take (l.set i x).length = (l.set i x).map (Value.int .u8) := by
  rw [List.length_set, Array.toList_setIfInBounds, List.map_set, List.take_set, h]
theorem Row.reads {w : World} {g : Nat} {l : List Int} (h : Row w g l) (hl : l.length ≤ 9223372036854775807) : ReadsInt w .u8 (some ⟨g, 0, none⟩) l.length l := by
  obtain ⟨cur, hb, hs, ht⟩ := h
  refine ⟨rfl, hl, fun _ => ⟨_, rfl, fun j hj => ?_⟩⟩
  rw [Addr.add_mid, Nat.zero_add]
  exact row_cell hb ht j hj
theorem Row.of_own {w : World} {base : Nat} {v : Value} {l : List Int} (h : w.ownsRow base 5 1 v l.length (l.map (Value.int .u8))) (h0 : 0 < l.length) : ∃ g cap, v = .slice (some ⟨g, 0, none⟩) l.length cap ∧ base ≤ g ∧ Row w g l := by
  rcases h.2 with ⟨_, e⟩ | ⟨g, cap, cur, rfl, hb, hg, hn, _, hs, ht⟩
  · omega
  · refine ⟨g, cap, rfl, hb, cur, hg, by omega, by rw [Nat.mul_one] at ht; exact ht⟩
theorem Row.blk {w : World} {g : Nat} {l : List Int} (h : Row w g l) {w1 : World} (hk : w1.heap[g]? = w.heap[g]?) : Row w1 g l := by
  obtain ⟨cur, hb, hs, ht⟩ := h
  exact ⟨cur, hk.trans hb, hs, ht⟩
theorem Row.lt {w : World} {g : Nat} {l : List Int} (h : Row w g l) : g < w.heap.size := by
  obtain ⟨cur, hb, _⟩ := h
  exact blk_lt hb
theorem valB_append : ∀ (a b : List Int), valB (a ++ b) = valB a + 256 ^ a.length * valB b
  | [], b => by simp [valB]
  | x :: a, b => by
    rw [List.cons_append, valB, valB, valB_append a b, List.length_cons, Int.pow_succ, Int.mul_add, Int.mul_comm (256 ^ a.length) 256, Int.mul_assoc]
    omega
theorem part_bd {x : List Int} (hb : Bytes x) (hl : x.length ≤ 16) : 0 ≤ valB (x ++ [1]) ∧ valB (x ++ [1]) < 1361129467683753853853498429727072845824 := by
  have h1 := valB_bd x hb
  have h2 : (256 : Int) ^ x.length ≤ 256 ^ 16 := by
    have h : 256 ^ x.length ≤ 256 ^ 16 := Nat.pow_le_pow_right (by decide) hl
    have e1 : (256 : Int) ^ x.length = ((256 ^ x.length : Nat) : Int) := by simp
    have e2 : (256 : Int) ^ 16 = ((256 ^ 16 : Nat) : Int) := by simp
    omega
  have h3 : (0 : Int) < 256 ^ x.length := Int.pow_pos (by decide)
  rw [valB_append]
  simp only [valB]
  omega
theorem rF_bd {key : List Int} (hb : Bytes key) : 0 ≤ rF key ∧ rF key < 1361129467683753853853498429727072845824 := by
  have h1 := valB_bd (cl (key.take 16) 16) (cl_bytes (bytes_take hb 16) 16)
  have hl : (cl (key.take 16) 16).length ≤ 16 := by rw [cl_len, List.length_take]; omega
  have h2 : (256 : Int) ^ (cl (key.take 16) 16).length ≤ 256 ^ 16 := by
    have h : 256 ^ (cl (key.take 16) 16).length ≤ 256 ^ 16 := Nat.pow_le_pow_right (by decide) hl
    have e1 : (256 : Int) ^ (cl (key.take 16) 16).length = ((256 ^ (cl (key.take 16) 16).length : Nat) : Int) := by simp
    have e2 : (256 : Int) ^ 16 = ((256 ^ 16 : Nat) : Int) := by simp
    omega
  unfold rF
  omega
theorem acc_step (r : Int) (pre : List (List Int)) (x : List Int) (a p q : Int) (ha : a % PP = accF r pre) (hp : p % PP = (a + valB (x ++ [1])) % PP) (hq : q % PP = (p * r) % PP) : q % PP = accF r (pre ++ [x]) := by
  rw [accF_snoc, ← ha, hq, Int.mul_emod, hp, ← Int.mul_emod, Int.mul_emod (a % PP + valB (x ++ [1])) r, Int.emod_add_emod, ← Int.mul_emod]
theorem load_row_eq {P : Program} {oi : Oper} {a : Act} {w : World} (ty : TypeId) (x : Operand) (ho : oi.op = .load ty x) (g : Nat) (hx : a.eval x = .pointer (some ⟨g, 0, none⟩)) (t : TypeId) (cs : Array Value) (fr : Nat × Nat) (dd : TypeDesc) (hg : w.heap[g]? = some (.cells cs t fr)) (hu : P.underlying ty = some dd) (hd : (match dd with | .struct _ | .array _ _ => true | _ => false) = true)
    (hsz : (P.info? ty).map (·.size) = some cs.size) : (execOp a.eval oi).run P w = .ok (.value (.agg cs)) w := by
  unfold execOp
  simp only [ho, hx, Instr.loadAt, Instr.sureAddr, Sem.run_bind, Sem.run_pure, Result.andThen_ok, run_loadVar_row w g t ty cs fr dd hg hu hd hsz]
theorem argP_putObj {x : List Int} {v : Value} {W : World} {l : Nat} {o : Obj} (h : ArgP x v W) (hl : ∃ r, W.heap[l]? = some (.loop r)) : ArgP x v (W.putObj l o) := by
  obtain ⟨ad, c, rfl, hb, hx, hr⟩ := h
  obtain ⟨r, hl⟩ := hl
  refine ⟨ad, c, rfl, hb, hx, hr.1, hr.2.1, fun hn => ?_⟩
  obtain ⟨ad', e, hc⟩ := hr.2.2 hn
  cases e
  refine ⟨ad, rfl, fun j hj => ?_⟩
  have h1 := hc j hj
  refine (World.cell?_of_block (a := ad.add j) (World.putObj_heap_other (fun e => ?_))).trans h1
  unfold World.cell? at h1
  rw [e, hl] at h1
  simp at h1
/-- What holds in a round of Tag, by what has been done. -/
structure B16 (g9 : Nat) (RL : List Int) (r : Int) (pre : List (List Int)) (x : List Int) (m : List Int) (ad : Addr) (c : Nat) (W0 : World) (L : Nat → Bool) (u55 u56 u57 u58 u59 u60 : Value) (W : World) : Prop where
  h0 : L 0 = true → u55 = .agg (ia .u64 m)
  h1 : L 1 = true → u56 = .slice (some ad) (x.length + 1) c
  h2 : L 2 = true → u57 = .agg (ia .u64 (limbs (valB (x ++ [1]))))
  h3 : L 3 = true → ∃ p, u58 = .agg (ia .u64 p) ∧ Norm p ∧ V5 p % PP = (V5 m + valB (x ++ [1])) % PP
  h4 : L 4 = true → u59 = .agg (ia .u64 RL)
  h5 : L 5 = true → ∃ p, u60 = .agg (ia .u64 p) ∧ Norm p ∧ V5 p % PP = accF r (pre ++ [x])
  h6 : L 6 = false → Below W0.heap.size W0 W
  h7 : L 6 = true → ∃ p W1, Norm p ∧ V5 p % PP = accF r (pre ++ [x]) ∧ W.heap[g9]? = some (.cells (ia .u64 p) 39 (0, 0)) ∧ Below W0.heap.size W0 W1 ∧ Only g9 W1 W
  h8 : L 6 = true → L 0 = true ∧ L 1 = true ∧ L 2 = true ∧ L 3 = true ∧ L 4 = true ∧ L 5 = true
theorem not6 {g9 : Nat} {RL : List Int} {r : Int} {pre : List (List Int)} {x m : List Int} {ad : Addr} {c : Nat} {W0 : World} {L : Nat → Bool} {u55 u56 u57 u58 u59 u60 : Value} {W : World} (h : B16 g9 RL r pre x m ad c W0 L u55 u56 u57 u58 u59 u60 W) {i : Nat} (hi : L i = false) (h5 : i < 6) : L 6 = false := by
  cases h' : L 6 with
  | false => rfl
  | true =>
    have := h.h8 h'
    have hi' : i = 0 ∨ i = 1 ∨ i = 2 ∨ i = 3 ∨ i = 4 ∨ i = 5 := by omega
    rcases hi' with rfl | rfl | rfl | rfl | rfl | rfl <;> simp_all
theorem B16.grow {g9 : Nat} {RL : List Int} {r : Int} {pre : List (List Int)} {x m : List Int} {ad : Addr} {c : Nat} {W0 : World} {L : Nat → Bool} {u55 u56 u57 u58 u59 u60 : Value} {W W1 : World} (h : B16 g9 RL r pre x m ad c W0 L u55 u56 u57 u58 u59 u60 W) (h6 : L 6 = false) (hb : Below W.heap.size W W1) : B16 g9 RL r pre x m ad c W0 L u55 u56 u57 u58 u59 u60 W1 :=
  ⟨h.h0, h.h1, h.h2, h.h3, h.h4, h.h5, fun a => below_step (h.h6 a) hb, fun a => (by rw [h6] at a; cases a), h.h8⟩
def I16 (T : Value → Value → Value → Value → Value → Value → Act) (g9 : Nat) (RL : List Int) (r : Int) (pre : List (List Int)) (x : List Int) (m : List Int) (ad : Addr) (c : Nat) (W0 : World) (L : Nat → Bool) (a : Act) (W : World) : Prop :=
  ∃ u55 u56 u57 u58 u59 u60, a = T u55 u56 u57 u58 u59 u60 ∧ B16 g9 RL r pre x m ad c W0 L u55 u56 u57 u58 u59 u60 W
theorem index16 (l : List Int) (hl : l.length = 16) (k : Nat) (hk : k < 16) (w : World) : (Instr.index 25 (.agg (ia .u8 l)) (.int .i64 (k : Int))).run Try.prog w = .ok (.int .u8 (l.getD k 0)) w := by
  match l, hl with
  | [a0, a1, a2, a3, a4, a5, a6, a7, a8, a9, a10, a11, a12, a13, a14, a15], _ =>
    match k, hk with
    | 0, _ => rfl
    | 1, _ => rfl
    | 2, _ => rfl
    | 3, _ => rfl
    | 4, _ => rfl
    | 5, _ => rfl
    | 6, _ => rfl
    | 7, _ => rfl
    | 8, _ => rfl
    | 9, _ => rfl
    | 10, _ => rfl
    | 11, _ => rfl
    | 12, _ => rfl
    | 13, _ => rfl
    | 14, _ => rfl
    | 15, _ => rfl
    | _ + 16, h => exact absurd h (Nat.not_lt.2 (Nat.le_add_left _ _))
theorem slice_arr {o : Oper} {a : Act} {w : World} (g : Nat) (ho : o.op = .slice 22 (.tmp 2) none (some (.const (.int .i64 16))) none) (hx : a.eval (.tmp 2) = .pointer (some ⟨g, 0, none⟩)) :
    (execOp a.eval o).run Try.prog w = .ok (.value (.slice (some ⟨g, 0, none⟩) 16 32)) w := by
  unfold execOp
  simp only [ho, hx, Option.map_some, Option.map_none]
  kernel_rfl
set_option maxHeartbeats 4000000 in
set_option maxRecDepth 100000 in
theorem tag_big (key : List Int) (hk : key.length = 32) (A : Option Addr) (cap n : Nat) (w : World) (hn : 4194304 < n) : Calls Try.prog 8 #[.agg (ia .u8 key), .slice A n cap] w fun e w' => e = .returned (.tuple #[.agg (ia .u8 (List.replicate 16 0)), .int .i64 3]) ∧ Below w.heap.size w w' := by
  have hd : decide ((4194304 : Int) < (n : Int)) = true := by simp; omega
  have HK := Hide.mk hk
  clear hk
  go_enter Try.func8, Try.ntmps8
  have HB0 := Hide.mk (Below.refl w.heap.size w)
  go_wp2_with (first | ((with_reducible refine gate_dst (N := 2) rfl ?_); refine box_event ?hg (N := 2) ?hd (cs := ia .u8 key) (t := 22) ?hr ?_; (case hd => rfl); (case hg => rfl); (case hr => kernel_rfl); intro g2 hg w1 hbox hb; have BKg2 := Hide.mk hbox; have HB1' := Hide.mk (below_step HB0.out hb); have GEg2 : w.heap.size ≤ g2 := (by rw [hg]; exact HB0.out.size); clear HB0; have HB1 := HB1'; clear HB1'; clear hbox hb hg) | ((with_reducible refine gate_dst (N := 4) rfl ?_); refine box_event ?hg (N := 4) ?hd (cs := ia .u8 (List.replicate 16 0)) (t := 25) ?hr ?_; (case hd => rfl); (case hg => rfl); (case hr => kernel_rfl); intro g4 hg w2 hbox hb; have Lg2g4 : g2 < g4 := (by rw [hg]; exact blk_lt BKg2.out); have BKg4 := Hide.mk hbox; have HB2' := Hide.mk (below_step HB1.out hb); have GEg4 : w.heap.size ≤ g4 := (by rw [hg]; exact HB1.out.size); clear HB1; have HB2 := HB2'; clear HB2'; have BKg2' := Hide.mk (blk_below BKg2.out hb); clear BKg2; have BKg2 := BKg2'; clear BKg2'; clear hbox hb hg) | ((with_reducible refine gate_dst (N := 17) rfl ?_); refine wpList_load_row rfl 25 (.tmp 4) rfl g4 rfl 25 _ (0, 0) _ BKg4.out Try.underlying25 rfl ?hsz ?_; (case hsz => kernel_rfl)) | ((with_reducible refine gate_store (p := 4) (v := .tmp 17) rfl ?_); go_must (refine store_row rfl rfl 25 (.tmp 4) (.tmp 17) rfl g4 rfl (ia .u8 (List.replicate 16 0)) rfl (ia_one _ _) (by rw [ia_size]; kernel_rfl) _ _ BKg4.out (by rfl) ?_); intro w9 hb ho; have BKg4' := Hide.mk hb; have HB2' := Hide.mk (ho.below HB2.out GEg4); clear BKg4 HB2; have BKg4 := BKg4'; have HB2 := HB2'; clear BKg4' HB2'; clear hb ho))
  refine bodyPost_ret (results_ct rfl _ _ g4 25 _ (0, 0) _ rfl BKg4.out Try.underlying25 rfl (by kernel_rfl)) rfl ?_
  exact ⟨rfl, HB2.out⟩
set_option maxHeartbeats 4000000 in
set_option maxRecDepth 100000 in
theorem tag_any (key : List Int) (hk : key.length = 32) (hkb : Bytes key) (A : Option Addr) (cap : Nat) (xs : List Int) (w : World) (hby : Bytes xs) (hn : xs.length ≤ 4194304) (hc : xs.length ≤ cap) (hr : ReadsInt w .u8 A xs.length xs) : Calls Try.prog 8 #[.agg (ia .u8 key), .slice A xs.length cap] w fun e w' => e = .returned (.tuple #[.agg (ia .u8 (tagF key xs)), .int .i64 0]) ∧ Below w.heap.size w w' := by
  have hd : decide ((4194304 : Int) < (xs.length : Int)) = false := by simp; omega
  have HK := Hide.mk hk
  have HKB := Hide.mk hkb
  have HBY := Hide.mk hby
  have HN := Hide.mk hn
  have HC := Hide.mk hc
  have HR := Hide.mk hr
  have HAW : Hide (∀ ad, A = some ad → 0 < xs.length → ad.block < w.heap.size) := ⟨fun ad e hp => by
    obtain ⟨ad', e', hcell⟩ := hr.2.2 hp
    rw [e] at e'; cases e'
    have := World.block_lt_of_cell? w _ (hcell 0 hp)
    rwa [add_block] at this⟩
  clear hk hkb hby hn hc hr
  refine (callsIn_wide (n := 9)).1 (callsIn_of_wp_marks Try.func8 rfl trivial ?_ rfl)
  simp only [Try.ntmps8, List.size_toArray, List.length_cons, List.length_nil, Nat.reduceAdd, Nat.reduceSub, Array.replicate_succ, Array.replicate_zero, List.push_toArray, List.append_toArray, List.nil_append, List.cons_append]
  refine wpIn_wide.2 ?_
  have HB0 := Hide.mk (Below.refl w.heap.size w)
  go_wp2_with (first | ((with_reducible refine gate_dst (N := 2) rfl ?_); refine box_event ?hg (N := 2) ?hd (cs := ia .u8 key) (t := 22) ?hr ?_; (case hd => rfl); (case hg => rfl); (case hr => kernel_rfl); intro g2 hg w1 hbox hb; have BKg2 := Hide.mk hbox; have HB1' := Hide.mk (below_step HB0.out hb); have GEg2 : w.heap.size ≤ g2 := (by rw [hg]; exact HB0.out.size); clear HB0; have HB1 := HB1'; clear HB1'; clear hbox hb hg) | ((with_reducible refine gate_dst (N := 4) rfl ?_); refine box_event ?hg (N := 4) ?hd (cs := ia .u8 (List.replicate 16 0)) (t := 25) ?hr ?_; (case hd => rfl); (case hg => rfl); (case hr => kernel_rfl); intro g4 hg w2 hbox hb; have Lg2g4 : g2 < g4 := (by rw [hg]; exact blk_lt BKg2.out); have BKg4 := Hide.mk hbox; have HB2' := Hide.mk (below_step HB1.out hb); have GEg4 : w.heap.size ≤ g4 := (by rw [hg]; exact HB1.out.size); clear HB1; have HB2 := HB2'; clear HB2'; have BKg2' := Hide.mk (blk_below BKg2.out hb); clear BKg2; have BKg2 := BKg2'; clear BKg2'; clear hbox hb hg) | ((with_reducible refine gate_dst (N := 18) rfl ?_); refine Kd.event_run rfl (w1 := w2) (slice_arr g2 rfl rfl) ?_))
  have HKL : Hide ((key.take 16).length = 16) := ⟨by rw [List.length_take]; have := HK.out; omega⟩
  have hrk : ReadsInt w2 .u8 (some ⟨g2, 0, none⟩) (key.take 16).length (key.take 16) := by
    rw [HKL.out]
    have := reads_of_blk BKg2.out (by rw [HK.out]; decide)
    exact this.take_ 16 (by rw [HK.out]; decide)
  have hcl := clone_any ⟨g2, 0, none⟩ 32 (key.take 16) w2 (by rw [HKL.out]; decide) hrk
  rw [HKL.out] at hcl
  refine hcl.mono ?_
  rintro e w3 ⟨v, rfl, ho, hb⟩
  obtain ⟨gh, ch, rfl, hgg, hrow⟩ := Row.of_own (l := key.take 16) (by rw [HKL.out]; exact ho) (by rw [HKL.out]; decide)
  rw [HKL.out]
  have HB3 := Hide.mk (below_step HB2.out hb)
  have K2 := Hide.mk (blk_below BKg2.out hb)
  have K4 := Hide.mk (blk_below BKg4.out hb)
  have HRW := Hide.mk hrow
  have GEgh : w.heap.size ≤ gh := Nat.le_trans HB2.out.size hgg
  have L2h : g2 < gh := Nat.lt_of_lt_of_le (blk_lt BKg2.out) hgg
  have L4h : g4 < gh := Nat.lt_of_lt_of_le (blk_lt BKg4.out) hgg
  clear ho hb hrow hgg hrk hcl HB2 BKg2 BKg4
  go_wp2_with fail
  go_loopg [22] 16 (fun gp v wy => ∃ i : Nat, i + gp = 16 ∧ v = .int .i64 i ∧ wy.heap[g2]? = some (.cells (ia .u8 key) 22 (0, 0)) ∧ wy.heap[g4]? = some (.cells (ia .u8 (List.replicate 16 0)) 25 (0, 0)) ∧ Row wy gh (cl (key.take 16) i) ∧ Below w.heap.size w wy)
  case atStart => exact ⟨0, rfl, rfl, K2.out, K4.out, HRW.out, HB3.out⟩
  case round =>
    clear K2 K4 HRW HB3
    obtain ⟨i, hi, rfl, h2, h4, hrow, hb⟩ := hrel
    have K2 := Hide.mk h2
    have K4 := Hide.mk h4
    have HB := Hide.mk hb
    clear h2 h4 hb
    by_cases hlt : i < 16
    · have hd : decide ((i : Int) < 16) = true := by simp; omega
      obtain ⟨cur, hcur, hsz, htk⟩ := hrow
      have HLC : Hide ((cl (key.take 16) i).length = 16) := ⟨(cl_len _ _).trans HKL.out⟩
      have cx := row_cell hcur htk i (by rw [HLC.out]; exact hlt)
      have BKh := Hide.mk hcur
      have HSZ := Hide.mk hsz
      have HTK := Hide.mk htk
      have HX := Hide.mk (bytes_get (cl_bytes (bytes_take HKB.out 16) i) i)
      have HS : Hide (cl (key.take 16) (i + 1) = (cl (key.take 16) i).set i (clampB i ((cl (key.take 16) i).getD i 0))) := ⟨rfl⟩
      clear hcur hsz htk
      obtain ⟨C, hC⟩ : ∃ C, cl (key.take 16) i = C := ⟨_, rfl⟩
      rw [hC] at cx HLC HSZ HTK HX HS
      obtain ⟨x, hx⟩ : ∃ x, C.getD i 0 = x := ⟨_, rfl⟩
      rw [hx] at cx HX HS
      have HCC := Hide.mk hC
      have HXX := Hide.mk hx
      clear hC hx
      obtain ⟨x0, x1⟩ := HX.out
      have f1 : IntKind.i64.wrap ((i : Int) + 1) = (i : Int) + 1 := IntWalk.i64_in _ (by omega)
      have hi0 : (0 : Int) ≤ (i : Int) := Int.natCast_nonneg _
      have hi1 : (i : Int) < 16 := by omega
      by_cases h3 : i % 4 = 3
      · have hd3 : decide ((i : Int) % 4 = 3) = true := by simp; omega
        have HV : Hide (x % 16 = clampB i x) := ⟨by rw [clampB, if_pos h3]⟩
        go_wp2_with (first | ((with_reducible refine gate_store (p := 34) (v := .tmp 33) rfl ?_); refine store_cell rfl rfl 5 (.tmp 34) (.tmp 33) rfl gh (i) (by first | rfl | go_simp) (.int .u8 (x % 16)) rfl rfl rfl (by kernel_rfl) _ _ BKh.out ?hlt ?_; (case hlt => (have h1 := HSZ.out; have h2 := HLC.out; omega)); intro w9 hb ho; rw [HV.out] at hb; have BKh' := Hide.mk hb; have HB' := Hide.mk (ho.below HB.out GEgh); clear BKh HB; have BKh := BKh'; have HB := HB'; clear BKh' HB'; have K2' := Hide.mk (ho.blk K2.out (by omega)); clear K2; have K2 := K2'; clear K2'; have K4' := Hide.mk (ho.blk K4.out (by omega)); clear K4; have K4 := K4'; clear K4'; clear hb ho))
        go_roundg (gk - 1)
        case measure => omega
        case rel => exact ⟨i + 1, by omega, by go_num, K2.out, K4.out, by rw [HS.out]; exact ⟨_, BKh.out, by rw [List.length_set, Array.size_setIfInBounds]; exact HSZ.out, row_set HSZ.out HTK.out i _⟩, HB.out⟩
      · have hd3 : decide ((i : Int) % 4 = 3) = false := by simp; omega
        by_cases h0 : i % 4 = 0 ∧ 0 < i
        · have hd0 : decide ((i : Int) % 4 = 0) = true := by simp; omega
          have hd1 : decide ((0 : Int) < (i : Int)) = true := by simp; omega
          have HV : Hide (bits .and .u8 x 252 = clampB i x) := ⟨by rw [and252 x x0 x1, clampB, if_neg h3, if_pos h0]⟩
          go_wp2_with (first | ((with_reducible refine gate_store (p := 48) (v := .tmp 47) rfl ?_); refine store_cell rfl rfl 5 (.tmp 48) (.tmp 47) rfl gh (i) (by first | rfl | go_simp) (.int .u8 (bits .and .u8 x 252)) rfl rfl rfl (by kernel_rfl) _ _ BKh.out ?hlt ?_; (case hlt => (have h1 := HSZ.out; have h2 := HLC.out; omega)); intro w9 hb ho; rw [HV.out] at hb; have BKh' := Hide.mk hb; have HB' := Hide.mk (ho.below HB.out GEgh); clear BKh HB; have BKh := BKh'; have HB := HB'; clear BKh' HB'; have K2' := Hide.mk (ho.blk K2.out (by omega)); clear K2; have K2 := K2'; clear K2'; have K4' := Hide.mk (ho.blk K4.out (by omega)); clear K4; have K4 := K4'; clear K4'; clear hb ho))
          go_roundg (gk - 1)
          case measure => omega
          case rel => exact ⟨i + 1, by omega, by go_num, K2.out, K4.out, by rw [HS.out]; exact ⟨_, BKh.out, by rw [List.length_set, Array.size_setIfInBounds]; exact HSZ.out, row_set HSZ.out HTK.out i _⟩, HB.out⟩
        · have HV : Hide (x = clampB i x) := ⟨by rw [clampB, if_neg h3, if_neg h0]⟩
          have HRR : Hide (Row wr gh (cl (key.take 16) (i + 1))) := ⟨by
            rw [HS.out, ← HV.out, ← HXX.out]
            have e : C.set i (C.getD i 0) = C := by
              rw [List.getD_eq_getElem?_getD, List.getElem?_eq_getElem (by rw [HLC.out]; exact hlt)]
              exact List.set_getElem_self _
            rw [e]
            exact ⟨_, BKh.out, HSZ.out, HTK.out⟩⟩
          by_cases h00 : i % 4 = 0
          · have hd0 : decide ((i : Int) % 4 = 0) = true := by simp; omega
            have hd1 : decide ((0 : Int) < (i : Int)) = false := by simp; omega
            go_wp2_with fail
            go_roundg (gk - 1)
            case measure => omega
            case rel => exact ⟨i + 1, by omega, by go_num, K2.out, K4.out, HRR.out, HB.out⟩
          · have hd0 : decide ((i : Int) % 4 = 0) = false := by simp; omega
            go_wp2_with fail
            go_roundg (gk - 1)
            case measure => omega
            case rel => exact ⟨i + 1, by omega, by go_num, K2.out, K4.out, HRR.out, HB.out⟩
    · obtain rfl : i = 16 := by omega
      rw [show ((16 : Nat) : Int) = 16 from rfl]
      have HC16 : Hide ((cl (key.take 16) 16).length = 16) := ⟨(cl_len _ _).trans HKL.out⟩
      have hof := of_any (some ⟨gh, 0, none⟩) ch (cl (key.take 16) 16) wr (cl_bytes (bytes_take HKB.out 16) 16) (by rw [HC16.out]; decide) (by rw [List.getD_eq_getElem?_getD, List.getElem?_eq_none (by rw [HC16.out]; decide)]; decide) (hrow.reads (by rw [HC16.out]; decide))
      rw [HC16.out] at hof
      have HOF := Hide.mk hof
      clear hof hrow
      go_wp2_with fail
      refine HOF.out.mono ?_
      rintro e w4 ⟨rfl, hb⟩
      have HB4 := Hide.mk (below_step HB.out hb)
      have K2' := Hide.mk (blk_below K2.out hb)
      have K4' := Hide.mk (blk_below K4.out hb)
      clear hb HB K2 K4 HOF
      have K2 := K2'
      have K4 := K4'
      clear K2' K4'
      have HRF : Hide (valB (cl (key.take 16) 16) = rF key) := ⟨rfl⟩
      rw [HRF.out]
      obtain ⟨RL, hRL⟩ : ∃ RL, limbs (rF key) = RL := ⟨_, rfl⟩
      rw [hRL]
      have HRN : Hide (Norm RL ∧ V5 RL = rF key) := ⟨by rw [← hRL]; exact ⟨limbs_norm _, limbs_val _ (rF_bd HKB.out).1 (rF_bd HKB.out).2⟩⟩
      clear hRL HRF
      go_wp2_with (first | ((with_reducible refine gate_dst (N := 8) rfl ?_); refine box_event ?hg (N := 8) ?hd (cs := ia .u64 (List.replicate 5 0)) (t := 39) ?hr ?_; (case hd => rfl); (case hg => rfl); (case hr => kernel_rfl); intro g8 hg w5 hbox hb; have Lg2g8 : g2 < g8 := (by rw [hg]; exact blk_lt K2.out); have Lg4g8 : g4 < g8 := (by rw [hg]; exact blk_lt K4.out); have BKg8 := Hide.mk hbox; have HB5' := Hide.mk (below_step HB4.out hb); have GEg8 : w.heap.size ≤ g8 := (by rw [hg]; exact HB4.out.size); clear HB4; have HB5 := HB5'; clear HB5'; have K2' := Hide.mk (blk_below K2.out hb); clear K2; have K2 := K2'; clear K2'; have K4' := Hide.mk (blk_below K4.out hb); clear K4; have K4 := K4'; clear K4'; clear hbox hb hg) | ((with_reducible refine gate_store (p := 8) (v := .tmp 51) rfl ?_); go_must (refine store_row rfl rfl 39 (.tmp 8) (.tmp 51) rfl g8 rfl (ia .u64 RL) rfl (ia_one _ _) (by rw [ia_size, HRN.out.1.1]; kernel_rfl) _ _ BKg8.out (by rw [ia_size, ia_size, HRN.out.1.1]; rfl) ?_); intro w6 hb ho; have BKg8' := Hide.mk hb; have HB5' := Hide.mk (ho.below HB5.out GEg8); clear BKg8 HB5; have BKg8 := BKg8'; have HB5 := HB5'; clear BKg8' HB5'; have K2' := Hide.mk (ho.blk K2.out (by omega)); clear K2; have K2 := K2'; clear K2'; have K4' := Hide.mk (ho.blk K4.out (by omega)); clear K4; have K4 := K4'; clear K4'; clear hb ho) | ((with_reducible refine gate_dst (N := 9) rfl ?_); refine box_event ?hg (N := 9) ?hd (cs := ia .u64 (List.replicate 5 0)) (t := 39) ?hr ?_; (case hd => rfl); (case hg => rfl); (case hr => kernel_rfl); intro g9 hg w7 hbox hb; have Lg2g9 : g2 < g9 := (by rw [hg]; exact blk_lt K2.out); have Lg4g9 : g4 < g9 := (by rw [hg]; exact blk_lt K4.out); have Lg8g9 : g8 < g9 := (by rw [hg]; exact blk_lt BKg8.out); have BKg9 := Hide.mk hbox; have HB7' := Hide.mk (below_step HB5.out hb); have GEg9 : w.heap.size ≤ g9 := (by rw [hg]; exact HB5.out.size); clear HB5; have HB7 := HB7'; clear HB7'; have K2' := Hide.mk (blk_below K2.out hb); clear K2; have K2 := K2'; clear K2'; have K4' := Hide.mk (blk_below K4.out hb); clear K4; have K4 := K4'; clear K4'; have BKg8' := Hide.mk (blk_below BKg8.out hb); clear BKg8; have BKg8 := BKg8'; clear BKg8'; clear hbox hb hg))
      refine (parts16 A xs.length cap _).mono ?_
      rintro e w8 ⟨bb, rfl, hbb, hb, hbg⟩
      have HB8 := Hide.mk (below_step HB7.out hb)
      have K2' := Hide.mk (blk_below K2.out hb)
      have K4' := Hide.mk (blk_below K4.out hb)
      have K8 := Hide.mk (blk_below BKg8.out hb)
      have K9 := Hide.mk (blk_below BKg9.out hb)
      have KB := Hide.mk hbb
      have GEb : w.heap.size ≤ bb := Nat.le_trans HB7.out.size hbg
      have Lb9 : bb ≠ g9 := by have := blk_lt BKg9.out; omega
      clear hb hbb hbg HB7 BKg8 BKg9 K2 K4
      have K2 := K2'
      have K4 := K4'
      clear K2' K4'
      go_wp2_with fail
      refine range_w (α := List Int) (q := 10) (gf := 27) (lb := #[.pointer (some ⟨bb, 0, none⟩)]) (fun _ => False) (· = g9) (fun k e => e.elim) (fun k e => by rw [e]; exact blk_lt K9.out) rfl (Go.Proofs.enters_of Try.func27 (by kernel_rfl) rfl) ArgP (fun x v W l o h k => argP_putObj h k)
        (fun pre W => ∃ m, Norm m ∧ V5 m % PP = accF (rF key) pre ∧ W.heap[g9]? = some (.cells (ia .u64 m) 39 (0, 0)) ∧ W.heap[g8]? = some (.cells (ia .u64 RL) 39 (0, 0)) ∧ W.heap[g4]? = some (.cells (ia .u8 (List.replicate 16 0)) 25 (0, 0)) ∧ W.heap[g2]? = some (.cells (ia .u8 key) 22 (0, 0)) ∧ Below w.heap.size w W)
        (fun ys => ys = chs xs ((xs.length + 15) / 16)) ?hI ⟨List.replicate 5 0, by unfold Norm; decide, (by show V5 (List.replicate 5 0) % PP = 0; decide), K9.out, K8.out, K4.out, K2.out, HB8.out⟩ ?hit ?assign ?body ?done
      case hI =>
        rintro pre W W1 ⟨m, hm, hv, h9, h8, h4, h2, hb⟩ hs hk
        exact ⟨m, hm, hv, (hk.block g9 (blk_lt K9.out) (fun h => h)).trans h9, (hk.block g8 (blk_lt K8.out) (fun h => h)).trans h8, (hk.block g4 (blk_lt K4.out) (fun h => h)).trans h4, (hk.block g2 (blk_lt K2.out) (fun h => h)).trans h2, hk.below hb HB8.out.size (fun k e => e.elim)⟩
      case hit =>
        intro l J W hbw hl1 hl2 hJ hY h0
        exact parts_in l bb A cap xs J (· = g9) W HBY.out (by have := HN.out; omega) (blk_below KB.out hbw) HC.out ((HR.out.below HB8.out).below hbw)
          (fun ad e hp => by
            have h1 := HAW.out ad e hp
            exact ⟨by omega, by have := HB8.out.size; omega⟩) (fun k e => by rw [e]; exact Nat.lt_of_lt_of_le (blk_lt K9.out) hbw.size) hl2 hJ hY h0
      case assign =>
        intro l v W K hK
        simp only [List.setIfInBounds_toArray, List.set_cons_zero, List.set_cons_succ] at hK ⊢
        gi_wp2
        exact hK
      case body =>
        rintro l pre x v W ⟨m, hm, hv, h9, h8, h4, h2, hb⟩ ⟨ad, c, rfl, hxb, hx16, hxr⟩ hs
        have KM := Hide.mk (And.intro hm hv)
        have K9' := Hide.mk h9
        have K8' := Hide.mk h8
        have K4' := Hide.mk h4
        have K2' := Hide.mk h2
        have KBW := Hide.mk hb
        have KX : Hide (Bytes x ∧ x.length ≤ 16) := ⟨hxb, hx16⟩
        have KR := Hide.mk hxr
        clear hm hv h9 h8 h4 h2 hb hxb hx16 hxr
        simp only [List.setIfInBounds_toArray, List.set_cons_zero, List.set_cons_succ]
        gi_wp2
        refine region_inv [[], [], [1], [0, 2, 2], [], [3, 4, 3], [5, 5, 0, 1, 2, 3, 4, 5]] (by kernel_rfl) (by kernel_rfl) (by kernel_rfl) (I16 (fun u55 u56 u57 u58 u59 u60 => { tmps := #[.agg (ia .u8 key), .slice A xs.length cap, .pointer (some ⟨g2, 0, none⟩), undef, .pointer (some ⟨g4, 0, none⟩), .int .i64 0, .slice (some ⟨gh, 0, none⟩) 16 ch, u7, .pointer (some ⟨g8, 0, none⟩), .pointer (some ⟨g9, 0, none⟩), .slice (some ad) (x.length + 1) c, undef, undef, undef, .slice A xs.length cap, .int .i64 xs.length, .bool false, undef, .slice (some ⟨g2, 0, none⟩) 16 32, .slice (some ⟨gh, 0, none⟩) 16 ch, .slice (some ⟨gh, 0, none⟩) 16 ch, .int .i64 16, .int .i64 16, .bool false, u24, u25, u26, u27, u28, u29, u30, u31, u32, u33, u34, u35, u36, u37, u38, u39, u40, u41, u42, u43, u44, u45, u46, u47, u48, u49, .slice (some ⟨gh, 0, none⟩) 16 ch, .agg (ia .u64 RL), .slice A xs.length cap, .func (.func 27) #[] #[.pointer (some ⟨bb, 0, none⟩)], .slice (some ad) (x.length + 1) c, u55, u56, u57, u58, u59, u60, undef, undef, undef, undef, undef, undef, undef, undef, undef, undef, undef, undef, undef, undef, undef, undef, undef, undef, undef, undef, undef, undef, undef, undef, undef], defers := [] }) g9 RL (rF key) pre x m ad c W) ?_ ?_ ?_
        · have hb : Below W.heap.size W W.drew := below_of_drew rfl (Below.refl _ _)
          refine ⟨_, _, _, _, _, _, rfl, ?_⟩
          exact ⟨fun h => (by cases h), fun h => (by cases h), fun h => (by cases h), fun h => (by cases h), fun h => (by cases h), fun h => (by cases h), fun _ => hb, fun h => (by cases h), fun h => (by cases h)⟩
        · rintro i hi L a W' hLi hdeps ⟨u55, u56, u57, u58, u59, u60, rfl, hB⟩
          have hi' : i = 0 ∨ i = 1 ∨ i = 2 ∨ i = 3 ∨ i = 4 ∨ i = 5 ∨ i = 6 := by simp only [List.size_toArray, List.length_cons, List.length_nil] at hi; omega
          have HBB := Hide.mk hB
          clear hB hi
          rcases hi' with rfl | rfl | rfl | rfl | rfl | rfl | rfl
          · have h6 := not6 HBB.out hLi (by decide)
            have HB6 := Hide.mk (HBB.out.h6 h6)
            clear hdeps
            refine op_list rfl ?_
            refine in_run rfl rfl (by intro c hc; cases hc) (load_row_eq 39 (.tmp 9) rfl g9 rfl 39 (ia .u64 m) (0, 0) _ (blk_below K9'.out HB6.out) Try.underlying39 rfl (by rw [ia_size, KM.out.1.1]; kernel_rfl)) ?_
            exact ⟨_, _, _, _, _, _, rfl, fun _ => rfl, HBB.out.h1, HBB.out.h2, HBB.out.h3, HBB.out.h4, HBB.out.h5, HBB.out.h6, HBB.out.h7, fun h => absurd (h6.symm.trans h) (by decide)⟩
          · have h6 := not6 HBB.out hLi (by decide)
            clear hdeps
            refine op_list rfl ?_
            gi_wp2
            exact ⟨_, _, _, _, _, _, rfl, HBB.out.h0, fun _ => rfl, HBB.out.h2, HBB.out.h3, HBB.out.h4, HBB.out.h5, HBB.out.h6, HBB.out.h7, fun h => absurd (h6.symm.trans h) (by decide)⟩
          · have h6 := not6 HBB.out hLi (by decide)
            obtain rfl := HBB.out.h1 (hdeps 1 (by decide))
            have hof := of_any (some ad) c (x ++ [1]) W' (fun y hy => by
              rcases List.mem_append.1 hy with hy | hy
              · exact KX.out.1 y hy
              · simp at hy; omega) (by have := KX.out.2; simp; omega) (by
              rw [List.getD_eq_getElem?_getD]
              by_cases e : x.length = 16
              · rw [← e]; simp
              · rw [List.getElem?_eq_none (by have := KX.out.2; simp; omega)]; decide) (by
              have := KR.out.below (HBB.out.h6 h6)
              simpa using this)
            rw [List.length_append] at hof
            have HOF := Hide.mk hof
            clear hdeps hof
            refine op_list rfl ?_
            gi_wp2
            refine ⟨trivial, ?_⟩
            refine (call_in (m := 8) HOF.out).mono ?_
            rintro e w7 ⟨rfl, hb⟩
            have HG2 := Hide.mk (HBB.out.grow h6 hb)
            clear hb HOF
            gi_wp2
            exact ⟨_, _, _, _, _, _, rfl, HG2.out.h0, HG2.out.h1, fun _ => rfl, HG2.out.h3, HG2.out.h4, HG2.out.h5, HG2.out.h6, HG2.out.h7, fun h => absurd (h6.symm.trans h) (by decide)⟩
          · have h6 := not6 HBB.out hLi (by decide)
            obtain rfl := HBB.out.h0 (hdeps 0 (by decide))
            obtain rfl := HBB.out.h2 (hdeps 2 (by decide))
            have HPL := Hide.mk (plus_any m (limbs (valB (x ++ [1]))) KM.out.1 (limbs_norm _) W')
            have HPV : Hide (V5 (limbs (valB (x ++ [1]))) = valB (x ++ [1])) := ⟨limbs_val _ (part_bd KX.out.1 KX.out.2).1 (part_bd KX.out.1 KX.out.2).2⟩
            clear hdeps
            refine op_list rfl ?_
            gi_wp2
            refine ⟨trivial, ?_⟩
            refine (call_in (m := 8) HPL.out).mono ?_
            rintro e w7 ⟨⟨p, rfl, hp, hpv⟩, hb⟩
            rw [HPV.out] at hpv
            have HG2 := Hide.mk (HBB.out.grow h6 hb)
            have HP := Hide.mk (And.intro hp hpv)
            clear hb hp hpv HPL HPV
            gi_wp2
            exact ⟨_, _, _, _, _, _, rfl, HG2.out.h0, HG2.out.h1, HG2.out.h2, fun _ => ⟨p, rfl, HP.out⟩, HG2.out.h4, HG2.out.h5, HG2.out.h6, HG2.out.h7, fun h => absurd (h6.symm.trans h) (by decide)⟩
          · have h6 := not6 HBB.out hLi (by decide)
            have HB6 := Hide.mk (HBB.out.h6 h6)
            clear hdeps
            refine op_list rfl ?_
            refine in_run rfl rfl (by intro c hc; cases hc) (load_row_eq 39 (.tmp 8) rfl g8 rfl 39 (ia .u64 RL) (0, 0) _ (blk_below K8'.out HB6.out) Try.underlying39 rfl (by rw [ia_size, HRN.out.1.1]; kernel_rfl)) ?_
            exact ⟨_, _, _, _, _, _, rfl, HBB.out.h0, HBB.out.h1, HBB.out.h2, HBB.out.h3, fun _ => rfl, HBB.out.h5, HBB.out.h6, HBB.out.h7, fun h => absurd (h6.symm.trans h) (by decide)⟩
          · have h6 := not6 HBB.out hLi (by decide)
            obtain ⟨p, rfl, hp, hpv⟩ := HBB.out.h3 (hdeps 3 (by decide))
            obtain rfl := HBB.out.h4 (hdeps 4 (by decide))
            have HPV := Hide.mk hpv
            have HPL := Hide.mk (times_any p RL hp HRN.out.1 W')
            clear hdeps hp hpv
            refine op_list rfl ?_
            gi_wp2
            refine ⟨trivial, ?_⟩
            refine (call_in (m := 8) HPL.out).mono ?_
            rintro e w7 ⟨⟨q, rfl, hq, hqv⟩, hb⟩
            rw [HRN.out.2] at hqv
            have HG2 := Hide.mk (HBB.out.grow h6 hb)
            have HP := Hide.mk (And.intro hq (acc_step (rF key) pre x _ _ _ KM.out.2 HPV.out hqv))
            clear hb hq hqv HPL HPV
            gi_wp2
            exact ⟨_, _, _, _, _, _, rfl, HG2.out.h0, HG2.out.h1, HG2.out.h2, HG2.out.h3, HG2.out.h4, fun _ => ⟨q, rfl, HP.out⟩, HG2.out.h6, HG2.out.h7, fun h => absurd (h6.symm.trans h) (by decide)⟩
          · obtain ⟨p, rfl, hp, hpv⟩ := HBB.out.h5 (hdeps 5 (by decide))
            have HP := Hide.mk (And.intro hp hpv)
            have HB6 := Hide.mk (HBB.out.h6 hLi)
            have HDD : Hide (L 0 = true ∧ L 1 = true ∧ L 2 = true ∧ L 3 = true ∧ L 4 = true ∧ L 5 = true) := ⟨hdeps 0 (by decide), hdeps 1 (by decide), hdeps 2 (by decide), hdeps 3 (by decide), hdeps 4 (by decide), hdeps 5 (by decide)⟩
            clear hdeps hp hpv
            have hb9 := blk_below K9'.out HB6.out
            refine op_list rfl ?_
            refine in_skip rfl rfl (by intro c hc; cases hc) (Plan.run_row 39 (.tmp 9) (.tmp 60) rfl g9 rfl (ia .u64 p) rfl (ia_one _ _) (by rw [ia_size, HP.out.1.1]; kernel_rfl) _ _ hb9 (by rw [ia_size, ia_size, HP.out.1.1, KM.out.1.1])) ?_
            have hc9 := Plan.row_cells hb9 (cs := ia .u64 p) (by rw [ia_size, ia_size, HP.out.1.1, KM.out.1.1])
            have ho9 := Only.setCells W' g9 0 (ia .u64 p).toList
            exact ⟨_, _, _, _, _, _, rfl, HBB.out.h0, HBB.out.h1, HBB.out.h2, HBB.out.h3, HBB.out.h4, HBB.out.h5, (fun h => by cases h), fun _ => ⟨p, W', HP.out.1, HP.out.2, hc9, HB6.out, ho9⟩, fun _ => HDD.out⟩
        · rintro L a W' hall ⟨u55, u56, u57, u58, u59, u60, rfl, hB⟩
          obtain ⟨p, W1, hp, hpv, hb9, hbw, ho⟩ := hB.h7 (hall 6 (by decide))
          clear hB hall
          have hne : ∀ k, k ≠ g9 → k < W.heap.size → W'.heap[k]? = W.heap[k]? := fun k hk hlt => (ho.other k hk).trans (hbw.block k hlt)
          have HFIN : Hide ((∃ m, Norm m ∧ V5 m % PP = accF (rF key) (pre ++ [x]) ∧ W'.heap[g9]? = some (.cells (ia .u64 m) 39 (0, 0)) ∧ W'.heap[g8]? = some (.cells (ia .u64 RL) 39 (0, 0)) ∧ W'.heap[g4]? = some (.cells (ia .u8 (List.replicate 16 0)) 25 (0, 0)) ∧ W'.heap[g2]? = some (.cells (ia .u8 key) 22 (0, 0)) ∧ Below w.heap.size w W') ∧ Keep W.heap.size (· = g9) W W') := ⟨⟨p, hp, hpv, hb9, (hne g8 (by omega) (blk_lt K8'.out)).trans K8'.out, (hne g4 (by omega) (blk_lt K4'.out)).trans K4'.out, (hne g2 (by omega) (blk_lt K2'.out)).trans K2'.out, ho.below (below_step KBW.out hbw) GEg9⟩, ⟨ho.os.trans hbw.os, ho.tape.trans hbw.tape, ho.output.trans hbw.output, by rw [ho.size]; exact hbw.size, fun k hk he => hne k he hk⟩⟩
          clear hp hpv hb9 hbw ho hne
          gi_wp2
          exact HFIN.out
      case done =>
        rintro D ys W hD rfl ⟨m, hm, hv, h9, h8, h4, h2, hb⟩ hK
        have K4' := Hide.mk h4
        have K2' := Hide.mk h2
        have K9' := Hide.mk h9
        have KBW := Hide.mk hb
        have KD := Hide.mk hK
        have KM := Hide.mk (And.intro hm hv)
        have LD4 : D ≠ g4 := by have := blk_lt K4.out; omega
        have LD2 : D ≠ g2 := by have := blk_lt K2.out; omega
        have GED : w.heap.size ≤ D := Nat.le_trans HB8.out.size hD
        clear h9 h8 h4 h2 hb hK hm hv hD K2 K4 K8 K9 KB HB8
        go_wp2_with (first | ((with_reducible refine gate_dst (N := 61) rfl ?_); refine wpList_load_row rfl 39 (.tmp 9) rfl g9 rfl 39 _ (0, 0) _ K9'.out Try.underlying39 rfl ?hsz ?_; (case hsz => rw [ia_size, KM.out.1.1]; kernel_rfl)))
        refine (least_any m KM.out.1 _).mono ?_
        rintro e w9 ⟨⟨r, rfl, hr, hrv⟩, hb⟩
        rw [KM.out.2] at hrv
        have HRR := Hide.mk (And.intro hr hrv)
        have K4 := Hide.mk (blk_below K4'.out hb)
        have K2 := Hide.mk (blk_below K2'.out hb)
        have KD' := Hide.mk (blk_below KD.out hb)
        have HB9 := Hide.mk (below_step KBW.out hb)
        clear hb hr hrv K4' K2' K9' KD KBW
        go_wp2_with fail
        refine (bytes_any r HRR.out.1 _).mono ?_
        rintro e wA ⟨rfl, hb⟩
        rw [HRR.out.2]
        have K4' := Hide.mk (blk_below K4.out hb)
        have K2' := Hide.mk (blk_below K2.out hb)
        have KD := Hide.mk (blk_below KD'.out hb)
        have HBA := Hide.mk (below_step HB9.out hb)
        clear hb K4 K2 KD' HB9
        obtain ⟨c, hc⟩ : ∃ c, digits 16 (accF (rF key) (chs xs ((xs.length + 15) / 16))) = c := ⟨_, rfl⟩
        rw [hc]
        have HCL : Hide (c.length = 16 ∧ Bytes c) := ⟨by rw [← hc]; exact ⟨digits_len _ _, digits_bytes _ _⟩⟩
        have HKD : Hide ((key.drop 16).length = 16 ∧ Bytes (key.drop 16)) := ⟨by rw [List.length_drop, HK.out], bytes_drop HKB.out 16⟩
        have HTF : Hide (tagF key xs = digits 16 (valB c + valB (key.drop 16))) := ⟨by rw [← hc, digits_cut]; rfl⟩
        clear hc
        go_wp2_with fail
        go_loopg [11, 64] 16 (fun gp v11 v wy => ∃ i : Nat, i + gp = 16 ∧ v11 = .int .i64 (mo c (key.drop 16) i) ∧ v = .int .i64 i ∧ wy.heap[g2]? = some (.cells (ia .u8 key) 22 (0, 0)) ∧ wy.heap[g4]? = some (.cells (ia .u8 ((tagF key xs).take i ++ List.replicate (16 - i) 0)) 25 (0, 0)) ∧ wy.heap[D]? = some (.deferred (some [])) ∧ Below w.heap.size w wy)
        case atStart => exact ⟨0, rfl, rfl, rfl, K2'.out, K4'.out, KD.out, HBA.out⟩
        case round =>
          clear K2' K4' KD HBA
          obtain ⟨i, hi, rfl, rfl, h2, h4, hd2, hb⟩ := hrel
          have K2 := Hide.mk h2
          have K4 := Hide.mk h4
          have KD := Hide.mk hd2
          have HB := Hide.mk hb
          clear h2 h4 hd2 hb
          by_cases hlt : i < 16
          · have hd : decide ((i : Int) < 16) = true := by simp; omega
            have HIX := Hide.mk (index16 c HCL.out.1 i hlt)
            have hI := HIX.out wr
            have ck := cell_row K2.out (16 + i) (by rw [HK.out]; omega) rfl
            have hkd : key.getD (16 + i) 0 = (key.drop 16).getD i 0 := by
              rw [List.getD_eq_getElem?_getD, List.getD_eq_getElem?_getD, List.getElem?_drop]
            have HMB := Hide.mk (mo_byte (c := c) (k := key.drop 16) (HCL.out.1.trans HKD.out.1.symm) i (by rw [HCL.out.1]; exact hlt))
            have HM1 : Hide (mo c (key.drop 16) (i + 1) = (mo c (key.drop 16) i + c.getD i 0 + (key.drop 16).getD i 0) / 256) := ⟨rfl⟩
            have HMD := Hide.mk (mo_bd HCL.out.2 HKD.out.2 i)
            have HX := Hide.mk (bytes_get HCL.out.2 i)
            have HY := Hide.mk (bytes_get HKD.out.2 i)
            rw [hkd] at ck
            obtain ⟨M, hM⟩ : ∃ M, mo c (key.drop 16) i = M := ⟨_, rfl⟩
            obtain ⟨x, hx⟩ : ∃ x, c.getD i 0 = x := ⟨_, rfl⟩
            obtain ⟨y, hy⟩ : ∃ y, (key.drop 16).getD i 0 = y := ⟨_, rfl⟩
            rw [hM]
            rw [hM, hx, hy] at HMB HM1
            rw [hM] at HMD
            rw [hx] at hI HX
            rw [hy] at ck HY
            have HTG : Hide ((M + (x + y)) % 256 = (valB c + valB (key.drop 16)) / 256 ^ i % 256) := ⟨by rw [← HMB.out, Int.add_assoc]⟩
            have HMN : Hide (mo c (key.drop 16) (i + 1) = (M + (x + y)) / 256) := ⟨by rw [HM1.out, Int.add_assoc]⟩
            clear hM hx hy hkd HMB HM1 HIX
            obtain ⟨M0, M1⟩ := HMD.out
            obtain ⟨x0, x1⟩ := HX.out
            obtain ⟨y0, y1⟩ := HY.out
            have f1 : IntKind.i64.wrap ((i : Int) + 1) = (i : Int) + 1 := IntWalk.i64_in _ (by omega)
            have f2 : IntKind.i64.wrap (16 + (i : Int)) = ((16 + i : Nat) : Int) := by rw [IntWalk.i64_in _ (by omega)]; omega
            have f3 : IntKind.i64.wrap (x + y) = x + y := IntWalk.i64_in _ (by omega)
            have f4 : IntKind.i64.wrap (M + (x + y)) = M + (x + y) := IntWalk.i64_in _ (by omega)
            have f5 : IntKind.i64.wrap x = x := IntWalk.i64_in _ (by omega)
            have f6 : IntKind.i64.wrap y = y := IntWalk.i64_in _ (by omega)
            have hi0 : (0 : Int) ≤ (i : Int) := Int.natCast_nonneg _
            have hi1 : (i : Int) < 16 := by omega
            have HTL : Hide ((tagF key xs).length = 16) := ⟨digits_len _ _⟩
            have HFS : Hide (((tagF key xs).take i ++ List.replicate (16 - i) 0).set i ((M + (x + y)) % 256) = (tagF key xs).take (i + 1) ++ List.replicate (16 - (i + 1)) 0) := ⟨fill_set _ 16 i _ hlt HTL.out (by rw [HTF.out, digits_get 16 _ i hlt]; exact HTG.out.symm)⟩
            go_wp2_with (first | ((with_reducible refine gate_store (p := 81) (v := .tmp 80) rfl ?_); refine store_cell rfl rfl 5 (.tmp 81) (.tmp 80) rfl g4 (i) (by first | rfl | go_simp) (.int .u8 ((M + (x + y)) % 256)) rfl rfl rfl (by kernel_rfl) _ _ K4.out ?hlt ?_; (case hlt => rw [ia_size, List.length_append, List.length_take, HTL.out, List.length_replicate]; omega); intro wB hb ho; rw [ia_set, HFS.out] at hb; have KD' := Hide.mk (ho.blk KD.out LD4); clear KD; have KD := KD'; clear KD'; have K4' := Hide.mk hb; have HB' := Hide.mk (ho.below HB.out GEg4); clear K4 HB; have K4 := K4'; have HB := HB'; clear K4' HB'; have K2' := Hide.mk (ho.blk K2.out (by omega)); clear K2; have K2 := K2'; clear K2'; clear hb ho))
            go_roundg (gk - 1)
            case measure => omega
            case rel => exact ⟨i + 1, by omega, by rw [HMN.out], by go_num, K2.out, K4.out, KD.out, HB.out⟩
          · obtain rfl : i = 16 := by omega
            rw [show ((16 : Nat) : Int) = 16 from rfl]
            have HTL : Hide ((tagF key xs).length = 16) := ⟨digits_len _ _⟩
            have HE : Hide ((tagF key xs).take 16 ++ List.replicate (16 - 16) 0 = tagF key xs) := ⟨by rw [List.take_of_length_le (by rw [HTL.out]; omega)]; simp⟩
            rw [HE.out] at K4
            obtain ⟨TF, hTF⟩ : ∃ TF, tagF key xs = TF := ⟨_, rfl⟩
            rw [hTF] at K4 HTL
            have HTE := Hide.mk hTF
            clear hTF
            go_wp2_with (first | ((with_reducible refine gate_dst (N := 85) rfl ?_); refine wpList_load_row rfl 25 (.tmp 4) rfl g4 rfl 25 _ (0, 0) _ K4.out Try.underlying25 rfl ?hsz ?_; (case hsz => rw [ia_size, HTL.out]; kernel_rfl)) | ((with_reducible refine gate_store (p := 4) (v := .tmp 85) rfl ?_); go_must (refine store_row rfl rfl 25 (.tmp 4) (.tmp 85) rfl g4 rfl (ia .u8 TF) rfl (ia_one _ _) (by rw [ia_size, HTL.out]; kernel_rfl) _ _ K4.out (by rfl) ?_); intro wB hb ho; have K4' := Hide.mk hb; have HB' := Hide.mk (ho.below HB.out GEg4); clear K4 HB; have K4 := K4'; have HB := HB'; clear K4' HB'; have KD' := Hide.mk (ho.blk KD.out LD4); clear KD; have KD := KD'; clear KD'; clear hb ho))
            refine ⟨by simp, .inl ⟨_, _, rfl, run_takeDeferred KD.out, ?_⟩⟩
            have K4f := (World.putObj_heap_other (w := wB) (r := D) (o := .deferred none) (Ne.symm LD4)).trans K4.out
            exact ⟨_, results_ct rfl _ _ g4 25 _ (0, 0) _ rfl K4f Try.underlying25 rfl (by rw [ia_size, HTL.out]; kernel_rfl), (by rw [HTE.out]; rfl), (Keep.putObj wB D (.deferred none) w.heap.size (ex := fun _ => False) (.inl GED)).below HB.out (Nat.le_refl _) (fun _ h => h.elim)⟩
end Go.Proofs.Ytlhhjdhbkhjhjaa.Po
