/- The walk of the twin's block. -/
import Derived.Test.YthgklggcdnocdaaS7
namespace Go.Proofs.Ythgklggcdnocdaa.Sh
open Go.RowKit Go.Proofs.YthgklggcdnocdaaW.PrintWords Go.Proofs.YthgklggcdnocdaaW.PrintLast Go.Proofs.YthgklggcdnocdaaW.PrintMore Mem
set_option linter.unusedVariables false
set_option linter.unusedSimpArgs false
theorem acc4 (a b c d : Int) : acc [a, b, c, d] = ((a * 256 + b) * 256 + c) * 256 + d := by simp [acc]
theorem wi_word (bs : List Int) (hl : bs.length = 64) (i : Nat) (hi : i < 16) : (wi bs 64).getD i 0 = acc [bs.getD (4 * i) 0, bs.getD (4 * i + 1) 0, bs.getD (4 * i + 2) 0, bs.getD (4 * i + 3) 0] := by
  rw [wi_get bs 64 i (by omega), List.take_of_length_le (l := bs) (by omega)]
  apply congrArg acc
  apply List.ext_getElem?
  intro j
  rw [List.getElem?_take]
  by_cases hj : j < 4
  · rw [if_pos hj, List.getElem?_drop]
    match j, hj with
    | 0, _ => simp [List.getD_eq_getElem?_getD, List.getElem?_eq_getElem (show 4 * i < bs.length by omega)]
    | 1, _ => simp [List.getD_eq_getElem?_getD, List.getElem?_eq_getElem (show 4 * i + 1 < bs.length by omega)]
    | 2, _ => simp [List.getD_eq_getElem?_getD, List.getElem?_eq_getElem (show 4 * i + 2 < bs.length by omega)]
    | 3, _ => simp [List.getD_eq_getElem?_getD, List.getElem?_eq_getElem (show 4 * i + 3 < bs.length by omega)]
  · rw [if_neg hj, List.getElem?_eq_none (by simp; omega)]
theorem wi_rest (bs : List Int) (hl : bs.length = 64) : (wi bs 64).drop 16 = List.replicate 48 0 := by
  rw [List.eq_replicate_iff]
  refine ⟨by rw [List.length_drop, wi_len], fun x hx => ?_⟩
  obtain ⟨k, hk, rfl⟩ := List.mem_iff_getElem.1 hx
  rw [List.length_drop, wi_len] at hk
  have h := wi_get bs 64 (16 + k) (by omega)
  rw [List.getD_eq_getElem?_getD, List.getElem?_eq_getElem (by rw [wi_len]; omega)] at h
  rw [List.getElem_drop]
  refine Eq.trans h ?_
  rw [List.drop_eq_nil_of_le (by simp; omega)]
  rfl
theorem wi_full (bs : List Int) (hl : bs.length = 64) : (wi bs 64).take 16 ++ (List.replicate 64 (0 : Int)).drop 16 = wi bs 64 := by
  have h : (List.replicate 64 (0 : Int)).drop 16 = List.replicate 48 0 := rfl
  rw [h, ← wi_rest bs hl, List.take_append_drop]
theorem or_join (x y : Int) (k : Nat) (h0 : 0 ≤ x) (h1 : x * 2 ^ k < 4294967296) (h2 : 0 ≤ y) (h3 : y < 2 ^ k) (h4 : y < 4294967296) : bits .or .u32 (x * 2 ^ k) y = x * 2 ^ k + y := by
  have hp : (0 : Int) < 2 ^ k := Int.pow_pos (by decide)
  have hq : 0 ≤ x * 2 ^ k := Int.mul_nonneg h0 (Int.le_of_lt hp)
  obtain ⟨n, rfl⟩ := Int.eq_ofNat_of_zero_le h0
  obtain ⟨m, rfl⟩ := Int.eq_ofNat_of_zero_le h2
  have e : ((n : Int) * 2 ^ k) = ((2 ^ k * n : Nat) : Int) := by push_cast; exact Int.mul_comm _ _
  have hm : m < 2 ^ k := by exact_mod_cast h3
  rw [e] at h1 hq ⊢
  rw [u32_or _ _ (by omega) (by omega) (by omega) (by omega)]
  have := Nat.two_pow_add_eq_or_of_lt hm n
  simp only [Int.toNat_natCast]
  rw [← this]
  push_cast
  rfl
def word4 (a b c d : Int) : Int := bits .or .u32 (bits .or .u32 (bits .or .u32 (w32 (w32 a * 16777216)) (w32 (w32 b * 65536))) (w32 (w32 c * 256))) (w32 d)
theorem w32_in (x : Int) (h0 : 0 ≤ x) (h1 : x < 4294967296) : w32 x = x := by unfold w32; rw [IntKind.wrap_u32]; omega
theorem word4_eq (a b c d : Int) (ha : 0 ≤ a ∧ a ≤ 255) (hb : 0 ≤ b ∧ b ≤ 255) (hc : 0 ≤ c ∧ c ≤ 255) (hd : 0 ≤ d ∧ d ≤ 255) : word4 a b c d = acc [a, b, c, d] := by
  unfold word4
  rw [acc4, w32_in a (by omega) (by omega), w32_in b (by omega) (by omega), w32_in c (by omega) (by omega), w32_in d (by omega) (by omega), w32_in (a * 16777216) (by omega) (by omega), w32_in (b * 65536) (by omega) (by omega), w32_in (c * 256) (by omega) (by omega)]
  have e1 := or_join a (b * 65536) 24 (by omega) (by omega) (by omega) (by omega) (by omega)
  have e2 := or_join (a * 256 + b) (c * 256) 16 (by omega) (by omega) (by omega) (by omega) (by omega)
  have e3 := or_join ((a * 256 + b) * 256 + c) d 8 (by omega) (by omega) (by omega) (by omega) (by omega)
  rw [show (a * 16777216 : Int) = a * 2 ^ 24 from rfl, e1, show (a * 2 ^ 24 + b * 65536 : Int) = (a * 256 + b) * 2 ^ 16 by omega, e2, show ((a * 256 + b) * 2 ^ 16 + c * 256 : Int) = ((a * 256 + b) * 256 + c) * 2 ^ 8 by omega, e3]
  omega
theorem sum4 (p q r t : Int) : w32 (w32 (w32 (r + p) + t) + q) = w32 (w32 (w32 (p + q) + r) + t) := by unfold w32; simp only [IntKind.wrap_u32]; omega
def chR (e f g : Int) : Int := bits .xor .u32 (bits .and .u32 e f) (bits .and .u32 (bits .xor .u32 IntKind.u32.max e) g)
def majR (a b c : Int) : Int := bits .xor .u32 (bits .xor .u32 (bits .and .u32 a b) (bits .and .u32 a c)) (bits .and .u32 b c)
theorem bits_ofInt (o : BinOp) (x y : Int) : BitVec.ofInt 32 (bits o .u32 x y) = (match o with | .and => BitVec.ofInt 32 x &&& BitVec.ofInt 32 y | .or => BitVec.ofInt 32 x ||| BitVec.ofInt 32 y | .xor => BitVec.ofInt 32 x ^^^ BitVec.ofInt 32 y | _ => BitVec.ofInt 32 x &&& ~~~(BitVec.ofInt 32 y)) := by
  unfold bits
  show BitVec.ofInt 32 (IntKind.u32.wrap _) = _
  have h : ∀ b : BitVec 32, BitVec.ofInt 32 (IntKind.u32.wrap (b.toNat : Int)) = b := by
    intro b
    have := b.isLt
    rw [IntKind.wrap_u32, Int.emod_eq_of_lt (by omega) (by omega), BitVec.ofInt_natCast, BitVec.ofNat_toNat, BitVec.setWidth_eq]
  cases o <;> exact h _
theorem bits_inj (o p : BinOp) (x y z v : Int) (h : BitVec.ofInt 32 (bits o .u32 x y) = BitVec.ofInt 32 (bits p .u32 z v)) : bits o .u32 x y = bits p .u32 z v := by
  rw [bits_ofInt, bits_ofInt] at h
  unfold bits
  exact congrArg (fun b : BitVec 32 => IntKind.u32.wrap (b.toNat : Int)) h
theorem max_ofInt : BitVec.ofInt 32 IntKind.u32.max = BitVec.allOnes 32 := by decide
theorem ch_eq (e f g : Int) : chR e f g = bits .xor .u32 g (bits .and .u32 e (bits .xor .u32 f g)) := by
  unfold chR
  apply bits_inj
  simp only [bits_ofInt, max_ofInt]
  generalize BitVec.ofInt 32 e = a
  generalize BitVec.ofInt 32 f = b
  generalize BitVec.ofInt 32 g = c
  ext i hi
  simp only [BitVec.getElem_xor, BitVec.getElem_and, BitVec.getElem_allOnes]
  cases a[i] <;> cases b[i] <;> cases c[i] <;> rfl
theorem maj_eq (a b c : Int) : majR a b c = bits .or .u32 (bits .and .u32 a b) (bits .and .u32 c (bits .or .u32 a b)) := by
  unfold majR
  apply bits_inj
  simp only [bits_ofInt]
  generalize BitVec.ofInt 32 a = x
  generalize BitVec.ofInt 32 b = y
  generalize BitVec.ofInt 32 c = z
  ext i hi
  simp only [BitVec.getElem_xor, BitVec.getElem_and, BitVec.getElem_or]
  cases x[i] <;> cases y[i] <;> cases z[i] <;> rfl
def rndL (s : S8) (k w : Int) : List Int := [(s.h + big s.e 6 11 25 + chR s.e s.f s.g + k + w + (big s.a 2 13 22 + majR s.a s.b s.c)) % 4294967296, s.a, s.b, s.c, (s.d + (s.h + big s.e 6 11 25 + chR s.e s.f s.g + k + w)) % 4294967296, s.e, s.f, s.g]
theorem rndL_eq (s : S8) (k w : Int) : rndL s k w = (rnd s k w).list := by
  have h1 : (rnd s k w).a = (s.h + big s.e 6 11 25 + chR s.e s.f s.g + k + w + (big s.a 2 13 22 + majR s.a s.b s.c)) % 4294967296 := by
    simp only [rnd, one, two, ← ch_eq, ← maj_eq, w32, IntKind.wrap_u32]
    omega
  have h2 : (rnd s k w).e = (s.d + (s.h + big s.e 6 11 25 + chR s.e s.f s.g + k + w)) % 4294967296 := by
    simp only [rnd, one, two, ← ch_eq, ← maj_eq, w32, IntKind.wrap_u32]
    omega
  unfold rndL S8.list
  rw [h1, h2]
  rfl
set_option maxHeartbeats 4000000 in
set_option maxRecDepth 100000 in
theorem refblock_any (s : S8) (bs : List Int) (w : World) (hb : Bytes bs) (hl : bs.length = 64) : Calls Try.prog 8 #[.agg (ia .u32 s.list), .agg (ia .u8 bs)] w fun e w' => e = .returned (.agg (ia .u32 (blockF s bs).list)) ∧ Below w.heap.size w w' := by
  have HL := Hide.mk hl
  have HBy := Hide.mk hb
  clear hl hb
  go_enter Try.func8, Try.ntmps8
  go_wp2_with (first | ((with_reducible refine gate_dst (N := 2) rfl ?_); refine box_event ?hg (N := 2) ?hd (cs := ia .u32 s.list) (t := 23) ?hr ?_; (case hd => rfl); (case hg => rfl); (case hr => kernel_rfl); intro g2 hg w1 hbox hb; have BKg2 := Hide.mk hbox; have HB1 := Hide.mk hb; have GEg2 : w.heap.size ≤ g2 := (by rw [hg]; exact Nat.le_refl _); clear hbox hb hg) | ((with_reducible refine gate_dst (N := 3) rfl ?_); refine box_event ?hg (N := 3) ?hd (cs := ia .u8 bs) (t := 24) ?hr ?_; (case hd => rfl); (case hg => rfl); (case hr => kernel_rfl); intro g3 hg w2 hbox hb; have Lg2g3 : g2 < g3 := (by rw [hg]; exact blk_lt BKg2.out); have BKg3 := Hide.mk hbox; have HB2 := Hide.mk (below_step HB1.out hb); have GEg3 : w.heap.size ≤ g3 := (by rw [hg]; exact HB1.out.size); clear HB1; have BKg2' := Hide.mk (blk_below BKg2.out hb); clear BKg2; have BKg2 := BKg2'; clear BKg2'; clear hbox hb hg) | ((with_reducible refine gate_dst (N := 4) rfl ?_); refine box_event ?hg (N := 4) ?hd (cs := ia .u32 (List.replicate 8 0)) (t := 23) ?hr ?_; (case hd => rfl); (case hg => rfl); (case hr => kernel_rfl); intro g4 hg w3 hbox hb; have Lg2g4 : g2 < g4 := (by rw [hg]; exact blk_lt BKg2.out); have Lg3g4 : g3 < g4 := (by rw [hg]; exact blk_lt BKg3.out); have BKg4 := Hide.mk hbox; have HB3 := Hide.mk (below_step HB2.out hb); have GEg4 : w.heap.size ≤ g4 := (by rw [hg]; exact HB2.out.size); clear HB2; have BKg2' := Hide.mk (blk_below BKg2.out hb); clear BKg2; have BKg2 := BKg2'; clear BKg2'; have BKg3' := Hide.mk (blk_below BKg3.out hb); clear BKg3; have BKg3 := BKg3'; clear BKg3'; clear hbox hb hg) | ((with_reducible refine gate_dst (N := 5) rfl ?_); refine box_event ?hg (N := 5) ?hd (cs := ia .u32 (List.replicate 64 0)) (t := 39) ?hr ?_; (case hd => rfl); (case hg => rfl); (case hr => kernel_rfl); intro g5 hg w4 hbox hb; have Lg2g5 : g2 < g5 := (by rw [hg]; exact blk_lt BKg2.out); have Lg3g5 : g3 < g5 := (by rw [hg]; exact blk_lt BKg3.out); have Lg4g5 : g4 < g5 := (by rw [hg]; exact blk_lt BKg4.out); have BKg5 := Hide.mk hbox; have HB4 := Hide.mk (below_step HB3.out hb); have GEg5 : w.heap.size ≤ g5 := (by rw [hg]; exact HB3.out.size); clear HB3; have BKg2' := Hide.mk (blk_below BKg2.out hb); clear BKg2; have BKg2 := BKg2'; clear BKg2'; have BKg3' := Hide.mk (blk_below BKg3.out hb); clear BKg3; have BKg3 := BKg3'; clear BKg3'; have BKg4' := Hide.mk (blk_below BKg4.out hb); clear BKg4; have BKg4 := BKg4'; clear BKg4'; clear hbox hb hg))
  go_loopw [6] (fun t wr => ∃ i : Nat, i ≤ 16 ∧ t = .int .i64 i ∧ wr.heap[g5]? = some (.cells (ia .u32 ((wi bs 64).take i ++ (List.replicate 64 (0 : Int)).drop i)) 39 (0, 0)) ∧ wr.heap[g2]? = some (.cells (ia .u32 s.list) 23 (0, 0)) ∧ wr.heap[g3]? = some (.cells (ia .u8 bs) 24 (0, 0)) ∧ wr.heap[g4]? = some (.cells (ia .u32 (List.replicate 8 0)) 23 (0, 0)) ∧ Below w.heap.size w wr) (fun t _ => 16 - (intOf t).toNat)
  case atStart => exact ⟨0, by omega, rfl, BKg5.out, BKg2.out, BKg3.out, BKg4.out, HB4.out⟩
  case round =>
    clear BKg2 BKg3 BKg4 BKg5 HB4
    obtain ⟨i, hi, rfl, h5, h2, h3, h4, hbel⟩ := hrel
    have BK5 := Hide.mk h5
    have BK2 := Hide.mk h2
    have BK3 := Hide.mk h3
    have BK4 := Hide.mk h4
    have HB := Hide.mk hbel
    clear h5 h2 h3 h4 hbel
    by_cases hlt : i < 16
    · have HW := Hide.mk (wi_word bs HL.out i hlt)
      have c0 : wr.cell? ⟨g3, 4 * i, none⟩ = some (.int .u8 (bs.getD (4 * i) 0)) := (blk_cell BK3.out _).trans (ia_get _ _ _ (by rw [HL.out]; omega))
      have c1 : wr.cell? ⟨g3, 4 * i + 1, none⟩ = some (.int .u8 (bs.getD (4 * i + 1) 0)) := (blk_cell BK3.out _).trans (ia_get _ _ _ (by rw [HL.out]; omega))
      have c2 : wr.cell? ⟨g3, 4 * i + 2, none⟩ = some (.int .u8 (bs.getD (4 * i + 2) 0)) := (blk_cell BK3.out _).trans (ia_get _ _ _ (by rw [HL.out]; omega))
      have c3 : wr.cell? ⟨g3, 4 * i + 3, none⟩ = some (.int .u8 (bs.getD (4 * i + 3) 0)) := (blk_cell BK3.out _).trans (ia_get _ _ _ (by rw [HL.out]; omega))
      have hm : ∀ k, k < 64 → 0 ≤ bs.getD k 0 ∧ bs.getD k 0 ≤ 255 := fun k hk => HBy.out (bs.getD k 0) (by rw [List.getD_eq_getElem?_getD, List.getElem?_eq_getElem (by rw [HL.out]; exact hk)]; exact List.getElem_mem _)
      have m0 := hm (4 * i) (by omega)
      have m1 := hm (4 * i + 1) (by omega)
      have m2 := hm (4 * i + 2) (by omega)
      have m3 := hm (4 * i + 3) (by omega)
      clear hm
      generalize bs.getD (4 * i) 0 = b0 at c0 m0 HW
      generalize bs.getD (4 * i + 1) 0 = b1 at c1 m1 HW
      generalize bs.getD (4 * i + 2) 0 = b2 at c2 m2 HW
      generalize bs.getD (4 * i + 3) 0 = b3 at c3 m3 HW
      have hi0 : (0 : Int) ≤ (i : Int) := Int.natCast_nonneg _
      have hi1 : (i : Int) < 16 := by omega
      have hi2 : (i : Int) < 64 := by omega
      have hd : decide ((i : Int) < 16) = true := by simp; omega
      have e0 : IntKind.i64.wrap (4 * (i : Int)) = 4 * (i : Int) := by rw [IntWalk.i64_in _ (by omega)]
      have e1 : IntKind.i64.wrap (4 * (i : Int) + 1) = 4 * (i : Int) + 1 := by rw [IntWalk.i64_in _ (by omega)]
      have e2 : IntKind.i64.wrap (4 * (i : Int) + 2) = 4 * (i : Int) + 2 := by rw [IntWalk.i64_in _ (by omega)]
      have e3 : IntKind.i64.wrap (4 * (i : Int) + 3) = 4 * (i : Int) + 3 := by rw [IntWalk.i64_in _ (by omega)]
      have t0 : (4 * (i : Int)).toNat = 4 * i := by omega
      have t1 : (4 * (i : Int) + 1).toNat = 4 * i + 1 := by omega
      have t2 : (4 * (i : Int) + 2).toNat = 4 * i + 2 := by omega
      have t3 : (4 * (i : Int) + 3).toNat = 4 * i + 3 := by omega
      have l0 : 0 ≤ 4 * (i : Int) ∧ 4 * (i : Int) < 64 := by omega
      have l1 : 0 ≤ 4 * (i : Int) + 1 ∧ 4 * (i : Int) + 1 < 64 := by omega
      have l2 : 0 ≤ 4 * (i : Int) + 2 ∧ 4 * (i : Int) + 2 < 64 := by omega
      have l3 : 0 ≤ 4 * (i : Int) + 3 ∧ 4 * (i : Int) + 3 < 64 := by omega
      go_wp2_with fail
      refine Plan.region_plan (fun w' => w'.cell? ⟨g3, 4 * i, none⟩ = some (.int .u8 b0) ∧ w'.cell? ⟨g3, 4 * i + 1, none⟩ = some (.int .u8 b1) ∧ w'.cell? ⟨g3, 4 * i + 2, none⟩ = some (.int .u8 b2) ∧ w'.cell? ⟨g3, 4 * i + 3, none⟩ = some (.int .u8 b3)) [31] [(0, 0, some 22), (1, 0, some 23), (2, 0, some 24), (3, 0, some 25), (4, 0, some 26), (5, 0, some 27), (6, 0, some 28), (7, 0, some 29), (8, 0, some 30), (9, 0, some 31), (10, 0, some 32), (11, 0, some 33), (12, 0, some 34), (13, 0, some 35), (14, 0, some 36), (15, 0, some 37), (16, 0, some 38), (17, 0, some 39), (18, 0, some 40), (19, 0, some 41), (20, 0, some 42), (21, 0, some 43), (22, 0, some 44), (23, 0, some 45), (24, 0, some 46), (25, 0, some 47), (26, 0, some 48), (27, 0, some 49), (28, 0, some 50), (29, 0, some 51), (30, 0, some 52), (31, 2, none)] (by kernel_rfl) (by kernel_rfl) (by decide) ⟨c0, c1, c2, c3⟩ (fun wz ewz hS => ?_)
      have HBz := Hide.mk (below_of_drew ewz HB.out)
      have BK5z := Hide.mk (blk_of_drew ewz BK5.out)
      have BK4z := Hide.mk (blk_of_drew ewz BK4.out)
      have BK3z := Hide.mk (blk_of_drew ewz BK3.out)
      have BK2z := Hide.mk (blk_of_drew ewz BK2.out)
      clear ewz c0 c1 c2 c3 BK5 BK4 BK3 BK2 HB
      (repeat (first | (refine Plan.plan_take (v := ?_) (a' := ?_) rfl ?_ ?_ ?_ ?_; rotate_left 2; (· rfl); (· (intro w' hs; go_simp; with_reducible rfl)); (· (simp only [Act.put, List.setIfInBounds_toArray, List.set_cons_zero, List.set_cons_succ]; rfl))) | (refine Plan.plan_skip (a' := ?_) rfl ?_ ?_ ?_; rotate_left 1; (· rfl); (· (simp only [Act.put, List.setIfInBounds_toArray, List.set_cons_zero, List.set_cons_succ]; rfl))) | (refine Plan.plan_pure (v := ?_) (a' := ?_) rfl ?_ ?_ ?_ ?_; rotate_left 2; (· rfl); (· (intro w'; go_simp; with_reducible rfl)); (· (simp only [Act.put, List.setIfInBounds_toArray, List.set_cons_zero, List.set_cons_succ]; rfl)))))
      refine Plan.plan_last_cell rfl rfl rfl 22 (.tmp 52) (.tmp 51) rfl g5 i rfl (.int .u32 (word4 b0 b1 b2 b3)) rfl rfl rfl (by kernel_rfl) _ _ BK5z.out (by rw [ia_size, List.length_append, List.length_take, List.length_drop, wi_len, List.length_replicate]; omega) ?_
      intro w5 hb5 ho5
      rw [ia_set, mix_set (wi bs 64) (List.replicate 64 0) i (word4 b0 b1 b2 b3) (by rw [wi_len]; rfl) (by rw [List.length_replicate]; omega) (by rw [HW.out, word4_eq _ _ _ _ m0 m1 m2 m3])] at hb5
      have BK5 := Hide.mk hb5
      have HO5 := Hide.mk ho5
      clear hb5 ho5
      refine Plan.plan_nil ?_
      go_wp2_with fail
      go_roundw
      case rel => exact ⟨i + 1, by omega, by go_num, BK5.out, HO5.out.blk BK2z.out (by omega), HO5.out.blk BK3z.out (by omega), HO5.out.blk BK4z.out (by omega), HO5.out.below HBz.out (by omega)⟩
      case measure => simp [intOf]; omega
    · obtain rfl : i = 16 := by omega
      clear hi hlt
      simp only [show ((16 : Nat) : Int) = 16 from rfl]
      have BK5' := Hide.mk BK5.out
      rw [wi_full bs HL.out] at BK5'
      clear BK5 BK3
      have BK5 := BK5'
      clear BK5'
      go_wp2_with fail
      go_loopw [7] (fun t wr => ∃ n : Nat, n ≤ 48 ∧ t = .int .i64 ((n : Int) + 16) ∧ wr.heap[g5]? = some (.cells (ia .u32 (sch (wi bs 64) n)) 39 (0, 0)) ∧ wr.heap[g2]? = some (.cells (ia .u32 s.list) 23 (0, 0)) ∧ wr.heap[g4]? = some (.cells (ia .u32 (List.replicate 8 0)) 23 (0, 0)) ∧ Below w.heap.size w wr) (fun t _ => 64 - (intOf t).toNat)
      case atStart => exact ⟨0, by omega, rfl, BK5.out, BK2.out, BK4.out, HB.out⟩
      case round =>
        clear BK5 BK2 BK4 HB
        obtain ⟨n, hn, rfl, h5, h2, h4, hbel⟩ := hrel
        have BK5 := Hide.mk h5
        have BK2 := Hide.mk h2
        have BK4 := Hide.mk h4
        have HB := Hide.mk hbel
        clear h5 h2 h4 hbel
        have HLn := Hide.mk (show (sch (wi bs 64) n).length = 64 by rw [sch_len, wi_len])
        by_cases hlt : n < 48
        · have cx : wr.cell? ⟨g5, n + 14, none⟩ = some (.int .u32 ((sch (wi bs 64) n).getD (n + 14) 0)) := (blk_cell BK5.out _).trans (ia_get _ _ _ (by rw [HLn.out]; omega))
          have cy : wr.cell? ⟨g5, n + 1, none⟩ = some (.int .u32 ((sch (wi bs 64) n).getD (n + 1) 0)) := (blk_cell BK5.out _).trans (ia_get _ _ _ (by rw [HLn.out]; omega))
          have c9 : wr.cell? ⟨g5, n + 9, none⟩ = some (.int .u32 ((sch (wi bs 64) n).getD (n + 9) 0)) := (blk_cell BK5.out _).trans (ia_get _ _ _ (by rw [HLn.out]; omega))
          have c0 : wr.cell? ⟨g5, n, none⟩ = some (.int .u32 ((sch (wi bs 64) n).getD n 0)) := (blk_cell BK5.out _).trans (ia_get _ _ _ (by rw [HLn.out]; omega))
          have HE : Hide (sch (wi bs 64) (n + 1) = (sch (wi bs 64) n).set (n + 16) (w32 (w32 (w32 ((sch (wi bs 64) n).getD (n + 9) 0 + (sch (wi bs 64) n).getD n 0) + s1 ((sch (wi bs 64) n).getD (n + 14) 0)) + s0 ((sch (wi bs 64) n).getD (n + 1) 0)))) := ⟨rfl⟩
          generalize (sch (wi bs 64) n).getD (n + 14) 0 = x at cx HE
          generalize (sch (wi bs 64) n).getD (n + 1) 0 = y at cy HE
          generalize (sch (wi bs 64) n).getD (n + 9) 0 = p9 at c9 HE
          generalize (sch (wi bs 64) n).getD n 0 = p0 at c0 HE
          have hb1 : (0 : Int) ≤ (n : Int) := Int.natCast_nonneg _
          have hb2 : (n : Int) < 48 := by omega
          have hb3 : decide ((n : Int) + 16 < 64) = true := by simp; omega
          have e2 : IntKind.i64.wrap ((n : Int) + 16 - 2) = (n : Int) + 14 := by rw [IntWalk.i64_in _ (by omega)]; omega
          have e15 : IntKind.i64.wrap ((n : Int) + 16 - 15) = (n : Int) + 1 := by rw [IntWalk.i64_in _ (by omega)]; omega
          have e7 : IntKind.i64.wrap ((n : Int) + 16 - 7) = (n : Int) + 9 := by rw [IntWalk.i64_in _ (by omega)]; omega
          have e16 : IntKind.i64.wrap ((n : Int) + 16 - 16) = (n : Int) := by rw [IntWalk.i64_in _ (by omega)]; exact Int.add_sub_cancel _ _
          have e16' : IntKind.i64.wrap (n : Int) = (n : Int) := IntWalk.i64_in _ (by omega)
          have l0 : (n : Int) < 64 := by omega
          have t14 : ((n : Int) + 14).toNat = n + 14 := by omega
          have t1 : ((n : Int) + 1).toNat = n + 1 := by omega
          have t9 : ((n : Int) + 9).toNat = n + 9 := by omega
          have t16 : ((n : Int) + 16).toNat = n + 16 := by omega
          have l14 : 0 ≤ (n : Int) + 14 ∧ (n : Int) + 14 < 64 := by omega
          have l1 : 0 ≤ (n : Int) + 1 ∧ (n : Int) + 1 < 64 := by omega
          have l9 : 0 ≤ (n : Int) + 9 ∧ (n : Int) + 9 < 64 := by omega
          have l16 : 0 ≤ (n : Int) + 16 ∧ (n : Int) + 16 < 64 := by omega
          go_wp2_with fail
          refine Plan.region_plan (fun w' => w'.cell? ⟨g5, n + 9, none⟩ = some (.int .u32 p9) ∧ w'.cell? ⟨g5, n, none⟩ = some (.int .u32 p0)) [29] [(0, 0, some 65), (1, 0, some 66), (3, 0, some 68), (6, 0, some 71), (7, 0, some 72), (9, 0, some 74), (10, 0, some 75), (11, 0, some 76), (12, 0, some 77), (14, 0, some 79), (16, 0, some 81), (19, 0, some 84), (20, 0, some 85), (23, 0, some 88), (24, 0, some 89), (25, 0, some 90), (26, 0, some 91), (2, 1, some 67), (4, 1, some 69), (5, 0, some 70), (8, 0, some 73), (13, 0, some 78), (15, 1, some 80), (17, 1, some 82), (18, 0, some 83), (21, 0, some 86), (22, 0, some 87), (27, 0, some 92), (28, 0, some 93), (29, 2, none)] (by kernel_rfl) (by kernel_rfl) (by decide) ⟨c9, c0⟩ (fun wy ewy hS1 => ?_)
          have HBwy := Hide.mk (below_of_drew ewy HB.out)
          have HHwy := Hide.mk (show wy.heap = wr.heap by rw [ewy]; rfl)
          clear ewy cx cy c9 c0 HB
          (repeat (first | (refine Plan.plan_take (v := ?_) (a' := ?_) rfl ?_ ?_ ?_ ?_; rotate_left 2; (· rfl); (· (intro w' hs; go_simp; with_reducible rfl)); (· (simp only [Act.put, List.setIfInBounds_toArray, List.set_cons_zero, List.set_cons_succ]; rfl))) | (refine Plan.plan_skip (a' := ?_) rfl ?_ ?_ ?_; rotate_left 1; (· rfl); (· (simp only [Act.put, List.setIfInBounds_toArray, List.set_cons_zero, List.set_cons_succ]; rfl))) | (refine Plan.plan_pure (v := ?_) (a' := ?_) rfl ?_ ?_ ?_ ?_; rotate_left 2; (· rfl); (· (intro w'; go_simp; with_reducible rfl)); (· (simp only [Act.put, List.setIfInBounds_toArray, List.set_cons_zero, List.set_cons_succ]; rfl)))))
          refine Plan.plan_call rfl Try.func20 (by kernel_rfl) rfl #[.int .u32 x, .int .i64 17] rfl rfl rfl (by (try simp only [List.map_toArray, List.map_cons, List.map_nil]); rfl) ?_
          refine (turn20 x 17 (by decide) (by decide) _).mono ?_
          rintro e v1 ⟨rfl, hdv1⟩
          have HBv1 := Hide.mk (below_step HBwy.out hdv1.below)
          have HHv1 := Hide.mk ((drawn_heap hdv1).trans HHwy.out)
          have hS2 : v1.cell? ⟨g5, n + 9, none⟩ = some (.int .u32 p9) ∧ v1.cell? ⟨g5, n, none⟩ = some (.int .u32 p0) := by obtain ⟨⟨nd, rfl⟩⟩ := hdv1; exact hS1
          clear hdv1 HBwy HHwy
          refine ⟨_, rfl, hS2, ?_⟩
          intro a' ha
          simp only [Act.put, List.setIfInBounds_toArray, List.set_cons_zero, List.set_cons_succ] at ha
          subst ha
          (repeat (first | (refine Plan.plan_take (v := ?_) (a' := ?_) rfl ?_ ?_ ?_ ?_; rotate_left 2; (· rfl); (· (intro w' hs; go_simp; with_reducible rfl)); (· (simp only [Act.put, List.setIfInBounds_toArray, List.set_cons_zero, List.set_cons_succ]; rfl))) | (refine Plan.plan_skip (a' := ?_) rfl ?_ ?_ ?_; rotate_left 1; (· rfl); (· (simp only [Act.put, List.setIfInBounds_toArray, List.set_cons_zero, List.set_cons_succ]; rfl))) | (refine Plan.plan_pure (v := ?_) (a' := ?_) rfl ?_ ?_ ?_ ?_; rotate_left 2; (· rfl); (· (intro w'; go_simp; with_reducible rfl)); (· (simp only [Act.put, List.setIfInBounds_toArray, List.set_cons_zero, List.set_cons_succ]; rfl)))))
          refine Plan.plan_call rfl Try.func20 (by kernel_rfl) rfl #[.int .u32 x, .int .i64 19] rfl rfl rfl (by (try simp only [List.map_toArray, List.map_cons, List.map_nil]); rfl) ?_
          refine (turn20 x 19 (by decide) (by decide) _).mono ?_
          rintro e v2 ⟨rfl, hdv2⟩
          have HBv2 := Hide.mk (below_step HBv1.out hdv2.below)
          have HHv2 := Hide.mk ((drawn_heap hdv2).trans HHv1.out)
          have hS3 : v2.cell? ⟨g5, n + 9, none⟩ = some (.int .u32 p9) ∧ v2.cell? ⟨g5, n, none⟩ = some (.int .u32 p0) := by obtain ⟨⟨nd, rfl⟩⟩ := hdv2; exact hS2
          clear hdv2 HBv1 HHv1
          refine ⟨_, rfl, hS3, ?_⟩
          intro a' ha
          simp only [Act.put, List.setIfInBounds_toArray, List.set_cons_zero, List.set_cons_succ] at ha
          subst ha
          (repeat (first | (refine Plan.plan_take (v := ?_) (a' := ?_) rfl ?_ ?_ ?_ ?_; rotate_left 2; (· rfl); (· (intro w' hs; go_simp; with_reducible rfl)); (· (simp only [Act.put, List.setIfInBounds_toArray, List.set_cons_zero, List.set_cons_succ]; rfl))) | (refine Plan.plan_skip (a' := ?_) rfl ?_ ?_ ?_; rotate_left 1; (· rfl); (· (simp only [Act.put, List.setIfInBounds_toArray, List.set_cons_zero, List.set_cons_succ]; rfl))) | (refine Plan.plan_pure (v := ?_) (a' := ?_) rfl ?_ ?_ ?_ ?_; rotate_left 2; (· rfl); (· (intro w'; go_simp; with_reducible rfl)); (· (simp only [Act.put, List.setIfInBounds_toArray, List.set_cons_zero, List.set_cons_succ]; rfl)))))
          refine Plan.plan_call rfl Try.func20 (by kernel_rfl) rfl #[.int .u32 y, .int .i64 7] rfl rfl rfl (by (try simp only [List.map_toArray, List.map_cons, List.map_nil]); rfl) ?_
          refine (turn20 y 7 (by decide) (by decide) _).mono ?_
          rintro e v3 ⟨rfl, hdv3⟩
          have HBv3 := Hide.mk (below_step HBv2.out hdv3.below)
          have HHv3 := Hide.mk ((drawn_heap hdv3).trans HHv2.out)
          have hS4 : v3.cell? ⟨g5, n + 9, none⟩ = some (.int .u32 p9) ∧ v3.cell? ⟨g5, n, none⟩ = some (.int .u32 p0) := by obtain ⟨⟨nd, rfl⟩⟩ := hdv3; exact hS3
          clear hdv3 HBv2 HHv2
          refine ⟨_, rfl, hS4, ?_⟩
          intro a' ha
          simp only [Act.put, List.setIfInBounds_toArray, List.set_cons_zero, List.set_cons_succ] at ha
          subst ha
          (repeat (first | (refine Plan.plan_take (v := ?_) (a' := ?_) rfl ?_ ?_ ?_ ?_; rotate_left 2; (· rfl); (· (intro w' hs; go_simp; with_reducible rfl)); (· (simp only [Act.put, List.setIfInBounds_toArray, List.set_cons_zero, List.set_cons_succ]; rfl))) | (refine Plan.plan_skip (a' := ?_) rfl ?_ ?_ ?_; rotate_left 1; (· rfl); (· (simp only [Act.put, List.setIfInBounds_toArray, List.set_cons_zero, List.set_cons_succ]; rfl))) | (refine Plan.plan_pure (v := ?_) (a' := ?_) rfl ?_ ?_ ?_ ?_; rotate_left 2; (· rfl); (· (intro w'; go_simp; with_reducible rfl)); (· (simp only [Act.put, List.setIfInBounds_toArray, List.set_cons_zero, List.set_cons_succ]; rfl)))))
          refine Plan.plan_call rfl Try.func20 (by kernel_rfl) rfl #[.int .u32 y, .int .i64 18] rfl rfl rfl (by (try simp only [List.map_toArray, List.map_cons, List.map_nil]); rfl) ?_
          refine (turn20 y 18 (by decide) (by decide) _).mono ?_
          rintro e v4 ⟨rfl, hdv4⟩
          have HBv4 := Hide.mk (below_step HBv3.out hdv4.below)
          have HHv4 := Hide.mk ((drawn_heap hdv4).trans HHv3.out)
          have hS5 : v4.cell? ⟨g5, n + 9, none⟩ = some (.int .u32 p9) ∧ v4.cell? ⟨g5, n, none⟩ = some (.int .u32 p0) := by obtain ⟨⟨nd, rfl⟩⟩ := hdv4; exact hS4
          clear hdv4 HBv3 HHv3
          refine ⟨_, rfl, hS5, ?_⟩
          intro a' ha
          simp only [Act.put, List.setIfInBounds_toArray, List.set_cons_zero, List.set_cons_succ] at ha
          subst ha
          (repeat (first | (refine Plan.plan_take (v := ?_) (a' := ?_) rfl ?_ ?_ ?_ ?_; rotate_left 2; (· rfl); (· (intro w' hs; go_simp; with_reducible rfl)); (· (simp only [Act.put, List.setIfInBounds_toArray, List.set_cons_zero, List.set_cons_succ]; rfl))) | (refine Plan.plan_skip (a' := ?_) rfl ?_ ?_ ?_; rotate_left 1; (· rfl); (· (simp only [Act.put, List.setIfInBounds_toArray, List.set_cons_zero, List.set_cons_succ]; rfl))) | (refine Plan.plan_pure (v := ?_) (a' := ?_) rfl ?_ ?_ ?_ ?_; rotate_left 2; (· rfl); (· (intro w'; go_simp; with_reducible rfl)); (· (simp only [Act.put, List.setIfInBounds_toArray, List.set_cons_zero, List.set_cons_succ]; rfl)))))
          refine Plan.plan_last_cell rfl rfl rfl 22 (.tmp 93) (.tmp 92) rfl g5 (n + 16) rfl (.int .u32 (w32 (w32 (w32 (s1 x + p9) + s0 y) + p0))) rfl rfl rfl (by kernel_rfl) _ _ (blk_of_heap HHv4.out BK5.out) (by rw [ia_size, HLn.out]; omega) ?_
          intro w5 hb5 ho5
          rw [ia_set, sum4, ← HE.out] at hb5
          have BK5' := Hide.mk hb5
          have HO5 := Hide.mk ho5
          clear hb5 ho5
          refine Plan.plan_nil ?_
          go_wp2_with fail
          go_roundw
          case rel => exact ⟨n + 1, by omega, by go_num, BK5'.out, HO5.out.blk (blk_of_heap HHv4.out BK2.out) (by omega), HO5.out.blk (blk_of_heap HHv4.out BK4.out) (by omega), HO5.out.below HBv4.out (by omega)⟩
          case measure => simp [intOf]; omega
        · obtain rfl : n = 48 := by omega
          clear hn hlt
          simp only [show ((48 : Nat) : Int) + 16 = 64 from rfl]
          go_wp2_with fail
          refine (words21 _).mono ?_
          rintro e w6 ⟨rfl, hb6⟩
          have HB6 := Hide.mk (below_step HB.out hb6)
          have BK26 := Hide.mk (blk_below BK2.out hb6)
          have BK46 := Hide.mk (blk_below BK4.out hb6)
          have BK56 := Hide.mk (blk_below BK5.out hb6)
          clear hb6 HB BK2 BK4 BK5
          go_wp2_with (first | ((with_reducible refine gate_dst (N := 10) rfl ?_); refine box_event ?hg (N := 10) ?hd (cs := ia .u32 (List.replicate 64 0)) (t := 39) ?hr ?_; (case hd => rfl); (case hg => rfl); (case hr => kernel_rfl); intro g10 hg w7 hbox hb; have Lg2g10 : g2 < g10 := (by rw [hg]; exact blk_lt BK26.out); have Lg4g10 : g4 < g10 := (by rw [hg]; exact blk_lt BK46.out); have Lg5g10 : g5 < g10 := (by rw [hg]; exact blk_lt BK56.out); have BKg10 := Hide.mk hbox; have HB7 := Hide.mk (below_step HB6.out hb); have GEg10 : w.heap.size ≤ g10 := (by rw [hg]; exact HB6.out.size); clear HB6; have BK26' := Hide.mk (blk_below BK26.out hb); clear BK26; have BK26 := BK26'; clear BK26'; have BK46' := Hide.mk (blk_below BK46.out hb); clear BK46; have BK46 := BK46'; clear BK46'; have BK56' := Hide.mk (blk_below BK56.out hb); clear BK56; have BK56 := BK56'; clear BK56'; clear hbox hb hg) | ((with_reducible refine gate_store (p := 10) (v := .tmp 94) rfl ?_); go_must (refine store_row rfl rfl 39 (.tmp 10) (.tmp 94) rfl g10 rfl (ia .u32 ks) rfl (by simpa [ia] using ia_one .u32 _) ?hsz _ _ BKg10.out ?hs ?_); (case hsz => rw [ia_size, ks_len]; kernel_rfl); (case hs => rw [ia_size, ks_len]; rfl); intro w8 hb8 ho8; have BK10 := Hide.mk hb8; have HB8 := Hide.mk (ho8.below HB7.out GEg10); have BK28 := Hide.mk (ho8.blk BK26.out (by omega)); have BK48 := Hide.mk (ho8.blk BK46.out (by omega)); have BK58 := Hide.mk (ho8.blk BK56.out (by omega)); clear hb8 ho8 HB7 BK26 BK46 BK56 BKg10) | ((with_reducible refine gate_dst (N := 95) rfl ?_); refine wpList_load_row rfl 23 (.tmp 2) rfl g2 rfl 23 _ (0, 0) _ BK28.out Try.underlying23 rfl ?hsz ?_; (case hsz => kernel_rfl)) | ((with_reducible refine gate_dst (N := 11) rfl ?_); refine box_event ?hg (N := 11) ?hd (cs := ia .u32 (List.replicate 8 0)) (t := 23) ?hr ?_; (case hd => rfl); (case hg => rfl); (case hr => kernel_rfl); intro g11 hg w9 hbox hb; have Lg2g11 : g2 < g11 := (by rw [hg]; exact blk_lt BK28.out); have Lg4g11 : g4 < g11 := (by rw [hg]; exact blk_lt BK48.out); have Lg5g11 : g5 < g11 := (by rw [hg]; exact blk_lt BK58.out); have Lg10g11 : g10 < g11 := (by rw [hg]; exact blk_lt BK10.out); have BKg11 := Hide.mk hbox; have HB9 := Hide.mk (below_step HB8.out hb); have GEg11 : w.heap.size ≤ g11 := (by rw [hg]; exact HB8.out.size); clear HB8; have BK28' := Hide.mk (blk_below BK28.out hb); clear BK28; have BK28 := BK28'; clear BK28'; have BK48' := Hide.mk (blk_below BK48.out hb); clear BK48; have BK48 := BK48'; clear BK48'; have BK58' := Hide.mk (blk_below BK58.out hb); clear BK58; have BK58 := BK58'; clear BK58'; have BK10' := Hide.mk (blk_below BK10.out hb); clear BK10; have BK10 := BK10'; clear BK10'; clear hbox hb hg) | ((with_reducible refine gate_store (p := 11) (v := .tmp 95) rfl ?_); go_must (refine store_row rfl rfl 23 (.tmp 11) (.tmp 95) rfl g11 rfl (ia .u32 s.list) rfl (by simpa [ia] using ia_one .u32 _) (by kernel_rfl) _ _ BKg11.out rfl ?_); intro wa hba hoa; have BK11 := Hide.mk hba; have HBa := Hide.mk (hoa.below HB9.out GEg11); have BK2a := Hide.mk (hoa.blk BK28.out (by omega)); have BK4a := Hide.mk (hoa.blk BK48.out (by omega)); have BK5a := Hide.mk (hoa.blk BK58.out (by omega)); have BK10a := Hide.mk (hoa.blk BK10.out (by omega)); clear hba hoa HB9 BK28 BK48 BK58 BK10 BKg11))
          go_loopw [12] (fun t wr => ∃ (n : Nat) (r : S8), n ≤ 64 ∧ t = .int .i64 n ∧ r = rounds ks (sch (wi bs 64) 48) s n ∧ wr.heap[g11]? = some (.cells (ia .u32 r.list) 23 (0, 0)) ∧ wr.heap[g10]? = some (.cells (ia .u32 ks) 39 (0, 0)) ∧ wr.heap[g5]? = some (.cells (ia .u32 (sch (wi bs 64) 48)) 39 (0, 0)) ∧ wr.heap[g2]? = some (.cells (ia .u32 s.list) 23 (0, 0)) ∧ wr.heap[g4]? = some (.cells (ia .u32 (List.replicate 8 0)) 23 (0, 0)) ∧ Below w.heap.size w wr) (fun t _ => 64 - (intOf t).toNat)
          case atStart => exact ⟨0, s, by omega, rfl, rfl, BK11.out, BK10a.out, BK5a.out, BK2a.out, BK4a.out, HBa.out⟩
          case round =>
            clear BK11 BK10a BK5a BK2a BK4a HBa
            obtain ⟨n, ⟨ra, rb, rc, rd, re, rf, rg, rh⟩, hn, rfl, hrr, h11, h10, h5, h2, h4, hbel⟩ := hrel
            have HRR := Hide.mk hrr
            have BK11 := Hide.mk h11
            have BK10 := Hide.mk h10
            have BK5 := Hide.mk h5
            have BK2 := Hide.mk h2
            have BK4 := Hide.mk h4
            have HB := Hide.mk hbel
            clear h11 h10 h5 h2 h4 hbel hrr
            by_cases hlt : n < 64
            · have hn0 : (n : Int) < 64 := by omega
              have hnd : decide ((n : Int) < 64) = true := by simp; omega
              have ck : wr.cell? ⟨g10, n, none⟩ = some (.int .u32 (ks.getD n 0)) := (blk_cell BK10.out _).trans (ia_get _ _ _ (by rw [ks_len]; exact hlt))
              have cw : wr.cell? ⟨g5, n, none⟩ = some (.int .u32 ((sch (wi bs 64) 48).getD n 0)) := (blk_cell BK5.out _).trans (ia_get _ _ _ (by rw [sch_len, wi_len]; exact hlt))
              have HE : Hide (rounds ks (sch (wi bs 64) 48) s (n + 1) = rnd (rounds ks (sch (wi bs 64) 48) s n) (ks.getD n 0) ((sch (wi bs 64) 48).getD n 0)) := ⟨rfl⟩
              generalize ks.getD n 0 = kv at ck HE
              generalize (sch (wi bs 64) 48).getD n 0 = wv at cw HE
              have cc0 : wr.cell? ⟨g11, 0, none⟩ = some (.int .u32 ra) := (blk_cell BK11.out 0).trans rfl
              have cc1 : wr.cell? ⟨g11, 1, none⟩ = some (.int .u32 rb) := (blk_cell BK11.out 1).trans rfl
              have cc2 : wr.cell? ⟨g11, 2, none⟩ = some (.int .u32 rc) := (blk_cell BK11.out 2).trans rfl
              have cc3 : wr.cell? ⟨g11, 3, none⟩ = some (.int .u32 rd) := (blk_cell BK11.out 3).trans rfl
              have cc4 : wr.cell? ⟨g11, 4, none⟩ = some (.int .u32 re) := (blk_cell BK11.out 4).trans rfl
              have cc5 : wr.cell? ⟨g11, 5, none⟩ = some (.int .u32 rf) := (blk_cell BK11.out 5).trans rfl
              have cc6 : wr.cell? ⟨g11, 6, none⟩ = some (.int .u32 rg) := (blk_cell BK11.out 6).trans rfl
              have cc7 : wr.cell? ⟨g11, 7, none⟩ = some (.int .u32 rh) := (blk_cell BK11.out 7).trans rfl
              go_wp2_with fail
              refine Plan.region_plan (fun w' => w'.cell? ⟨g11, 5, none⟩ = some (.int .u32 rf) ∧ w'.cell? ⟨g11, 6, none⟩ = some (.int .u32 rg) ∧ w'.cell? ⟨g11, 7, none⟩ = some (.int .u32 rh) ∧ w'.cell? ⟨g10, n, none⟩ = some (.int .u32 kv) ∧ w'.cell? ⟨g5, n, none⟩ = some (.int .u32 wv)) [] [(0, 0, some 104), (1, 0, some 105), (2, 0, some 106), (4, 0, some 108), (7, 0, some 111), (11, 0, some 115), (12, 0, some 116), (13, 0, some 117), (14, 0, some 118), (15, 0, some 119), (16, 0, some 120), (17, 0, some 121), (18, 0, some 122), (19, 0, some 123), (20, 0, some 124), (22, 0, some 126), (23, 0, some 127), (24, 0, some 128), (26, 0, some 130), (27, 0, some 131), (28, 0, some 132), (3, 1, some 107), (5, 1, some 109), (6, 0, some 110), (8, 1, some 112), (9, 0, some 113), (10, 0, some 114), (21, 0, some 125), (25, 0, some 129), (29, 0, some 133), (30, 0, some 15)] (by kernel_rfl) (by kernel_rfl) (by decide) ⟨cc5, cc6, cc7, ck, cw⟩ (fun wy ewy hS1 => ?_)
              have HBwy := Hide.mk (below_of_drew ewy HB.out)
              have HHwy := Hide.mk (show wy.heap = wr.heap by rw [ewy]; rfl)
              clear ewy ck cw cc0 cc1 cc2 cc3 cc4 cc5 cc6 cc7 HB
              (repeat (first | (refine Plan.plan_take (v := ?_) (a' := ?_) rfl ?_ ?_ ?_ ?_; rotate_left 2; (· rfl); (· (intro w' hs; go_simp; with_reducible rfl)); (· (simp only [Act.put, List.setIfInBounds_toArray, List.set_cons_zero, List.set_cons_succ]; rfl))) | (refine Plan.plan_skip (a' := ?_) rfl ?_ ?_ ?_; rotate_left 1; (· rfl); (· (simp only [Act.put, List.setIfInBounds_toArray, List.set_cons_zero, List.set_cons_succ]; rfl))) | (refine Plan.plan_pure (v := ?_) (a' := ?_) rfl ?_ ?_ ?_ ?_; rotate_left 2; (· rfl); (· (intro w'; go_simp; with_reducible rfl)); (· (simp only [Act.put, List.setIfInBounds_toArray, List.set_cons_zero, List.set_cons_succ]; rfl)))))
              refine Plan.plan_call rfl Try.func20 (by kernel_rfl) rfl #[.int .u32 re, .int .i64 6] rfl rfl rfl (by (try simp only [List.map_toArray, List.map_cons, List.map_nil]); rfl) ?_
              refine (turn20 re 6 (by decide) (by decide) _).mono ?_
              rintro e v1 ⟨rfl, hdv1⟩
              have HBv1 := Hide.mk (below_step HBwy.out hdv1.below)
              have HHv1 := Hide.mk ((drawn_heap hdv1).trans HHwy.out)
              have hS2 : v1.cell? ⟨g11, 5, none⟩ = some (.int .u32 rf) ∧ v1.cell? ⟨g11, 6, none⟩ = some (.int .u32 rg) ∧ v1.cell? ⟨g11, 7, none⟩ = some (.int .u32 rh) ∧ v1.cell? ⟨g10, n, none⟩ = some (.int .u32 kv) ∧ v1.cell? ⟨g5, n, none⟩ = some (.int .u32 wv) := by obtain ⟨⟨nd, rfl⟩⟩ := hdv1; exact hS1
              clear hdv1 HBwy HHwy
              refine ⟨_, rfl, hS2, ?_⟩
              intro a' ha
              simp only [Act.put, List.setIfInBounds_toArray, List.set_cons_zero, List.set_cons_succ] at ha
              subst ha
              (repeat (first | (refine Plan.plan_take (v := ?_) (a' := ?_) rfl ?_ ?_ ?_ ?_; rotate_left 2; (· rfl); (· (intro w' hs; go_simp; with_reducible rfl)); (· (simp only [Act.put, List.setIfInBounds_toArray, List.set_cons_zero, List.set_cons_succ]; rfl))) | (refine Plan.plan_skip (a' := ?_) rfl ?_ ?_ ?_; rotate_left 1; (· rfl); (· (simp only [Act.put, List.setIfInBounds_toArray, List.set_cons_zero, List.set_cons_succ]; rfl))) | (refine Plan.plan_pure (v := ?_) (a' := ?_) rfl ?_ ?_ ?_ ?_; rotate_left 2; (· rfl); (· (intro w'; go_simp; with_reducible rfl)); (· (simp only [Act.put, List.setIfInBounds_toArray, List.set_cons_zero, List.set_cons_succ]; rfl)))))
              refine Plan.plan_call rfl Try.func20 (by kernel_rfl) rfl #[.int .u32 re, .int .i64 11] rfl rfl rfl (by (try simp only [List.map_toArray, List.map_cons, List.map_nil]); rfl) ?_
              refine (turn20 re 11 (by decide) (by decide) _).mono ?_
              rintro e v2 ⟨rfl, hdv2⟩
              have HBv2 := Hide.mk (below_step HBv1.out hdv2.below)
              have HHv2 := Hide.mk ((drawn_heap hdv2).trans HHv1.out)
              have hS3 : v2.cell? ⟨g11, 5, none⟩ = some (.int .u32 rf) ∧ v2.cell? ⟨g11, 6, none⟩ = some (.int .u32 rg) ∧ v2.cell? ⟨g11, 7, none⟩ = some (.int .u32 rh) ∧ v2.cell? ⟨g10, n, none⟩ = some (.int .u32 kv) ∧ v2.cell? ⟨g5, n, none⟩ = some (.int .u32 wv) := by obtain ⟨⟨nd, rfl⟩⟩ := hdv2; exact hS2
              clear hdv2 HBv1 HHv1
              refine ⟨_, rfl, hS3, ?_⟩
              intro a' ha
              simp only [Act.put, List.setIfInBounds_toArray, List.set_cons_zero, List.set_cons_succ] at ha
              subst ha
              (repeat (first | (refine Plan.plan_take (v := ?_) (a' := ?_) rfl ?_ ?_ ?_ ?_; rotate_left 2; (· rfl); (· (intro w' hs; go_simp; with_reducible rfl)); (· (simp only [Act.put, List.setIfInBounds_toArray, List.set_cons_zero, List.set_cons_succ]; rfl))) | (refine Plan.plan_skip (a' := ?_) rfl ?_ ?_ ?_; rotate_left 1; (· rfl); (· (simp only [Act.put, List.setIfInBounds_toArray, List.set_cons_zero, List.set_cons_succ]; rfl))) | (refine Plan.plan_pure (v := ?_) (a' := ?_) rfl ?_ ?_ ?_ ?_; rotate_left 2; (· rfl); (· (intro w'; go_simp; with_reducible rfl)); (· (simp only [Act.put, List.setIfInBounds_toArray, List.set_cons_zero, List.set_cons_succ]; rfl)))))
              refine Plan.plan_call rfl Try.func20 (by kernel_rfl) rfl #[.int .u32 re, .int .i64 25] rfl rfl rfl (by (try simp only [List.map_toArray, List.map_cons, List.map_nil]); rfl) ?_
              refine (turn20 re 25 (by decide) (by decide) _).mono ?_
              rintro e v3 ⟨rfl, hdv3⟩
              have HBv3 := Hide.mk (below_step HBv2.out hdv3.below)
              have HHv3 := Hide.mk ((drawn_heap hdv3).trans HHv2.out)
              have hS4 : v3.cell? ⟨g11, 5, none⟩ = some (.int .u32 rf) ∧ v3.cell? ⟨g11, 6, none⟩ = some (.int .u32 rg) ∧ v3.cell? ⟨g11, 7, none⟩ = some (.int .u32 rh) ∧ v3.cell? ⟨g10, n, none⟩ = some (.int .u32 kv) ∧ v3.cell? ⟨g5, n, none⟩ = some (.int .u32 wv) := by obtain ⟨⟨nd, rfl⟩⟩ := hdv3; exact hS3
              clear hdv3 HBv2 HHv2
              refine ⟨_, rfl, hS4, ?_⟩
              intro a' ha
              simp only [Act.put, List.setIfInBounds_toArray, List.set_cons_zero, List.set_cons_succ] at ha
              subst ha
              (repeat (first | (refine Plan.plan_take (v := ?_) (a' := ?_) rfl ?_ ?_ ?_ ?_; rotate_left 2; (· rfl); (· (intro w' hs; go_simp; with_reducible rfl)); (· (simp only [Act.put, List.setIfInBounds_toArray, List.set_cons_zero, List.set_cons_succ]; rfl))) | (refine Plan.plan_skip (a' := ?_) rfl ?_ ?_ ?_; rotate_left 1; (· rfl); (· (simp only [Act.put, List.setIfInBounds_toArray, List.set_cons_zero, List.set_cons_succ]; rfl))) | (refine Plan.plan_pure (v := ?_) (a' := ?_) rfl ?_ ?_ ?_ ?_; rotate_left 2; (· rfl); (· (intro w'; go_simp; with_reducible rfl)); (· (simp only [Act.put, List.setIfInBounds_toArray, List.set_cons_zero, List.set_cons_succ]; rfl)))))
              refine Plan.plan_nil ?_
              clear hS1 hS2 hS3 hS4
              go_wp2_with fail
              have BK11a := Hide.mk (blk_of_heap HHv3.out BK11.out)
              have cd1 : v3.cell? ⟨g11, 1, none⟩ = some (.int .u32 rb) := (blk_cell BK11a.out 1).trans rfl
              have cd2 : v3.cell? ⟨g11, 2, none⟩ = some (.int .u32 rc) := (blk_cell BK11a.out 2).trans rfl
              refine Plan.region_plan (fun w' => w'.cell? ⟨g11, 1, none⟩ = some (.int .u32 rb) ∧ w'.cell? ⟨g11, 2, none⟩ = some (.int .u32 rc)) [] [(0, 0, some 134), (2, 0, some 136), (5, 0, some 139), (8, 0, some 142), (9, 0, some 143), (10, 0, some 144), (11, 0, some 145), (12, 0, some 146), (13, 0, some 147), (14, 0, some 148), (15, 0, some 149), (16, 0, some 150), (17, 0, some 151), (18, 0, some 152), (19, 0, some 153), (20, 0, some 154), (21, 0, some 155), (22, 0, some 156), (1, 1, some 135), (3, 1, some 137), (4, 0, some 138), (6, 1, some 140), (7, 0, some 141), (23, 0, some 157), (24, 0, some 16)] (by kernel_rfl) (by kernel_rfl) (by decide) ⟨cd1, cd2⟩ (fun wx ewx hS1 => ?_)
              have HBwx := Hide.mk (below_of_drew ewx HBv3.out)
              have HHwx := Hide.mk ((show wx.heap = v3.heap by rw [ewx]; rfl).trans HHv3.out)
              clear ewx cd1 cd2 HBv3 HHv3
              (repeat (first | (refine Plan.plan_take (v := ?_) (a' := ?_) rfl ?_ ?_ ?_ ?_; rotate_left 2; (· rfl); (· (intro w' hs; go_simp; with_reducible rfl)); (· (simp only [Act.put, List.setIfInBounds_toArray, List.set_cons_zero, List.set_cons_succ]; rfl))) | (refine Plan.plan_skip (a' := ?_) rfl ?_ ?_ ?_; rotate_left 1; (· rfl); (· (simp only [Act.put, List.setIfInBounds_toArray, List.set_cons_zero, List.set_cons_succ]; rfl))) | (refine Plan.plan_pure (v := ?_) (a' := ?_) rfl ?_ ?_ ?_ ?_; rotate_left 2; (· rfl); (· (intro w'; go_simp; with_reducible rfl)); (· (simp only [Act.put, List.setIfInBounds_toArray, List.set_cons_zero, List.set_cons_succ]; rfl)))))
              refine Plan.plan_call rfl Try.func20 (by kernel_rfl) rfl #[.int .u32 ra, .int .i64 2] rfl rfl rfl (by (try simp only [List.map_toArray, List.map_cons, List.map_nil]); rfl) ?_
              refine (turn20 ra 2 (by decide) (by decide) _).mono ?_
              rintro e v4 ⟨rfl, hdv4⟩
              have HBv4 := Hide.mk (below_step HBwx.out hdv4.below)
              have HHv4 := Hide.mk ((drawn_heap hdv4).trans HHwx.out)
              have hS2 : v4.cell? ⟨g11, 1, none⟩ = some (.int .u32 rb) ∧ v4.cell? ⟨g11, 2, none⟩ = some (.int .u32 rc) := by obtain ⟨⟨nd, rfl⟩⟩ := hdv4; exact hS1
              clear hdv4 HBwx HHwx
              refine ⟨_, rfl, hS2, ?_⟩
              intro a' ha
              simp only [Act.put, List.setIfInBounds_toArray, List.set_cons_zero, List.set_cons_succ] at ha
              subst ha
              (repeat (first | (refine Plan.plan_take (v := ?_) (a' := ?_) rfl ?_ ?_ ?_ ?_; rotate_left 2; (· rfl); (· (intro w' hs; go_simp; with_reducible rfl)); (· (simp only [Act.put, List.setIfInBounds_toArray, List.set_cons_zero, List.set_cons_succ]; rfl))) | (refine Plan.plan_skip (a' := ?_) rfl ?_ ?_ ?_; rotate_left 1; (· rfl); (· (simp only [Act.put, List.setIfInBounds_toArray, List.set_cons_zero, List.set_cons_succ]; rfl))) | (refine Plan.plan_pure (v := ?_) (a' := ?_) rfl ?_ ?_ ?_ ?_; rotate_left 2; (· rfl); (· (intro w'; go_simp; with_reducible rfl)); (· (simp only [Act.put, List.setIfInBounds_toArray, List.set_cons_zero, List.set_cons_succ]; rfl)))))
              refine Plan.plan_call rfl Try.func20 (by kernel_rfl) rfl #[.int .u32 ra, .int .i64 13] rfl rfl rfl (by (try simp only [List.map_toArray, List.map_cons, List.map_nil]); rfl) ?_
              refine (turn20 ra 13 (by decide) (by decide) _).mono ?_
              rintro e v5 ⟨rfl, hdv5⟩
              have HBv5 := Hide.mk (below_step HBv4.out hdv5.below)
              have HHv5 := Hide.mk ((drawn_heap hdv5).trans HHv4.out)
              have hS3 : v5.cell? ⟨g11, 1, none⟩ = some (.int .u32 rb) ∧ v5.cell? ⟨g11, 2, none⟩ = some (.int .u32 rc) := by obtain ⟨⟨nd, rfl⟩⟩ := hdv5; exact hS2
              clear hdv5 HBv4 HHv4
              refine ⟨_, rfl, hS3, ?_⟩
              intro a' ha
              simp only [Act.put, List.setIfInBounds_toArray, List.set_cons_zero, List.set_cons_succ] at ha
              subst ha
              (repeat (first | (refine Plan.plan_take (v := ?_) (a' := ?_) rfl ?_ ?_ ?_ ?_; rotate_left 2; (· rfl); (· (intro w' hs; go_simp; with_reducible rfl)); (· (simp only [Act.put, List.setIfInBounds_toArray, List.set_cons_zero, List.set_cons_succ]; rfl))) | (refine Plan.plan_skip (a' := ?_) rfl ?_ ?_ ?_; rotate_left 1; (· rfl); (· (simp only [Act.put, List.setIfInBounds_toArray, List.set_cons_zero, List.set_cons_succ]; rfl))) | (refine Plan.plan_pure (v := ?_) (a' := ?_) rfl ?_ ?_ ?_ ?_; rotate_left 2; (· rfl); (· (intro w'; go_simp; with_reducible rfl)); (· (simp only [Act.put, List.setIfInBounds_toArray, List.set_cons_zero, List.set_cons_succ]; rfl)))))
              refine Plan.plan_call rfl Try.func20 (by kernel_rfl) rfl #[.int .u32 ra, .int .i64 22] rfl rfl rfl (by (try simp only [List.map_toArray, List.map_cons, List.map_nil]); rfl) ?_
              refine (turn20 ra 22 (by decide) (by decide) _).mono ?_
              rintro e v6 ⟨rfl, hdv6⟩
              have HBv6 := Hide.mk (below_step HBv5.out hdv6.below)
              have HHv6 := Hide.mk ((drawn_heap hdv6).trans HHv5.out)
              have hS4 : v6.cell? ⟨g11, 1, none⟩ = some (.int .u32 rb) ∧ v6.cell? ⟨g11, 2, none⟩ = some (.int .u32 rc) := by obtain ⟨⟨nd, rfl⟩⟩ := hdv6; exact hS3
              clear hdv6 HBv5 HHv5
              refine ⟨_, rfl, hS4, ?_⟩
              intro a' ha
              simp only [Act.put, List.setIfInBounds_toArray, List.set_cons_zero, List.set_cons_succ] at ha
              subst ha
              (repeat (first | (refine Plan.plan_take (v := ?_) (a' := ?_) rfl ?_ ?_ ?_ ?_; rotate_left 2; (· rfl); (· (intro w' hs; go_simp; with_reducible rfl)); (· (simp only [Act.put, List.setIfInBounds_toArray, List.set_cons_zero, List.set_cons_succ]; rfl))) | (refine Plan.plan_skip (a' := ?_) rfl ?_ ?_ ?_; rotate_left 1; (· rfl); (· (simp only [Act.put, List.setIfInBounds_toArray, List.set_cons_zero, List.set_cons_succ]; rfl))) | (refine Plan.plan_pure (v := ?_) (a' := ?_) rfl ?_ ?_ ?_ ?_; rotate_left 2; (· rfl); (· (intro w'; go_simp; with_reducible rfl)); (· (simp only [Act.put, List.setIfInBounds_toArray, List.set_cons_zero, List.set_cons_succ]; rfl)))))
              refine Plan.plan_nil ?_
              clear hS1 hS2 hS3 hS4
              have BK11b := Hide.mk (blk_of_heap HHv6.out BK11.out)
              have ce0 : v6.cell? ⟨g11, 0, none⟩ = some (.int .u32 ra) := (blk_cell BK11b.out 0).trans rfl
              have ce1 : v6.cell? ⟨g11, 1, none⟩ = some (.int .u32 rb) := (blk_cell BK11b.out 1).trans rfl
              have ce2 : v6.cell? ⟨g11, 2, none⟩ = some (.int .u32 rc) := (blk_cell BK11b.out 2).trans rfl
              have ce3 : v6.cell? ⟨g11, 3, none⟩ = some (.int .u32 rd) := (blk_cell BK11b.out 3).trans rfl
              have ce4 : v6.cell? ⟨g11, 4, none⟩ = some (.int .u32 re) := (blk_cell BK11b.out 4).trans rfl
              have ce5 : v6.cell? ⟨g11, 5, none⟩ = some (.int .u32 rf) := (blk_cell BK11b.out 5).trans rfl
              have ce6 : v6.cell? ⟨g11, 6, none⟩ = some (.int .u32 rg) := (blk_cell BK11b.out 6).trans rfl
              go_wp2_with (first | ((with_reducible refine gate_dst (N := 177) rfl ?_); refine Kd.event_run rfl (v := .agg (ia .u32 (rndL ⟨ra, rb, rc, rd, re, rf, rg, rh⟩ kv wv))) ?hr ?_; (case hr => kernel_rfl)) | ((with_reducible refine gate_store (p := 11) (v := .tmp 177) rfl ?_); go_must (refine store_row rfl rfl 23 (.tmp 11) (.tmp 177) rfl g11 rfl (ia .u32 (rndL ⟨ra, rb, rc, rd, re, rf, rg, rh⟩ kv wv)) (by kernel_rfl) (by simpa [ia] using ia_one .u32 _) (by kernel_rfl) _ _ BK11b.out rfl ?_); intro wa hba hoa; rw [rndL_eq] at hba; have BK11c := Hide.mk hba; have HOc := Hide.mk hoa; clear hba hoa))
              go_roundw
              case rel => exact ⟨n + 1, rnd ⟨ra, rb, rc, rd, re, rf, rg, rh⟩ kv wv, by omega, by go_num, by rw [HE.out, ← HRR.out], BK11c.out, HOc.out.blk (blk_of_heap HHv6.out BK10.out) (by omega), HOc.out.blk (blk_of_heap HHv6.out BK5.out) (by omega), HOc.out.blk (blk_of_heap HHv6.out BK2.out) (by omega), HOc.out.blk (blk_of_heap HHv6.out BK4.out) (by omega), HOc.out.below HBv6.out GEg11⟩
              case measure => simp [intOf]; omega
            · obtain rfl : n = 64 := by omega
              clear hn hlt
              simp only [show ((64 : Nat) : Int) = 64 from rfl]
              go_wp2_with fail
              have HBl : Hide ((blockF s bs).list = [w32 (s.a + ra), w32 (s.b + rb), w32 (s.c + rc), w32 (s.d + rd), w32 (s.e + re), w32 (s.f + rf), w32 (s.g + rg), w32 (s.h + rh)]) := ⟨by unfold blockF; rw [← HRR.out]; rfl⟩
              obtain ⟨rl, hrl⟩ : ∃ rl, rl = (⟨ra, rb, rc, rd, re, rf, rg, rh⟩ : S8).list := ⟨_, rfl⟩
              have HNw : Hide (∀ k, k < 8 → (blockF s bs).list.getD k 0 = w32 (s.list.getD k 0 + rl.getD k 0)) := ⟨fun k hk => by rw [HBl.out, hrl]; exact new8 s ⟨ra, rb, rc, rd, re, rf, rg, rh⟩ k hk⟩
              have HLr : Hide (rl.length = 8) := ⟨by rw [hrl]; rfl⟩
              have BK11' := Hide.mk BK11.out
              rw [← hrl] at BK11'
              clear HRR BK5 BK10 BK11
              obtain ⟨nl, hnl⟩ : ∃ nl, nl = (blockF s bs).list := ⟨_, rfl⟩
              rw [← hnl] at HNw HBl
              have HNL := Hide.mk hnl
              have HLn2 : Hide (nl.length = 8) := ⟨by rw [HBl.out]; rfl⟩
              clear hnl HBl hrl
              go_loopw [17] (fun t wr => ∃ k : Nat, k ≤ 8 ∧ t = .int .i64 k ∧ wr.heap[g11]? = some (.cells (ia .u32 (nl.take k ++ rl.drop k)) 23 (0, 0)) ∧ wr.heap[g2]? = some (.cells (ia .u32 s.list) 23 (0, 0)) ∧ wr.heap[g4]? = some (.cells (ia .u32 (List.replicate 8 0)) 23 (0, 0)) ∧ Below w.heap.size w wr) (fun t _ => 8 - (intOf t).toNat)
              case atStart => exact ⟨0, by omega, rfl, BK11'.out, BK2.out, BK4.out, HB.out⟩
              case round =>
                clear BK11' BK2 BK4 HB
                obtain ⟨k, hk, rfl, h3, h2, h6, hbel⟩ := hrel
                have BK11 := Hide.mk h3
                have BK2 := Hide.mk h2
                have BK4 := Hide.mk h6
                have HB := Hide.mk hbel
                clear h3 h2 h6 hbel
                by_cases hlt : k < 8
                · have hlt8 : (k : Int) < 8 := by omega
                  have hkd : decide ((k : Int) < 8) = true := by simp; omega
                  have cr := (blk_cell BK11.out k).trans (ia_get .u32 (nl.take k ++ rl.drop k) k (by rw [List.length_append, List.length_take, List.length_drop, HLn2.out, HLr.out]; omega))
                  rw [mix_get _ _ _ (HLn2.out.trans HLr.out.symm) (by rw [HLr.out]; exact hlt)] at cr
                  have cs := (blk_cell BK2.out k).trans (ia_get .u32 s.list k hlt)
                  have HE := Hide.mk (HNw.out k hlt)
                  generalize s.list.getD k 0 = sv at cs HE
                  generalize rl.getD k 0 = rv at cr HE
                  go_wp2_with fail
                  refine Plan.region_plan (fun w' => w'.cell? ⟨g11, k, none⟩ = some (.int .u32 rv) ∧ w'.cell? ⟨g2, k, none⟩ = some (.int .u32 sv)) [9] [(0, 0, some 182), (1, 0, some 183), (2, 0, some 184), (3, 0, some 185), (4, 0, some 186), (5, 0, some 187), (6, 0, some 188), (7, 0, some 189), (8, 0, some 190), (9, 2, none)] (by kernel_rfl) (by kernel_rfl) (by decide) ⟨cr, cs⟩ (fun wx ewx hS1 => ?_)
                  have HBwx := Hide.mk (below_of_drew ewx HB.out)
                  have HHwx := Hide.mk (show wx.heap = wr.heap by rw [ewx]; rfl)
                  clear ewx cr cs HB
                  (repeat (first | (refine Plan.plan_take (v := ?_) (a' := ?_) rfl ?_ ?_ ?_ ?_; rotate_left 2; (· rfl); (· (intro w' hs; go_simp; with_reducible rfl)); (· (simp only [Act.put, List.setIfInBounds_toArray, List.set_cons_zero, List.set_cons_succ]; rfl))) | (refine Plan.plan_skip (a' := ?_) rfl ?_ ?_ ?_; rotate_left 1; (· rfl); (· (simp only [Act.put, List.setIfInBounds_toArray, List.set_cons_zero, List.set_cons_succ]; rfl))) | (refine Plan.plan_pure (v := ?_) (a' := ?_) rfl ?_ ?_ ?_ ?_; rotate_left 2; (· rfl); (· (intro w'; go_simp; with_reducible rfl)); (· (simp only [Act.put, List.setIfInBounds_toArray, List.set_cons_zero, List.set_cons_succ]; rfl)))))
                  refine Plan.plan_last_cell rfl rfl rfl 22 (.tmp 190) (.tmp 189) rfl g11 k rfl (.int .u32 (w32 (rv + sv))) rfl rfl rfl (by kernel_rfl) _ _ (blk_of_heap HHwx.out BK11.out) (by rw [ia_size, List.length_append, List.length_take, List.length_drop, HLn2.out, HLr.out]; omega) ?_
                  intro w4 hb4 ho4
                  rw [ia_set, mix_set _ _ _ _ (HLn2.out.trans HLr.out.symm) (by rw [HLr.out]; exact hlt) (by rw [HE.out, Int.add_comm])] at hb4
                  have BK11c := Hide.mk hb4
                  have HO4 := Hide.mk ho4
                  clear hb4 ho4
                  refine Plan.plan_nil ?_
                  go_wp2_with fail
                  go_roundw
                  case rel => exact ⟨k + 1, by omega, by go_num, BK11c.out, HO4.out.blk (blk_of_heap HHwx.out BK2.out) (by omega), HO4.out.blk (blk_of_heap HHwx.out BK4.out) (by omega), HO4.out.below HBwx.out GEg11⟩
                  case measure => simp [intOf]; omega
                · obtain rfl : k = 8 := by omega
                  have BKe : Hide (wr.heap[g11]? = some (.cells (ia .u32 nl) 23 (0, 0))) := ⟨by have := BK11.out; rw [List.take_of_length_le (by rw [HLn2.out]; exact Nat.le_refl _), List.drop_of_length_le (by rw [HLr.out]; exact Nat.le_refl _), List.append_nil] at this; exact this⟩
                  go_wp2_with (first | ((with_reducible refine gate_dst (N := 191) rfl ?_); refine wpList_load_row rfl 23 (.tmp 11) rfl g11 rfl 23 _ (0, 0) _ BKe.out Try.underlying23 rfl ?hsz ?_; (case hsz => rw [ia_size, HLn2.out]; kernel_rfl)) | ((with_reducible refine gate_store (p := 4) (v := .tmp 191) rfl ?_); go_must (refine store_row rfl rfl 23 (.tmp 4) (.tmp 191) rfl g4 rfl (ia .u32 nl) rfl (by simpa [ia] using ia_one .u32 _) ?hsz _ _ BK4.out ?hs ?_); (case hsz => rw [ia_size, HLn2.out]; kernel_rfl); (case hs => rw [ia_size, ia_size, HLn2.out]; rfl); intro w4 hb4 ho4; have BK4' := Hide.mk hb4; have HO4 := Hide.mk ho4; clear hb4 ho4))
                  refine bodyPost_ret (results_cell_row rfl _ _ g4 23 _ (0, 0) _ rfl BK4'.out Try.underlying23 rfl (by rw [ia_size, HLn2.out]; kernel_rfl)) rfl ?_
                  exact ⟨by rw [HNL.out], HO4.out.below HB.out GEg4⟩
end Go.Proofs.Ythgklggcdnocdaa.Sh
