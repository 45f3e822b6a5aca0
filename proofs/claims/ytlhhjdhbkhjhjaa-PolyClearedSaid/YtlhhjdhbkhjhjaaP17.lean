/- PolyCleared, the walk. -/
import Derived.Test.YtlhhjdhbkhjhjaaP16
namespace Go.Proofs.Ytlhhjdhbkhjhjaa.Po
open Go.RowKit Go.Proofs.YtlhhjdhbkhjhjaaW.PrintWords Go.Proofs.YtlhhjdhbkhjhjaaW.PrintLast Go.Proofs.YtlhhjdhbkhjhjaaW.PrintMore Mem Rg
attribute [local go_sem] Oper.semAt_some
set_option linter.unusedVariables false
set_option linter.unusedSimpArgs false
/-- Keys that differ in bits that are cleared at most. -/
structure Cle (a b : List Int) : Prop where
  len : a.length = b.length
  lo : ∀ j, j < 16 → clampB j (a.getD j 0) = clampB j (b.getD j 0)
  hi : ∀ j, 16 ≤ j → a.getD j 0 = b.getD j 0
theorem Cle.refl (a : List Int) : Cle a a := ⟨rfl, fun _ _ => rfl, fun _ _ => rfl⟩
theorem Cle.set {a b : List Int} (h : Cle a b) {p : Nat} (hp : p < 16) {x : Int} (hx : clampB p x = clampB p (a.getD p 0)) : Cle (a.set p x) b where
  len := by rw [List.length_set]; exact h.len
  lo j hj := by
    by_cases e : p = j
    · subst e
      by_cases hl : p < a.length
      · rw [set_getD_eq _ _ hl, hx]; exact h.lo p hj
      · rw [List.set_eq_of_length_le (by omega)]; exact h.lo p hj
    · rw [set_getD_ne _ _ e]; exact h.lo j hj
  hi j hj := by rw [set_getD_ne _ _ (by omega)]; exact h.hi j hj
theorem Cle.tag {a b : List Int} (h : Cle a b) (hb : b.length = 32) (x : List Int) : tagF a x = tagF b x := by
  have ha : a.length = 32 := h.len.trans hb
  have e1 : cl (a.take 16) 16 = cl (b.take 16) 16 := list_ext_getD (by rw [cl_len, cl_len, List.length_take, List.length_take]; omega) fun i hi => by
    rw [cl_len, List.length_take] at hi
    have hi16 : i < 16 := by omega
    rw [cl_before _ i (by rw [List.length_take]; omega) 16 hi16, cl_before _ i (by rw [List.length_take]; omega) 16 hi16]
    have := h.lo i hi16
    rw [List.getD_eq_getElem?_getD, List.getD_eq_getElem?_getD] at this ⊢
    rw [List.getElem?_take_of_lt hi16, List.getElem?_take_of_lt hi16]
    exact this
  have e2 : a.drop 16 = b.drop 16 := list_ext_getD (by rw [List.length_drop, List.length_drop, h.len]) fun i hi => by
    have := h.hi (16 + i) (by omega)
    rw [List.getD_eq_getElem?_getD, List.getD_eq_getElem?_getD, List.getElem?_drop, List.getElem?_drop]
    rw [List.getD_eq_getElem?_getD, List.getD_eq_getElem?_getD] at this
    exact this
  unfold tagF rF
  rw [e1, e2]
theorem accF_zero (l : List (List Int)) : accF 0 l = 0 := by
  rcases List.eq_nil_or_concat l with rfl | ⟨l', x, rfl⟩
  · rfl
  · rw [List.concat_eq_append, accF_snoc, Int.mul_zero]; rfl
/-- The first half set to nought, so far. -/
def nz (key : List Int) (i : Nat) : List Int := List.replicate i 0 ++ key.drop i
theorem nz_len {key : List Int} (i : Nat) (h : i ≤ key.length) : (nz key i).length = key.length := by
  unfold nz
  rw [List.length_append, List.length_replicate, List.length_drop]; omega
theorem nz_set {key : List Int} (i : Nat) (h : i < key.length) : (nz key i).set i 0 = nz key (i + 1) := by
  unfold nz
  rw [List.set_append_right _ _ (by rw [List.length_replicate]; omega), List.length_replicate, Nat.sub_self, List.drop_eq_getElem_cons h, List.set_cons_zero, List.replicate_succ', List.append_assoc]
  rfl
theorem nz_bytes {key : List Int} (hb : Bytes key) (i : Nat) : Bytes (nz key i) := fun x hx => by
  rcases List.mem_append.1 hx with h | h
  · rw [(List.mem_replicate.1 h).2]; decide
  · exact bytes_drop hb i x h
theorem nz_tag {key : List Int} (hk : key.length = 32) (hb : Bytes key) (x : List Int) : tagF (nz key 16) x = key.drop 16 := by
  have e1 : (nz key 16).take 16 = List.replicate 16 0 := by unfold nz; simp [List.take_append]
  have e2 : (nz key 16).drop 16 = key.drop 16 := by unfold nz; simp [List.drop_append]
  have hl : (key.drop 16).length = 16 := by rw [List.length_drop]; omega
  unfold tagF rF
  rw [e1, e2, show valB (cl (List.replicate 16 0) 16) = 0 by decide +kernel, accF_zero, Int.zero_add]
  have := digits_valB (key.drop 16) (bytes_drop hb 16)
  rwa [hl] at this
theorem xor_hi : ∀ (x : Fin 256) (k : Fin 16), bits .xor .u8 (x.val : Int) (16 * (k.val : Int)) % 16 = (x.val : Int) % 16 ∧ 0 ≤ bits .xor .u8 (x.val : Int) (16 * (k.val : Int)) ∧ bits .xor .u8 (x.val : Int) (16 * (k.val : Int)) ≤ 255 := by decide +kernel
theorem xor_lo : ∀ (x : Fin 256) (k : Fin 4), bits .xor .u8 (x.val : Int) (k.val : Int) / 4 = (x.val : Int) / 4 ∧ 0 ≤ bits .xor .u8 (x.val : Int) (k.val : Int) ∧ bits .xor .u8 (x.val : Int) (k.val : Int) ≤ 255 := by decide +kernel
theorem and240 : ∀ b : Fin 256, bits .and .u8 (b.val : Int) 240 = 16 * ((b.val : Int) / 16) ∧ bits .and .u8 (b.val : Int) 3 = (b.val : Int) % 4 := by decide +kernel
theorem flip_hi (x b : Int) (i : Nat) (hi : i % 4 = 3) (x0 : 0 ≤ x) (x1 : x ≤ 255) (b0 : 0 ≤ b) (b1 : b ≤ 255) : clampB i (bits .xor .u8 x (bits .and .u8 b 240)) = clampB i x ∧ 0 ≤ bits .xor .u8 x (bits .and .u8 b 240) ∧ bits .xor .u8 x (bits .and .u8 b 240) ≤ 255 := by
  have h1 := (and240 ⟨b.toNat, by omega⟩).1
  simp only at h1
  rw [show ((b.toNat : Nat) : Int) = b by omega] at h1
  have h2 := xor_hi ⟨x.toNat, by omega⟩ ⟨(b / 16).toNat, by omega⟩
  simp only at h2
  rw [show ((x.toNat : Nat) : Int) = x by omega, show (((b / 16).toNat : Nat) : Int) = b / 16 by omega] at h2
  rw [h1]
  unfold clampB
  rw [if_pos hi, if_pos hi]
  exact h2
theorem flip_lo (x b : Int) (i : Nat) (hi : i % 4 = 0 ∧ 0 < i) (x0 : 0 ≤ x) (x1 : x ≤ 255) (b0 : 0 ≤ b) (b1 : b ≤ 255) : clampB i (bits .xor .u8 x (b % 4)) = clampB i x ∧ 0 ≤ bits .xor .u8 x (b % 4) ∧ bits .xor .u8 x (b % 4) ≤ 255 := by
  have h2 := xor_lo ⟨x.toNat, by omega⟩ ⟨(b % 4).toNat, by omega⟩
  simp only at h2
  rw [show ((x.toNat : Nat) : Int) = x by omega, show (((b % 4).toNat : Nat) : Int) = b % 4 by omega] at h2
  obtain ⟨g1, g2, g3⟩ := h2
  unfold clampB
  rw [if_neg (by omega), if_pos hi, if_neg (by omega), if_pos hi]
  refine ⟨?_, g2, g3⟩
  omega
theorem and3 (b : Int) (b0 : 0 ≤ b) (b1 : b ≤ 255) : bits .and .u8 b 3 = b % 4 := by
  have h1 := (and240 ⟨b.toNat, by omega⟩).2
  simp only at h1
  rwa [show ((b.toNat : Nat) : Int) = b by omega] at h1
theorem bytes_set {l : List Int} (h : Bytes l) (p : Nat) {x : Int} (h0 : 0 ≤ x) (h1 : x ≤ 255) : Bytes (l.set p x) := fun y hy => by
  rcases List.mem_or_eq_of_mem_set hy with hy | rfl
  · exact h y hy
  · exact ⟨h0, h1⟩
set_option maxHeartbeats 1000000 in
set_option maxRecDepth 100000 in
theorem cleared_big (key bs : List Int) (A : Option Addr) (cap n : Nat) (w : World) (hn : 20000 < n) : Calls Try.prog 5 #[.agg (ia .u8 key), .slice A n cap, .agg (ia .u8 bs)] w fun e w' => e = .returned (.bool true) ∧ Below w.heap.size w w' := by
  have hd : decide ((20000 : Int) < (n : Int)) = true := by simp; omega
  have HB0 := Hide.mk (Below.refl w.heap.size w)
  go_enter Try.func5, Try.ntmps5
  go_wp2_with (first | ((with_reducible refine gate_dst (N := 3) rfl ?_); refine box_event ?hg (N := 3) ?hd (cs := ia .u8 key) (t := 22) ?hr ?_; (case hd => rfl); (case hg => rfl); (case hr => kernel_rfl); intro g3 hg w1 hbox hb; have BKg3 := Hide.mk hbox; have HB1' := Hide.mk (below_step HB0.out hb); have GEg3 : w.heap.size ≤ g3 := (by rw [hg]; exact HB0.out.size); clear HB0; have HB1 := HB1'; clear HB1'; clear hbox hb hg) | ((with_reducible refine gate_dst (N := 5) rfl ?_); refine box_event ?hg (N := 5) ?hd (cs := ia .u8 bs) (t := 34) ?hr ?_; (case hd => rfl); (case hg => rfl); (case hr => kernel_rfl); intro g5 hg w2 hbox hb; have Lg3g5 : g3 < g5 := (by rw [hg]; exact blk_lt BKg3.out); have BKg5 := Hide.mk hbox; have HB2' := Hide.mk (below_step HB1.out hb); have GEg5 : w.heap.size ≤ g5 := (by rw [hg]; exact HB1.out.size); clear HB1; have HB2 := HB2'; clear HB2'; have BKg3' := Hide.mk (blk_below BKg3.out hb); clear BKg3; have BKg3 := BKg3'; clear BKg3'; clear hbox hb hg))
  refine (alive_any _).mono ?_
  rintro e w3 ⟨rfl, hb⟩
  have HB3 := Hide.mk (below_step HB2.out hb)
  clear hb HB2 BKg3 BKg5
  go_wp2_with fail
  refine (alive_any _).mono ?_
  rintro e w4 ⟨rfl, hb⟩
  have HB4 := Hide.mk (below_step HB3.out hb)
  clear hb HB3
  go_wp2_with fail
  go_ret
  exact ⟨rfl, HB4.out⟩
set_option maxHeartbeats 1000000 in
set_option maxRecDepth 100000 in
theorem cleared_walk (key bs : List Int) (hk : key.length = 32) (hkb : Bytes key) (hs : bs.length = 7) (hsb : Bytes bs) (A : Option Addr) (cap : Nat) (xs : List Int) (w : World) (hby : Bytes xs) (hn : xs.length ≤ 20000) (hc : xs.length ≤ cap) (hr : ReadsInt w .u8 A xs.length xs) : Calls Try.prog 5 #[.agg (ia .u8 key), .slice A xs.length cap, .agg (ia .u8 bs)] w fun e w' => e = .returned (.bool true) ∧ Below w.heap.size w w' := by
  have hd : decide ((20000 : Int) < (xs.length : Int)) = false := by simp; omega
  have HK := Hide.mk (And.intro hk hkb)
  have HS := Hide.mk (And.intro hs hsb)
  have HBY := Hide.mk hby
  have HN := Hide.mk hn
  have HC := Hide.mk hc
  have HR := Hide.mk hr
  clear hk hkb hs hsb hby hn hc hr
  have HB0 := Hide.mk (Below.refl w.heap.size w)
  go_enter Try.func5, Try.ntmps5
  go_wp2_with (first | ((with_reducible refine gate_dst (N := 3) rfl ?_); refine box_event ?hg (N := 3) ?hd (cs := ia .u8 key) (t := 22) ?hr ?_; (case hd => rfl); (case hg => rfl); (case hr => kernel_rfl); intro g3 hg w1 hbox hb; have BKg3 := Hide.mk hbox; have HB1' := Hide.mk (below_step HB0.out hb); have GEg3 : w.heap.size ≤ g3 := (by rw [hg]; exact HB0.out.size); clear HB0; have HB1 := HB1'; clear HB1'; clear hbox hb hg) | ((with_reducible refine gate_dst (N := 5) rfl ?_); refine box_event ?hg (N := 5) ?hd (cs := ia .u8 bs) (t := 34) ?hr ?_; (case hd => rfl); (case hg => rfl); (case hr => kernel_rfl); intro g5 hg w2 hbox hb; have Lg3g5 : g3 < g5 := (by rw [hg]; exact blk_lt BKg3.out); have BKg5 := Hide.mk hbox; have HB2' := Hide.mk (below_step HB1.out hb); have GEg5 : w.heap.size ≤ g5 := (by rw [hg]; exact HB1.out.size); clear HB1; have HB2 := HB2'; clear HB2'; have BKg3' := Hide.mk (blk_below BKg3.out hb); clear BKg3; have BKg3 := BKg3'; clear BKg3'; clear hbox hb hg))
  refine (alive_any _).mono ?_
  rintro e w3 ⟨rfl, hb⟩
  have HB3 := Hide.mk (below_step HB2.out hb)
  have K3 := Hide.mk (blk_below BKg3.out hb)
  have K5 := Hide.mk (blk_below BKg5.out hb)
  clear hb HB2 BKg3 BKg5
  go_wp2_with (first | ((with_reducible refine gate_dst (N := 22) rfl ?_); refine wpList_load_row rfl 22 (.tmp 3) rfl g3 rfl 22 _ (0, 0) _ K3.out Try.underlying22 rfl ?hsz ?_; (case hsz => rw [ia_size, HK.out.1]; kernel_rfl)) | ((with_reducible refine gate_dst (N := 7) rfl ?_); refine box_event ?hg (N := 7) ?hd (cs := ia .u8 (List.replicate 32 0)) (t := 22) ?hr ?_; (case hd => rfl); (case hg => rfl); (case hr => kernel_rfl); intro g7 hg w4 hbox hb; have Lg3g7 : g3 < g7 := (by rw [hg]; exact blk_lt K3.out); have Lg5g7 : g5 < g7 := (by rw [hg]; exact blk_lt K5.out); have BKg7 := Hide.mk hbox; have HB4' := Hide.mk (below_step HB3.out hb); have GEg7 : w.heap.size ≤ g7 := (by rw [hg]; exact HB3.out.size); clear HB3; have HB4 := HB4'; clear HB4'; have K3' := Hide.mk (blk_below K3.out hb); clear K3; have K3 := K3'; clear K3'; have K5' := Hide.mk (blk_below K5.out hb); clear K5; have K5 := K5'; clear K5'; clear hbox hb hg) | ((with_reducible refine gate_store (p := 7) (v := .tmp 22) rfl ?_); go_must (refine store_row rfl rfl 22 (.tmp 7) (.tmp 22) rfl g7 rfl (ia .u8 key) rfl (ia_one _ _) (by rw [ia_size, HK.out.1]; kernel_rfl) _ _ BKg7.out (by rw [ia_size, ia_size, HK.out.1]; rfl) ?_); intro w5 hb ho; have BKg7' := Hide.mk hb; have HB4' := Hide.mk (ho.below HB4.out GEg7); clear BKg7 HB4; have BKg7 := BKg7'; have HB4 := HB4'; clear BKg7' HB4'; have K3' := Hide.mk (ho.blk K3.out (by omega)); clear K3; have K3 := K3'; clear K3'; have K5' := Hide.mk (ho.blk K5.out (by omega)); clear K5; have K5 := K5'; clear K5'; clear hb ho) | ((with_reducible refine gate_dst (N := 23) rfl ?_); refine wpList_load_row rfl 22 (.tmp 3) rfl g3 rfl 22 _ (0, 0) _ K3.out Try.underlying22 rfl ?hsz ?_; (case hsz => rw [ia_size, HK.out.1]; kernel_rfl)) | ((with_reducible refine gate_dst (N := 8) rfl ?_); refine box_event ?hg (N := 8) ?hd (cs := ia .u8 (List.replicate 32 0)) (t := 22) ?hr ?_; (case hd => rfl); (case hg => rfl); (case hr => kernel_rfl); intro g8 hg w6 hbox hb; have Lg3g8 : g3 < g8 := (by rw [hg]; exact blk_lt K3.out); have Lg5g8 : g5 < g8 := (by rw [hg]; exact blk_lt K5.out); have Lg7g8 : g7 < g8 := (by rw [hg]; exact blk_lt BKg7.out); have BKg8 := Hide.mk hbox; have HB6' := Hide.mk (below_step HB4.out hb); have GEg8 : w.heap.size ≤ g8 := (by rw [hg]; exact HB4.out.size); clear HB4; have HB6 := HB6'; clear HB6'; have K3' := Hide.mk (blk_below K3.out hb); clear K3; have K3 := K3'; clear K3'; have K5' := Hide.mk (blk_below K5.out hb); clear K5; have K5 := K5'; clear K5'; have BKg7' := Hide.mk (blk_below BKg7.out hb); clear BKg7; have BKg7 := BKg7'; clear BKg7'; clear hbox hb hg) | ((with_reducible refine gate_store (p := 8) (v := .tmp 23) rfl ?_); go_must (refine store_row rfl rfl 22 (.tmp 8) (.tmp 23) rfl g8 rfl (ia .u8 key) rfl (ia_one _ _) (by rw [ia_size, HK.out.1]; kernel_rfl) _ _ BKg8.out (by rw [ia_size, ia_size, HK.out.1]; rfl) ?_); intro w7 hb ho; have BKg8' := Hide.mk hb; have HB6' := Hide.mk (ho.below HB6.out GEg8); clear BKg8 HB6; have BKg8 := BKg8'; have HB6 := HB6'; clear BKg8' HB6'; have K3' := Hide.mk (ho.blk K3.out (by omega)); clear K3; have K3 := K3'; clear K3'; have K5' := Hide.mk (ho.blk K5.out (by omega)); clear K5; have K5 := K5'; clear K5'; have BKg7' := Hide.mk (ho.blk BKg7.out (by omega)); clear BKg7; have BKg7 := BKg7'; clear BKg7'; clear hb ho))
  go_loopg [9] 4 (fun gp v wy => ∃ (i : Nat) (m : List Int), i + gp = 4 ∧ v = .int .i64 i ∧ Cle m key ∧ Bytes m ∧ wy.heap[g7]? = some (.cells (ia .u8 m) 22 (0, 0)) ∧ wy.heap[g8]? = some (.cells (ia .u8 key) 22 (0, 0)) ∧ wy.heap[g3]? = some (.cells (ia .u8 key) 22 (0, 0)) ∧ wy.heap[g5]? = some (.cells (ia .u8 bs) 34 (0, 0)) ∧ Below w.heap.size w wy)
  case atStart => exact ⟨0, key, rfl, rfl, Cle.refl _, HK.out.2, BKg7.out, BKg8.out, K3.out, K5.out, HB6.out⟩
  case round =>
    clear K3 K5 BKg7 BKg8 HB6
    obtain ⟨i, m, hi, rfl, hm, hmb, h7, h8, h3, h5, hb⟩ := hrel
    have HM := Hide.mk hm
    have HMB := Hide.mk hmb
    have K7 := Hide.mk h7
    have K8 := Hide.mk h8
    have K3 := Hide.mk h3
    have K5 := Hide.mk h5
    have HB := Hide.mk hb
    clear hm hmb h7 h8 h3 h5 hb
    have HML : Hide (m.length = 32) := ⟨HM.out.len.trans HK.out.1⟩
    by_cases hlt : i < 4
    · have hd : decide ((i : Int) < 4) = true := by simp; omega
      obtain ⟨q, hq⟩ : ∃ q, 4 * i + 3 = q := ⟨_, rfl⟩
      obtain ⟨p, hp⟩ : ∃ p, 4 * i = p := ⟨_, rfl⟩
      have hq32 : q < 16 := by omega
      have cx := cell_row K7.out q (by rw [HML.out]; omega) rfl
      have cy := cell_row K5.out i (by rw [HS.out.1]; omega) rfl
      have xb := bytes_get HMB.out q
      have yb := bytes_get HS.out.2 i
      have HCS : Hide (∀ v, clampB q v = clampB q (m.getD q 0) → Cle (m.set q v) key) := ⟨fun v hv => HM.out.set hq32 hv⟩
      generalize m.getD q 0 = x at cx xb HCS
      generalize bs.getD i 0 = y at cy yb
      have HFL := Hide.mk (flip_hi x y q (by omega) xb.1 xb.2 yb.1 yb.2)
      obtain ⟨x0, x1⟩ := xb
      obtain ⟨y0, y1⟩ := yb
      have f1 : IntKind.i64.wrap ((i : Int) + 1) = (i : Int) + 1 := IntWalk.i64_in _ (by omega)
      have f2 : IntKind.i64.wrap (4 * (i : Int)) = (p : Int) := by rw [IntWalk.i64_in _ (by omega)]; omega
      have f3 : IntKind.i64.wrap ((p : Int) + 3) = (q : Int) := by rw [IntWalk.i64_in _ (by omega)]; omega
      have hi0 : (0 : Int) ≤ (i : Int) := Int.natCast_nonneg _
      have hi1 : (i : Int) < 7 := by omega
      have hi2 : (0 : Int) ≤ (q : Int) := Int.natCast_nonneg _
      have hi3 : (q : Int) < 32 := by omega
      clear hq hp
      go_wp2_with fail
      refine Plan.region_plan (fun w' => w'.cell? ⟨g7, q, none⟩ = some (.int .u8 x) ∧ w'.cell? ⟨g5, i, none⟩ = some (.int .u8 y)) [14] [(0, 0, some 28), (1, 0, some 29), (2, 0, some 30), (3, 0, some 31), (4, 0, some 32), (5, 0, some 33), (6, 0, some 34), (7, 0, some 35), (8, 0, some 36), (9, 0, some 37), (10, 0, some 38), (11, 0, some 39), (12, 0, some 40), (13, 0, some 41), (14, 2, none)] (by kernel_rfl) (by kernel_rfl) (by decide) ⟨cx, cy⟩ (fun wz ewz hS => ?_)
      have K7z := Hide.mk (blk_of_drew ewz K7.out)
      have K8z := Hide.mk (blk_of_drew ewz K8.out)
      have K3z := Hide.mk (blk_of_drew ewz K3.out)
      have K5z := Hide.mk (blk_of_drew ewz K5.out)
      have HBz := Hide.mk (below_of_drew ewz HB.out)
      clear ewz HB K7 K8 K3 K5 cx cy
      have K7 := K7z
      have K8 := K8z
      have K3 := K3z
      have K5 := K5z
      have HB := HBz
      clear HBz K7z K8z K3z K5z
      (repeat (first | (refine Plan.plan_take (v := ?_) (a' := ?_) rfl ?_ ?_ ?_ ?_; rotate_left 2; (· rfl); (· (intro w' hs; go_simp; with_reducible rfl)); (· (simp only [Act.put, List.setIfInBounds_toArray, List.set_cons_zero, List.set_cons_succ]; rfl))) | (refine Plan.plan_skip (a' := ?_) rfl ?_ ?_ ?_; rotate_left 1; (· rfl); (· (simp only [Act.put, List.setIfInBounds_toArray, List.set_cons_zero, List.set_cons_succ]; rfl))) | (refine Plan.plan_pure (v := ?_) (a' := ?_) rfl ?_ ?_ ?_ ?_; rotate_left 2; (· rfl); (· (intro w'; go_simp; with_reducible rfl)); (· (simp only [Act.put, List.setIfInBounds_toArray, List.set_cons_zero, List.set_cons_succ]; rfl)))))
      refine Plan.plan_last_cell rfl rfl rfl 5 (.tmp 41) (.tmp 40) rfl g7 q rfl (.int .u8 (bits .xor .u8 x (bits .and .u8 y 240))) rfl rfl rfl (by kernel_rfl) _ _ K7.out (by rw [ia_size, HML.out]; omega) ?_
      intro w5 hb5 ho5
      rw [ia_set] at hb5
      have K7' := Hide.mk hb5
      have K8' := Hide.mk (ho5.blk K8.out (by omega))
      have K3' := Hide.mk (ho5.blk K3.out (by omega))
      have K5' := Hide.mk (ho5.blk K5.out (by omega))
      have HB' := Hide.mk (ho5.below HB.out GEg7)
      clear hb5 ho5 hS K7 K8 K3 K5 HB
      refine Plan.plan_nil ?_
      go_wp2_with fail
      go_roundg (gk - 1)
      case measure => omega
      case rel => exact ⟨i + 1, _, by omega, by go_num, HCS.out _ HFL.out.1, bytes_set HMB.out _ HFL.out.2.1 HFL.out.2.2, K7'.out, K8'.out, K3'.out, K5'.out, HB'.out⟩
    · obtain rfl : i = 4 := by omega
      rw [show ((4 : Nat) : Int) = 4 from rfl]
      clear hi hlt
      go_wp2_with fail
      go_loopg [10] 3 (fun gp v wy => ∃ (i : Nat) (m : List Int), i + gp = 3 ∧ v = .int .i64 ((i + 1 : Nat) : Int) ∧ Cle m key ∧ Bytes m ∧ wy.heap[g7]? = some (.cells (ia .u8 m) 22 (0, 0)) ∧ wy.heap[g8]? = some (.cells (ia .u8 key) 22 (0, 0)) ∧ wy.heap[g3]? = some (.cells (ia .u8 key) 22 (0, 0)) ∧ wy.heap[g5]? = some (.cells (ia .u8 bs) 34 (0, 0)) ∧ Below w.heap.size w wy)
      case atStart => exact ⟨0, m, rfl, rfl, HM.out, HMB.out, K7.out, K8.out, K3.out, K5.out, HB.out⟩
      case round =>
        clear K7 K8 K3 K5 HB HM HMB HML
        obtain ⟨j, m, hj, rfl, hm, hmb, h7, h8, h3, h5, hb⟩ := hrel
        have HM := Hide.mk hm
        have HMB := Hide.mk hmb
        have K7 := Hide.mk h7
        have K8 := Hide.mk h8
        have K3 := Hide.mk h3
        have K5 := Hide.mk h5
        have HB := Hide.mk hb
        clear hm hmb h7 h8 h3 h5 hb
        have HML : Hide (m.length = 32) := ⟨HM.out.len.trans HK.out.1⟩
        obtain ⟨i, hij⟩ : ∃ i, j + 1 = i := ⟨_, rfl⟩
        rw [hij]
        have HIJ := Hide.mk hij
        by_cases hlt : i < 4
        · have hd : decide ((i : Int) < 4) = true := by simp; omega
          obtain ⟨p, hp⟩ : ∃ p, 4 * i = p := ⟨_, rfl⟩
          obtain ⟨r, hr⟩ : ∃ r, 3 + i = r := ⟨_, rfl⟩
          have hp32 : p < 16 := by omega
          have cx := cell_row K7.out p (by rw [HML.out]; omega) rfl
          have cy := cell_row K5.out r (by rw [HS.out.1]; omega) rfl
          have xb := bytes_get HMB.out p
          have yb := bytes_get HS.out.2 r
          have HCS : Hide (∀ v, clampB p v = clampB p (m.getD p 0) → Cle (m.set p v) key) := ⟨fun v hv => HM.out.set hp32 hv⟩
          generalize m.getD p 0 = x at cx xb HCS
          generalize bs.getD r 0 = y at cy yb
          have hfl := flip_lo x y p (by omega) xb.1 xb.2 yb.1 yb.2
          rw [← and3 y yb.1 yb.2] at hfl
          have HFL := Hide.mk hfl
          clear hfl
          obtain ⟨x0, x1⟩ := xb
          obtain ⟨y0, y1⟩ := yb
          have f1 : IntKind.i64.wrap ((i : Int) + 1) = (i : Int) + 1 := IntWalk.i64_in _ (by omega)
          have f2 : IntKind.i64.wrap (4 * (i : Int)) = (p : Int) := by rw [IntWalk.i64_in _ (by omega)]; omega
          have f3 : IntKind.i64.wrap (3 + (i : Int)) = (r : Int) := by rw [IntWalk.i64_in _ (by omega)]; omega
          have hi0 : (0 : Int) ≤ (i : Int) := Int.natCast_nonneg _
          have hi1 : (r : Int) < 7 := by omega
          have hi4 : (0 : Int) ≤ (r : Int) := Int.natCast_nonneg _
          have hi2 : (0 : Int) ≤ (p : Int) := Int.natCast_nonneg _
          have hi3 : (p : Int) < 32 := by omega
          clear hp hr
          clear hij
          go_wp2_with fail
          refine Plan.region_plan (fun w' => w'.cell? ⟨g7, p, none⟩ = some (.int .u8 x) ∧ w'.cell? ⟨g5, r, none⟩ = some (.int .u8 y)) [13] [(0, 0, some 46), (1, 0, some 47), (2, 0, some 48), (3, 0, some 49), (4, 0, some 50), (5, 0, some 51), (6, 0, some 52), (7, 0, some 53), (8, 0, some 54), (9, 0, some 55), (10, 0, some 56), (11, 0, some 57), (12, 0, some 58), (13, 2, none)] (by kernel_rfl) (by kernel_rfl) (by decide) ⟨cx, cy⟩ (fun wz ewz hS => ?_)
          have K7z := Hide.mk (blk_of_drew ewz K7.out)
          have K8z := Hide.mk (blk_of_drew ewz K8.out)
          have K3z := Hide.mk (blk_of_drew ewz K3.out)
          have K5z := Hide.mk (blk_of_drew ewz K5.out)
          have HBz := Hide.mk (below_of_drew ewz HB.out)
          clear ewz HB K7 K8 K3 K5 cx cy
          have K7 := K7z
          have K8 := K8z
          have K3 := K3z
          have K5 := K5z
          have HB := HBz
          clear HBz K7z K8z K3z K5z
          (repeat (first | (refine Plan.plan_take (v := ?_) (a' := ?_) rfl ?_ ?_ ?_ ?_; rotate_left 2; (· rfl); (· (intro w' hs; go_simp; with_reducible rfl)); (· (simp only [Act.put, List.setIfInBounds_toArray, List.set_cons_zero, List.set_cons_succ]; rfl))) | (refine Plan.plan_skip (a' := ?_) rfl ?_ ?_ ?_; rotate_left 1; (· rfl); (· (simp only [Act.put, List.setIfInBounds_toArray, List.set_cons_zero, List.set_cons_succ]; rfl))) | (refine Plan.plan_pure (v := ?_) (a' := ?_) rfl ?_ ?_ ?_ ?_; rotate_left 2; (· rfl); (· (intro w'; go_simp; with_reducible rfl)); (· (simp only [Act.put, List.setIfInBounds_toArray, List.set_cons_zero, List.set_cons_succ]; rfl)))))
          refine Plan.plan_last_cell rfl rfl rfl 5 (.tmp 58) (.tmp 57) rfl g7 p rfl (.int .u8 (bits .xor .u8 x (bits .and .u8 y 3))) rfl rfl rfl (by kernel_rfl) _ _ K7.out (by rw [ia_size, HML.out]; omega) ?_
          intro w5 hb5 ho5
          rw [ia_set] at hb5
          have K7' := Hide.mk hb5
          have K8' := Hide.mk (ho5.blk K8.out (by omega))
          have K3' := Hide.mk (ho5.blk K3.out (by omega))
          have K5' := Hide.mk (ho5.blk K5.out (by omega))
          have HB' := Hide.mk (ho5.below HB.out GEg7)
          clear hb5 ho5 hS K7 K8 K3 K5 HB
          refine Plan.plan_nil ?_
          go_wp2_with fail
          go_roundg (gk - 1)
          case measure => have := HIJ.out; omega
          case rel => exact ⟨j + 1, _, (by have := HIJ.out; omega), (by have := HIJ.out; go_num), HCS.out _ HFL.out.1, bytes_set HMB.out _ HFL.out.2.1 HFL.out.2.2, K7'.out, K8'.out, K3'.out, K5'.out, HB'.out⟩
        · have hd : decide ((i : Int) < 4) = false := by simp; omega
          have HTG := Hide.mk (HM.out.tag HK.out.1 xs)
          clear hij
          go_wp2_with fail
          go_loopg [11] 16 (fun gp v wy => ∃ i : Nat, i + gp = 16 ∧ v = .int .i64 i ∧ wy.heap[g7]? = some (.cells (ia .u8 m) 22 (0, 0)) ∧ wy.heap[g8]? = some (.cells (ia .u8 (nz key i)) 22 (0, 0)) ∧ wy.heap[g3]? = some (.cells (ia .u8 key) 22 (0, 0)) ∧ wy.heap[g5]? = some (.cells (ia .u8 bs) 34 (0, 0)) ∧ Below w.heap.size w wy)
          case atStart => exact ⟨0, rfl, rfl, K7.out, K8.out, K3.out, K5.out, HB.out⟩
          case round =>
            clear K7 K8 K3 K5 HB
            obtain ⟨i, hi, rfl, h7, h8, h3, h5, hb⟩ := hrel
            have K7 := Hide.mk h7
            have K8 := Hide.mk h8
            have K3 := Hide.mk h3
            have K5 := Hide.mk h5
            have HB := Hide.mk hb
            clear h7 h8 h3 h5 hb
            by_cases hlt : i < 16
            · have hd : decide ((i : Int) < 16) = true := by simp; omega
              have HNS := Hide.mk (nz_set (key := key) i (by rw [HK.out.1]; omega))
              have HNL := Hide.mk (nz_len (key := key) i (by rw [HK.out.1]; omega))
              have f1 : IntKind.i64.wrap ((i : Int) + 1) = (i : Int) + 1 := IntWalk.i64_in _ (by omega)
              have hi0 : (0 : Int) ≤ (i : Int) := Int.natCast_nonneg _
              have hi1 : (i : Int) < 32 := by omega
              go_wp2_with (first | ((with_reducible refine gate_store (p := 64) (v := .const (.int .u8 0)) rfl ?_); refine store_cell rfl rfl 5 (.tmp 64) (.const (.int .u8 0)) rfl g8 (i) (by first | rfl | go_simp) (.int .u8 0) rfl rfl rfl (by kernel_rfl) _ _ K8.out ?hlt ?_; (case hlt => rw [ia_size, HNL.out, HK.out.1]; omega); intro w9 hb ho; rw [ia_set, HNS.out] at hb; have K8' := Hide.mk hb; have HB' := Hide.mk (ho.below HB.out GEg8); clear K8 HB; have K8 := K8'; have HB := HB'; clear K8' HB'; have K7' := Hide.mk (ho.blk K7.out (by omega)); clear K7; have K7 := K7'; clear K7'; have K3' := Hide.mk (ho.blk K3.out (by omega)); clear K3; have K3 := K3'; clear K3'; have K5' := Hide.mk (ho.blk K5.out (by omega)); clear K5; have K5 := K5'; clear K5'; clear hb ho))
              go_roundg (gk - 1)
              case measure => omega
              case rel => exact ⟨i + 1, by omega, by go_num, K7.out, K8.out, K3.out, K5.out, HB.out⟩
            · obtain rfl : i = 16 := by omega
              rw [show ((16 : Nat) : Int) = 16 from rfl]
              have HNL : Hide ((nz key 16).length = 32 ∧ Bytes (nz key 16)) := ⟨(nz_len 16 (by rw [HK.out.1]; decide)).trans HK.out.1, nz_bytes HK.out.2 16⟩
              have HNT := Hide.mk (nz_tag HK.out.1 HK.out.2 xs)
              obtain ⟨NZ, hNZ⟩ : ∃ NZ, nz key 16 = NZ := ⟨_, rfl⟩
              rw [hNZ] at K8 HNL HNT
              clear hi hlt hNZ
              go_wp2_with (first | ((with_reducible refine gate_dst (N := 12) rfl ?_); refine box_event ?hg (N := 12) ?hd (cs := ia .u8 (List.replicate 16 0)) (t := 25) ?hr ?_; (case hd => rfl); (case hg => rfl); (case hr => kernel_rfl); intro gC hg wA hbox hb; have Lg7gC : g7 < gC := (by rw [hg]; exact blk_lt K7.out); have Lg8gC : g8 < gC := (by rw [hg]; exact blk_lt K8.out); have Lg3gC : g3 < gC := (by rw [hg]; exact blk_lt K3.out); have Lg5gC : g5 < gC := (by rw [hg]; exact blk_lt K5.out); have BKgC := Hide.mk hbox; have HBA' := Hide.mk (below_step HB.out hb); have GEgC : w.heap.size ≤ gC := (by rw [hg]; exact HB.out.size); clear HB; have HBA := HBA'; clear HBA'; have K7' := Hide.mk (blk_below K7.out hb); clear K7; have K7 := K7'; clear K7'; have K8' := Hide.mk (blk_below K8.out hb); clear K8; have K8 := K8'; clear K8'; have K3' := Hide.mk (blk_below K3.out hb); clear K3; have K3 := K3'; clear K3'; have K5' := Hide.mk (blk_below K5.out hb); clear K5; have K5 := K5'; clear K5'; clear hbox hb hg))
              go_loopg [13] 16 (fun gp v wy => ∃ i : Nat, i + gp = 16 ∧ v = .int .i64 i ∧ wy.heap[g7]? = some (.cells (ia .u8 m) 22 (0, 0)) ∧ wy.heap[g8]? = some (.cells (ia .u8 NZ) 22 (0, 0)) ∧ wy.heap[g3]? = some (.cells (ia .u8 key) 22 (0, 0)) ∧ wy.heap[gC]? = some (.cells (ia .u8 ((key.drop 16).take i ++ List.replicate (16 - i) 0)) 25 (0, 0)) ∧ Below w.heap.size w wy)
              case atStart => exact ⟨0, rfl, rfl, K7.out, K8.out, K3.out, BKgC.out, HBA.out⟩
              case round =>
                clear K7 K8 K3 K5 HBA BKgC
                obtain ⟨i, hi, rfl, h7, h8, h3, hc, hb⟩ := hrel
                have K7 := Hide.mk h7
                have K8 := Hide.mk h8
                have K3 := Hide.mk h3
                have KC := Hide.mk hc
                have HB := Hide.mk hb
                clear h7 h8 h3 hc hb
                have HDL : Hide ((key.drop 16).length = 16) := ⟨by rw [List.length_drop, HK.out.1]⟩
                by_cases hlt : i < 16
                · have hd : decide ((i : Int) < 16) = true := by simp; omega
                  have hkd : key.getD (16 + i) 0 = (key.drop 16).getD i 0 := by
                    rw [List.getD_eq_getElem?_getD, List.getD_eq_getElem?_getD, List.getElem?_drop]
                  have cx := cell_row K3.out (16 + i) (by rw [HK.out.1]; omega) hkd
                  have HFS := Hide.mk (fill_set (key.drop 16) 16 i ((key.drop 16).getD i 0) hlt HDL.out rfl)
                  generalize (key.drop 16).getD i 0 = x at cx HFS
                  clear hkd
                  have f1 : IntKind.i64.wrap ((i : Int) + 1) = (i : Int) + 1 := IntWalk.i64_in _ (by omega)
                  have f2 : IntKind.i64.wrap (16 + (i : Int)) = ((16 + i : Nat) : Int) := by rw [IntWalk.i64_in _ (by omega)]; omega
                  have hi0 : (0 : Int) ≤ (i : Int) := Int.natCast_nonneg _
                  have hi1 : (i : Int) < 16 := by omega
                  have hi2 : (16 : Int) + (i : Int) < 32 := by omega
                  have hi3 : (0 : Int) ≤ 16 + (i : Int) := by omega
                  go_wp2_with (first | ((with_reducible refine gate_store (p := 74) (v := .tmp 73) rfl ?_); refine store_cell rfl rfl 5 (.tmp 74) (.tmp 73) rfl gC (i) (by first | rfl | go_simp) (.int .u8 x) rfl rfl rfl (by kernel_rfl) _ _ KC.out ?hlt ?_; (case hlt => rw [ia_size, List.length_append, List.length_take, HDL.out, List.length_replicate]; omega); intro w9 hb ho; rw [ia_set, HFS.out] at hb; clear cx; have KC' := Hide.mk hb; have HB' := Hide.mk (ho.below HB.out GEgC); clear KC HB; have KC := KC'; have HB := HB'; clear KC' HB'; have K7' := Hide.mk (ho.blk K7.out (by omega)); clear K7; have K7 := K7'; clear K7'; have K8' := Hide.mk (ho.blk K8.out (by omega)); clear K8; have K8 := K8'; clear K8'; have K3' := Hide.mk (ho.blk K3.out (by omega)); clear K3; have K3 := K3'; clear K3'; clear hb ho))
                  go_roundg (gk - 1)
                  case measure => omega
                  case rel => exact ⟨i + 1, by omega, by go_num, K7.out, K8.out, K3.out, KC.out, HB.out⟩
                · obtain rfl : i = 16 := by omega
                  rw [show ((16 : Nat) : Int) = 16 from rfl]
                  have HE : Hide ((key.drop 16).take 16 ++ List.replicate (16 - 16) 0 = key.drop 16) := ⟨by rw [List.take_of_length_le (by rw [HDL.out]; omega)]; simp⟩
                  rw [HE.out] at KC
                  go_wp2_with fail
                  refine Plan.region_plan (fun w' => w'.heap[g3]? = some (.cells (ia .u8 key) 22 (0, 0)) ∧ w'.heap[g7]? = some (.cells (ia .u8 m) 22 (0, 0)) ∧ w'.heap[g8]? = some (.cells (ia .u8 NZ) 22 (0, 0)) ∧ w'.heap[gC]? = some (.cells (ia .u8 (key.drop 16)) 25 (0, 0)) ∧ Below w.heap.size w w') [] [(0, 0, some 75), (1, 0, some 76), (3, 0, some 78), (4, 0, some 79), (2, 1, some 77), (5, 1, some 80), (6, 0, some 81), (7, 0, some 82), (8, 0, some 83), (9, 0, some 84), (11, 0, some 86), (10, 1, some 85), (12, 0, some 87), (13, 0, some 88), (14, 0, some 6)] (by kernel_rfl) (by kernel_rfl) (by decide) ⟨blk_drew K3.out, blk_drew K7.out, blk_drew K8.out, blk_drew KC.out, below_drew HB.out⟩ (fun wz ewz hS => ?_)
                  clear ewz
                  refine Plan.plan_load_row (a' := ?_) rfl rfl 22 (.tmp 3) rfl g3 rfl 22 (ia .u8 key) (0, 0) _ (fun _ h => h.1) Try.underlying22 rfl (by rw [ia_size, HK.out.1]; kernel_rfl) ?_ ?_
                  rotate_left 1
                  · simp only [Act.put, List.setIfInBounds_toArray, List.set_cons_zero, List.set_cons_succ]
                    rfl
                  (repeat (first | (refine Plan.plan_take (v := ?_) (a' := ?_) rfl ?_ ?_ ?_ ?_; rotate_left 2; (· rfl); (· (intro w' hs; go_simp; with_reducible rfl)); (· (simp only [Act.put, List.setIfInBounds_toArray, List.set_cons_zero, List.set_cons_succ]; rfl))) | (refine Plan.plan_skip (a' := ?_) rfl ?_ ?_ ?_; rotate_left 1; (· rfl); (· (simp only [Act.put, List.setIfInBounds_toArray, List.set_cons_zero, List.set_cons_succ]; rfl))) | (refine Plan.plan_pure (v := ?_) (a' := ?_) rfl ?_ ?_ ?_ ?_; rotate_left 2; (· rfl); (· (intro w'; go_simp; with_reducible rfl)); (· (simp only [Act.put, List.setIfInBounds_toArray, List.set_cons_zero, List.set_cons_succ]; rfl)))))
                  refine Plan.plan_load_row (a' := ?_) rfl rfl 22 (.tmp 7) rfl g7 rfl 22 (ia .u8 m) (0, 0) _ (fun _ h => h.2.1) Try.underlying22 rfl (by rw [ia_size, HML.out]; kernel_rfl) ?_ ?_
                  rotate_left 1
                  · simp only [Act.put, List.setIfInBounds_toArray, List.set_cons_zero, List.set_cons_succ]
                    rfl
                  (repeat (first | (refine Plan.plan_take (v := ?_) (a' := ?_) rfl ?_ ?_ ?_ ?_; rotate_left 2; (· rfl); (· (intro w' hs; go_simp; with_reducible rfl)); (· (simp only [Act.put, List.setIfInBounds_toArray, List.set_cons_zero, List.set_cons_succ]; rfl))) | (refine Plan.plan_skip (a' := ?_) rfl ?_ ?_ ?_; rotate_left 1; (· rfl); (· (simp only [Act.put, List.setIfInBounds_toArray, List.set_cons_zero, List.set_cons_succ]; rfl))) | (refine Plan.plan_pure (v := ?_) (a' := ?_) rfl ?_ ?_ ?_ ?_; rotate_left 2; (· rfl); (· (intro w'; go_simp; with_reducible rfl)); (· (simp only [Act.put, List.setIfInBounds_toArray, List.set_cons_zero, List.set_cons_succ]; rfl)))))
                  refine Plan.plan_call rfl Try.func13 (by kernel_rfl) rfl #[.agg (ia .u8 key), .slice A xs.length cap] rfl rfl rfl (by (try simp only [List.map_toArray, List.map_cons, List.map_nil]); rfl) ?_
                  refine (oft_any key HK.out.1 HK.out.2 A cap xs _ HBY.out (by have := HN.out; omega) HC.out (HR.out.below hS.2.2.2.2)).mono ?_
                  rintro e wc ⟨rfl, hb⟩
                  have hS2 : wc.heap[g3]? = some (.cells (ia .u8 key) 22 (0, 0)) ∧ wc.heap[g7]? = some (.cells (ia .u8 m) 22 (0, 0)) ∧ wc.heap[g8]? = some (.cells (ia .u8 NZ) 22 (0, 0)) ∧ wc.heap[gC]? = some (.cells (ia .u8 (key.drop 16)) 25 (0, 0)) ∧ Below w.heap.size w wc := ⟨blk_below hS.1 hb, blk_below hS.2.1 hb, blk_below hS.2.2.1 hb, blk_below hS.2.2.2.1 hb, below_step hS.2.2.2.2 hb⟩
                  clear hb hS
                  refine ⟨_, rfl, hS2, ?_⟩
                  intro a' ha
                  simp only [Act.put, List.setIfInBounds_toArray, List.set_cons_zero, List.set_cons_succ] at ha
                  subst ha
                  refine Plan.plan_call rfl Try.func13 (by kernel_rfl) rfl #[.agg (ia .u8 m), .slice A xs.length cap] rfl rfl rfl (by (try simp only [List.map_toArray, List.map_cons, List.map_nil]); rfl) ?_
                  refine (oft_any m HML.out HMB.out A cap xs _ HBY.out (by have := HN.out; omega) HC.out (HR.out.below hS2.2.2.2.2)).mono ?_
                  rintro e wd ⟨rfl, hb⟩
                  rw [HTG.out]
                  have hS3 : wd.heap[g3]? = some (.cells (ia .u8 key) 22 (0, 0)) ∧ wd.heap[g7]? = some (.cells (ia .u8 m) 22 (0, 0)) ∧ wd.heap[g8]? = some (.cells (ia .u8 NZ) 22 (0, 0)) ∧ wd.heap[gC]? = some (.cells (ia .u8 (key.drop 16)) 25 (0, 0)) ∧ Below w.heap.size w wd := ⟨blk_below hS2.1 hb, blk_below hS2.2.1 hb, blk_below hS2.2.2.1 hb, blk_below hS2.2.2.2.1 hb, below_step hS2.2.2.2.2 hb⟩
                  clear hb hS2
                  refine ⟨_, rfl, hS3, ?_⟩
                  intro a' ha
                  simp only [Act.put, List.setIfInBounds_toArray, List.set_cons_zero, List.set_cons_succ] at ha
                  subst ha
                  refine Plan.plan_take (v := .bool true) (a' := ?_) rfl rfl (fun w' hs => (eqArr25 rfl rfl rfl (tag_len _ _) (tag_len _ _)).trans (by rw [decide_eq_true rfl])) ?_ ?_
                  rotate_left 1
                  · simp only [Act.put, List.setIfInBounds_toArray, List.set_cons_zero, List.set_cons_succ]
                    rfl
                  (repeat (first | (refine Plan.plan_take (v := ?_) (a' := ?_) rfl ?_ ?_ ?_ ?_; rotate_left 2; (· rfl); (· (intro w' hs; go_simp; with_reducible rfl)); (· (simp only [Act.put, List.setIfInBounds_toArray, List.set_cons_zero, List.set_cons_succ]; rfl))) | (refine Plan.plan_skip (a' := ?_) rfl ?_ ?_ ?_; rotate_left 1; (· rfl); (· (simp only [Act.put, List.setIfInBounds_toArray, List.set_cons_zero, List.set_cons_succ]; rfl))) | (refine Plan.plan_pure (v := ?_) (a' := ?_) rfl ?_ ?_ ?_ ?_; rotate_left 2; (· rfl); (· (intro w'; go_simp; with_reducible rfl)); (· (simp only [Act.put, List.setIfInBounds_toArray, List.set_cons_zero, List.set_cons_succ]; rfl)))))
                  refine Plan.plan_load_row (a' := ?_) rfl rfl 22 (.tmp 8) rfl g8 rfl 22 (ia .u8 NZ) (0, 0) _ (fun _ h => h.2.2.1) Try.underlying22 rfl (by rw [ia_size, HNL.out.1]; kernel_rfl) ?_ ?_
                  rotate_left 1
                  · simp only [Act.put, List.setIfInBounds_toArray, List.set_cons_zero, List.set_cons_succ]
                    rfl
                  (repeat (first | (refine Plan.plan_take (v := ?_) (a' := ?_) rfl ?_ ?_ ?_ ?_; rotate_left 2; (· rfl); (· (intro w' hs; go_simp; with_reducible rfl)); (· (simp only [Act.put, List.setIfInBounds_toArray, List.set_cons_zero, List.set_cons_succ]; rfl))) | (refine Plan.plan_skip (a' := ?_) rfl ?_ ?_ ?_; rotate_left 1; (· rfl); (· (simp only [Act.put, List.setIfInBounds_toArray, List.set_cons_zero, List.set_cons_succ]; rfl))) | (refine Plan.plan_pure (v := ?_) (a' := ?_) rfl ?_ ?_ ?_ ?_; rotate_left 2; (· rfl); (· (intro w'; go_simp; with_reducible rfl)); (· (simp only [Act.put, List.setIfInBounds_toArray, List.set_cons_zero, List.set_cons_succ]; rfl)))))
                  refine Plan.plan_load_row (a' := ?_) rfl rfl 25 (.tmp 12) rfl gC rfl 25 (ia .u8 (key.drop 16)) (0, 0) _ (fun _ h => h.2.2.2.1) Try.underlying25 rfl (by rw [ia_size, HDL.out]; kernel_rfl) ?_ ?_
                  rotate_left 1
                  · simp only [Act.put, List.setIfInBounds_toArray, List.set_cons_zero, List.set_cons_succ]
                    rfl
                  refine Plan.plan_call rfl Try.func13 (by kernel_rfl) rfl #[.agg (ia .u8 NZ), .slice A xs.length cap] rfl rfl rfl (by (try simp only [List.map_toArray, List.map_cons, List.map_nil]); rfl) ?_
                  refine (oft_any NZ HNL.out.1 HNL.out.2 A cap xs _ HBY.out (by have := HN.out; omega) HC.out (HR.out.below hS3.2.2.2.2)).mono ?_
                  rintro e we ⟨rfl, hb⟩
                  rw [HNT.out]
                  have hS4 : we.heap[g3]? = some (.cells (ia .u8 key) 22 (0, 0)) ∧ we.heap[g7]? = some (.cells (ia .u8 m) 22 (0, 0)) ∧ we.heap[g8]? = some (.cells (ia .u8 NZ) 22 (0, 0)) ∧ we.heap[gC]? = some (.cells (ia .u8 (key.drop 16)) 25 (0, 0)) ∧ Below w.heap.size w we := ⟨blk_below hS3.1 hb, blk_below hS3.2.1 hb, blk_below hS3.2.2.1 hb, blk_below hS3.2.2.2.1 hb, below_step hS3.2.2.2.2 hb⟩
                  clear hb hS3
                  refine ⟨_, rfl, hS4, ?_⟩
                  intro a' ha
                  simp only [Act.put, List.setIfInBounds_toArray, List.set_cons_zero, List.set_cons_succ] at ha
                  subst ha
                  refine Plan.plan_take (v := .bool true) (a' := ?_) rfl rfl (fun w' hs => (eqArr25 rfl rfl rfl HDL.out HDL.out).trans (by rw [decide_eq_true rfl])) ?_ ?_
                  rotate_left 1
                  · simp only [Act.put, List.setIfInBounds_toArray, List.set_cons_zero, List.set_cons_succ]
                    rfl
                  (repeat (first | (refine Plan.plan_take (v := ?_) (a' := ?_) rfl ?_ ?_ ?_ ?_; rotate_left 2; (· rfl); (· (intro w' hs; go_simp; with_reducible rfl)); (· (simp only [Act.put, List.setIfInBounds_toArray, List.set_cons_zero, List.set_cons_succ]; rfl))) | (refine Plan.plan_skip (a' := ?_) rfl ?_ ?_ ?_; rotate_left 1; (· rfl); (· (simp only [Act.put, List.setIfInBounds_toArray, List.set_cons_zero, List.set_cons_succ]; rfl))) | (refine Plan.plan_pure (v := ?_) (a' := ?_) rfl ?_ ?_ ?_ ?_; rotate_left 2; (· rfl); (· (intro w'; go_simp; with_reducible rfl)); (· (simp only [Act.put, List.setIfInBounds_toArray, List.set_cons_zero, List.set_cons_succ]; rfl)))))
                  refine Plan.plan_nil ?_
                  have HF := Hide.mk hS4.2.2.2.2
                  clear hS4
                  go_wp2_with fail
                  go_ret
                  exact ⟨rfl, HF.out⟩
theorem cleared_all (key bs : List Int) (hk : key.length = 32) (hkb : Bytes key) (hs : bs.length = 7) (hsb : Bytes bs) (A : Option Addr) (cap : Nat) (xs : List Int) (w : World) (hby : Bytes xs) (hc : xs.length ≤ cap) (hr : ReadsInt w .u8 A xs.length xs) : Calls Try.prog 5 #[.agg (ia .u8 key), .slice A xs.length cap, .agg (ia .u8 bs)] w fun e w' => e = .returned (.bool true) ∧ Below w.heap.size w w' := by
  by_cases h : xs.length ≤ 20000
  · exact cleared_walk key bs hk hkb hs hsb A cap xs w hby h hc hr
  · exact cleared_big key bs A cap _ w (by omega)
end Go.Proofs.Ytlhhjdhbkhjhjaa.Po
