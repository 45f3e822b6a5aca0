/- Parts, each with one more. -/
import Derived.Test.YtlhhjdhbkhjhjaaP9
namespace Go.Proofs.Ytlhhjdhbkhjhjaa.Po
open Go.RowKit Go.Proofs.YtlhhjdhbkhjhjaaW.PrintWords Go.Proofs.YtlhhjdhbkhjhjaaW.PrintLast Go.Proofs.YtlhhjdhbkhjhjaaW.PrintMore Mem Rg
attribute [local go_sem] Oper.semAt_some
set_option linter.unusedVariables false
set_option linter.unusedSimpArgs false
theorem argC_putObj {x : List Int} {v : Value} {W : World} {l : Nat} {o : Obj} (h : ArgC x v W) (hl : ∃ r, W.heap[l]? = some (.loop r)) : ArgC x v (W.putObj l o) := by
  obtain ⟨ad, c, rfl, hb, hx1, hx, hr⟩ := h
  obtain ⟨r, hl⟩ := hl
  refine ⟨ad, c, rfl, hb, hx1, hx, hr.1, hr.2.1, fun hn => ?_⟩
  obtain ⟨ad', e, hc⟩ := hr.2.2 hn
  cases e
  refine ⟨ad, rfl, fun j hj => ?_⟩
  have h1 := hc j hj
  refine (World.cell?_of_block (a := ad.add j) (World.putObj_heap_other (fun e => ?_))).trans h1
  unfold World.cell? at h1
  rw [e, hl] at h1
  simp at h1
/-- What a round over the parts, each with one more, is handed. -/
def ArgP (x : List Int) (v : Value) (W : World) : Prop := ∃ ad c, v = .slice (some ad) (x.length + 1) c ∧ Bytes x ∧ x.length ≤ 16 ∧ ReadsInt W .u8 (some ad) (x.length + 1) (x ++ [1])
/-- What holds in a round of parts' closure, by what has been done. -/
structure B27 (gF l : Nat) (pre : List (List Int)) (x : List Int) (ad : Addr) (c : Nat) (J : List (List Int) → World → Prop) (kp : Nat → Prop) (W0 : World) (L : Nat → Bool) (u7 u8 u9 u10 u11 u12 u13 : Value) (W : World) : Prop where
  h0 : L 0 = true → u7 = .func (.yield l) #[] #[]
  h1 : L 1 = true → u8 = .slice (some ad) x.length c
  h2 : L 2 = true → L 4 = false → ∃ base, W0.heap.size ≤ base ∧ base ≤ W.heap.size ∧ W.ownsRow base 5 1 u9 x.length (x.map (Value.int .u8))
  h3 : L 3 = true → L 4 = false → ∃ b, u10 = .slice (some ⟨b, 0, none⟩) 1 1 ∧ W.heap[b]? = some (.cells #[.int .u8 1] 5 (0, 0))
  h4 : L 4 = true → L 5 = false → ∃ g d, u11 = .slice (some ⟨g, 0, none⟩) (x.length + 1) d ∧ ReadsInt W .u8 (some ⟨g, 0, none⟩) (x.length + 1) (x ++ [1])
  h5 : L 5 = false → J pre W ∧ W.heap[gF]? = some (.cells #[.func (.yield l) #[] #[]] 53 (0, 0)) ∧ ReadsInt W .u8 (some ad) x.length x ∧ Keep W0.heap.size (fun _ => False) W0 W
  h6 : L 5 = true → u12 = .bool true ∧ J (pre ++ [x]) W ∧ W.heap[gF]? = some (.cells #[.func (.yield l) #[] #[]] 53 (0, 0)) ∧ Keep W0.heap.size (fun k => k = l ∨ kp k) W0 W
  h7 : L 6 = true → u13 = .bool false
  h8 : L 5 = true → L 0 = true ∧ L 1 = true ∧ L 2 = true ∧ L 3 = true ∧ L 4 = true
  h9 : L 4 = true → L 2 = true ∧ L 3 = true
  h10 : L 2 = true → L 1 = true
def I27 (l bb gF : Nat) (A : Option Addr) (n cap g q : Nat) (pre : List (List Int)) (x : List Int) (ad : Addr) (c : Nat) (J : List (List Int) → World → Prop) (kp : Nat → Prop) (W0 : World) (L : Nat → Bool) (a : Act) (W' : World) : Prop :=
  ∃ u7 u8 u9 u10 u11 u12 u13, a = { tmps := #[.func (.yield l) #[] #[], .pointer (some ⟨bb, 0, none⟩), .pointer (some ⟨gF, 0, none⟩), .slice (some ad) x.length c, .slice A n cap, .func (.func 32) #[] #[.pointer (some ⟨g, 0, none⟩), .pointer (some ⟨q, 0, none⟩)], .slice (some ad) x.length c, u7, u8, u9, u10, u11, u12, u13], defers := [] } ∧ B27 gF l pre x ad c J kp W0 L u7 u8 u9 u10 u11 u12 u13 W'
theorem own_keep {w w1 : World} {base : Nat} {v : Value} {n : Nat} {xs : List Value} (ho : w.ownsRow base 5 1 v n xs) (hb : Below w.heap.size w w1) : w1.ownsRow base 5 1 v n xs :=
  own_move ho (fun q hq => hb.block q (by obtain ⟨cells, hh⟩ := own_typed ho q hq; exact blk_lt hh))
theorem not5 {gF l : Nat} {pre : List (List Int)} {x : List Int} {ad : Addr} {c : Nat} {J : List (List Int) → World → Prop} {kp : Nat → Prop} {W0 : World} {L : Nat → Bool} {u7 u8 u9 u10 u11 u12 u13 : Value} {W : World} (h : B27 gF l pre x ad c J kp W0 L u7 u8 u9 u10 u11 u12 u13 W) {i : Nat} (hi : L i = false) (h5 : i < 5) : L 5 = false := by
  cases h' : L 5 with
  | false => rfl
  | true =>
    have := h.h8 h'
    have hi' : i = 0 ∨ i = 1 ∨ i = 2 ∨ i = 3 ∨ i = 4 := by omega
    rcases hi' with rfl | rfl | rfl | rfl | rfl <;> simp_all
/-- The world has grown, nothing has changed. -/
theorem B27.grow {gF l : Nat} {pre : List (List Int)} {x : List Int} {ad : Addr} {c : Nat} {J : List (List Int) → World → Prop} {kp : Nat → Prop} {W0 : World} {L : Nat → Bool} {u7 u8 u9 u10 u11 u12 u13 : Value} {W W1 : World} (h : B27 gF l pre x ad c J kp W0 L u7 u8 u9 u10 u11 u12 u13 W)
    (hJ : ∀ pre W1 W2, J pre W1 → Keep W0.heap.size (fun _ => False) W1 W2 → J pre W2) (hs : W0.heap.size ≤ W.heap.size) (h5 : L 5 = false) (hb : Below W.heap.size W W1) : B27 gF l pre x ad c J kp W0 L u7 u8 u9 u10 u11 u12 u13 W1 where
  h0 := h.h0
  h1 := h.h1
  h2 := fun a b => by
    obtain ⟨base, g1, g2, g3⟩ := h.h2 a b
    exact ⟨base, g1, Nat.le_trans g2 hb.size, own_keep g3 hb⟩
  h3 := fun a b => by
    obtain ⟨q, g1, g2⟩ := h.h3 a b
    exact ⟨q, g1, blk_below g2 hb⟩
  h4 := fun a b => by
    obtain ⟨g, d, g1, g2⟩ := h.h4 a b
    exact ⟨g, d, g1, g2.below hb⟩
  h5 := fun a => by
    obtain ⟨g1, g2, g3, g4⟩ := h.h5 a
    exact ⟨hJ _ _ _ g1 (Keep.of_below hb hs), blk_below g2 hb, g3.below hb, g4.trans (Keep.of_below hb hs)⟩
  h6 := fun a => by rw [h5] at a; cases a
  h7 := h.h7
  h8 := h.h8
  h9 := h.h9
  h10 := h.h10
set_option maxHeartbeats 4000000 in
set_option maxRecDepth 100000 in
theorem parts_in (l bb : Nat) (A : Option Addr) (cap : Nat) (xs : List Int) (J : List (List Int) → World → Prop) (kp : Nat → Prop) (W : World)
    (hby : Bytes xs) (hlen : xs.length ≤ 4194304000) (hbb : W.heap[bb]? = some (.cells #[.slice A xs.length cap] 23 (0, 0))) (hcap : xs.length ≤ cap) (hr : ReadsInt W .u8 A xs.length xs)
    (hA : ∀ ad, A = some ad → 0 < xs.length → ¬ kp ad.block ∧ ad.block ≠ l) (hkp : ∀ k, kp k → k < W.heap.size) (hl : l < W.heap.size)
    (hJ : ∀ pre W1 W2, J pre W1 → Keep W.heap.size (fun _ => False) W1 W2 → J pre W2)
    (hY : ∀ pre x v W1, J pre W1 → ArgP x v W1 → Yld Try.prog l v W1 fun W' => J (pre ++ [x]) W' ∧ Keep W1.heap.size (fun k => k = l ∨ kp k) W1 W')
    (h0 : J [] W) :
    Calls Try.prog 27 #[.func (.yield l) #[] #[], .pointer (some ⟨bb, 0, none⟩)] W fun e W' => (∃ v, e = .returned v) ∧ ∃ ys, ys = chs xs ((xs.length + 15) / 16) ∧ J ys W' := by
  refine (callsIn_wide (n := 9)).1 (callsIn_of_wp_marks Try.func27 rfl trivial ?_ rfl)
  simp only [Try.ntmps27, List.size_toArray, List.length_cons, List.length_nil, Nat.reduceAdd, Nat.reduceSub, Array.replicate_succ, Array.replicate_zero, List.push_toArray, List.append_toArray, List.nil_append, List.cons_append]
  refine wpIn_wide.2 ?_
  have HBY := Hide.mk hby
  have HLEN := Hide.mk hlen
  have HA := Hide.mk hA
  have HKP := Hide.mk hkp
  have HLW := Hide.mk hl
  have HJ := Hide.mk hJ
  have HY := Hide.mk hY
  have HJ0 := Hide.mk h0
  have HR0 := Hide.mk hr
  have HBB0 := Hide.mk hbb
  have HCAP := Hide.mk hcap
  have HAW : Hide (∀ ad, A = some ad → 0 < xs.length → ad.block < W.heap.size) := ⟨fun ad e hp => by
    obtain ⟨ad', e', hcell⟩ := hr.2.2 hp
    rw [e] at e'; cases e'
    have := World.block_lt_of_cell? W _ (hcell 0 hp)
    rwa [add_block] at this⟩
  have HB0 := Hide.mk (Below.refl W.heap.size W)
  clear hby hlen hA hkp hl hJ hY h0 hr hbb hcap
  go_wp2_with (first | ((with_reducible refine gate_dst (N := 2) rfl ?_); refine box_event ?hg (N := 2) ?hd (cs := #[.func (.yield l) #[] #[]]) (t := 53) ?hr ?_; (case hd => rfl); (case hg => rfl); (case hr => kernel_rfl); intro gF hg w1 hbox hb; have BKgF := Hide.mk hbox; have HB1' := Hide.mk (below_step HB0.out hb); have GEgF : W.heap.size ≤ gF := (by rw [hg]; exact HB0.out.size); clear HB0; have HB1 := HB1'; clear HB1'; have cb : w1.cell? ⟨bb, 0, none⟩ = some (.slice A xs.length cap) := (blk_cell (blk_below HBB0.out HB1.out) 0).trans rfl; clear hbox hb hg))
  refine (chunk28 A xs.length cap _).mono ?_
  rintro e w3 ⟨g, q, rfl, hg, hq, hb, hgg, hgq⟩
  have HB3 := Hide.mk (below_step HB1.out hb)
  have BK2 := Hide.mk (blk_below BKgF.out hb)
  have HG := Hide.mk hg
  have HQ := Hide.mk hq
  have HGG : Hide (w1.heap.size ≤ g ∧ w1.heap.size ≤ q) := ⟨⟨hgg, hgq⟩⟩
  have HS1 : Hide (W.heap.size ≤ w1.heap.size) := ⟨HB1.out.size⟩
  have KFL0 : Hide (W.heap.size ≤ gF) := ⟨GEgF⟩
  clear hb hg hq hgg hgq HB1 BKgF cb
  go_wp2_with fail
  refine range_w (α := List Int) (q := 3) (gf := 32) (lb := #[.pointer (some ⟨g, 0, none⟩), .pointer (some ⟨q, 0, none⟩)]) (fun _ => False) (fun k => k = l ∨ kp k) (fun k e => e.elim) (fun k e => by have h1 := HLW.out; have h2 := HB3.out.size; rcases e with rfl | e; omega; (have := HKP.out k e; omega)) rfl (Go.Proofs.enters_of Try.func32 (by kernel_rfl) rfl) ArgC (fun x v W l o h k => argC_putObj h k)
    (fun pre W' => J pre W' ∧ W'.heap[gF]? = some (.cells #[.func (.yield l) #[] #[]] 53 (0, 0)) ∧ W.heap.size ≤ W'.heap.size)
    (fun ys => ys = chs xs ((xs.length + 15) / 16)) ?hI ⟨HJ.out _ _ _ HJ0.out (Keep.of_below HB3.out (Nat.le_refl _)), BK2.out, HB3.out.size⟩ ?hit ?assign ?body ?done
  case hI =>
    rintro pre W1 W2 ⟨h1, h2, h3⟩ hs hk
    exact ⟨HJ.out _ _ _ h1 (hk.weaken HB3.out.size (fun _ _ h => h)), (hk.block gF (blk_lt BK2.out) (fun h => h)).trans h2, Nat.le_trans h3 hk.size⟩
  case hit =>
    intro l2 J2 W2 hbw hl1 hl2 hJ2 hY2 h02
    exact chunk_in l2 g q A cap xs J2 (fun k => k = l ∨ kp k) W2 HBY.out (by have := HLEN.out; omega) (blk_below HG.out hbw) (blk_below HQ.out hbw) HCAP.out ((HR0.out.below HB3.out).below hbw)
      (fun ad e hp => by
        have h1 := HAW.out ad e hp
        have h2 := HA.out ad e hp
        have h3 := HB3.out.size
        exact ⟨fun h => by rcases h with h | h; exact h2.2 h; exact h2.1 h, by omega⟩)
      ⟨fun h => by
        have h1 := HGG.out.1
        have h2 := HS1.out
        rcases h with h | h
        · have := HLW.out; omega
        · have := HKP.out _ h; omega, by have := blk_lt HG.out; omega⟩
      ⟨fun h => by
        have h1 := HGG.out.2
        have h2 := HS1.out
        rcases h with h | h
        · have := HLW.out; omega
        · have := HKP.out _ h; omega, by have := blk_lt HQ.out; omega⟩ hJ2 hY2 h02
  case assign =>
    intro l2 v W2 K hK
    simp only [List.setIfInBounds_toArray, List.set_cons_zero, List.set_cons_succ] at hK ⊢
    gi_wp2
    exact hK
  case body =>
    rintro l2 pre x v W0 ⟨h1, h2, h3⟩ ⟨ad, c, rfl, hxb, hx1, hx16, hxr⟩ hs
    have KJ := Hide.mk h1
    have KF := Hide.mk h2
    have KS := Hide.mk h3
    have KX : Hide (Bytes x ∧ x.length ≤ 16) := ⟨hxb, hx16⟩
    have KR := Hide.mk hxr
    clear h1 h2 h3 hxb hx1 hx16 hxr
    simp only [List.setIfInBounds_toArray, List.set_cons_zero, List.set_cons_succ]
    gi_wp2
    have HJ0' : Hide (∀ pre W1 W2, J pre W1 → Keep W0.heap.size (fun _ => False) W1 W2 → J pre W2) := ⟨fun pre W1 W2 h k => HJ.out pre W1 W2 h (k.weaken KS.out (fun _ _ h => h))⟩
    have KAD : Hide (0 < x.length → ad.block < W0.heap.size) := ⟨fun hp => by
      obtain ⟨ad', e', hcell⟩ := KR.out.2.2 hp
      cases e'
      have := World.block_lt_of_cell? W0 _ (hcell 0 hp)
      rwa [add_block] at this⟩
    have KFL : Hide (gF < W0.heap.size) := ⟨blk_lt KF.out⟩
    refine region_inv [[], [], [1], [], [2, 3, 2], [0, 4, 4], [5]] (by kernel_rfl) (by kernel_rfl) (by kernel_rfl) (I27 l bb gF A xs.length cap g q pre x ad c J kp W0) ?_ ?_ ?_
    · have hb : Below W0.heap.size W0 W0.drew := below_of_drew rfl (Below.refl _ _)
      refine ⟨_, _, _, _, _, _, _, rfl, ?_⟩
      exact ⟨fun h => (by cases h), fun h => (by cases h), fun h => (by cases h), fun h => (by cases h), fun h => (by cases h), fun _ => ⟨HJ0'.out _ _ _ KJ.out (Keep.of_below hb (Nat.le_refl _)), blk_below KF.out hb, KR.out.below hb, Keep.of_below hb (Nat.le_refl _)⟩, fun h => (by cases h), fun h => (by cases h), fun h => (by cases h), fun h => (by cases h), fun h => (by cases h)⟩
    · rintro i hi L a W' hLi hdeps ⟨u7, u8, u9, u10, u11, u12, u13, rfl, hB⟩
      have hi' : i = 0 ∨ i = 1 ∨ i = 2 ∨ i = 3 ∨ i = 4 ∨ i = 5 ∨ i = 6 := by simp only [List.size_toArray, List.length_cons, List.length_nil] at hi; omega
      have HBB := Hide.mk hB
      clear hB hi
      rcases hi' with rfl | rfl | rfl | rfl | rfl | rfl | rfl
      · have h5 := not5 HBB.out hLi (by decide)
        have cF : W'.cell? ⟨gF, 0, none⟩ = some (.func (.yield l) #[] #[]) := (blk_cell (HBB.out.h5 h5).2.1 0).trans rfl
        clear hdeps
        refine op_list rfl ?_
        gi_wp2
        exact ⟨_, _, _, _, _, _, _, rfl, fun _ => rfl, HBB.out.h1, HBB.out.h2, HBB.out.h3, HBB.out.h4, HBB.out.h5, HBB.out.h6, HBB.out.h7, fun h => absurd (h5.symm.trans h) (by decide), HBB.out.h9, HBB.out.h10⟩
      · have h5 := not5 HBB.out hLi (by decide)
        clear hdeps
        refine op_list rfl ?_
        gi_wp2
        exact ⟨_, _, _, _, _, _, _, rfl, HBB.out.h0, fun _ => rfl, HBB.out.h2, HBB.out.h3, HBB.out.h4, HBB.out.h5, HBB.out.h6, HBB.out.h7, fun h => absurd (h5.symm.trans h) (by decide), HBB.out.h9, fun _ => rfl⟩
      · have h5 := not5 HBB.out hLi (by decide)
        have HD1 := Hide.mk (hdeps 1 (by decide))
        obtain rfl := HBB.out.h1 HD1.out
        have HXR := Hide.mk (HBB.out.h5 h5)
        clear hdeps
        refine op_list rfl ?_
        gi_wp2
        refine ⟨trivial, ?_⟩
        refine (call_in (m := 8) (clone_any ad c x W' (by have := KX.out.2; omega) HXR.out.2.2.1)).mono ?_
        rintro e w7 ⟨v, rfl, ho, hb⟩
        have hg := HBB.out.grow HJ0'.out HXR.out.2.2.2.size h5 hb
        have HG2 := Hide.mk hg
        have HO2 := Hide.mk (And.intro ho hb)
        clear hg ho hb
        gi_wp2
        exact ⟨_, _, _, _, _, _, _, rfl, HG2.out.h0, HG2.out.h1, fun _ _ => ⟨W'.heap.size, HXR.out.2.2.2.size, HO2.out.2.size, HO2.out.1⟩, HG2.out.h3, HG2.out.h4, HG2.out.h5, HG2.out.h6, HG2.out.h7, fun h => absurd (h5.symm.trans h) (by decide), fun h => ⟨rfl, (HG2.out.h9 h).2⟩, fun _ => HD1.out⟩
      · have h5 := not5 HBB.out hLi (by decide)
        have HXR := Hide.mk (HBB.out.h5 h5)
        clear hdeps
        have hb : Below W'.heap.size W' (W'.alloc (.cells #[.int .u8 1] 5 (0, 0))) := below_alloc (Below.refl _ _) _
        have HG2 := Hide.mk (HBB.out.grow HJ0'.out HXR.out.2.2.2.size h5 hb)
        have HN := Hide.mk (heap_alloc_new W' (.cells #[.int .u8 1] 5 (0, 0)))
        clear hb
        refine op_list rfl ?_
        refine in_run rfl rfl (by intro c hc; cases hc) (buildStep rfl rfl) ?_
        generalize W'.alloc (.cells #[.int .u8 1] 5 (0, 0)) = w7 at HN HG2 ⊢
        generalize W'.heap.size = b7 at HN ⊢
        show I27 l bb gF A xs.length cap g q pre x ad c J kp W0 _ _ _
        exact ⟨_, _, _, _, _, _, _, rfl, HG2.out.h0, HG2.out.h1, HG2.out.h2, fun _ _ => ⟨_, rfl, HN.out⟩, HG2.out.h4, HG2.out.h5, HG2.out.h6, HG2.out.h7, fun h => absurd (h5.symm.trans h) (by decide), fun h => ⟨(HG2.out.h9 h).1, rfl⟩, HG2.out.h10⟩
      · have h5 := not5 HBB.out hLi (by decide)
        have HXR := Hide.mk (HBB.out.h5 h5)
        have HD2 := Hide.mk (hdeps 2 (by decide))
        have HD3 := Hide.mk (hdeps 3 (by decide))
        obtain ⟨base, hb1, hb2, hown⟩ := HBB.out.h2 HD2.out hLi
        obtain ⟨b, rfl, hbb⟩ := HBB.out.h3 HD3.out hLi
        clear hdeps
        have hob : ∀ k, u9.ownBlock = some k → W0.heap.size ≤ k := fun k hk => by
          rcases hown.2 with ⟨rfl, _⟩ | ⟨g, cap, cur, rfl, hg, _⟩
          · simp [Value.ownBlock] at hk
          · simp [Value.ownBlock] at hk; omega
        obtain ⟨v8, w8, hr8, ho8, hgr8, hat8⟩ := app8 23 hown hbb (by have := KX.out.2; omega) hb2
        have hk8 : Keep W'.heap.size (fun k => some k = u9.ownBlock) W' w8 := ⟨hgr8.os, hgr8.tape, hgr8.output, hgr8.size, fun q hq hne => hgr8.block q hq (fun e => hne e)⟩
        have hk0 : Keep W0.heap.size (fun _ => False) W' w8 := hk8.weaken HXR.out.2.2.2.size (fun k hk e => by have := hob k e.symm; omega)
        obtain ⟨g8, c8, hv8⟩ : ∃ g c, v8 = .slice (some ⟨g, 0, none⟩) (x ++ [1]).length c := by
          rcases ho8.2 with ⟨_, h0⟩ | ⟨g, cap, cur, e, _⟩
          · simp at h0
          · exact ⟨g, cap, e⟩
        have hrd : ReadsInt w8 .u8 (some ⟨g8, 0, none⟩) (x.length + 1) (x ++ [1]) := by
          refine ⟨by simp, by have := KX.out.2; omega, fun _ => ⟨_, rfl, fun j hj => ?_⟩⟩
          exact World.ownsRow.cells (hv8 ▸ ho8) (g := g8) rfl j (.int .u8 ((x ++ [1]).getD j 0)) (by rw [List.getElem?_map, List.getD_eq_getElem?_getD, List.getElem?_eq_getElem (by simp; omega)]; rfl)
        have H5 : Hide (J pre w8 ∧ w8.heap[gF]? = some (.cells #[.func (.yield l) #[] #[]] 53 (0, 0)) ∧ ReadsInt w8 .u8 (some ad) x.length x ∧ Keep W0.heap.size (fun _ => False) W0 w8) := ⟨HJ0'.out _ _ _ HXR.out.1 hk0, (hk0.block gF KFL.out (fun h => h)).trans HXR.out.2.1, reads_keep HXR.out.2.2.1 hk8 (fun ad' e hp h => by cases e; have h1 := hob _ h.symm; have h2 := KAD.out hp; omega), HXR.out.2.2.2.trans hk0⟩
        have HRD := Hide.mk hrd
        have HAP := Hide.mk hr8
        have HV8 : Hide (v8 = .slice (some ⟨g8, 0, none⟩) (x.length + 1) c8) := ⟨by rw [hv8]; simp⟩
        clear hr8 ho8 hgr8 hat8 hk8 hk0 hob hown hbb hv8 hrd hb1 hb2
        refine op_list rfl ?_
        refine in_run rfl rfl (by intro c hc; cases hc) (appendStep rfl rfl rfl HAP.out) ?_
        show I27 l bb gF A xs.length cap g q pre x ad c J kp W0 _ _ _
        exact ⟨_, _, _, _, _, _, _, rfl, HBB.out.h0, HBB.out.h1, (fun _ h => by cases h), (fun _ h => by cases h), fun _ _ => ⟨g8, c8, HV8.out, HRD.out⟩, fun _ => H5.out, fun h => absurd (h5.symm.trans h) (by decide), HBB.out.h7, fun h => absurd (h5.symm.trans h) (by decide), fun _ => ⟨HD2.out, HD3.out⟩, HBB.out.h10⟩
      · have HXR := Hide.mk (HBB.out.h5 hLi)
        have HD0 := Hide.mk (hdeps 0 (by decide))
        have HD4 := Hide.mk (hdeps 4 (by decide))
        obtain rfl := HBB.out.h0 HD0.out
        obtain ⟨g8, c8, rfl, hrd⟩ := HBB.out.h4 HD4.out hLi
        clear hdeps
        have hx : ArgP x (.slice (some ⟨g8, 0, none⟩) (x.length + 1) c8) W' := ⟨_, _, rfl, KX.out.1, KX.out.2, hrd⟩
        obtain ⟨fn, tmps, assign, body, hy, hR⟩ := HY.out _ _ _ _ HXR.out.1 hx
        have HRR := Hide.mk hR
        clear hR hx hrd
        refine op_list rfl ?_
        gi_wp2
        refine (round_in HRR.out).mono ?_
        rintro e w2 ⟨rfl, hJ2, hK2⟩
        have H6 : Hide (J (pre ++ [x]) w2 ∧ w2.heap[gF]? = some (.cells #[.func (.yield l) #[] #[]] 53 (0, 0)) ∧ Keep W0.heap.size (fun k => k = l ∨ kp k) W0 w2) := ⟨hJ2, (hK2.block gF (blk_lt HXR.out.2.1) (fun h => by
          rcases h with h | h
          · have := KFL0.out; have := HLW.out; omega
          · have := KFL0.out; have := HKP.out _ h; omega)).trans HXR.out.2.1, (HXR.out.2.2.2.weaken (Nat.le_refl _) (fun _ _ h => h.elim)).trans (hK2.weaken HXR.out.2.2.2.size (fun _ _ h => h))⟩
        clear hJ2 hK2 HRR hy
        gi_wp2
        have h9 := HBB.out.h9 HD4.out
        exact ⟨_, _, _, _, _, _, _, rfl, HBB.out.h0, HBB.out.h1, (fun _ h => absurd (HD4.out.symm.trans h) (by decide)), (fun _ h => absurd (HD4.out.symm.trans h) (by decide)), (fun _ h => by cases h), (fun h => by cases h), fun _ => ⟨rfl, H6.out⟩, HBB.out.h7, fun _ => ⟨HD0.out, HBB.out.h10 h9.1, h9.1, h9.2, HD4.out⟩, HBB.out.h9, HBB.out.h10⟩
      · have HD5 := Hide.mk (hdeps 5 (by decide))
        obtain ⟨rfl, hrest⟩ := HBB.out.h6 HD5.out
        clear hdeps hrest
        refine op_list rfl ?_
        gi_wp2
        exact ⟨_, _, _, _, _, _, _, rfl, HBB.out.h0, HBB.out.h1, HBB.out.h2, HBB.out.h3, HBB.out.h4, HBB.out.h5, HBB.out.h6, fun _ => rfl, HBB.out.h8, HBB.out.h9, HBB.out.h10⟩
    · rintro L a W' hall ⟨u7, u8, u9, u10, u11, u12, u13, rfl, hB⟩
      obtain rfl := hB.h7 (hall 6 (by decide))
      obtain ⟨rfl, hj, hf, hk⟩ := hB.h6 (hall 5 (by decide))
      have HJF := Hide.mk (And.intro hj (And.intro hf hk))
      clear hB hall hj hf hk
      gi_wp2
      exact ⟨⟨HJF.out.1, HJF.out.2.1, Nat.le_trans KS.out HJF.out.2.2.size⟩, HJF.out.2.2⟩
  case done =>
    rintro D ys W2 hD rfl ⟨hJ2, h2, h3⟩ hK
    have HF := Hide.mk hJ2
    have KD := Hide.mk hK
    have HDD := Hide.mk hD
    clear hJ2 h2 h3 hK hD
    go_wp2_with fail
    refine ⟨by simp, .inl ⟨_, _, rfl, run_takeDeferred KD.out, ?_⟩⟩
    have hfin : J (chs xs ((xs.length + 15) / 16)) (W2.putObj D (.deferred none)) := HJ.out _ _ _ HF.out (Keep.putObj W2 D (.deferred none) W.heap.size (ex := fun _ => False) (.inl (Nat.le_trans HB3.out.size HDD.out)))
    exact ⟨_, results_none rfl _ _ _, ⟨_, rfl⟩, _, rfl, hfin⟩
end Go.Proofs.Ytlhhjdhbkhjhjaa.Po
