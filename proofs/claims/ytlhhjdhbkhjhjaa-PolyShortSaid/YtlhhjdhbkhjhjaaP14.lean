/- What the program's alive says. -/
import Derived.Test.YtlhhjdhbkhjhjaaP13
import Derived.Test.YtlhhjdhbkhjhjaaPPolyAddsx1
import Derived.Test.YtlhhjdhbkhjhjaaKEq
namespace Go.Proofs.Ytlhhjdhbkhjhjaa.Po
open Go.RowKit Go.Proofs.YtlhhjdhbkhjhjaaW.PrintWords Go.Proofs.YtlhhjdhbkhjhjaaW.PrintLast Go.Proofs.YtlhhjdhbkhjhjaaW.PrintMore Mem Rg
attribute [local go_sem] Oper.semAt_some
set_option linter.unusedVariables false
set_option linter.unusedSimpArgs false
def aKey : List Int := [133, 214, 190, 120, 87, 85, 109, 51, 127, 68, 82, 254, 66, 213, 6, 168, 1, 3, 128, 138, 251, 13, 178, 253, 74, 191, 246, 175, 65, 73, 245, 27]
def aMsg : List Int := [67, 114, 121, 112, 116, 111, 103, 114, 97, 112, 104, 105, 99, 32, 70, 111, 114, 117, 109, 32, 82, 101, 115, 101, 97, 114, 99, 104, 32, 71, 114, 111, 117, 112]
def aTag : List Int := [168, 6, 29, 193, 48, 81, 54, 198, 194, 43, 139, 175, 12, 1, 39, 169]
def key2 : List Int := 2 :: List.replicate 31 0
def key1 : List Int := 1 :: List.replicate 31 0
def tag3 : List Int := 3 :: List.replicate 15 0
def tag5 : List Int := 5 :: List.replicate 15 0
def ff16 : List Int := List.replicate 16 255
def ff15 : List Int := List.replicate 15 255
def z15 : List Int := List.replicate 15 0
def five5 : List Int := ((ff16 ++ [240]) ++ ff15) ++ ([17] ++ z15)
set_option maxRecDepth 100000 in
theorem tag_1 : tagF aKey aMsg = aTag := by decide +kernel
set_option maxRecDepth 100000 in
theorem tag_2 : tagF key2 ff16 = tag3 := by decide +kernel
set_option maxRecDepth 100000 in
theorem tag_3 : tagF key1 five5 = tag5 := by decide +kernel
theorem bytes_dec {l : List Int} (h : l.all (fun x => decide (0 ≤ x) && decide (x ≤ 255)) = true) : Bytes l := fun x hx => by
  have := List.all_eq_true.1 h x hx
  simpa using this
theorem rep_f16 : PPolyAdds.mailcoachlaw05_repeat.f 18 255 16 = some ff16 := by decide +kernel
theorem rep_f15 : PPolyAdds.mailcoachlaw05_repeat.f 18 255 15 = some ff15 := by decide +kernel
theorem rep_z15 : PPolyAdds.mailcoachlaw05_repeat.f 18 0 15 = some z15 := by decide +kernel
theorem rep_any (c n : Int) (l : List Int) (h : PPolyAdds.mailcoachlaw05_repeat.f 18 c n = some l) (h0 : 0 < l.length) (w : World) : Calls Try.prog 26 #[.int .u8 c, .int .i64 n] w fun e w' => ∃ g cap, e = .returned (.slice (some ⟨g, 0, none⟩) l.length cap) ∧ l.length ≤ cap ∧ w'.ownsRow w.heap.size 5 1 (.slice (some ⟨g, 0, none⟩) l.length cap) l.length (l.map (Value.int .u8)) ∧ Below w.heap.size w w' := by
  refine (PPolyAdds.mailcoachlaw05_repeat.calls 18 c n l w h).mono ?_
  rintro e w' ⟨v, rfl, hR, hb⟩
  have ho := Kd.own_of_R hR
  rcases ho.2 with ⟨_, e⟩ | ⟨g, cap, cur, rfl, _, _, hc, _⟩
  · omega
  · exact ⟨g, cap, rfl, hc, ho, hb⟩
/-- Bytes behind a row of the call's own. -/
theorem appM {w : World} {base : Nat} {v : Value} {ad : Addr} {c : Nat} {xs ys : List Int} (ty : TypeId) (h : w.ownsRow base 5 1 v xs.length (xs.map (Value.int .u8))) (hr : ReadsInt w .u8 (some ad) ys.length ys) (hl : xs.length + ys.length ≤ 1099511627776) (hbase : base ≤ w.heap.size) (h0 : 0 < ys.length) :
    ∃ g cap w', (Builtin.append_ #[23, 23] ty #[v, .slice (some ad) ys.length c]).run Try.prog w = .ok (.slice (some ⟨g, 0, none⟩) (xs ++ ys).length cap) w' ∧ (xs ++ ys).length ≤ cap ∧ w'.ownsRow base 5 1 (.slice (some ⟨g, 0, none⟩) (xs ++ ys).length cap) (xs ++ ys).length ((xs ++ ys).map (Value.int .u8)) ∧ w.grownBy w' v.ownBlock := by
  have hinfo : (Try.prog.info? 5).map (fun i => (i.zero, i.size, i.bytes)) = some (some (.int .u8 0), 1, 1) := by kernel_rfl
  obtain ⟨i, hi, hz⟩ := Option.map_eq_some_iff.1 hinfo
  simp only [Prod.mk.injEq] at hz
  obtain ⟨hz0, hz1, hz2⟩ := hz
  have hnews : ∀ j u, (ys.map (Value.int .u8))[j]? = some u → w.cell? (ad.add j) = some u := fun j u hj => by
    rw [List.getElem?_map] at hj
    obtain ⟨x, hx, rfl⟩ := Option.map_eq_some_iff.1 hj
    have hjl : j < ys.length := (List.getElem?_eq_some_iff.1 hx).1
    obtain ⟨ad', e, hc⟩ := hr.2.2 (by omega)
    cases e
    rw [hc j hjl, List.getD_eq_getElem?_getD, hx]; rfl
  have h1 : ∀ u ∈ ys.map (Value.int .u8), u.oneCell' = true := by
    intro u hu
    obtain ⟨x, _, rfl⟩ := List.mem_map.1 hu
    rfl
  obtain ⟨v', w', hrn, hown, hg, _, _⟩ := run_append_own_at (P := Try.prog) w base 23 ty 5 i (.int .u8 0) 1 1 Try.underlying23 hi hz0 hz1 hz2 rfl (by decide) v xs.length (xs.map (Value.int .u8)) h ad ys.length c (ys.map (Value.int .u8)) (by rw [List.length_map, Nat.mul_one]) hnews h1 (by simp only [maxLen]; omega) (by omega) hbase
  rw [← List.length_append, ← List.map_append] at hown
  rcases hown.2 with ⟨_, e⟩ | ⟨g, cap, cur, rfl, _, _, hc, _⟩
  · rw [List.length_append] at e; omega
  · exact ⟨g, cap, w', hrn, hc, hown, hg⟩
theorem own_reads {w : World} {base g cap : Nat} {xs : List Int} (h : w.ownsRow base 5 1 (.slice (some ⟨g, 0, none⟩) xs.length cap) xs.length (xs.map (Value.int .u8))) (hl : xs.length ≤ 1099511627776) : ReadsInt w .u8 (some ⟨g, 0, none⟩) xs.length xs := by
  refine ⟨rfl, by omega, fun _ => ⟨_, rfl, fun j hj => ?_⟩⟩
  exact World.ownsRow.cells h (g := g) rfl j (.int .u8 (xs.getD j 0)) (by rw [List.getElem?_map, List.getD_eq_getElem?_getD, List.getElem?_eq_getElem hj]; rfl)
/-- Where an own row has grown, the rest has stayed. -/
theorem grown_below {w w' : World} {base n g cap : Nat} {e : TypeId} {xs : List Value} (hg : w.grownBy w' (Value.slice (some ⟨g, 0, none⟩) n cap).ownBlock) (ho : w.ownsRow base e 1 (.slice (some ⟨g, 0, none⟩) n cap) n xs) {w0 : World} (hb : Below w0.heap.size w0 w) (h : w0.heap.size ≤ base) : Below w0.heap.size w0 w' :=
  hb.trans ⟨hg.os, hg.tape, hg.output, hg.size, fun q hq => hg.block q (Nat.lt_of_lt_of_le hq hb.size) (fun e => by
    rcases ho.2 with ⟨h', _⟩ | ⟨g', cap', cur, h', hgb, _⟩
    · cases h'
    · cases h'
      simp [Value.ownBlock] at e
      omega)⟩
theorem one_reads {w : World} {q : Nat} {x : Int} (h : w.heap[q]? = some (.cells #[.int .u8 x] 5 (0, 0))) : ReadsInt w .u8 (some ⟨q, 0, none⟩) [x].length [x] := by
  refine ⟨rfl, by simp, fun _ => ⟨_, rfl, fun j hj => ?_⟩⟩
  obtain rfl : j = 0 := by simp at hj; omega
  rw [Addr.add_mid]
  exact blk_cell h 0
theorem own_lower {w : World} {base base' : Nat} {v : Value} {n : Nat} {xs : List Value} (h : w.ownsRow base 5 1 v n xs) (hb : base' ≤ base) : w.ownsRow base' 5 1 v n xs := by
  refine ⟨h.1, ?_⟩
  rcases h.2 with h' | ⟨g, cap, cur, e, hg, r⟩
  · exact .inl h'
  · exact .inr ⟨g, cap, cur, e, Nat.le_trans hb hg, r⟩
theorem own_one {w : World} {base q : Nat} {x : Int} (h : w.heap[q]? = some (.cells #[.int .u8 x] 5 (0, 0))) (hb : base ≤ q) : w.ownsRow base 5 1 (.slice (some ⟨q, 0, none⟩) 1 1) [x].length ([x].map (Value.int .u8)) :=
  ⟨rfl, .inr ⟨q, 1, #[.int .u8 x], rfl, hb, h, Nat.le_refl _, by decide, rfl, rfl⟩⟩
theorem own_lt {w : World} {base g n cap : Nat} {xs : List Value} (h : w.ownsRow base 5 1 (.slice (some ⟨g, 0, none⟩) n cap) n xs) : g < w.heap.size ∧ base ≤ g := by
  rcases h.2 with ⟨e, _⟩ | ⟨g', cap', cur, e, hb, hg, _⟩
  · cases e
  · cases e
    exact ⟨blk_lt hg, hb⟩
theorem own_apart {w w' : World} {base g n cap g2 n2 cap2 : Nat} {xs : List Value} (h : w.ownsRow base 5 1 (.slice (some ⟨g, 0, none⟩) n cap) n xs) (hg : w.grownBy w' (Value.slice (some ⟨g2, 0, none⟩) n2 cap2).ownBlock) (hne : g ≠ g2) : w'.ownsRow base 5 1 (.slice (some ⟨g, 0, none⟩) n cap) n xs :=
  own_move h (fun q hq => hg.block q (by obtain ⟨cells, hh⟩ := own_typed h q hq; exact blk_lt hh) (fun e => by simp [Value.ownBlock] at hq e; omega))
theorem event_g {P : Program} {ops : Array Oper} {Q : Exit → Act → World → Prop} {rest : List Oper} {o : Oper} {a : Act} {W w1 : World} {v : Value} (hw : Region.wanted o (yielded ops a.tmps) = true) (hrun : (execOp a.eval o).run P W = .ok (.value v) w1) (h : wpList P ops Q rest (a.put o.dst v) w1) : wpList P ops Q (o :: rest) a W :=
  wpList_step fun K hK => by
    rw [if_pos hw]
    unfold Oper.wp
    rw [hrun]
    exact hK _ _ h
theorem eqArr25 {o : Oper} {a : Act} {x y : Operand} {w : World} {l1 l2 : List Int} (ho : o.op = .binOp .eql 25 x y 25) (hx : a.eval x = .agg (ia .u8 l1)) (hy : a.eval y = .agg (ia .u8 l2)) (h1 : l1.length = 16) (h2 : l2.length = 16) : (execOp a.eval o).run Try.prog w = .ok (.value (.bool (decide (l1 = l2)))) w := by
  unfold execOp
  simp only [ho, hx, hy]
  go_simp
  simp only [eq_ints 9998 Try.underlying25 Try.underlying5 (by kernel_rfl) (by kernel_rfl) _ _ h1 h2, Result.andThen_ok]
end Go.Proofs.Ytlhhjdhbkhjhjaa.Po
