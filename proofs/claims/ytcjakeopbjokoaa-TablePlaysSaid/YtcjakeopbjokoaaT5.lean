/- The table: what it has in memory; New; what it answers without a change. -/
import Derived.Test.YtcjakeopbjokoaaT4
import Derived.Laws.AppendOwn
import Derived.Laws.OwnMore
namespace Go.Proofs.Ytcjakeopbjokoaa.Tb
open Go.RowKit Go.Proofs.YtcjakeopbjokoaaW.PrintWords Go.Proofs.YtcjakeopbjokoaaW.PrintLast Go.Proofs.YtcjakeopbjokoaaW.PrintMore Mem
set_option linter.unusedVariables false
set_option linter.unusedSimpArgs false
/-- What stands, where a table's block g and its row's block were written. -/
structure Upd (g : Nat) (v : Value) (w w' : World) : Prop where
  os : w'.os = w.os
  tape : w'.tape = w.tape
  output : w'.output = w.output
  size : w.heap.size ≤ w'.heap.size
  block : ∀ k, k < w.heap.size → k ≠ g → some k ≠ v.ownBlock → w'.heap[k]? = w.heap[k]?
theorem Upd.refl (g : Nat) (v : Value) (w : World) : Upd g v w w := ⟨rfl, rfl, rfl, Nat.le_refl _, fun _ _ _ _ => rfl⟩
theorem Upd.trans {g : Nat} {v v1 : Value} {a b c : World} (h : Upd g v a b) (k : Upd g v1 b c) (hv : v1.ownBlock = v.ownBlock ∨ v1.ownBlock = none ∨ ∃ n, v1.ownBlock = some n ∧ a.heap.size ≤ n) : Upd g v a c :=
  ⟨k.os.trans h.os, k.tape.trans h.tape, k.output.trans h.output, Nat.le_trans h.size k.size, fun n hn hg hne => (k.block n (Nat.lt_of_lt_of_le hn h.size) hg (fun e => by
    rcases hv with hv | hv | ⟨m, hv, hm⟩
    · exact hne (e.trans hv)
    · rw [hv] at e; cases e
    · rw [hv] at e; cases e; omega)).trans (h.block n hn hg hne)⟩
theorem Upd.of_below {g : Nat} {v : Value} {w w' : World} (h : Below w.heap.size w w') : Upd g v w w' := ⟨h.os, h.tape, h.output, h.size, fun k hk _ _ => h.block k hk⟩
theorem Upd.of_only {g : Nat} {v : Value} {w w' : World} (h : Only g w w') (hg : g < w.heap.size) : Upd g v w w' :=
  ⟨h.os, h.tape, h.output, Nat.le_of_eq h.size.symm, fun k hk hkg _ => h.other k hkg⟩
theorem Upd.of_grown {g : Nat} {v : Value} {w w' : World} (h : w.grownBy w' v.ownBlock) : Upd g v w w' := ⟨h.os, h.tape, h.output, h.size, fun k hk _ hne => h.block k hk hne⟩
theorem Upd.below {g B : Nat} {v : Value} {w0 w w' : World} (h : Upd g v w w') (hb : Below B w0 w) (hg : B ≤ g) (hv : ∀ k, v.ownBlock = some k → B ≤ k) (hB : B ≤ w.heap.size) : Below B w0 w' :=
  hb.trans ⟨h.os, h.tape, h.output, h.size, fun k hk => h.block k (by omega) (by omega) (fun e => by have := hv k e.symm; omega)⟩
/-- A table's fields in memory. -/
def LS (w : World) (base : Nat) (v : Value) (l : List F) : Prop :=
  w.ownsRow base 23 2 v l.length (fc l) ∨ ∃ b o cur, v = .slice (some ⟨b, o, none⟩) l.length l.length ∧ base ≤ b ∧ w.heap[b]? = some (.cells cur 23 (0, 0)) ∧ w.rangeAt b o (fc l)
theorem LS.slice {w : World} {base : Nat} {v : Value} {l : List F} (h : LS w base v l) : ∃ A c, v = .slice A l.length c := by
  rcases h with ⟨_, ⟨rfl, h0⟩ | ⟨g, cap, cur, rfl, _⟩⟩ | ⟨b, o, cur, rfl, _⟩
  · exact ⟨none, 0, by rw [h0]⟩
  · exact ⟨_, _, rfl⟩
  · exact ⟨_, _, rfl⟩
theorem LS.own {w : World} {base : Nat} {v : Value} {l : List F} (h : LS w base v l) : ∀ k, v.ownBlock = some k → base ≤ k ∧ ∃ cur, w.heap[k]? = some (.cells cur 23 (0, 0)) := by
  intro k hk
  rcases h with ⟨_, ⟨rfl, h0⟩ | ⟨g, cap, cur, rfl, hb, hg, _⟩⟩ | ⟨b, o, cur, rfl, hb, hg, _⟩
  · cases hk
  · cases hk; exact ⟨hb, cur, hg⟩
  · cases hk; exact ⟨hb, cur, hg⟩
theorem LS.lt {w : World} {base : Nat} {v : Value} {l : List F} (h : LS w base v l) : ∀ k, v.ownBlock = some k → base ≤ k ∧ k < w.heap.size := fun k hk => by
  obtain ⟨h1, cur, h2⟩ := h.own k hk
  exact ⟨h1, blk_lt h2⟩
theorem LS.ne {w : World} {base g : Nat} {v : Value} {l : List F} {cs : Array Value} {t : TypeId} {fr : Nat × Nat} (h : LS w base v l) (hg : w.heap[g]? = some (.cells cs t fr)) (ht : t ≠ 23) : some g ≠ v.ownBlock := by
  intro e
  obtain ⟨_, cur, h2⟩ := h.own g e.symm
  rw [hg] at h2
  cases h2
  exact ht rfl
theorem LS.kept {w w' : World} {base : Nat} {v : Value} {l : List F} (h : LS w base v l) (hk : ∀ k, v.ownBlock = some k → w'.heap[k]? = w.heap[k]?) : LS w' base v l := by
  rcases h with ⟨hl, ⟨rfl, h0⟩ | ⟨g, cap, cur, rfl, hb, hg, r⟩⟩ | ⟨b, o, cur, rfl, hb, hg, hr⟩
  · exact .inl ⟨hl, .inl ⟨rfl, h0⟩⟩
  · exact .inl ⟨hl, .inr ⟨g, cap, cur, rfl, hb, (hk g rfl).trans hg, r⟩⟩
  · exact .inr ⟨b, o, cur, rfl, hb, (hk b rfl).trans hg, fun j v hj => (World.cell?_of_block (a := ⟨b, o + j, none⟩) (hk b rfl)).trans (hr j v hj)⟩
theorem LS.range {w : World} {base : Nat} {v : Value} {l : List F} (h : LS w base v l) (hl : 0 < l.length) : ∃ b o c cur, v = .slice (some ⟨b, o, none⟩) l.length c ∧ base ≤ b ∧ w.heap[b]? = some (.cells cur 23 (0, 0)) ∧ w.rangeAt b o (fc l) := by
  rcases h with ho | ⟨b, o, cur, rfl, hb, hg, hr⟩
  · have hq := ho
    rcases ho with ⟨hx, ⟨rfl, h0⟩ | ⟨g, cap, cur, rfl, hb, hg, r⟩⟩
    · omega
    · refine ⟨g, 0, cap, cur, rfl, hb, hg, fun j v hj => ?_⟩
      have := World.ownsRow.cells hq (g := g) rfl j v hj
      rwa [Addr.add_mid] at this
  · exact ⟨b, o, _, cur, rfl, hb, hg, hr⟩
theorem range_tail {w : World} {b o : Nat} {f : F} {l : List F} (h : w.rangeAt b o (fc (f :: l))) : w.rangeAt b (o + 2) (fc l) := fun j v hj => by
  have := h (j + 2) v (by rw [fc_cons]; simpa using hj)
  rwa [show o + (j + 2) = o + 2 + j by omega] at this
structure TS where
  (room size gone : Int)
  l : List F
def tcells (t : TS) (v : Value) : Array Value := #[.int .i64 1, .int .i64 t.room, .int .i64 t.size, .int .u64 t.gone, v]
structure Tab (w : World) (base g : Nat) (v : Value) (t : TS) : Prop where
  low : base ≤ g
  blk : w.heap[g]? = some (.cells (tcells t v) 59 (0, 0))
  row : LS w base v t.l
theorem Tab.lt {w : World} {base g : Nat} {v : Value} {t : TS} (h : Tab w base g v t) : g < w.heap.size := blk_lt h.blk
theorem Tab.kept {w w' : World} {base g : Nat} {v : Value} {t : TS} (h : Tab w base g v t) (hb : ∀ k, k = g ∨ v.ownBlock = some k → w'.heap[k]? = w.heap[k]?) : Tab w' base g v t :=
  ⟨h.low, (hb g (.inl rfl)).trans h.blk, h.row.kept fun k hk => hb k (.inr hk)⟩
theorem Tab.below {w w' : World} {base g : Nat} {v : Value} {t : TS} (h : Tab w base g v t) (hb : Below w.heap.size w w') : Tab w' base g v t :=
  h.kept fun k hk => by
    rcases hk with rfl | hk
    · exact hb.block _ h.lt
    · exact hb.block _ (h.row.lt k hk).2
set_option maxHeartbeats 1000000 in
set_option maxRecDepth 100000 in
theorem there_yes (base g : Nat) (v : Value) (t : TS) (w : World) (h : Tab w base g v t) : Calls Try.prog 31 #[.pointer (some ⟨g, 0, none⟩)] w fun e w' => e = .returned (.bool true) ∧ Below w.heap.size w w' := by
  have k0 := (blk_cell h.blk 0).trans (show (tcells t v)[0]? = some (.int .i64 1) from rfl)
  clear h
  go_enter Try.func31, Try.ntmps31
  go_wp2_with fail
  go_ret
  exact ⟨rfl, Below.refl _ _⟩
set_option maxHeartbeats 1000000 in
set_option maxRecDepth 100000 in
theorem there_no (w : World) : Calls Try.prog 31 #[.pointer none] w fun e w' => e = .returned (.bool false) ∧ Below w.heap.size w w' := by
  go_enter Try.func31, Try.ntmps31
  go_wp2_with fail
  go_ret
  exact ⟨rfl, Below.refl _ _⟩
set_option maxHeartbeats 1000000 in
set_option maxRecDepth 100000 in
theorem gone_any (base g : Nat) (v : Value) (t : TS) (w : World) (h : Tab w base g v t) : Calls Try.prog 15 #[.pointer (some ⟨g, 0, none⟩)] w fun e w' => e = .returned (.int .u64 t.gone) ∧ Below w.heap.size w w' := by
  have HT := Hide.mk h
  clear h
  go_enter Try.func15, Try.ntmps15
  go_wp2_with fail
  refine (there_yes base g v t _ HT.out).mono ?_
  rintro e w1 ⟨rfl, hb⟩
  have k3 := (blk_cell (HT.out.below hb).blk 3).trans (show (tcells t v)[3]? = some (.int .u64 t.gone) from rfl)
  have HB := Hide.mk hb
  clear hb
  go_wp2_with fail
  go_ret
  exact ⟨rfl, HB.out⟩
set_option maxHeartbeats 1000000 in
set_option maxRecDepth 100000 in
theorem size_any (base g : Nat) (v : Value) (t : TS) (w : World) (h : Tab w base g v t) : Calls Try.prog 16 #[.pointer (some ⟨g, 0, none⟩)] w fun e w' => e = .returned (.int .i64 t.size) ∧ Below w.heap.size w w' := by
  have HT := Hide.mk h
  clear h
  go_enter Try.func16, Try.ntmps16
  go_wp2_with fail
  refine (there_yes base g v t _ HT.out).mono ?_
  rintro e w1 ⟨rfl, hb⟩
  have k2 := (blk_cell (HT.out.below hb).blk 2).trans (show (tcells t v)[2]? = some (.int .i64 t.size) from rfl)
  have HB := Hide.mk hb
  clear hb
  go_wp2_with fail
  go_ret
  exact ⟨rfl, HB.out⟩
def fsz (f : F) : Int := f.1.length + f.2.length + 32
set_option maxHeartbeats 1000000 in
set_option maxRecDepth 100000 in
theorem size32 (f : F) (w : World) (h1 : f.1.length ≤ 1125899906842624) (h2 : f.2.length ≤ 1125899906842624) : Calls Try.prog 32 #[fv f] w fun e w' => e = .returned (.int .i64 (fsz f)) ∧ Below w.heap.size w w' := by
  have e1 : IntKind.i64.wrap ((f.1.length : Int) + (f.2.length : Int)) = (f.1.length : Int) + (f.2.length : Int) := IntWalk.i64_in _ (by omega)
  have e2 : IntKind.i64.wrap ((f.1.length : Int) + (f.2.length : Int) + 32) = (f.1.length : Int) + (f.2.length : Int) + 32 := IntWalk.i64_in _ (by omega)
  go_enter Try.func32, Try.ntmps32
  go_wp2_with (first | ((with_reducible refine gate_dst (N := 1) rfl ?_); refine box_event ?hg (N := 1) ?hd (cs := fa [f]) (t := 23) ?hr ?_; (case hd => rfl); (case hg => rfl); (case hr => kernel_rfl); intro g1 hg w1 hbox hb; have BKg1 := Hide.mk hbox; have HB1 := Hide.mk hb; have GEg1 : w.heap.size ≤ g1 := (by rw [hg]; exact Nat.le_refl _); clear hbox hb hg; have c0 := (blk_cell BKg1.out 0).trans (show (fa [f])[0]? = some (.string ⟨f.1.toArray⟩) from rfl); have c1 := (blk_cell BKg1.out 1).trans (show (fa [f])[1]? = some (.string ⟨f.2.toArray⟩) from rfl)))
  go_ret
  exact ⟨rfl, HB1.out⟩
set_option maxHeartbeats 1000000 in
set_option maxRecDepth 100000 in
theorem new_bad (room : Int) (w : World) (h : room < 0 ∨ 4096 < room) : Calls Try.prog 12 #[.int .i64 room] w fun e w' => e = .returned (.tuple #[.pointer none, .int .i64 1]) ∧ Below w.heap.size w w' := by
  go_enter Try.func12, Try.ntmps12
  by_cases h0 : room < 0
  · have d0 : decide (room < 0) = true := by simp [h0]
    go_wp2_with fail
    go_ret2
    exact ⟨rfl, Below.refl _ _⟩
  · have d0 : decide (room < 0) = false := by simp [h0]
    have d1 : decide (room > 4096) = true := by simp; omega
    have d2 : decide (4096 < room) = true := by simp; omega
    go_wp2_with fail
    go_ret2
    exact ⟨rfl, Below.refl _ _⟩
set_option maxHeartbeats 1000000 in
set_option maxRecDepth 100000 in
theorem new_good (room : Int) (w : World) (h0 : 0 ≤ room) (h1 : room ≤ 4096) : Calls Try.prog 12 #[.int .i64 room] w fun e w' => ∃ g, e = .returned (.tuple #[.pointer (some ⟨g, 0, none⟩), .int .i64 0]) ∧ Below w.heap.size w w' ∧ w.heap.size ≤ g ∧ ∀ B, B ≤ w.heap.size → Tab w' B g (.slice none 0 0) ⟨room, 0, 0, []⟩ := by
  have d0 : decide (room < 0) = false := by simp; omega
  have d2 : decide (4096 < room) = false := by simp; omega
  go_enter Try.func12, Try.ntmps12
  go_wp2_with (first | ((with_reducible refine gate_dst (N := 12) rfl ?_); refine box_event ?hg (N := 12) ?hd (cs := tcells ⟨room, 0, 0, []⟩ (.slice none 0 0)) (t := 59) ?hr ?_; (case hd => rfl); (case hg => rfl); (case hr => kernel_rfl); intro g hg w1 hbox hb; have BKg := Hide.mk hbox; have HB1 := Hide.mk hb; have GEg : w.heap.size ≤ g := (by rw [hg]; exact Nat.le_refl _); clear hbox hb hg))
  go_ret2
  exact ⟨g, rfl, HB1.out, GEg, fun B hB => ⟨Nat.le_trans hB GEg, BKg.out, .inl (World.ownsRow_nil _ _ _ _)⟩⟩
end Go.Proofs.Ytcjakeopbjokoaa.Tb
