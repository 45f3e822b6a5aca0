/- blocks' iterator: it yields the blocks of the padded bytes, one behind the other. -/
import Derived.Test.YthgklggcdnocdaaS8
import Derived.Test.YthgklggcdnocdaaKRange
namespace Go.Proofs.Ythgklggcdnocdaa.Sh
open Go.RowKit Go.Proofs.YthgklggcdnocdaaW.PrintWords Go.Proofs.YthgklggcdnocdaaW.PrintLast Go.Proofs.YthgklggcdnocdaaW.PrintMore Mem Rg
attribute [local go_sem] Oper.semAt_some
set_option linter.unusedVariables false
set_option linter.unusedSimpArgs false
/-- So many blocks of 64. -/
def chunksN (l : List Int) (n : Nat) : List (List Int) := (List.range n).map fun i => (l.drop (64 * i)).take 64
theorem chunks_succ (l : List Int) (n : Nat) : chunksN l (n + 1) = chunksN l n ++ [(l.drop (64 * n)).take 64] := by simp [chunksN, List.range_succ]
theorem chunks_append (a b : List Int) (i : Nat) (h : a.length = 64 * i) : ∀ j, chunksN (a ++ b) (i + j) = chunksN a i ++ chunksN b j
  | 0 => by
    have : chunksN b 0 = [] := rfl
    rw [this, List.append_nil, Nat.add_zero]
    refine List.map_congr_left fun k hk => ?_
    have hk := List.mem_range.1 hk
    rw [List.drop_append_of_le_length (by omega), List.take_append_of_le_length (by rw [List.length_drop]; omega)]
  | j + 1 => by
    rw [← Nat.add_assoc, chunks_succ, chunks_append a b i h j, chunks_succ, List.append_assoc]
    have : (a ++ b).drop (64 * (i + j)) = b.drop (64 * j) := by
      rw [show 64 * (i + j) = a.length + 64 * j by omega, List.drop_append]
      simp
    rw [this]
def be8 (n : Int) : List Int := [n / 72057594037927936 % 256, n / 281474976710656 % 256, n / 1099511627776 % 256, n / 4294967296 % 256, n / 16777216 % 256, n / 65536 % 256, n / 256 % 256, n % 256]
def padz (n : Nat) : Nat := (119 - n % 64) % 64
def pad (xs : List Int) : List Int := xs ++ 128 :: (List.replicate (padz xs.length) 0 ++ be8 (8 * xs.length))
theorem pad_len (xs : List Int) : (pad xs).length = 64 * ((xs.length + 8) / 64 + 1) := by
  unfold pad padz be8
  simp
  omega
/-- What a round is handed. -/
def Arg (x : List Int) (v : Value) (W : World) : Prop := ∃ ad c, v = .slice (some ad) 64 c ∧ Bytes x ∧ x.length = 64 ∧ ReadsInt W .u8 (some ad) 64 x
theorem reads_keep {w w1 : World} {ex : Nat → Prop} {A : Option Addr} {n : Nat} {xs : List Int} (h : ReadsInt w .u8 A n xs) (hk : Keep w.heap.size ex w w1) (hA : ∀ ad, A = some ad → 0 < n → ¬ ex ad.block) : ReadsInt w1 .u8 A n xs := by
  refine ⟨h.1, h.2.1, fun hn => ?_⟩
  obtain ⟨ad, e, hc⟩ := h.2.2 hn
  refine ⟨ad, e, fun j hj => ?_⟩
  have h1 := hc j hj
  have hlt := World.block_lt_of_cell? w _ h1
  have hb : (ad.add j).block = ad.block := add_block _ _
  rw [hb] at hlt
  have h2 := hk.block ad.block hlt (hA ad e hn)
  exact (World.cell?_of_block (a := ad.add j) (by rw [hb]; exact h2)).trans h1
theorem slice_hi_step {o : Oper} {a : Act} {x : Operand} {A : Option Addr} {n c : Nat} {w : World} (m : Nat) (ho : o.op = .slice 27 x none (some (.const (.int .i64 (m : Int)))) none) (hx : a.eval x = .slice A n c) (hm : m ≤ c) :
    (execOp a.eval o).run Try.prog w = .ok (.value (.slice A m c)) w := by
  have hi : (Try.prog.info? 5).isSome = true := by kernel_rfl
  obtain ⟨ii, hi⟩ := Option.isSome_iff_exists.1 hi
  have hu : Try.prog.underlying 27 = some (.slice (Try.prog.elem 27)) := by kernel_rfl
  have he : Try.prog.elem 27 = 5 := by kernel_rfl
  have hr := run_slice_h w 27 A n c hu .i64 (m : Int) (Int.natCast_nonneg _) (by omega)
  rw [he, run_sizeOf w hi] at hr
  have hA : A.map (·.add 0) = A := by cases A <;> rfl
  have hs : ∀ s, sliced A 0 (m : Int).toNat c s = .slice A m c := fun s => by
    unfold sliced
    simp [hA]
  rw [Result.andThen_ok, hs] at hr
  unfold execOp
  simp only [ho, hx, Option.map_some, Option.map_none, run_sliceAt_slice (h := hu), show a.eval (.const (.int .i64 (m : Int))) = .int .i64 (m : Int) from rfl, hr, Sem.run_bind, Result.andThen_ok, Sem.run_pure]
theorem cut64 (A : Option Addr) (n c : Nat) (hm : 64 ≤ n) : ∃ A' : Option Addr, (∀ (o : Oper) (a : Act) (x : Operand) (w : World), o.op = .slice 27 x (some (.const (.int .i64 64))) none none → a.eval x = .slice A n c → (execOp a.eval o).run Try.prog w = .ok (.value (.slice A' (n - 64) (c - 64))) w) ∧
    (∀ (w : World) (k : IntKind) (xs : List Int), n ≤ c → ReadsInt w k A n xs → ReadsInt w k A' (n - 64) (xs.drop 64)) := by
  have hi : (Try.prog.info? 5).map (·.size) = some 1 := by kernel_rfl
  obtain ⟨ii, hi, hs⟩ := Option.map_eq_some_iff.1 hi
  have hu : Try.prog.underlying 27 = some (.slice (Try.prog.elem 27)) := by kernel_rfl
  obtain ⟨A', h1, h2⟩ := print_cut 27 5 .i64 Try.underlying27 hi hs A n c 64 hm
  refine ⟨A', fun o a x w ho hx => ?_, h2⟩
  have h1' : (Instr.slice 27 (.slice A n c) (some (.int .i64 64)) none none).run Try.prog w = .ok (.slice A' (n - 64) (c - 64)) w := h1 w
  unfold execOp
  simp only [ho, hx, Option.map_some, Option.map_none, run_sliceAt_slice (h := hu), show a.eval (.const (.int .i64 64)) = .int .i64 64 from rfl, h1', Sem.run_bind, Result.andThen_ok, Sem.run_pure]
theorem drop_bytes {xs : List Int} (h : Bytes xs) (n : Nat) : Bytes (xs.drop n) := fun x hx => h x (List.mem_of_mem_drop hx)
theorem take_bytes {xs : List Int} (h : Bytes xs) (n : Nat) : Bytes (xs.take n) := fun x hx => h x (List.mem_of_mem_take hx)
/-- A slice's length. -/
def lenV (v : Value) : Nat := match v with | .slice _ n _ => n | _ => 0
/-- How much is left, out of the box. -/
def lenS (bb : Nat) (w : World) : Nat := match w.cell? ⟨bb, 0, none⟩ with | some (.slice _ n _) => n | _ => 0
/-- The last eight bytes, one by one. -/
def fin (n : Int) (E : Nat) (L : List Int) : Nat → List Int
  | 0 => L
  | k + 1 => (fin n E L k).set (E - 1 - k) (n / 2 ^ (8 * k) % 256)
theorem fin_len (n : Int) (E : Nat) (L : List Int) : ∀ k, (fin n E L k).length = L.length
  | 0 => rfl
  | k + 1 => by rw [fin, List.length_set]; exact fin_len n E L k
theorem set_mid (P l T : List Int) (j : Nat) (x : Int) (hj : j < l.length) : (P ++ (l ++ T)).set (P.length + j) x = P ++ (l.set j x ++ T) := by
  rw [List.set_append_right _ _ (by omega), show P.length + j - P.length = j by omega, List.set_append_left _ _ hj]
theorem fin_pad (n : Int) (E : Nat) (P T : List Int) (hP : P.length + 8 = E) : fin n E (P ++ ([0, 0, 0, 0, 0, 0, 0, 0] ++ T)) 8 = P ++ (be8 n ++ T) := by
  simp only [fin]
  rw [show E - 1 - 0 = P.length + 7 by omega, set_mid _ _ _ _ _ (by decide)]
  rw [show E - 1 - 1 = P.length + 6 by omega, set_mid _ _ _ _ _ (by simp)]
  rw [show E - 1 - 2 = P.length + 5 by omega, set_mid _ _ _ _ _ (by simp)]
  rw [show E - 1 - 3 = P.length + 4 by omega, set_mid _ _ _ _ _ (by simp)]
  rw [show E - 1 - 4 = P.length + 3 by omega, set_mid _ _ _ _ _ (by simp)]
  rw [show E - 1 - 5 = P.length + 2 by omega, set_mid _ _ _ _ _ (by simp)]
  rw [show E - 1 - 6 = P.length + 1 by omega, set_mid _ _ _ _ _ (by simp)]
  rw [show E - 1 - 7 = P.length + 0 by omega, set_mid _ _ _ _ _ (by simp)]
  simp only [List.set_cons_zero, List.set_cons_succ]
  simp [be8]
theorem pad_end (xs : List Int) (i r E : Nat) (hl : xs.length = 64 * i + r) (hE : (r < 56 ∧ E = 64) ∨ (56 ≤ r ∧ r < 64 ∧ E = 128)) :
    pad xs = xs.take (64 * i) ++ (fin ((xs.length : Int) * 8) E ((xs.drop (64 * i) ++ List.replicate (128 - r) 0).set r 128) 8).take E := by
  have hd : (xs.drop (64 * i)).length = r := by rw [List.length_drop]; omega
  have h1 : (xs.drop (64 * i) ++ List.replicate (128 - r) 0).set r 128 = (xs.drop (64 * i) ++ 128 :: List.replicate (E - 9 - r) 0) ++ ([0, 0, 0, 0, 0, 0, 0, 0] ++ List.replicate (128 - E) 0) := by
    rw [List.set_append_right _ _ (by omega), show r - (xs.drop (64 * i)).length = 0 by omega, show 128 - r = (127 - r) + 1 by omega, List.replicate_succ, List.set_cons_zero, List.append_assoc, List.cons_append]
    rw [show ([0, 0, 0, 0, 0, 0, 0, 0] : List Int) = List.replicate 8 0 from rfl, List.replicate_append_replicate, List.replicate_append_replicate, show E - 9 - r + (8 + (128 - E)) = 127 - r by omega]
  obtain ⟨P, hP⟩ : ∃ P, xs.drop (64 * i) ++ 128 :: List.replicate (E - 9 - r) 0 = P := ⟨_, rfl⟩
  have hPl : P.length + 8 = E := by rw [← hP, List.length_append, List.length_cons, List.length_replicate, hd]; omega
  have hb8 : ∀ n, (be8 n).length = 8 := fun _ => rfl
  have h3 : ∀ n T, (P ++ (be8 n ++ T)).take E = P ++ be8 n := fun n T => by
    rw [← List.append_assoc, List.take_append_of_le_length (by rw [List.length_append, hb8]; omega), List.take_of_length_le (by rw [List.length_append, hb8]; omega)]
  rw [h1, hP, fin_pad _ _ _ _ hPl, h3, ← hP]
  have hz : padz xs.length = E - 9 - r := by unfold padz; omega
  have hx : ∀ R : List Int, xs ++ R = xs.take (64 * i) ++ (xs.drop (64 * i) ++ R) := fun R => by rw [← List.append_assoc, List.take_append_drop]
  unfold pad
  rw [hz, hx, Int.mul_comm, List.append_assoc, List.cons_append]
theorem pad_bytes {xs : List Int} (h : Bytes xs) : Bytes (pad xs) := by
  intro x hx
  unfold pad at hx
  rcases List.mem_append.1 hx with hx | hx
  · exact h x hx
  · rcases List.mem_cons.1 hx with rfl | hx
    · decide
    · rcases List.mem_append.1 hx with hx | hx
      · rw [(List.mem_replicate.1 hx).2]; decide
      · simp only [be8, List.mem_cons, List.not_mem_nil, or_false] at hx
        rcases hx with rfl | rfl | rfl | rfl | rfl | rfl | rfl | rfl <;> omega
theorem chunks_take (xs : List Int) (i : Nat) (h : 64 * i ≤ xs.length) : chunksN (xs.take (64 * i)) i = chunksN xs i := by
  have := chunks_append (xs.take (64 * i)) (xs.drop (64 * i)) i (by rw [List.length_take]; omega) 0
  rw [List.take_append_drop, Nat.add_zero] at this
  rw [this]
  exact (List.append_nil _).symm
theorem makeStep {o : Oper} {a : Act} {w : World} (ho : o.op = .makeSlice 27 (.const (.int .i64 64)) (.const (.int .i64 128))) : (execOp a.eval o).run Try.prog w = .ok (.value (.slice (some ⟨w.heap.size, 0, none⟩) 64 128)) (w.alloc (.cells (ia .u8 (List.replicate 128 0)) 5 (0, 0))) := by
  unfold execOp
  simp only [ho]
  kernel_rfl
theorem copyStep {A1 : Option Addr} {r c1 q : Nat} {rem : List Int} {w : World}
    (hr : ReadsInt w .u8 A1 r rem) (hq : w.heap[q]? = some (.cells (ia .u8 (List.replicate 128 0)) 5 (0, 0))) (h64 : r < 64) :
    ∃ w', (∀ (o : Oper) (a : Act) (d s : Operand), o.op = .call { callee := .builtin .copy, args := #[d, s], argTypes := #[27, 27] } → a.eval d = .slice (some ⟨q, 0, none⟩) 64 128 → a.eval s = .slice A1 r c1 → (execOp a.eval o).run Try.prog w = .ok (.value (.int .i64 (r : Int))) w') ∧ w'.heap[q]? = some (.cells (ia .u8 (rem ++ List.replicate (128 - r) 0)) 5 (0, 0)) ∧ Only q w w' := by
  have hu : Try.prog.underlying 27 = some (.slice 5) := Try.underlying27
  have hsz : (Try.prog.info? 5).map (·.size) = some 1 := by kernel_rfl
  by_cases h0 : r = 0
  · subst h0
    have hrem : rem = [] := List.eq_nil_of_length_eq_zero hr.1
    subst hrem
    refine ⟨w, fun o a d s ho hd hs => ?_, hq, ⟨rfl, rfl, rfl, rfl, fun _ _ => rfl⟩⟩
    have h1 := run_copy_none (P := Try.prog) w 27 27 o.type 5 (some ⟨q, 0, none⟩) A1 64 128 0 c1 hu hsz (by simp)
    unfold execOp
    simp only [ho, resolve, invoke, builtin, Sem.run_bind, Sem.run_pure, Result.andThen_ok, List.map_toArray, List.map_cons, List.map_nil, hd, hs, h1]
    rfl
  · obtain ⟨ad, rfl, hc⟩ := hr.2.2 (by omega)
    have e : (((ia .u8 (List.replicate 128 0)).toList.take 0 ++ rem.map (Value.int .u8) ++ (ia .u8 (List.replicate 128 0)).toList.drop (0 + (rem.map (Value.int .u8)).length)).toArray : Array Value) = ia .u8 (rem ++ List.replicate (128 - r) 0) := by
      have e0 : (ia .u8 (List.replicate 128 0)).toList = List.replicate 128 (Value.int .u8 0) := by unfold ia; rw [List.map_replicate]
      rw [e0, List.take_zero, List.nil_append, Nat.zero_add, List.length_map, hr.1, List.drop_replicate]
      unfold ia
      rw [List.map_append, List.map_replicate]
    refine ⟨w.setRow q (ia .u8 (rem ++ List.replicate (128 - r) 0)), fun o a d s ho hd hs => ?_, setRow_heap w q _ _ _ _ hq, ⟨rfl, rfl, rfl, by simp [World.setRow], fun i hi => setRow_other w q i _ hi⟩⟩
    have h1 := run_copy_row (P := Try.prog) w 27 27 o.type 5 q 0 64 128 ad r c1 (ia .u8 (List.replicate 128 0)) 5 (rem.map (Value.int .u8)) hu hsz hq (by rw [List.length_map, hr.1]; exact (Nat.min_eq_left (by omega)).symm)
      (fun j v hj => by
        rw [List.getElem?_map] at hj
        obtain ⟨x, hx, rfl⟩ := Option.map_eq_some_iff.1 hj
        have hjl : j < r := by have := (List.getElem?_eq_some_iff.1 hx).1; rw [hr.1] at this; exact this
        rw [hc j hjl, List.getD_eq_getElem?_getD, hx]; rfl)
      (by rw [List.length_map, hr.1, ia_size, List.length_replicate]; omega) (ia_one .u8 rem)
    rw [e] at h1
    unfold execOp
    simp only [ho, resolve, invoke, builtin, Sem.run_bind, Sem.run_pure, Result.andThen_ok, List.map_toArray, List.map_cons, List.map_nil, hd, hs, h1]
    rw [List.length_map, hr.1]
    rfl
theorem only_keep {g n : Nat} {w w1 : World} (h : Only g w w1) {ex : Nat → Prop} (hg : n ≤ g) : Keep n ex w w1 := ⟨h.os, h.tape, h.output, Nat.le_of_eq h.size.symm, fun k hk _ => h.other k (by omega)⟩
set_option maxHeartbeats 4000000 in
set_option maxRecDepth 100000 in
theorem blocks_in (l bb : Nat) (A : Option Addr) (cap : Nat) (xs : List Int) (J : List (List Int) → World → Prop) (kp : Nat → Prop) (W : World)
    (hby : Bytes xs) (hlen : xs.length ≤ 140737488355328) (hbb : W.heap[bb]? = some (.cells #[.slice A xs.length cap] 27 (0, 0))) (hcap : xs.length ≤ cap) (hr : ReadsInt W .u8 A xs.length xs)
    (hA : ∀ ad, A = some ad → 0 < xs.length → ¬ kp ad.block ∧ ad.block ≠ l ∧ ad.block ≠ bb) (hkb : ¬ kp bb ∧ bb ≠ l) (hkp : ∀ k, kp k → k < W.heap.size) (hl : l < W.heap.size)
    (hJ : ∀ pre W1 W2, J pre W1 → Keep W.heap.size (· = bb) W1 W2 → J pre W2)
    (hY : ∀ pre x v W1, J pre W1 → Arg x v W1 → Yld Try.prog l v W1 fun W' => J (pre ++ [x]) W' ∧ Keep W1.heap.size (fun k => k = l ∨ kp k) W1 W')
    (h0 : J [] W) :
    Calls Try.prog 32 #[.func (.yield l) #[] #[], .pointer (some ⟨bb, 0, none⟩)] W fun e W' => (∃ v, e = .returned v) ∧ ∃ ys, ys = chunksN (pad xs) ((xs.length + 8) / 64 + 1) ∧ J ys W' := by
  refine (callsIn_wide (n := 9)).1 (callsIn_of_wp Try.func32 rfl trivial ?_)
  simp only [Try.ntmps32, List.size_toArray, List.length_cons, List.length_nil, Nat.reduceAdd, Nat.reduceSub, Array.replicate_succ, Array.replicate_zero, List.push_toArray, List.append_toArray, List.nil_append, List.cons_append]
  have HBY := Hide.mk hby
  have HLEN := Hide.mk hlen
  have HA := Hide.mk hA
  have HKB := Hide.mk hkb
  have HKP := Hide.mk hkp
  have HJ := Hide.mk hJ
  have HY := Hide.mk hY
  have HJ0 := Hide.mk h0
  have HR0 := Hide.mk hr
  have HBB0 := Hide.mk hbb
  have HCAP := Hide.mk hcap
  have c0 := (blk_cell hbb 0).trans rfl
  have e1 : IntKind.u64.wrap (xs.length : Int) = (xs.length : Int) := IntWalk.u64_in _ (by omega)
  have e2 : IntKind.u64.wrap ((xs.length : Int) * 8) = (xs.length : Int) * 8 := IntWalk.u64_in _ (by omega)
  clear hby hlen hA hkb hkp hJ hY h0 hr hbb hcap
  gi_wp2
  clear c0 e1 e2
  have HS0 : Hide (W.heap.size ≤ W.heap.size) := ⟨Nat.le_refl _⟩
  gi_loopw [10] (fun _ wr => ∃ (i r : Nat) (A1 : Option Addr) (c1 : Nat), xs.length = 64 * i + r ∧ r ≤ c1 ∧ wr.heap[bb]? = some (.cells #[.slice A1 r c1] 27 (0, 0)) ∧ (∀ w, ReadsInt w .u8 A xs.length xs → ReadsInt w .u8 A1 r (xs.drop (64 * i))) ∧ ReadsInt wr .u8 A xs.length xs ∧ J (chunksN xs i) wr ∧ W.heap.size ≤ wr.heap.size) (fun _ wr => lenS bb wr)
  case atStart => exact ⟨0, xs.length, A, cap, by omega, HCAP.out, HBB0.out, fun w h => h, HR0.out, HJ0.out, Nat.le_refl _⟩
  case round =>
    obtain ⟨i, r, A1, c1, hir, hrc, hbb, hA1, hRd, hJr, hsz⟩ := hrel
    have HIR := Hide.mk hir
    have HA1 := Hide.mk hA1
    have HRd := Hide.mk hRd
    have HJr := Hide.mk hJr
    have HSZ := Hide.mk hsz
    have HBB := Hide.mk hbb
    clear HR0 HBB0 HJ0 HCAP hir hA1 hRd hJr hsz hbb HS0
    have c0 := (blk_cell HBB.out 0).trans rfl
    have HD : Hide (Bytes (xs.drop (64 * i)) ∧ (xs.drop (64 * i)).length = r) := ⟨drop_bytes HBY.out _, by rw [List.length_drop, HIR.out]; omega⟩
    by_cases h64 : 64 ≤ r
    · have hd : decide ((64 : Int) ≤ (r : Int)) = true := by simp; omega
      have hr1 := HA1.out _ HRd.out
      obtain ⟨ad, rfl, hcells⟩ := hr1.2.2 (by omega)
      have hx : Arg ((xs.drop (64 * i)).take 64) (.slice (some ad) 64 c1) wr := ⟨ad, c1, rfl, take_bytes HD.out.1 _, by rw [List.length_take, HD.out.2]; omega, hr1.take_ 64 h64⟩
      obtain ⟨fn, tmps, assign, body, hy, hR⟩ := HY.out _ _ _ _ HJr.out hx
      obtain ⟨A2, hcut, hA2⟩ := cut64 (some ad) r c1 h64
      have HCUT := Hide.mk hcut
      have HRR := Hide.mk hR
      have HLS : Hide (lenS bb wr = r) := ⟨by unfold lenS; rw [c0]; rfl⟩
      clear hR hcut hx hr1 hcells
      gi_wp2_with (first | ((with_reducible refine gate_in (N := 15) rfl ?_); refine in_run rfl rfl (by intro c hc; cases hc) (slice_hi_step 64 rfl rfl (by omega)) ?_; simp only [Act.put, List.setIfInBounds_toArray, List.set_cons_zero, List.set_cons_succ]))
      refine (round_any HRR.out).mono ?_
      rintro e w2 ⟨rfl, hJ2, hK2⟩
      have HJ2 := Hide.mk hJ2
      have HS2 : Hide (W.heap.size ≤ w2.heap.size) := ⟨Nat.le_trans HSZ.out hK2.size⟩
      have HBB2 := Hide.mk ((hK2.block bb (blk_lt HBB.out) (fun h => by rcases h with h | h; exact HKB.out.2 h; exact HKB.out.1 h)).trans HBB.out)
      have HR2 := Hide.mk (reads_keep HRd.out hK2 (fun ad' h hp hk => by have := HA.out ad' h hp; rcases hk with hk | hk; exact this.2.1 hk; exact this.1 hk))
      clear hJ2 hK2 HRR hy HBB HRd HJr c0
      have c0 := (blk_cell HBB2.out 0).trans rfl
      gi_wp2_with (first | ((with_reducible refine gate_in (N := 19) rfl ?_); refine in_run rfl rfl (by intro c hc; cases hc) (HCUT.out _ _ _ _ rfl rfl) ?_; simp only [Act.put, List.setIfInBounds_toArray, List.set_cons_zero, List.set_cons_succ]) | ((with_reducible refine gate_in_store (p := 1) (v := .tmp 19) rfl ?_); refine in_skip rfl rfl (by intro c hc; cases hc) (Plan.run_cell 27 (.tmp 1) (.tmp 19) rfl bb 0 rfl (.slice A2 (r - 64) (c1 - 64)) rfl rfl rfl (by kernel_rfl) _ _ HBB2.out (by show 0 < 1; decide)) ?_; have HBB3 := Hide.mk (blk_set HBB2.out 0 (.slice A2 (r - 64) (c1 - 64))); have HK3 := Hide.mk (Keep.setCell w2 ⟨bb, 0, none⟩ (.slice A2 (r - 64) (c1 - 64)) w2.heap.size (ex := (· = bb)) (.inr rfl)); clear c0 HBB2 HCUT; generalize w2.setCell ⟨bb, 0, none⟩ (.slice A2 (r - 64) (c1 - 64)) = w3 at HBB3 HK3 ⊢; simp only [Act.put, List.setIfInBounds_toArray, List.set_cons_zero, List.set_cons_succ]))
      have HJ3 := Hide.mk (HJ.out _ _ _ HJ2.out (HK3.out.weaken HS2.out (fun _ _ h => h)))
      have HR3 := Hide.mk (reads_keep HR2.out HK3.out (fun ad' h hp hk => (HA.out ad' h hp).2.2 hk))
      go_roundw
      case rel => exact ⟨i + 1, r - 64, A2, c1 - 64, by have := HIR.out; omega, by omega, HBB3.out, fun w h => by
        have := hA2 w .u8 _ hrc (HA1.out w h)
        rwa [List.drop_drop, show 64 * i + 64 = 64 * (i + 1) by omega] at this, HR3.out, by rw [chunks_succ]; exact HJ3.out, Nat.le_trans HS2.out HK3.out.size⟩
      case measure => rw [HLS.out]; unfold lenS; rw [blk_cell HBB3.out 0]; show r - 64 < r; omega
    · by_cases h56 : r < 56
      · have hd2 : decide ((56 : Int) ≤ (r : Int)) = false := by simp; omega
        have hi0 : (0 : Int) ≤ (r : Int) := Int.natCast_nonneg _
        have hi1 : (r : Int) < 64 := by omega
        gi_wp2_with (first | ((with_reducible refine gate_in (N := 20) rfl ?_); refine in_run rfl rfl (by intro c hc; cases hc) (makeStep rfl) ?_; have HQ3 := Hide.mk (heap_alloc_new wr (.cells (ia .u8 (List.replicate 128 0)) 5 (0, 0))); have HK3 := Hide.mk (Keep.of_below (n := W.heap.size) (ex := (· = bb)) (below_alloc (Below.refl _ _) (.cells (ia .u8 (List.replicate 128 0)) 5 (0, 0))) HSZ.out); have HB3 := Hide.mk (below_alloc (Below.refl wr.heap.size wr) (.cells (ia .u8 (List.replicate 128 0)) 5 (0, 0))); have HNB : Hide (bb < wr.heap.size) := ⟨blk_lt HBB.out⟩; clear c0; generalize wr.alloc (.cells (ia .u8 (List.replicate 128 0)) 5 (0, 0)) = w3 at HQ3 HK3 HB3 ⊢; obtain ⟨q, hq⟩ : ∃ q, wr.heap.size = q := ⟨_, rfl⟩; have HQE := Hide.mk hq; rw [hq] at HQ3 ⊢; clear hq; have c3 : w3.cell? ⟨bb, 0, none⟩ = some (.slice A1 r c1) := ((HB3.out.cell (p := ⟨bb, 0, none⟩) HNB.out).trans (blk_cell HBB.out 0)).trans rfl; obtain ⟨w4, hcp, hq4, ho4⟩ := copyStep (c1 := c1) (HA1.out _ (HRd.out.below HB3.out)) HQ3.out (by omega); have HCP := Hide.mk hcp; have HQ4 := Hide.mk hq4; have HO4 := Hide.mk ho4; clear hcp hq4 ho4; simp only [Act.put, List.setIfInBounds_toArray, List.set_cons_zero, List.set_cons_succ]) | ((with_reducible refine gate_in (N := 24) rfl ?_); refine in_run rfl rfl (by intro c hc; cases hc) (HCP.out _ _ _ _ rfl rfl rfl) ?_; clear c3 HCP; simp only [Act.put, List.setIfInBounds_toArray, List.set_cons_zero, List.set_cons_succ]) | ((with_reducible refine gate_in_store (p := 25) (v := .const (.int .u8 128)) rfl ?_); refine in_skip rfl rfl (by intro c hc; cases hc) (Plan.run_cell 5 (.tmp 25) (.const (.int .u8 128)) rfl q r (by go_simp) (.int .u8 128) rfl rfl rfl (by kernel_rfl) _ _ HQ4.out (by rw [ia_size, List.length_append, HD.out.2, List.length_replicate]; omega)) ?_; have hq5 := blk_set HQ4.out r (.int .u8 128); rw [ia_set] at hq5; have HQ5 := Hide.mk hq5; have HO5 := Hide.mk (Only.setCell w4 q r (.int .u8 128)); clear hq5; generalize w4.setCell ⟨q, r, none⟩ (.int .u8 128) = w5 at HQ5 HO5 ⊢; have c5 : w5.cell? ⟨bb, 0, none⟩ = some (.slice A1 r c1) := (HO5.out.cell (HO4.out.cell (((HB3.out.cell (p := ⟨bb, 0, none⟩) HNB.out).trans (blk_cell HBB.out 0)).trans rfl) (by show bb ≠ q; have := HNB.out; have := HQE.out; omega)) (by show bb ≠ q; have := HNB.out; have := HQE.out; omega)); simp only [Act.put, List.setIfInBounds_toArray, List.set_cons_zero, List.set_cons_succ]))
        have HLW : Hide (l < W.heap.size) := ⟨hl⟩
        have HSQ : Hide (W.heap.size ≤ q) := ⟨by rw [← HQE.out]; exact HSZ.out⟩
        have HJ5 := Hide.mk (HJ.out _ _ _ (HJ.out _ _ _ (HJ.out _ _ _ HJr.out HK3.out) (only_keep HO4.out HSQ.out)) (only_keep HO5.out HSQ.out))
        have HS5 : Hide (W.heap.size ≤ w5.heap.size) := ⟨by rw [HO5.out.size, HO4.out.size]; exact Nat.le_trans HSZ.out HB3.out.size⟩
        clear c5 HO5 HO4 HQ4 HJr HK3 HB3 HBB
        obtain ⟨L, hL⟩ : ∃ L, (xs.drop (64 * i) ++ List.replicate (128 - r) 0).set r 128 = L := ⟨_, rfl⟩
        have HLL : Hide (L.length = 128) := ⟨by rw [← hL, List.length_set, List.length_append, HD.out.2, List.length_replicate]; omega⟩
        rw [hL] at HQ5
        have HLE := Hide.mk hL
        clear hL
        gi_loopw [31] (fun t wr => ∃ k : Nat, k ≤ 8 ∧ t = .int .i64 k ∧ wr.heap[q]? = some (.cells (ia .u8 (fin ((xs.length : Int) * 8) 64 L k)) 5 (0, 0)) ∧ J (chunksN xs i) wr ∧ W.heap.size ≤ wr.heap.size) (fun t _ => 8 - (intOf t).toNat)
        case atStart => exact ⟨0, by omega, rfl, HQ5.out, HJ5.out, HS5.out⟩
        case round =>
          clear HQ5 HJ5 HS5
          obtain ⟨k, hk, rfl, hq, hJr, hs⟩ := hrel
          have HQ := Hide.mk hq
          have HJr := Hide.mk hJr
          have HS := Hide.mk hs
          clear hq hJr hs
          by_cases hlt : k < 8
          · have hd : decide ((k : Int) < 8) = true := by simp; omega
            have f1 : IntKind.i64.wrap ((k : Int) + 1) = (k : Int) + 1 := IntWalk.i64_in _ (by omega)
            have f2 : IntKind.i64.wrap (63 - (k : Int)) = ((63 - k : Nat) : Int) := by rw [IntWalk.i64_in _ (by omega)]; omega
            have f3 : IntKind.i64.wrap (8 * (k : Int)) = ((8 * k : Nat) : Int) := by rw [IntWalk.i64_in _ (by omega)]; omega
            have f4 : (0 : Int) ≤ ((8 * k : Nat) : Int) := Int.natCast_nonneg _
            have f5 : ((8 * k : Nat) : Int) ≤ 64 := by omega
            have f6 : (0 : Int) ≤ ((63 - k : Nat) : Int) := Int.natCast_nonneg _
            have f7 : ((63 - k : Nat) : Int) < 64 := by omega
            gi_wp2_with (first | ((with_reducible refine gate_in_store (p := 45) (v := .tmp 44) rfl ?_); refine in_skip rfl rfl (by intro c hc; cases hc) (Plan.run_cell 5 (.tmp 45) (.tmp 44) rfl q (63 - k) rfl (.int .u8 ((xs.length : Int) * 8 / 2 ^ (8 * k) % 256)) rfl rfl rfl (by kernel_rfl) _ _ HQ.out (by rw [ia_size, fin_len, HLL.out]; omega)) ?_; have hq7 := blk_set HQ.out (63 - k) (.int .u8 ((xs.length : Int) * 8 / 2 ^ (8 * k) % 256)); rw [ia_set] at hq7; have HQ7 := Hide.mk hq7; have HO7 := Hide.mk (Only.setCell wr q (63 - k) (.int .u8 ((xs.length : Int) * 8 / 2 ^ (8 * k) % 256))); clear hq7; generalize wr.setCell ⟨q, 63 - k, none⟩ (.int .u8 ((xs.length : Int) * 8 / 2 ^ (8 * k) % 256)) = w7 at HQ7 HO7 ⊢; simp only [Act.put, List.setIfInBounds_toArray, List.set_cons_zero, List.set_cons_succ]))
            have HJ7 := Hide.mk (HJ.out _ _ _ HJr.out (only_keep HO7.out HSQ.out))
            go_roundw
            case rel => exact ⟨k + 1, by omega, by go_num, HQ7.out, HJ7.out, by rw [HO7.out.size]; exact HS.out⟩
            case measure => simp [intOf]; omega
          · obtain rfl : k = 8 := by omega
            rw [show ((8 : Nat) : Int) = 8 from rfl]
            obtain ⟨Lf, hLf⟩ : ∃ Lf, fin ((xs.length : Int) * 8) 64 L 8 = Lf := ⟨_, rfl⟩
            have hLfl : Lf.length = 128 := by rw [← hLf, fin_len, HLL.out]
            rw [hLf] at HQ
            have HLF := Hide.mk hLf
            clear hLf
            have HRQ : Hide (∀ w : World, w.heap[q]? = some (.cells (ia .u8 Lf) 5 (0, 0)) → ReadsInt w .u8 (some ⟨q, 0, none⟩) 64 (Lf.take 64)) := ⟨fun w h => by have := reads_of_blk h (by rw [hLfl]; decide); rw [hLfl] at this; exact this.take_ 64 (by decide)⟩
            have HPAD : Hide (pad xs = xs.take (64 * i) ++ Lf.take 64) := ⟨by rw [← HLF.out, ← HLE.out]; exact pad_end xs i r 64 HIR.out (.inl ⟨by omega, rfl⟩)⟩
            clear hLfl
            have HLB : Hide (Bytes (Lf.take 64)) := ⟨fun x hx => pad_bytes HBY.out x (by rw [HPAD.out]; exact List.mem_append.2 (.inr hx))⟩
            gi_wp2
            gi_loopw [4] (fun v4 wr => ∃ (j p : Nat) (A3 : Option Addr) (c3 : Nat), 64 = 64 * j + p ∧ p ≤ c3 ∧ v4 = .slice A3 p c3 ∧ (∀ w, ReadsInt w .u8 (some ⟨q, 0, none⟩) 64 (Lf.take 64) → ReadsInt w .u8 A3 p ((Lf.take 64).drop (64 * j))) ∧ wr.heap[q]? = some (.cells (ia .u8 Lf) 5 (0, 0)) ∧ J (chunksN xs i ++ chunksN (Lf.take 64) j) wr ∧ W.heap.size ≤ wr.heap.size) (fun v _ => lenV v)
            case atStart => exact ⟨0, 64, _, _, rfl, by decide, rfl, fun w h => h, HQ.out, by rw [show chunksN (Lf.take 64) 0 = [] from rfl, List.append_nil]; exact HJr.out, HS.out⟩
            case round =>
              clear HQ HJr HS
              obtain ⟨j, p, A3, c3, hjp, hpc, rfl, hA3, hq, hJr, hs⟩ := hrel
              have HQ := Hide.mk hq
              have HA3 := Hide.mk hA3
              have HJr := Hide.mk hJr
              have HS := Hide.mk hs
              have HJP := Hide.mk hjp
              clear hq hJr hs hA3
              by_cases h64b : 64 ≤ p
              · have hd : decide ((0 : Int) < (p : Int)) = true := by simp; omega
                have hr1 := HA3.out _ (HRQ.out _ HQ.out)
                obtain ⟨ad, rfl, hcells⟩ := hr1.2.2 (by omega)
                have hx : Arg (((Lf.take 64).drop (64 * j)).take 64) (.slice (some ad) 64 c3) wr := ⟨ad, c3, rfl, take_bytes (drop_bytes (HLB.out) _) _, by have := hr1.1; rw [List.length_take, this]; omega, hr1.take_ 64 h64b⟩
                obtain ⟨fn, tmps, assign, body, hy, hR⟩ := HY.out _ _ _ _ HJr.out hx
                obtain ⟨A4, hcut, hA4⟩ := cut64 (some ad) p c3 h64b
                have HCUT := Hide.mk hcut
                have HRR := Hide.mk hR
                clear hR hcut hx hr1 hcells hjp
                gi_wp2_with (first | ((with_reducible refine gate_in (N := 54) rfl ?_); refine in_run rfl rfl (by intro c hc; cases hc) (slice_hi_step 64 rfl rfl (by omega)) ?_; simp only [Act.put, List.setIfInBounds_toArray, List.set_cons_zero, List.set_cons_succ]))
                refine (round_any HRR.out).mono ?_
                rintro e w2 ⟨rfl, hJ2, hK2⟩
                have HJ2 := Hide.mk hJ2
                have HS2 : Hide (W.heap.size ≤ w2.heap.size) := ⟨Nat.le_trans HS.out hK2.size⟩
                have HQ2 := Hide.mk ((hK2.block q (blk_lt HQ.out) (fun h => by rcases h with h | h; (have h1 := HLW.out; have h2 := HSQ.out; omega); (have h1 := HKP.out _ h; have h2 := HSQ.out; omega))).trans HQ.out)
                clear hJ2 hK2 HRR hy HQ HJr
                gi_wp2_with (first | ((with_reducible refine gate_in (N := 51) rfl ?_); refine in_run rfl rfl (by intro c hc; cases hc) (HCUT.out _ _ _ _ rfl rfl) ?_; simp only [Act.put, List.setIfInBounds_toArray, List.set_cons_zero, List.set_cons_succ]))
                go_roundw
                case rel => exact ⟨j + 1, p - 64, A4, c3 - 64, by have := HJP.out; omega, by omega, rfl, fun w h => by
                  have := hA4 w .u8 _ hpc (HA3.out w h)
                  rwa [List.drop_drop, show 64 * j + 64 = 64 * (j + 1) by omega] at this, HQ2.out, by rw [chunks_succ, ← List.append_assoc]; exact HJ2.out, HS2.out⟩
                case measure => show p - 64 < p; omega
              · have hp0 : p = 0 := by omega
                subst hp0
                gi_wp2
                go_end0
                refine ⟨⟨_, rfl⟩, ?_⟩
                have hj : j = 1 := by have := HJP.out; omega
                have hm : (xs.length + 8) / 64 + 1 = i + 1 := by have := HIR.out; omega
                rw [hm, HPAD.out, chunks_append _ _ i (by have := HIR.out; rw [List.length_take]; omega), chunks_take _ _ (by have := HIR.out; omega), ← hj]
                exact ⟨_, rfl, HJr.out⟩
      · have hr56 : 56 ≤ r := by omega
        have hd2 : decide ((56 : Int) ≤ (r : Int)) = true := by simp; omega
        have hi0 : (0 : Int) ≤ (r : Int) := Int.natCast_nonneg _
        have hi1 : (r : Int) < 64 := by omega
        gi_wp2_with (first | ((with_reducible refine gate_in (N := 20) rfl ?_); refine in_run rfl rfl (by intro c hc; cases hc) (makeStep rfl) ?_; have HQ3 := Hide.mk (heap_alloc_new wr (.cells (ia .u8 (List.replicate 128 0)) 5 (0, 0))); have HK3 := Hide.mk (Keep.of_below (n := W.heap.size) (ex := (· = bb)) (below_alloc (Below.refl _ _) (.cells (ia .u8 (List.replicate 128 0)) 5 (0, 0))) HSZ.out); have HB3 := Hide.mk (below_alloc (Below.refl wr.heap.size wr) (.cells (ia .u8 (List.replicate 128 0)) 5 (0, 0))); have HNB : Hide (bb < wr.heap.size) := ⟨blk_lt HBB.out⟩; clear c0; generalize wr.alloc (.cells (ia .u8 (List.replicate 128 0)) 5 (0, 0)) = w3 at HQ3 HK3 HB3 ⊢; obtain ⟨q, hq⟩ : ∃ q, wr.heap.size = q := ⟨_, rfl⟩; have HQE := Hide.mk hq; rw [hq] at HQ3 ⊢; clear hq; have c3 : w3.cell? ⟨bb, 0, none⟩ = some (.slice A1 r c1) := ((HB3.out.cell (p := ⟨bb, 0, none⟩) HNB.out).trans (blk_cell HBB.out 0)).trans rfl; obtain ⟨w4, hcp, hq4, ho4⟩ := copyStep (c1 := c1) (HA1.out _ (HRd.out.below HB3.out)) HQ3.out (by omega); have HCP := Hide.mk hcp; have HQ4 := Hide.mk hq4; have HO4 := Hide.mk ho4; clear hcp hq4 ho4; simp only [Act.put, List.setIfInBounds_toArray, List.set_cons_zero, List.set_cons_succ]) | ((with_reducible refine gate_in (N := 24) rfl ?_); refine in_run rfl rfl (by intro c hc; cases hc) (HCP.out _ _ _ _ rfl rfl rfl) ?_; clear c3 HCP; simp only [Act.put, List.setIfInBounds_toArray, List.set_cons_zero, List.set_cons_succ]) | ((with_reducible refine gate_in_store (p := 25) (v := .const (.int .u8 128)) rfl ?_); refine in_skip rfl rfl (by intro c hc; cases hc) (Plan.run_cell 5 (.tmp 25) (.const (.int .u8 128)) rfl q r (by go_simp) (.int .u8 128) rfl rfl rfl (by kernel_rfl) _ _ HQ4.out (by rw [ia_size, List.length_append, HD.out.2, List.length_replicate]; omega)) ?_; have hq5 := blk_set HQ4.out r (.int .u8 128); rw [ia_set] at hq5; have HQ5 := Hide.mk hq5; have HO5 := Hide.mk (Only.setCell w4 q r (.int .u8 128)); clear hq5; generalize w4.setCell ⟨q, r, none⟩ (.int .u8 128) = w5 at HQ5 HO5 ⊢; have c5 : w5.cell? ⟨bb, 0, none⟩ = some (.slice A1 r c1) := (HO5.out.cell (HO4.out.cell (((HB3.out.cell (p := ⟨bb, 0, none⟩) HNB.out).trans (blk_cell HBB.out 0)).trans rfl) (by show bb ≠ q; have := HNB.out; have := HQE.out; omega)) (by show bb ≠ q; have := HNB.out; have := HQE.out; omega)); simp only [Act.put, List.setIfInBounds_toArray, List.set_cons_zero, List.set_cons_succ]) | ((with_reducible refine gate_in (N := 30) rfl ?_); refine in_run rfl rfl (by intro c hc; cases hc) (slice_hi_step 128 rfl rfl (by omega)) ?_; simp only [Act.put, List.setIfInBounds_toArray, List.set_cons_zero, List.set_cons_succ]))
        have HLW : Hide (l < W.heap.size) := ⟨hl⟩
        have HSQ : Hide (W.heap.size ≤ q) := ⟨by rw [← HQE.out]; exact HSZ.out⟩
        have HJ5 := Hide.mk (HJ.out _ _ _ (HJ.out _ _ _ (HJ.out _ _ _ HJr.out HK3.out) (only_keep HO4.out HSQ.out)) (only_keep HO5.out HSQ.out))
        have HS5 : Hide (W.heap.size ≤ w5.heap.size) := ⟨by rw [HO5.out.size, HO4.out.size]; exact Nat.le_trans HSZ.out HB3.out.size⟩
        clear c5 HO5 HO4 HQ4 HJr HK3 HB3 HBB
        obtain ⟨L, hL⟩ : ∃ L, (xs.drop (64 * i) ++ List.replicate (128 - r) 0).set r 128 = L := ⟨_, rfl⟩
        have HLL : Hide (L.length = 128) := ⟨by rw [← hL, List.length_set, List.length_append, HD.out.2, List.length_replicate]; omega⟩
        rw [hL] at HQ5
        have HLE := Hide.mk hL
        clear hL
        gi_loopw [31] (fun t wr => ∃ k : Nat, k ≤ 8 ∧ t = .int .i64 k ∧ wr.heap[q]? = some (.cells (ia .u8 (fin ((xs.length : Int) * 8) 128 L k)) 5 (0, 0)) ∧ J (chunksN xs i) wr ∧ W.heap.size ≤ wr.heap.size) (fun t _ => 8 - (intOf t).toNat)
        case atStart => exact ⟨0, by omega, rfl, HQ5.out, HJ5.out, HS5.out⟩
        case round =>
          clear HQ5 HJ5 HS5
          obtain ⟨k, hk, rfl, hq, hJr, hs⟩ := hrel
          have HQ := Hide.mk hq
          have HJr := Hide.mk hJr
          have HS := Hide.mk hs
          clear hq hJr hs
          by_cases hlt : k < 8
          · have hd : decide ((k : Int) < 8) = true := by simp; omega
            have f1 : IntKind.i64.wrap ((k : Int) + 1) = (k : Int) + 1 := IntWalk.i64_in _ (by omega)
            have f2 : IntKind.i64.wrap (127 - (k : Int)) = ((127 - k : Nat) : Int) := by rw [IntWalk.i64_in _ (by omega)]; omega
            have f3 : IntKind.i64.wrap (8 * (k : Int)) = ((8 * k : Nat) : Int) := by rw [IntWalk.i64_in _ (by omega)]; omega
            have f4 : (0 : Int) ≤ ((8 * k : Nat) : Int) := Int.natCast_nonneg _
            have f5 : ((8 * k : Nat) : Int) ≤ 64 := by omega
            have f6 : (0 : Int) ≤ ((127 - k : Nat) : Int) := Int.natCast_nonneg _
            have f7 : ((127 - k : Nat) : Int) < 128 := by omega
            gi_wp2_with (first | ((with_reducible refine gate_in_store (p := 45) (v := .tmp 44) rfl ?_); refine in_skip rfl rfl (by intro c hc; cases hc) (Plan.run_cell 5 (.tmp 45) (.tmp 44) rfl q (127 - k) rfl (.int .u8 ((xs.length : Int) * 8 / 2 ^ (8 * k) % 256)) rfl rfl rfl (by kernel_rfl) _ _ HQ.out (by rw [ia_size, fin_len, HLL.out]; omega)) ?_; have hq7 := blk_set HQ.out (127 - k) (.int .u8 ((xs.length : Int) * 8 / 2 ^ (8 * k) % 256)); rw [ia_set] at hq7; have HQ7 := Hide.mk hq7; have HO7 := Hide.mk (Only.setCell wr q (127 - k) (.int .u8 ((xs.length : Int) * 8 / 2 ^ (8 * k) % 256))); clear hq7; generalize wr.setCell ⟨q, 127 - k, none⟩ (.int .u8 ((xs.length : Int) * 8 / 2 ^ (8 * k) % 256)) = w7 at HQ7 HO7 ⊢; simp only [Act.put, List.setIfInBounds_toArray, List.set_cons_zero, List.set_cons_succ]))
            have HJ7 := Hide.mk (HJ.out _ _ _ HJr.out (only_keep HO7.out HSQ.out))
            go_roundw
            case rel => exact ⟨k + 1, by omega, by go_num, HQ7.out, HJ7.out, by rw [HO7.out.size]; exact HS.out⟩
            case measure => simp [intOf]; omega
          · obtain rfl : k = 8 := by omega
            rw [show ((8 : Nat) : Int) = 8 from rfl]
            obtain ⟨Lf, hLf⟩ : ∃ Lf, fin ((xs.length : Int) * 8) 128 L 8 = Lf := ⟨_, rfl⟩
            have hLfl : Lf.length = 128 := by rw [← hLf, fin_len, HLL.out]
            rw [hLf] at HQ
            have HLF := Hide.mk hLf
            clear hLf
            have HRQ : Hide (∀ w : World, w.heap[q]? = some (.cells (ia .u8 Lf) 5 (0, 0)) → ReadsInt w .u8 (some ⟨q, 0, none⟩) 128 (Lf.take 128)) := ⟨fun w h => by have := reads_of_blk h (by rw [hLfl]; decide); rw [hLfl] at this; exact this.take_ 128 (by decide)⟩
            have HPAD : Hide (pad xs = xs.take (64 * i) ++ Lf.take 128) := ⟨by rw [← HLF.out, ← HLE.out]; exact pad_end xs i r 128 HIR.out (.inr ⟨by omega, by omega, rfl⟩)⟩
            clear hLfl
            have HLB : Hide (Bytes (Lf.take 128)) := ⟨fun x hx => pad_bytes HBY.out x (by rw [HPAD.out]; exact List.mem_append.2 (.inr hx))⟩
            gi_wp2
            gi_loopw [4] (fun v4 wr => ∃ (j p : Nat) (A3 : Option Addr) (c3 : Nat), 128 = 64 * j + p ∧ p ≤ c3 ∧ v4 = .slice A3 p c3 ∧ (∀ w, ReadsInt w .u8 (some ⟨q, 0, none⟩) 128 (Lf.take 128) → ReadsInt w .u8 A3 p ((Lf.take 128).drop (64 * j))) ∧ wr.heap[q]? = some (.cells (ia .u8 Lf) 5 (0, 0)) ∧ J (chunksN xs i ++ chunksN (Lf.take 128) j) wr ∧ W.heap.size ≤ wr.heap.size) (fun v _ => lenV v)
            case atStart => exact ⟨0, 128, _, _, rfl, by decide, rfl, fun w h => h, HQ.out, by rw [show chunksN (Lf.take 128) 0 = [] from rfl, List.append_nil]; exact HJr.out, HS.out⟩
            case round =>
              clear HQ HJr HS
              obtain ⟨j, p, A3, c3, hjp, hpc, rfl, hA3, hq, hJr, hs⟩ := hrel
              have HQ := Hide.mk hq
              have HA3 := Hide.mk hA3
              have HJr := Hide.mk hJr
              have HS := Hide.mk hs
              have HJP := Hide.mk hjp
              clear hq hJr hs hA3
              by_cases h64b : 64 ≤ p
              · have hd : decide ((0 : Int) < (p : Int)) = true := by simp; omega
                have hr1 := HA3.out _ (HRQ.out _ HQ.out)
                obtain ⟨ad, rfl, hcells⟩ := hr1.2.2 (by omega)
                have hx : Arg (((Lf.take 128).drop (64 * j)).take 64) (.slice (some ad) 64 c3) wr := ⟨ad, c3, rfl, take_bytes (drop_bytes (HLB.out) _) _, by have := hr1.1; rw [List.length_take, this]; omega, hr1.take_ 64 h64b⟩
                obtain ⟨fn, tmps, assign, body, hy, hR⟩ := HY.out _ _ _ _ HJr.out hx
                obtain ⟨A4, hcut, hA4⟩ := cut64 (some ad) p c3 h64b
                have HCUT := Hide.mk hcut
                have HRR := Hide.mk hR
                clear hR hcut hx hr1 hcells hjp
                gi_wp2_with (first | ((with_reducible refine gate_in (N := 54) rfl ?_); refine in_run rfl rfl (by intro c hc; cases hc) (slice_hi_step 64 rfl rfl (by omega)) ?_; simp only [Act.put, List.setIfInBounds_toArray, List.set_cons_zero, List.set_cons_succ]))
                refine (round_any HRR.out).mono ?_
                rintro e w2 ⟨rfl, hJ2, hK2⟩
                have HJ2 := Hide.mk hJ2
                have HS2 : Hide (W.heap.size ≤ w2.heap.size) := ⟨Nat.le_trans HS.out hK2.size⟩
                have HQ2 := Hide.mk ((hK2.block q (blk_lt HQ.out) (fun h => by rcases h with h | h; (have h1 := HLW.out; have h2 := HSQ.out; omega); (have h1 := HKP.out _ h; have h2 := HSQ.out; omega))).trans HQ.out)
                clear hJ2 hK2 HRR hy HQ HJr
                gi_wp2_with (first | ((with_reducible refine gate_in (N := 51) rfl ?_); refine in_run rfl rfl (by intro c hc; cases hc) (HCUT.out _ _ _ _ rfl rfl) ?_; simp only [Act.put, List.setIfInBounds_toArray, List.set_cons_zero, List.set_cons_succ]))
                go_roundw
                case rel => exact ⟨j + 1, p - 64, A4, c3 - 64, by have := HJP.out; omega, by omega, rfl, fun w h => by
                  have := hA4 w .u8 _ hpc (HA3.out w h)
                  rwa [List.drop_drop, show 64 * j + 64 = 64 * (j + 1) by omega] at this, HQ2.out, by rw [chunks_succ, ← List.append_assoc]; exact HJ2.out, HS2.out⟩
                case measure => show p - 64 < p; omega
              · have hp0 : p = 0 := by omega
                subst hp0
                gi_wp2
                go_end0
                refine ⟨⟨_, rfl⟩, ?_⟩
                have hj : j = 2 := by have := HJP.out; omega
                have hm : (xs.length + 8) / 64 + 1 = i + 2 := by have := HIR.out; omega
                rw [hm, HPAD.out, chunks_append _ _ i (by have := HIR.out; rw [List.length_take]; omega), chunks_take _ _ (by have := HIR.out; omega), ← hj]
                exact ⟨_, rfl, HJr.out⟩

end Go.Proofs.Ythgklggcdnocdaa.Sh
