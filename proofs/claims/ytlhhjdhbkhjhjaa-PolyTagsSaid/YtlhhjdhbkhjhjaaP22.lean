/- The reference's Left. -/
import Derived.Test.YtlhhjdhbkhjhjaaP28
namespace Go.Proofs.Ytlhhjdhbkhjhjaa.Po
open Go.RowKit Go.Proofs.YtlhhjdhbkhjhjaaW.PrintWords Go.Proofs.YtlhhjdhbkhjhjaaW.PrintLast Go.Proofs.YtlhhjdhbkhjhjaaW.PrintMore Mem Rg
attribute [local go_sem] Oper.semAt_some
set_option linter.unusedVariables false
set_option linter.unusedSimpArgs false
theorem build5 {o : Oper} {a : Act} {w : World} (ho : o.op = .buildSlice 47 1 #[(0, .const (.int .u64 5))]) :
    (execOp a.eval o).run Try.prog w = .ok (.value (.slice (some ⟨w.heap.size, 0, none⟩) 1 1)) (w.alloc (.cells #[.int .u64 5] 37 (0, 0))) := by
  unfold execOp
  simp only [ho, List.map_toArray, List.map_cons, List.map_nil, show a.eval (.const (.int .u64 5)) = .int .u64 5 from rfl]
  kernel_rfl
theorem slice17 {o : Oper} {a : Act} {x : Operand} {A : Option Addr} {n c : Nat} {w : World} (ho : o.op = .slice 47 x none (some (.const (.int .i64 17))) none) (hx : a.eval x = .slice A n c) (hm : 17 ≤ c) :
    (execOp a.eval o).run Try.prog w = .ok (.value (.slice A 17 c)) w := by
  have hi : (Try.prog.info? 37).isSome = true := by kernel_rfl
  obtain ⟨ii, hi⟩ := Option.isSome_iff_exists.1 hi
  have hu : Try.prog.underlying 47 = some (.slice (Try.prog.elem 47)) := by kernel_rfl
  have he : Try.prog.elem 47 = 37 := by kernel_rfl
  have hr := run_slice_h w 47 A n c hu .i64 17 (by decide) (by omega)
  rw [he, run_sizeOf w hi] at hr
  have hA : A.map (·.add 0) = A := by cases A <;> rfl
  have hs : ∀ s, sliced A 0 (17 : Int).toNat c s = .slice A 17 c := fun s => by
    unfold sliced
    simp [hA]
  rw [Result.andThen_ok, hs] at hr
  unfold execOp
  simp only [ho, hx, show a.eval (.const (.int .i64 17)) = .int .i64 17 from rfl, Option.map_some, Option.map_none, run_sliceAt_slice (h := hu), hr, Sem.run_bind, Result.andThen_ok, Sem.run_pure]
/-- The folds of Left. -/
def foldN (l : List Int) : Nat → List Int
  | 0 => l
  | i + 1 => digits 34 (foldV (valB (foldN l i)))
theorem foldN_len {l : List Int} (hl : l.length = 34) : ∀ i, (foldN l i).length = 34
  | 0 => hl
  | i + 1 => digits_len _ _
theorem foldN_bytes {l : List Int} (hl : Bytes l) : ∀ i, Bytes (foldN l i)
  | 0 => hl
  | i + 1 => digits_bytes _ _
theorem foldN_val {l : List Int} (hl : l.length = 34) (hb : Bytes l) : 0 ≤ valB (foldN l 4) ∧ valB (foldN l 4) < 1361129467683753853853498429727072845824 ∧ valB (foldN l 4) % PP = valB l % PP := by
  have h0 := valB_bd l hb
  rw [hl] at h0
  have h1 : valB (foldN l 1) = foldV (valB l) := by rw [foldN, foldN, valB_digits]; exact Int.emod_eq_of_lt (by unfold foldV; omega) (by unfold foldV; omega)
  have h2 : valB (foldN l 2) = foldV (valB (foldN l 1)) := by rw [foldN, valB_digits]; exact Int.emod_eq_of_lt (by rw [h1]; unfold foldV; omega) (by rw [h1]; unfold foldV; omega)
  have b2 : 0 ≤ valB (foldN l 2) ∧ valB (foldN l 2) < 1361129467683753853853498429727072845824 + 1000000 := by rw [h2, h1]; unfold foldV; omega
  have h3 : valB (foldN l 3) = foldV (valB (foldN l 2)) := by rw [foldN, valB_digits]; exact Int.emod_eq_of_lt (by unfold foldV; omega) (by unfold foldV; omega)
  have b3 : 0 ≤ valB (foldN l 3) ∧ valB (foldN l 3) < 1361129467683753853853498429727072845824 := by rw [h3]; unfold foldV; omega
  have h4 : valB (foldN l 4) = foldV (valB (foldN l 3)) := by rw [foldN, valB_digits]; exact Int.emod_eq_of_lt (by unfold foldV; omega) (by unfold foldV; omega)
  have m : ∀ v, foldV v % PP = v % PP := fun v => by unfold foldV PP; omega
  refine ⟨by rw [h4]; unfold foldV; omega, by rw [h4]; unfold foldV; omega, by rw [h4, m, h3, m, h2, m, h1, m]⟩
theorem digits_take : ∀ (n m : Nat) (v : Int), n ≤ m → (digits m v).take n = digits n v
  | 0, _, _, _ => by simp [digits]
  | n + 1, 0, _, h => by omega
  | n + 1, m + 1, v, h => by rw [digits, digits, List.take_succ_cons, digits_take n m _ (by omega)]
theorem digits_full (l : List Int) (hb : Bytes l) (n : Nat) (hl : l.length = n) : digits n (valB l) = l := by rw [← hl]; exact digits_valB l hb
theorem top_get (v : Int) : (digits 34 v).getD 16 0 = v / 340282366920938463463374607431768211456 % 256 := by
  rw [digits_get 34 v 16 (by decide), show (256 : Int) ^ 16 = 340282366920938463463374607431768211456 by decide]
theorem left_no {x : Int} (h0 : 0 ≤ x) (h1 : x < 1361129467683753853853498429727072845824) (h : ¬ 4 ≤ (digits 34 (x + 5)).getD 16 0) : x % PP = x := by
  rw [top_get] at h
  unfold PP
  omega
theorem left_yes {x : Int} (h0 : 0 ≤ x) (h1 : x < 1361129467683753853853498429727072845824) (h : 4 ≤ (digits 34 (x + 5)).getD 16 0) : ((digits 34 (x + 5)).set 16 ((digits 34 (x + 5)).getD 16 0 - 4)).take 17 = digits 17 (x % PP) := by
  have hx : x % PP = x + 5 - 1361129467683753853853498429727072845824 := by
    rw [top_get] at h
    unfold PP
    omega
  have hb := bytes_get (digits_bytes 34 (x + 5)) 16
  have hg : (digits 17 (x + 5)).getD 16 0 = (digits 34 (x + 5)).getD 16 0 := by rw [digits_get 17 _ 16 (by decide), digits_get 34 _ 16 (by decide)]
  rw [List.take_set, digits_take 17 34 _ (by decide)]
  generalize (digits 34 (x + 5)).getD 16 0 = y at *
  have hlen : ((digits 17 (x + 5)).set 16 (y - 4)).length = 17 := by rw [List.length_set, digits_len]
  have hby : Bytes ((digits 17 (x + 5)).set 16 (y - 4)) := bytes_of_get fun i hi => Sm.set (Sm.of_bytes (digits_bytes 17 (x + 5))) 16 (by omega) (by omega) i
  rw [← digits_full _ hby 17 hlen, valB_set _ _ _ (by rw [digits_len]; decide), valB_digits, hg, hx]
  congr 1
  rw [show y - 4 - y = -4 by omega, Int.emod_eq_of_lt (by omega) (by omega)]
  omega
set_option maxHeartbeats 4000000 in
set_option maxRecDepth 100000 in
theorem refleft_any (A : Option Addr) (c : Nat) (l : List Int) (w : World) (hl : l.length = 34) (hb : Bytes l) (hc : 34 ≤ c) (hr : ReadsInt w .u64 A 34 l) : Calls Try.prog 24 #[.slice A 34 c] w fun e w' => ∃ B d, e = .returned (.slice B 17 d) ∧ 17 ≤ d ∧ ReadsInt w' .u64 B 17 (digits 17 (valB l % PP)) ∧ Below w.heap.size w w' := by
  have HL := Hide.mk hl
  have HBY := Hide.mk hb
  have HC := Hide.mk hc
  have HR := Hide.mk hr
  have HB0 := Hide.mk (Below.refl w.heap.size w)
  clear hl hb hc hr
  go_enter Try.func24, Try.ntmps24
  go_wp2
  go_loopg [0, 3] 4 (fun gp v0 v3 wy => ∃ (i : Nat) (B : Option Addr) (d : Nat), i + gp = 4 ∧ v3 = .int .i64 i ∧ v0 = .slice B 34 d ∧ 34 ≤ d ∧ ReadsInt wy .u64 B 34 (foldN l i) ∧ Below w.heap.size w wy)
  case atStart => exact ⟨0, A, c, rfl, rfl, rfl, HC.out, HR.out, HB0.out⟩
  case round =>
    clear HR HC HB0
    obtain ⟨i, B, d, hi, rfl, rfl, hd, hr, hb⟩ := hrel
    have HR := Hide.mk hr
    have HB := Hide.mk hb
    have HD := Hide.mk hd
    clear hr hb hd
    by_cases hlt : i < 4
    · have hd : decide ((i : Int) < 4) = true := by simp; omega
      have f1 : IntKind.i64.wrap ((i : Int) + 1) = (i : Int) + 1 := IntWalk.i64_in _ (by omega)
      go_wp2_with fail
      refine (fold_any B d (foldN l i) wr (foldN_len HL.out i) (foldN_bytes HBY.out i) HD.out HR.out).mono ?_
      rintro e w5 ⟨B5, d5, rfl, hd5, hr5, hb5⟩
      have HD5 := Hide.mk hd5
      have HR5 := Hide.mk hr5
      have HB5 := Hide.mk (below_step HB.out hb5)
      clear hd5 hr5 hb5 HR HB HD
      go_wp2_with fail
      go_roundg (gk - 1)
      case measure => omega
      case rel => exact ⟨i + 1, B5, d5, by omega, by go_num, rfl, HD5.out, HR5.out, HB5.out⟩
    · obtain rfl : i = 4 := by omega
      rw [show ((4 : Nat) : Int) = 4 from rfl]
      have HFL : Hide ((foldN l 4).length = 34) := ⟨foldN_len HL.out 4⟩
      have HFB : Hide (Bytes (foldN l 4)) := ⟨foldN_bytes HBY.out 4⟩
      obtain ⟨x0, x1, hxv⟩ := foldN_val HL.out HBY.out
      have HFD : Hide (digits 34 (valB (foldN l 4)) = foldN l 4) := ⟨digits_full _ HFB.out 34 HFL.out⟩
      have HXV := Hide.mk hxv
      have HX := Hide.mk (And.intro x0 x1)
      clear hxv x0 x1
      obtain ⟨F, hF⟩ : ∃ F, foldN l 4 = F := ⟨_, rfl⟩
      rw [hF] at HFL HFB HFD HXV HX HR
      clear hF hi
      go_wp2_with (first | ((with_reducible refine gate_dst (N := 12) rfl ?_); refine Kd.event_run rfl (v := .slice (some ⟨wr.heap.size, 0, none⟩) 1 1) (w1 := wr.alloc (.cells #[.int .u64 5] 37 (0, 0))) (build5 rfl) ?_; have HN7 := Hide.mk (heap_alloc_new wr (.cells #[.int .u64 5] 37 (0, 0))); have HB7' := Hide.mk (below_alloc (Below.refl wr.heap.size wr) (.cells #[.int .u64 5] 37 (0, 0))); have HB7 := Hide.mk (below_step HB.out HB7'.out); have HR7 := Hide.mk (HR.out.below HB7'.out); clear HR HB HB7'; generalize wr.alloc (.cells #[.int .u64 5] 37 (0, 0)) = w7 at HN7 HB7 HR7 ⊢; generalize wr.heap.size = b7 at HN7 ⊢))
      refine (add_any B (some ⟨b7, 0, none⟩) d 1 34 1 F [5] w7 HFL.out (by decide) HFB.out HD.out HR7.out rfl (by decide) (by unfold Bytes; decide) (by decide) (reads_of_blk (k := .u64) (l := [5]) HN7.out (by decide))).mono ?_
      rintro e w8 ⟨g, f, rfl, hf, hg, hrow, hb⟩
      have HB8 := Hide.mk (below_step HB7.out hb)
      have HR8 := Hide.mk (HR7.out.below hb)
      have GEg : w.heap.size ≤ g := Nat.le_trans HB7.out.size hg
      have HF8 := Hide.mk hf
      rw [show valB F + valB [5] = valB F + 5 from rfl] at hrow
      obtain ⟨x, hx⟩ : ∃ x, valB F = x := ⟨_, rfl⟩
      rw [hx] at hrow HXV HX HFD
      have HTL : Hide ((digits 34 (x + 5)).length = 34) := ⟨digits_len _ _⟩
      have HTB := Hide.mk (bytes_get (digits_bytes 34 (x + 5)) 16)
      have HNO : Hide (¬ 4 ≤ (digits 34 (x + 5)).getD 16 0 → x % PP = x) := ⟨left_no HX.out.1 HX.out.2⟩
      have HYES : Hide (4 ≤ (digits 34 (x + 5)).getD 16 0 → ((digits 34 (x + 5)).set 16 ((digits 34 (x + 5)).getD 16 0 - 4)).take 17 = digits 17 (x % PP)) := ⟨left_yes HX.out.1 HX.out.2⟩
      have HTK17 : Hide (F.take 17 = digits 17 x) := ⟨by rw [← HFD.out]; exact digits_take 17 34 x (by decide)⟩
      obtain ⟨T, hT⟩ : ∃ T, digits 34 (x + 5) = T := ⟨_, rfl⟩
      rw [hT] at hrow HTL HTB HNO HYES
      obtain ⟨cur, hcur, hsz, htk⟩ := hrow
      have cx := roww_cell hcur htk 16 (by rw [HTL.out]; decide)
      have BKg := Hide.mk hcur
      have HSZ := Hide.mk hsz
      have HTK := Hide.mk htk
      obtain ⟨y, hy⟩ : ∃ y, T.getD 16 0 = y := ⟨_, rfl⟩
      rw [hy] at cx HTB HNO HYES
      clear hcur hsz htk hb hg hf hx hT hy HN7 HB7 HR7 HX HFD
      obtain ⟨y0, y1⟩ := HTB.out
      by_cases h4 : 4 ≤ y
      · have hd4 : decide (4 ≤ y) = true := by simpa using h4
        go_wp2_with (first | ((with_reducible refine gate_store (p := 23) (v := .tmp 22) rfl ?_); refine store_cell rfl rfl 37 (.tmp 23) (.tmp 22) rfl g 16 (by first | rfl | go_simp) (.int .u64 (y - 4)) rfl rfl rfl (by kernel_rfl) _ _ BKg.out ?hlt ?_; (case hlt => (have h1 := HSZ.out; have h2 := HTL.out; omega)); intro w9 hb ho; have BKg9 := Hide.mk hb; have HB9 := Hide.mk (ho.below HB8.out GEg); clear BKg HB8 hb ho) | ((with_reducible refine gate_dst (N := 25) rfl ?_); refine Kd.event_run rfl (w1 := w9) (slice17 rfl rfl (Nat.le_trans (by decide) HF8.out)) ?_))
        go_ret
        refine ⟨some ⟨g, 0, none⟩, f, rfl, Nat.le_trans (by decide) HF8.out, ?_, HB9.out⟩
        have hrw : RowW w9 g (T.set 16 (y - 4)) := ⟨_, BKg9.out, by rw [List.length_set, Array.size_setIfInBounds]; exact HSZ.out, roww_set HSZ.out HTK.out 16 _⟩
        have hrd := (hrw.reads (by rw [List.length_set, HTL.out]; decide)).take_ 17 (by rw [List.length_set, HTL.out]; decide)
        rwa [HYES.out h4, HXV.out] at hrd
      · have hd4 : decide (4 ≤ y) = false := by simpa using h4
        go_wp2_with (first | ((with_reducible refine gate_dst (N := 27) rfl ?_); refine Kd.event_run rfl (w1 := w8) (slice17 rfl rfl (Nat.le_trans (by decide) HD.out)) ?_))
        go_ret
        refine ⟨B, d, rfl, Nat.le_trans (by decide) HD.out, ?_, HB8.out⟩
        have hrd := HR8.out.take_ 17 (by decide)
        rwa [HTK17.out, ← HNO.out (by omega), HXV.out] at hrd
end Go.Proofs.Ytlhhjdhbkhjhjaa.Po
