/- PolyTags, the walk: the tag of any bytes by any key is the documented one, or they are refused; they stay as they were. -/
import Derived.Test.YtlhhjdhbkhjhjaaP26
import Derived.Test.YtlhhjdhbkhjhjaaP12
import Derived.Test.YtlhhjdhbkhjhjaaP7
import Derived.Test.YtlhhjdhbkhjhjaaKEq
namespace Go.Proofs.Ytlhhjdhbkhjhjaa.Po
open Go.RowKit Go.Proofs.YtlhhjdhbkhjhjaaW.PrintWords Go.Proofs.YtlhhjdhbkhjhjaaW.PrintLast Go.Proofs.YtlhhjdhbkhjhjaaW.PrintMore Mem Rg
attribute [local go_sem] Oper.semAt_some
set_option linter.unusedVariables false
set_option linter.unusedSimpArgs false
def resF (key xs : List Int) : List Int := if xs.length ≤ 4194304 then tagF key xs else List.replicate 16 0
def resE (xs : List Int) : Int := if xs.length ≤ 4194304 then 0 else 3
theorem resF_len (key xs : List Int) : (resF key xs).length = 16 := by unfold resF; split; exact digits_len _ _; rfl
theorem tag_all (key : List Int) (hk : key.length = 32) (hkb : Bytes key) (A : Option Addr) (cap : Nat) (xs : List Int) (w : World) (hby : Bytes xs) (hc : xs.length ≤ cap) (hr : ReadsInt w .u8 A xs.length xs) : Calls Try.prog 8 #[.agg (ia .u8 key), .slice A xs.length cap] w fun e w' => e = .returned (.tuple #[.agg (ia .u8 (resF key xs)), .int .i64 (resE xs)]) ∧ Below w.heap.size w w' := by
  by_cases h : xs.length ≤ 4194304
  · rw [resF, if_pos h, resE, if_pos h]; exact tag_any key hk hkb A cap xs w hby h hc hr
  · rw [resF, if_neg h, resE, if_neg h]; exact tag_big key hk A cap _ w (by omega)
theorem reftag_all (key : List Int) (hk : key.length = 32) (hkb : Bytes key) (A : Option Addr) (cap : Nat) (xs : List Int) (w : World) (hby : Bytes xs) (hc : xs.length ≤ cap) (hr : ReadsInt w .u8 A xs.length xs) : Calls Try.prog 9 #[.agg (ia .u8 key), .slice A xs.length cap] w fun e w' => e = .returned (.tuple #[.agg (ia .u8 (resF key xs)), .int .i64 (resE xs)]) ∧ Below w.heap.size w w' := by
  by_cases h : xs.length ≤ 4194304
  · rw [resF, if_pos h, resE, if_pos h]; exact reftag_any key hk hkb A cap xs w hby h hc hr
  · rw [resF, if_neg h, resE, if_neg h]; exact reftag_big key hk A cap _ w (by omega)
theorem reads_onlyp {w w1 : World} {g n : Nat} {A : Option Addr} {xs : List Int} (h : Only g w w1) (hr : ReadsInt w .u8 A n xs) (hne : ∀ ad, A = some ad → 0 < n → ad.block ≠ g) : ReadsInt w1 .u8 A n xs := by
  by_cases hp : 0 < n
  · exact reads_only h hr (fun ad e => hne ad e hp)
  · exact ⟨hr.1, hr.2.1, fun h => absurd h hp⟩
theorem reads_far {w : World} {A : Option Addr} {n g : Nat} {xs : List Int} (hr : ReadsInt w .u8 A n xs) (hg : w.heap.size ≤ g) : ∀ ad, A = some ad → 0 < n → ad.block ≠ g := fun ad e hp => by
  obtain ⟨ad', e', hcell⟩ := hr.2.2 hp
  rw [e] at e'
  cases e'
  have hh := World.block_lt_of_cell? _ _ (hcell 0 hp)
  rw [add_block] at hh
  omega
theorem eqArr25 {o : Oper} {a : Act} {x y : Operand} {l1 l2 : List Int} {w : World} (ho : o.op = .binOp .eql 25 x y 25) (hx : a.eval x = .agg (ia .u8 l1)) (hy : a.eval y = .agg (ia .u8 l2)) (h1 : l1.length = 16) (h2 : l2.length = 16) : (execOp a.eval o).run Try.prog w = .ok (.value (.bool (decide (l1 = l2)))) w := by
  unfold execOp
  simp only [ho, hx, hy]
  go_simp
  simp only [eq_ints 9998 Try.underlying25 Try.underlying5 (by kernel_rfl) (by kernel_rfl) _ _ h1 h2, Result.andThen_ok]
set_option maxHeartbeats 4000000 in
set_option maxRecDepth 100000 in
theorem tags_mid (key : List Int) (A : Option Addr) (cap n : Nat) (w : World) (h1 : 100000 < n) (h2 : n ≤ 4194304) : Calls Try.prog 3 #[.agg (ia .u8 key), .slice A n cap] w fun e w' => e = .returned (.bool true) ∧ Below w.heap.size w w' := by
  have d1 : decide ((100000 : Int) < (n : Int)) = true := by simp; omega
  have d2 : decide ((n : Int) ≤ 4194304) = true := by simp; omega
  clear h1 h2
  go_enter Try.func3, Try.ntmps3
  have HB0 := Hide.mk (Below.refl w.heap.size w)
  go_wp2_with (first | ((with_reducible refine gate_dst (N := 2) rfl ?_); refine box_event ?hg (N := 2) ?hd (cs := ia .u8 key) (t := 22) ?hr ?_; (case hd => rfl); (case hg => rfl); (case hr => kernel_rfl); intro g2 hg w1 hbox hb; have BKg2 := Hide.mk hbox; have HB1' := Hide.mk (below_step HB0.out hb); have GEg2 : w.heap.size ≤ g2 := (by rw [hg]; exact HB0.out.size); clear HB0; have HB1 := HB1'; clear HB1'; clear hbox hb hg))
  go_ret
  exact ⟨rfl, HB1.out⟩
set_option maxHeartbeats 4000000 in
set_option maxRecDepth 100000 in
theorem tags_huge (key : List Int) (A : Option Addr) (cap n : Nat) (w : World) (h1 : 8388608 < n) : Calls Try.prog 3 #[.agg (ia .u8 key), .slice A n cap] w fun e w' => e = .returned (.bool true) ∧ Below w.heap.size w w' := by
  have d1 : decide ((100000 : Int) < (n : Int)) = true := by simp; omega
  have d2 : decide ((n : Int) ≤ 4194304) = false := by simp; omega
  have d3 : decide ((8388608 : Int) < (n : Int)) = true := by simp; omega
  clear h1
  go_enter Try.func3, Try.ntmps3
  have HB0 := Hide.mk (Below.refl w.heap.size w)
  go_wp2_with (first | ((with_reducible refine gate_dst (N := 2) rfl ?_); refine box_event ?hg (N := 2) ?hd (cs := ia .u8 key) (t := 22) ?hr ?_; (case hd => rfl); (case hg => rfl); (case hr => kernel_rfl); intro g2 hg w1 hbox hb; have BKg2 := Hide.mk hbox; have HB1' := Hide.mk (below_step HB0.out hb); have GEg2 : w.heap.size ≤ g2 := (by rw [hg]; exact HB0.out.size); clear HB0; have HB1 := HB1'; clear HB1'; clear hbox hb hg))
  go_ret
  exact ⟨rfl, HB1.out⟩
set_option maxHeartbeats 4000000 in
set_option maxRecDepth 100000 in
theorem tags_walk (key : List Int) (hk : key.length = 32) (hkb : Bytes key) (A : Option Addr) (cap : Nat) (xs : List Int) (w : World) (hby : Bytes xs) (hc : xs.length ≤ cap) (hr : ReadsInt w .u8 A xs.length xs) (h1 : ¬ (100000 < xs.length ∧ xs.length ≤ 4194304)) (h2 : xs.length ≤ 8388608) : Calls Try.prog 3 #[.agg (ia .u8 key), .slice A xs.length cap] w fun e w' => e = .returned (.bool true) ∧ Below w.heap.size w w' := by
  have HK := Hide.mk hk
  have HKB := Hide.mk hkb
  have HBY := Hide.mk hby
  have HC := Hide.mk hc
  have HR := Hide.mk hr
  have H2 := Hide.mk h2
  have HRL := Hide.mk (resF_len key xs)
  have d3 : decide ((8388608 : Int) < (xs.length : Int)) = false := by simp; omega
  clear hk hkb hby hc hr
  by_cases hlo : xs.length ≤ 100000
  all_goals
    first
    | (have d1 : decide ((100000 : Int) < (xs.length : Int)) = false := (by simp; omega))
    | (have d1 : decide ((100000 : Int) < (xs.length : Int)) = true := (by simp; omega); have d2 : decide ((xs.length : Int) ≤ 4194304) = false := (by simp; omega))
    clear h1 h2 hlo
    go_enter Try.func3, Try.ntmps3
    have HB0 := Hide.mk (Below.refl w.heap.size w)
    go_wp2_with (first | ((with_reducible refine gate_dst (N := 2) rfl ?_); refine box_event ?hg (N := 2) ?hd (cs := ia .u8 key) (t := 22) ?hr ?_; (case hd => rfl); (case hg => rfl); (case hr => kernel_rfl); intro g2 hg w1 hbox hb; have BKg2 := Hide.mk hbox; have HB1' := Hide.mk (below_step HB0.out hb); have GEg2 : w.heap.size ≤ g2 := (by rw [hg]; exact HB0.out.size); clear HB0; have HB1 := HB1'; clear HB1'; clear hbox hb hg))
    have HR1 := Hide.mk (HR.out.below HB1.out)
    clear HR
    refine (twin_any A cap xs w1 (by have := H2.out; omega) HR1.out).mono ?_
    rintro e w3 ⟨g, d, rfl, hd1, hrt, hb, hg⟩
    have HD := Hide.mk hd1
    have HT := Hide.mk hrt
    have HR := Hide.mk (HR1.out.below hb)
    have HB3 := Hide.mk (below_step HB1.out hb)
    have BKg2' := Hide.mk (blk_below BKg2.out hb)
    have HT0 := Hide.mk (show ReadsInt w3 .u8 (some ⟨g, 0, none⟩) xs.length xs from by have := hrt.take_ xs.length (by omega); rwa [List.take_append_of_le_length (by omega), List.take_length] at this)
    clear hd1 hrt hb hg BKg2 HR1 HB1
    have BKg2 := BKg2'
    clear BKg2'
    try clear d1
    try clear d2
    clear d3
    go_wp2_with (first | ((with_reducible refine gate_dst (N := 26) rfl ?_); refine wpList_load_row rfl 22 (.tmp 2) rfl g2 rfl 22 _ (0, 0) _ BKg2.out Try.underlying22 rfl ?hsz ?_; (case hsz => rw [ia_size, HK.out]; kernel_rfl)))
    refine (tag_all key HK.out HKB.out (some ⟨g, 0, none⟩) d xs _ HBY.out (by have := HD.out; omega) HT0.out).mono ?_
    rintro e w4 ⟨rfl, hb⟩
    clear HT0
    have HB4 := Hide.mk (below_step HB3.out hb)
    have HT_ := Hide.mk (HT.out.below hb)
    have HR_ := Hide.mk (HR.out.below hb)
    have BKg2_ := Hide.mk (blk_below BKg2.out hb)
    clear hb HB3 HT HR BKg2
    have HT := HT_
    have HR := HR_
    have BKg2 := BKg2_
    clear HT_ HR_ BKg2_
    go_wp2_with (first | ((with_reducible refine gate_dst (N := 6) rfl ?_); refine box_event ?hg (N := 6) ?hd (cs := ia .u8 (List.replicate 16 0)) (t := 25) ?hr ?_; (case hd => rfl); (case hg => rfl); (case hr => kernel_rfl); intro g6 hg w5 hbox hb; have Lg2g6 : g2 < g6 := (by rw [hg]; exact blk_lt BKg2.out); have BKg6 := Hide.mk hbox; have HB5 := Hide.mk (below_step HB4.out hb); have GEg6 : w.heap.size ≤ g6 := (by rw [hg]; exact HB4.out.size); have NTg6 := Hide.mk (reads_far HT.out (Nat.le_of_eq hg.symm)); have NRg6 := Hide.mk (reads_far HR.out (Nat.le_of_eq hg.symm)); have HT_ := Hide.mk (HT.out.below hb); have HR_ := Hide.mk (HR.out.below hb); have BKg2_ := Hide.mk (blk_below BKg2.out hb); clear HB4 HT HR BKg2; have HT := HT_; have HR := HR_; clear HT_ HR_; have BKg2 := BKg2_; clear BKg2_; clear hbox hb hg) | ((with_reducible refine gate_store (p := 6) (v := .tmp 29) rfl ?_); go_must (refine store_row rfl rfl 25 (.tmp 6) (.tmp 29) rfl g6 rfl (ia .u8 (resF key xs)) rfl (ia_one _ _) (by rw [ia_size, HRL.out]; kernel_rfl) _ _ BKg6.out (by rw [ia_size, ia_size, HRL.out]; rfl) ?_); intro w6 hb ho; have BKg6_ := Hide.mk hb; have HB5_ := Hide.mk (ho.below HB5.out GEg6); have HT_ := Hide.mk (reads_onlyp ho HT.out NTg6.out); have HR_ := Hide.mk (reads_onlyp ho HR.out NRg6.out); have BKg2_ := Hide.mk (ho.blk BKg2.out (by omega)); clear BKg6 HB5 HT HR BKg2; have BKg6 := BKg6_; have HB5 := HB5_; have HT := HT_; have HR := HR_; clear BKg6_ HB5_ HT_ HR_; have BKg2 := BKg2_; clear BKg2_; clear hb ho) | ((with_reducible refine gate_dst (N := 32) rfl ?_); refine wpList_load_row rfl 22 (.tmp 2) rfl g2 rfl 22 _ (0, 0) _ BKg2.out Try.underlying22 rfl ?hsz ?_; (case hsz => rw [ia_size, HK.out]; kernel_rfl)))
    refine (reftag_all key HK.out HKB.out A cap xs _ HBY.out HC.out HR.out).mono ?_
    rintro e w7 ⟨rfl, hb⟩
    have HB7 := Hide.mk (below_step HB5.out hb)
    have HT_ := Hide.mk (HT.out.below hb)
    have HR_ := Hide.mk (HR.out.below hb)
    have BKg2_ := Hide.mk (blk_below BKg2.out hb)
    have BKg6_ := Hide.mk (blk_below BKg6.out hb)
    clear hb HB5 HT HR BKg2 BKg6
    have HT := HT_
    have HR := HR_
    have BKg2 := BKg2_
    have BKg6 := BKg6_
    clear HT_ HR_ BKg2_ BKg6_
    obtain ⟨R, hR⟩ : ∃ R, resF key xs = R := ⟨_, rfl⟩
    rw [hR] at HRL BKg6 ⊢
    clear hR BKg2
    generalize resE xs = ec
    have hdR : decide (R = R) = true := by simp
    go_wp2_with (first | ((with_reducible refine gate_dst (N := 8) rfl ?_); refine box_event ?hg (N := 8) ?hd (cs := ia .u8 (List.replicate 16 0)) (t := 25) ?hr ?_; (case hd => rfl); (case hg => rfl); (case hr => kernel_rfl); intro g8 hg w8 hbox hb; have Lg6g8 : g6 < g8 := (by rw [hg]; exact blk_lt BKg6.out); have BKg8 := Hide.mk hbox; have HB8 := Hide.mk (below_step HB7.out hb); have GEg8 : w.heap.size ≤ g8 := (by rw [hg]; exact HB7.out.size); have NTg8 := Hide.mk (reads_far HT.out (Nat.le_of_eq hg.symm)); have NRg8 := Hide.mk (reads_far HR.out (Nat.le_of_eq hg.symm)); have HT_ := Hide.mk (HT.out.below hb); have HR_ := Hide.mk (HR.out.below hb); have BKg6_ := Hide.mk (blk_below BKg6.out hb); clear HB7 HT HR BKg6; have HT := HT_; have HR := HR_; clear HT_ HR_; have BKg6 := BKg6_; clear BKg6_; clear hbox hb hg) | ((with_reducible refine gate_store (p := 8) (v := .tmp 35) rfl ?_); go_must (refine store_row rfl rfl 25 (.tmp 8) (.tmp 35) rfl g8 rfl (ia .u8 R) rfl (ia_one _ _) (by rw [ia_size, HRL.out]; kernel_rfl) _ _ BKg8.out (by rw [ia_size, ia_size, HRL.out]; rfl) ?_); intro w9 hb ho; have BKg8_ := Hide.mk hb; have HB8_ := Hide.mk (ho.below HB8.out GEg8); have HT_ := Hide.mk (reads_onlyp ho HT.out NTg8.out); have HR_ := Hide.mk (reads_onlyp ho HR.out NRg8.out); have BKg6_ := Hide.mk (ho.blk BKg6.out (by omega)); clear BKg8 HB8 HT HR BKg6; have BKg8 := BKg8_; have HB8 := HB8_; have HT := HT_; have HR := HR_; clear BKg8_ HB8_ HT_ HR_; have BKg6 := BKg6_; clear BKg6_; clear hb ho) | ((with_reducible refine gate_dst (N := 37) rfl ?_); refine wpList_load_row rfl 25 (.tmp 6) rfl g6 rfl 25 _ (0, 0) _ BKg6.out Try.underlying25 rfl ?hsz ?_; (case hsz => rw [ia_size, HRL.out]; kernel_rfl)) | ((with_reducible refine gate_dst (N := 38) rfl ?_); refine wpList_load_row rfl 25 (.tmp 8) rfl g8 rfl 25 _ (0, 0) _ BKg8.out Try.underlying25 rfl ?hsz ?_; (case hsz => rw [ia_size, HRL.out]; kernel_rfl)) | ((with_reducible refine gate_dst (N := 39) rfl ?_); refine Kd.event_run rfl (eqArr25 rfl rfl rfl HRL.out HRL.out) ?_))
    refine (left_any g d A cap xs _ (by have := H2.out; omega) HD.out HT.out HR.out).mono ?_
    rintro e w10 ⟨rfl, hb⟩
    have HB10 := Hide.mk (below_step HB8.out hb)
    clear hb
    go_wp2_with fail
    go_ret
    exact ⟨rfl, HB10.out⟩
theorem tags_all (key : List Int) (hk : key.length = 32) (hkb : Bytes key) (A : Option Addr) (cap : Nat) (xs : List Int) (w : World) (hby : Bytes xs) (hc : xs.length ≤ cap) (hr : ReadsInt w .u8 A xs.length xs) : Calls Try.prog 3 #[.agg (ia .u8 key), .slice A xs.length cap] w fun e w' => e = .returned (.bool true) ∧ Below w.heap.size w w' := by
  by_cases h1 : 100000 < xs.length ∧ xs.length ≤ 4194304
  · exact tags_mid key A cap _ w h1.1 h1.2
  · by_cases h2 : xs.length ≤ 8388608
    · exact tags_walk key hk hkb A cap xs w hby hc hr h1 h2
    · exact tags_huge key A cap _ w (by omega)
end Go.Proofs.Ytlhhjdhbkhjhjaa.Po
