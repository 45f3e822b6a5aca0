/- trial -/
import Derived.Test.YthgklggcdnocdaaProg
import Derived.WalkKit
import Derived.OwnWalk
import Derived.LoopTactic
import Derived.LoopN
import Derived.Outline
import Derived.WalkSpells
import Derived.WalkLawsBesides
import Derived.KernelRfl
import Derived.Laws.Bits64
import Derived.Laws.BitsAllLaws
namespace Go.Proofs.Ythgklggcdnocdaa.Sh
open Go.RowKit
set_option linter.unusedVariables false
set_option linter.unusedSimpArgs false
/-- A fact that the walk's simp doesn't look into. -/
structure Hide (p : Prop) : Prop where mk :: (out : p)
/-! ### The product of two words of 64 bits, as the library's text makes it -/
def m32 (x : Int) : Int := bits .and .u64 x 4294967295
def mT (x y : Int) : Int := IntKind.u64.wrap (IntKind.u64.wrap (x / 4294967296 * m32 y) + IntKind.u64.wrap (m32 x * m32 y) / 4294967296)
def mHi (x y : Int) : Int := IntKind.u64.wrap (IntKind.u64.wrap (IntKind.u64.wrap (x / 4294967296 * (y / 4294967296)) + mT x y / 4294967296) + IntKind.u64.wrap (m32 (mT x y) + IntKind.u64.wrap (m32 x * (y / 4294967296))) / 4294967296)
def mLo (x y : Int) : Int := IntKind.u64.wrap (x * y)
theorem wrap64_range (x : Int) : 0 ≤ IntKind.u64.wrap x ∧ IntKind.u64.wrap x ≤ 18446744073709551615 := by rw [IntKind.wrap_u64]; omega
theorem mHi_range (x y : Int) : 0 ≤ mHi x y ∧ mHi x y ≤ 18446744073709551615 := wrap64_range _
theorem mLo_range (x y : Int) : 0 ≤ mLo x y ∧ mLo x y ≤ 18446744073709551615 := wrap64_range _
set_option maxHeartbeats 1000000 in
set_option maxRecDepth 100000 in
theorem mul64 (x y : Int) (w : World) (h0 : 0 ≤ x) (h1 : x ≤ 18446744073709551615) (h2 : 0 ≤ y) (h3 : y ≤ 18446744073709551615) :
    Calls Try.prog 35 #[.int .u64 x, .int .u64 y] w fun e w' => e = .returned (.tuple #[.int .u64 (mHi x y), .int .u64 (mLo x y)]) ∧ w = w' := by
  go_enter Try.func35, Try.ntmps35
  go_wp2_with fail
  go_ret2
  exact ⟨rfl, rfl⟩
def cubeG (p x : Int) : Bool := decide (IntKind.u64.wrap (p * 4294967296) ≤ IntKind.u64.wrap (IntKind.u64.wrap (mHi x x * x) + mHi (mLo x x) x))
def squareG (p x : Int) : Bool := decide (p ≤ mHi x x)
set_option maxHeartbeats 1000000 in
set_option maxRecDepth 100000 in
theorem cube1 (x p : Int) (g : Nat) (w : World) (h0 : 0 ≤ x) (h1 : x ≤ 18446744073709551615) (hc : w.cell? ⟨g, 0, none⟩ = some (.int .u64 p)) :
    Calls Try.prog 34 #[.int .u64 x, .pointer (some ⟨g, 0, none⟩)] w fun e w' => e = .returned (.bool (cubeG p x)) ∧ w = w' := by
  have r1 := mLo_range x x
  go_enter Try.func34, Try.ntmps34
  go_wp2_with fail
  refine (mul64 x x _ h0 h1 h0 h1).mono ?_
  rintro e w' ⟨rfl, rfl⟩
  go_wp2_with fail
  refine (mul64 (mLo x x) x _ r1.1 r1.2 h0 h1).mono ?_
  rintro e w' ⟨rfl, rfl⟩
  go_wp2_with fail
  go_ret
  exact ⟨rfl, rfl⟩
set_option maxHeartbeats 1000000 in
set_option maxRecDepth 100000 in
theorem square1 (x p : Int) (g : Nat) (w : World) (h0 : 0 ≤ x) (h1 : x ≤ 18446744073709551615) (hc : w.cell? ⟨g, 0, none⟩ = some (.int .u64 p)) :
    Calls Try.prog 36 #[.int .u64 x, .pointer (some ⟨g, 0, none⟩)] w fun e w' => e = .returned (.bool (squareG p x)) ∧ w = w' := by
  go_enter Try.func36, Try.ntmps36
  go_wp2_with fail
  refine (mul64 x x _ h0 h1 h0 h1).mono ?_
  rintro e w' ⟨rfl, rfl⟩
  go_wp2_with fail
  go_ret
  exact ⟨rfl, rfl⟩
/-- The greatest number of which G does not say that it is too great, bit for bit from the highest. -/
def bl (G : Int → Bool) : Nat → Int → Int
  | 0, x => x
  | n + 1, x => if G (bits .or .u64 x (2 ^ n)) = true then bl G n x else bl G n (bits .or .u64 x (2 ^ n))
def bitk : Nat → Int
  | 0 => 0
  | n + 1 => 2 ^ n
theorem or_range (x : Int) (n : Nat) (h0 : 0 ≤ x) (h1 : x < 137438953472) (hn : n < 37) : 0 ≤ bits .or .u64 x (2 ^ n) ∧ bits .or .u64 x (2 ^ n) < 137438953472 := by
  have e : (2 : Int) ^ n = ((2 ^ n : Nat) : Int) := by simp
  have hp : 2 ^ n < 2 ^ 37 := Nat.pow_lt_pow_right (by decide) hn
  have hx : x.toNat < 2 ^ 37 := by omega
  rw [e, u64_or x _ h0 (by omega) (Int.natCast_nonneg _) (by omega)]
  have := Nat.or_lt_two_pow hx (show ((2 ^ n : Nat) : Int).toNat < 2 ^ 37 by omega)
  omega
theorem bitk_half (k : Nat) : bitk (k + 1) / 2 = bitk k := by
  cases k with
  | zero => rfl
  | succ k =>
    show (2 : Int) ^ (k + 1) / 2 = 2 ^ k
    rw [Int.pow_succ]; omega
theorem bitk_pos (k : Nat) : 0 < bitk (k + 1) := Int.pow_pos (by decide)
theorem bitk_le (k : Nat) (hk : k < 37) : bitk (k + 1) ≤ 68719476736 := by
  have : (2 : Int) ^ k = ((2 ^ k : Nat) : Int) := by simp
  have h2 : 2 ^ k ≤ 2 ^ 36 := Nat.pow_le_pow_right (by decide) (by omega)
  show (2 : Int) ^ k ≤ _
  omega
theorem bitk_nonneg (k : Nat) : 0 ≤ bitk k := by
  cases k with
  | zero => exact Int.le_refl _
  | succ k => exact Int.le_of_lt (bitk_pos k)
set_option maxHeartbeats 1000000 in
set_option maxRecDepth 100000 in
theorem below_cube (p : Int) (g : Nat) (w : World) (hc : w.cell? ⟨g, 0, none⟩ = some (.int .u64 p)) :
    Calls Try.prog 33 #[.func (.func 34) #[] #[.pointer (some ⟨g, 0, none⟩)]] w fun e w' => e = .returned (.int .u64 (bl (cubeG p) 37 0)) ∧ w = w' := by
  go_enter Try.func33, Try.ntmps33
  go_wp2_with fail
  go_loop [3, 4] (fun t b => ∃ (k : Nat) (x : Int), k ≤ 37 ∧ t = .int .u64 x ∧ b = .int .u64 (bitk k) ∧ 0 ≤ x ∧ x < 137438953472 ∧ bl (cubeG p) k x = bl (cubeG p) 37 0) (fun _ b => (intOf b).toNat)
  case atStart => exact ⟨37, 0, by omega, rfl, rfl, by omega, by omega, rfl⟩
  case round =>
    obtain ⟨k, x, hk, rfl, rfl, hx0, hx1, hbl⟩ := hrel
    have HB := Hide.mk hbl
    clear hbl
    cases k with
    | zero =>
      have hb0 : bitk 0 = 0 := rfl
      go_wp2_with fail
      go_ret
      exact ⟨congrArg (fun t => Ending.returned (.int .u64 t)) HB.out, rfl⟩
    | succ k =>
      have hb1 := bitk_pos k
      have hb2 := bitk_half k
      have hb4 := bitk_le k (by omega)
      have hb5 := bitk_nonneg k
      have hr := or_range x k hx0 hx1 (by omega)
      have HE : Hide (bl (cubeG p) (k + 1) x = if cubeG p (bits .or .u64 x (bitk (k + 1))) = true then bl (cubeG p) k x else bl (cubeG p) k (bits .or .u64 x (bitk (k + 1)))) := ⟨rfl⟩
      change 0 ≤ bits .or .u64 x (bitk (k + 1)) ∧ bits .or .u64 x (bitk (k + 1)) < 137438953472 at hr
      obtain ⟨hr0, hr1⟩ := hr
      generalize bitk (k + 1) = b at *
      go_wp2_with fail
      refine (cube1 (bits .or .u64 x b) p g _ hr0 (by omega) hc).mono ?_
      rintro e w' ⟨rfl, rfl⟩
      by_cases hG : cubeG p (bits .or .u64 x b) = true
      · have hE := HE.out
        rw [if_pos hG] at hE
        have HE2 := Hide.mk (hE.symm.trans HB.out)
        clear hE
        go_wp2_with fail
        go_round
        case rel => exact ⟨k, x, by omega, rfl, rfl, hx0, hx1, HE2.out⟩
        case measure => simp [intOf]; omega
      · have hE := HE.out
        rw [if_neg hG] at hE
        have HE2 := Hide.mk (hE.symm.trans HB.out)
        have hG' : cubeG p (bits .or .u64 x b) = false := by simpa using hG
        clear hE hG
        go_wp2_with fail
        go_round
        case rel => exact ⟨k, bits .or .u64 x b, by omega, rfl, rfl, hr0, hr1, HE2.out⟩
        case measure => simp [intOf]; omega
set_option maxHeartbeats 1000000 in
set_option maxRecDepth 100000 in
theorem below_square (p : Int) (g : Nat) (w : World) (hc : w.cell? ⟨g, 0, none⟩ = some (.int .u64 p)) :
    Calls Try.prog 33 #[.func (.func 36) #[] #[.pointer (some ⟨g, 0, none⟩)]] w fun e w' => e = .returned (.int .u64 (bl (squareG p) 37 0)) ∧ w = w' := by
  go_enter Try.func33, Try.ntmps33
  go_wp2_with fail
  go_loop [3, 4] (fun t b => ∃ (k : Nat) (x : Int), k ≤ 37 ∧ t = .int .u64 x ∧ b = .int .u64 (bitk k) ∧ 0 ≤ x ∧ x < 137438953472 ∧ bl (squareG p) k x = bl (squareG p) 37 0) (fun _ b => (intOf b).toNat)
  case atStart => exact ⟨37, 0, by omega, rfl, rfl, by omega, by omega, rfl⟩
  case round =>
    obtain ⟨k, x, hk, rfl, rfl, hx0, hx1, hbl⟩ := hrel
    have HB := Hide.mk hbl
    clear hbl
    cases k with
    | zero =>
      have hb0 : bitk 0 = 0 := rfl
      go_wp2_with fail
      go_ret
      exact ⟨congrArg (fun t => Ending.returned (.int .u64 t)) HB.out, rfl⟩
    | succ k =>
      have hb1 := bitk_pos k
      have hb2 := bitk_half k
      have hb4 := bitk_le k (by omega)
      have hb5 := bitk_nonneg k
      have hr := or_range x k hx0 hx1 (by omega)
      have HE : Hide (bl (squareG p) (k + 1) x = if squareG p (bits .or .u64 x (bitk (k + 1))) = true then bl (squareG p) k x else bl (squareG p) k (bits .or .u64 x (bitk (k + 1)))) := ⟨rfl⟩
      change 0 ≤ bits .or .u64 x (bitk (k + 1)) ∧ bits .or .u64 x (bitk (k + 1)) < 137438953472 at hr
      obtain ⟨hr0, hr1⟩ := hr
      generalize bitk (k + 1) = b at *
      go_wp2_with fail
      refine (square1 (bits .or .u64 x b) p g _ hr0 (by omega) hc).mono ?_
      rintro e w' ⟨rfl, rfl⟩
      by_cases hG : squareG p (bits .or .u64 x b) = true
      · have hE := HE.out
        rw [if_pos hG] at hE
        have HE2 := Hide.mk (hE.symm.trans HB.out)
        clear hE
        go_wp2_with fail
        go_round
        case rel => exact ⟨k, x, by omega, rfl, rfl, hx0, hx1, HE2.out⟩
        case measure => simp [intOf]; omega
      · have hE := HE.out
        rw [if_neg hG] at hE
        have HE2 := Hide.mk (hE.symm.trans HB.out)
        have hG' : squareG p (bits .or .u64 x b) = false := by simpa using hG
        clear hE hG
        go_wp2_with fail
        go_round
        case rel => exact ⟨k, bits .or .u64 x b, by omega, rfl, rfl, hr0, hr1, HE2.out⟩
        case measure => simp [intOf]; omega
def cubeK (p : Int) : Int := IntKind.u32.wrap (bl (cubeG p) 37 0)
set_option maxHeartbeats 1000000 in
set_option maxRecDepth 100000 in
theorem cube (p : Int) (w : World) : Calls Try.prog 28 #[.int .u64 p] w fun e w' => e = .returned (.int .u32 (cubeK p)) ∧ Below w.heap.size w w' := by
  go_enter Try.func28, Try.ntmps28
  go_wp2_with fail
  refine (below_cube p w.heap.size _ (by simp)).mono ?_
  rintro e w' ⟨rfl, rfl⟩
  go_wp2_with fail
  go_ret
  exact ⟨rfl, (Below.refl _ _).alloc (Nat.le_refl _) _⟩
def squareK (p : Int) : Int := IntKind.u32.wrap (bl (squareG p) 37 0)
set_option maxHeartbeats 1000000 in
set_option maxRecDepth 100000 in
theorem square (p : Int) (w : World) : Calls Try.prog 31 #[.int .u64 p] w fun e w' => e = .returned (.int .u32 (squareK p)) ∧ Below w.heap.size w w' := by
  go_enter Try.func31, Try.ntmps31
  go_wp2_with fail
  refine (below_square p w.heap.size _ (by simp)).mono ?_
  rintro e w' ⟨rfl, rfl⟩
  go_wp2_with fail
  go_ret
  exact ⟨rfl, (Below.refl _ _).alloc (Nat.le_refl _) _⟩
/-- The first n words of the square roots and of the cube roots, and the primes. -/
def isP (l : List Int) (p : Int) : Bool := l.all fun q => p % q != 0
/-- The primes below n + 2. -/
def prs : Nat → List Int
  | 0 => []
  | n + 1 => if isP (prs n) (n + 2) = true then prs n ++ [((n + 2 : Nat) : Int)] else prs n
def ks : List Int := (prs 310).map cubeK
def hs : List Int := (prs 18).map squareK
theorem prs64 : (prs 310).length = 64 := by decide +kernel
theorem prs8 : (prs 18).length = 8 := by decide +kernel
theorem ks_eq : ks = [
    0x428a2f98, 0x71374491, 0xb5c0fbcf, 0xe9b5dba5, 0x3956c25b, 0x59f111f1, 0x923f82a4, 0xab1c5ed5,
    0xd807aa98, 0x12835b01, 0x243185be, 0x550c7dc3, 0x72be5d74, 0x80deb1fe, 0x9bdc06a7, 0xc19bf174,
    0xe49b69c1, 0xefbe4786, 0x0fc19dc6, 0x240ca1cc, 0x2de92c6f, 0x4a7484aa, 0x5cb0a9dc, 0x76f988da,
    0x983e5152, 0xa831c66d, 0xb00327c8, 0xbf597fc7, 0xc6e00bf3, 0xd5a79147, 0x06ca6351, 0x14292967,
    0x27b70a85, 0x2e1b2138, 0x4d2c6dfc, 0x53380d13, 0x650a7354, 0x766a0abb, 0x81c2c92e, 0x92722c85,
    0xa2bfe8a1, 0xa81a664b, 0xc24b8b70, 0xc76c51a3, 0xd192e819, 0xd6990624, 0xf40e3585, 0x106aa070,
    0x19a4c116, 0x1e376c08, 0x2748774c, 0x34b0bcb5, 0x391c0cb3, 0x4ed8aa4a, 0x5b9cca4f, 0x682e6ff3,
    0x748f82ee, 0x78a5636f, 0x84c87814, 0x8cc70208, 0x90befffa, 0xa4506ceb, 0xbef9a3f7, 0xc67178f2] := by decide +kernel
theorem hs_eq : hs = [0x6a09e667, 0xbb67ae85, 0x3c6ef372, 0xa54ff53a, 0x510e527f, 0x9b05688c, 0x1f83d9ab, 0x5be0cd19] := by decide +kernel
end Go.Proofs.Ythgklggcdnocdaa.Sh
