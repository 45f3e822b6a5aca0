/- A block of SHA-256 over integers, as the program makes it: plain functions and their laws; no program in sight. -/
import Derived.Test.YthgklggcdnocdaaS4
import Derived.Test.YthgklggcdnocdaaS3
namespace Go.Proofs.Ythgklggcdnocdaa.Sh
open Go.RowKit
/-- Bytes as one number, the highest first. -/
def acc (l : List Int) : Int := l.foldl (fun a c => a * 256 + c) 0
theorem acc_snoc (l : List Int) (c : Int) : acc (l ++ [c]) = acc l * 256 + c := by simp [acc]
theorem pow256 {n m : Nat} (h : n ≤ m) : (256 : Int) ^ n ≤ 256 ^ m := by
  induction h with
  | refl => exact Int.le_refl _
  | @step m _ ih =>
    have hp : (0 : Int) < 256 ^ m := Int.pow_pos (by decide)
    rw [Int.pow_succ]
    omega
def Bytes (l : List Int) : Prop := ∀ x ∈ l, 0 ≤ x ∧ x ≤ 255
theorem acc_bd : ∀ (l : List Int), Bytes l → 0 ≤ acc l ∧ acc l < 256 ^ l.length := by
  intro l
  induction hn : l.length generalizing l with
  | zero => intro _; rw [List.length_eq_zero_iff.1 hn]; simp [acc]
  | succ n ih =>
    intro h
    have hne : l ≠ [] := by intro e; rw [e] at hn; simp at hn
    have e := (List.dropLast_concat_getLast hne).symm
    have hl : l.dropLast.length = n := by simp; omega
    have h1 := ih l.dropLast hl (fun x hx => h x (List.dropLast_subset l hx))
    have h2 := h _ (List.getLast_mem hne)
    rw [e, acc_snoc]
    have h3 : (256 : Int) ^ (n + 1) = 256 ^ n * 256 := Int.pow_succ _ _
    omega
/-- The words, i bytes having come. -/
def wi (bs : List Int) (i : Nat) : List Int := (List.range 64).map fun j => acc (((bs.take i).drop (4 * j)).take 4)
theorem wi_len (bs : List Int) (i : Nat) : (wi bs i).length = 64 := by simp [wi]
theorem wi_get (bs : List Int) (i j : Nat) (hj : j < 64) : (wi bs i).getD j 0 = acc (((bs.take i).drop (4 * j)).take 4) := by
  rw [List.getD_eq_getElem?_getD]; simp [wi, hj]
theorem wi_zero (bs : List Int) : wi bs 0 = List.replicate 64 0 := by
  rw [List.eq_replicate_iff]
  refine ⟨wi_len bs 0, fun x hx => ?_⟩
  simp only [wi, List.mem_map] at hx
  obtain ⟨j, _, rfl⟩ := hx
  simp [acc]
theorem wi_step (bs : List Int) (i : Nat) (hi : i < bs.length) (hl : bs.length = 64) : wi bs (i + 1) = (wi bs i).set (i / 4) ((wi bs i).getD (i / 4) 0 * 256 + bs.getD i 0) := by
  have hq : i / 4 < 64 := by omega
  apply List.ext_getElem?
  intro j
  by_cases hj : j < 64
  · rw [List.getElem?_set, wi_get bs i _ hq]
    have e1 : (wi bs (i + 1))[j]? = some (acc (((bs.take (i + 1)).drop (4 * j)).take 4)) := by simp [wi, hj]
    have e2 : (wi bs i)[j]? = some (acc (((bs.take i).drop (4 * j)).take 4)) := by simp [wi, hj]
    have hb : bs.take (i + 1) = bs.take i ++ [bs.getD i 0] := by
      rw [List.take_succ_eq_append_getElem hi, List.getD_eq_getElem?_getD, List.getElem?_eq_getElem hi]; rfl
    have ht : (bs.take i).length = i := by simp; omega
    rw [e1, e2, wi_len]
    by_cases he : i / 4 = j
    · subst he
      rw [if_pos rfl, if_pos hq]
      congr 1
      have h4 : ((bs.take i).drop (4 * (i / 4))).length = i - 4 * (i / 4) := by simp; omega
      rw [hb, List.drop_append_of_le_length (by omega)]
      generalize (bs.take i).drop (4 * (i / 4)) = X at h4 ⊢
      rw [List.take_of_length_le (l := X ++ [bs.getD i 0]) (by rw [List.length_append, h4]; simp; omega), List.take_of_length_le (l := X) (by omega), acc_snoc]
    · rw [if_neg he, hb]
      congr 2
      by_cases hlt : j < i / 4
      · rw [List.drop_append_of_le_length (by omega), List.take_append_of_le_length (by simp; omega)]
      · rw [List.drop_of_length_le (by simp; omega), List.drop_of_length_le (by omega)]
  · rw [List.getElem?_eq_none (by simp [wi]; omega), List.getElem?_eq_none (by simp [wi]; omega)]
theorem wi_bd (bs : List Int) (hb : Bytes bs) (i j : Nat) : 0 ≤ (wi bs i).getD j 0 ∧ (wi bs i).getD j 0 < 4294967296 := by
  by_cases hj : j < 64
  · rw [wi_get bs i j hj]
    have h1 := acc_bd (((bs.take i).drop (4 * j)).take 4) (fun x hx => hb x (List.mem_of_mem_take (List.mem_of_mem_drop (List.mem_of_mem_take hx))))
    have h2 : (((bs.take i).drop (4 * j)).take 4).length ≤ 4 := List.length_take_le _ _
    have h3 : (256 : Int) ^ (((bs.take i).drop (4 * j)).take 4).length ≤ 256 ^ 4 := pow256 h2
    omega
  · rw [List.getD_eq_getElem?_getD, List.getElem?_eq_none (by rw [wi_len]; omega)]; decide
/-- The word that a byte goes into has room for it. -/
theorem wi_room (bs : List Int) (hb : Bytes bs) (i : Nat) (hi : i < 64) : 0 ≤ (wi bs i).getD (i / 4) 0 ∧ (wi bs i).getD (i / 4) 0 < 16777216 := by
  rw [wi_get bs i _ (by omega)]
  have h1 := acc_bd (((bs.take i).drop (4 * (i / 4))).take 4) (fun x hx => hb x (List.mem_of_mem_take (List.mem_of_mem_drop (List.mem_of_mem_take hx))))
  have h2 : (((bs.take i).drop (4 * (i / 4))).take 4).length ≤ 3 := by
    have := List.length_take_le 4 ((bs.take i).drop (4 * (i / 4)))
    have h5 : ((bs.take i).drop (4 * (i / 4))).length ≤ i - 4 * (i / 4) := by simp; omega
    have h6 : (((bs.take i).drop (4 * (i / 4))).take 4).length ≤ ((bs.take i).drop (4 * (i / 4))).length := by simp; omega
    omega
  have h3 : (256 : Int) ^ (((bs.take i).drop (4 * (i / 4))).take 4).length ≤ 256 ^ 3 := pow256 h2
  omega
theorem shl_or (x c : Int) (h0 : 0 ≤ x) (h1 : x < 16777216) (h2 : 0 ≤ c) (h3 : c ≤ 255) : bits .or .u32 (x * 256) c = x * 256 + c := by
  rw [u32_or _ _ (by omega) (by omega) (by omega) (by omega)]
  have : (x * 256).toNat ||| c.toNat = (x * 256).toNat + c.toNat := nat_join8 _ _ (by omega) (by omega)
  rw [this]; omega
/-! ### The schedule and the rounds -/
def s1 (x : Int) : Int := bits .xor .u32 (bits .xor .u32 (rotr x 17) (rotr x 19)) (x / 1024)
def s0 (y : Int) : Int := bits .xor .u32 (bits .xor .u32 (rotr y 7) (rotr y 18)) (y / 8)
def w32 (x : Int) : Int := IntKind.u32.wrap x
/-- The program's next word. -/
def nxt (l : List Int) (t : Nat) : Int := w32 (w32 (w32 (l.getD (t + 9) 0 + l.getD t 0) + s1 (l.getD (t + 14) 0)) + s0 (l.getD (t + 1) 0))
def sch (l : List Int) : Nat → List Int
  | 0 => l
  | n + 1 => (sch l n).set (n + 16) (nxt (sch l n) n)
theorem sch_len (l : List Int) (n : Nat) : (sch l n).length = l.length := by
  induction n with
  | zero => rfl
  | succ n ih => simp [sch, ih]
structure S8 where
  (a b c d e f g h : Int)
def big (x i j k : Int) : Int := bits .xor .u32 (bits .xor .u32 (rotr x i) (rotr x j)) (rotr x k)
/-- The program's round. -/
def one (s : S8) (k w : Int) : Int := w32 (w32 (w32 (w32 (s.h + big s.e 6 11 25) + bits .xor .u32 s.g (bits .and .u32 s.e (bits .xor .u32 s.f s.g))) + k) + w)
def two (s : S8) : Int := w32 (big s.a 2 13 22 + bits .or .u32 (bits .and .u32 s.a s.b) (bits .and .u32 s.c (bits .or .u32 s.a s.b)))
def rnd (s : S8) (k w : Int) : S8 := { a := w32 (one s k w + two s), b := s.a, c := s.b, d := s.c, e := w32 (s.d + one s k w), f := s.e, g := s.f, h := s.g }
def rounds (K W : List Int) (s : S8) : Nat → S8
  | 0 => s
  | n + 1 => rnd (rounds K W s n) (K.getD n 0) (W.getD n 0)
def S8.list (s : S8) : List Int := [s.a, s.b, s.c, s.d, s.e, s.f, s.g, s.h]
/-- What a block makes of a state. -/
def blockF (s : S8) (bs : List Int) : S8 :=
  let r := rounds ks (sch (wi bs 64) 48) s 64
  { a := w32 (s.a + r.a), b := w32 (s.b + r.b), c := w32 (s.c + r.c), d := w32 (s.d + r.d), e := w32 (s.e + r.e), f := w32 (s.f + r.f), g := w32 (s.g + r.g), h := w32 (s.h + r.h) }
theorem w32_range (x : Int) : 0 ≤ w32 x ∧ w32 x < 4294967296 := by unfold w32; rw [IntKind.wrap_u32]; omega
end Go.Proofs.Ythgklggcdnocdaa.Sh
