/- Plain laws of codec's numerals: reading what was written, and the other way; the unsigned form of an integer. No program in sight. -/
import Derived.Test.YtncejmjicjlanaaEncP
import Derived.Test.YtncejmjicjlanaaDecP
import Derived.Lib.Zigzag
import Derived.Lib.VarintBits
import Derived.IntWalk
namespace Go.Proofs.Ytncejmjicjlanaa.Q
set_option linter.unusedVariables false
open Go.RowKit Go.Proofs.YtncejmjicjlanaaW.PrintWords Go.Proofs.YtncejmjicjlanaaW.PrintLast Go.Proofs.YtncejmjicjlanaaW.PrintMore
theorem pow7 (i : Nat) : (128 : Int) ^ i = 2 ^ (7 * i) := by rw [Int.pow_mul]; rfl
theorem pow_pos7 (i : Nat) : (0 : Int) < 128 ^ i := Int.pow_pos (by decide)
theorem pow_le9 (i : Nat) (h : i ≤ 9) : (128 : Int) ^ i ≤ 9223372036854775808 := by
  have h2 : (128 : Nat) ^ i ≤ 128 ^ 9 := Nat.pow_le_pow_right (by decide) h
  have h3 : (((128 : Nat) ^ i : Nat) : Int) ≤ ((128 ^ 9 : Nat) : Int) := by exact_mod_cast h2
  have h4 : (((128 : Nat) ^ i : Nat) : Int) = (128 : Int) ^ i := by simp
  rw [h4] at h3
  exact Int.le_trans h3 (by decide)
theorem digitP_eq (u : Int) (i : Nat) (c : Int) (h0 : 0 ≤ u) (h1 : u < 128 ^ i) (hi : i ≤ 9) (hc : 0 ≤ c) (hc2 : c < 256) (hb : (c % 128) * 128 ^ i < 18446744073709551616) : digitP u i c = u + (c % 128) * 128 ^ i := by
  unfold digitP
  rw [u8_and127 c hc hc2, IntWalk.wrap64_in _ (by omega)]
  have hmin : min (7 * (i : Int)).toNat 64 = 7 * i := by omega
  have hp := pow_pos7 i
  have hm : 0 ≤ c % 128 := by omega
  have hx0 : 0 ≤ (c % 128) * 128 ^ i := Int.mul_nonneg hm (Int.le_of_lt hp)
  rw [hmin, ← pow7, IntKind.wrap_u64, IntKind.wrap_u64, Int.emod_eq_of_lt hm (by omega), Int.emod_eq_of_lt hx0 hb]
  refine bits_join_low .u64 64 (by decide) wraps_u64 (7 * i) u _ h0 (by rw [← pow7]; exact h1) (by have := pow_le9 i hi; omega) hx0 ?_ hb
  rw [← pow7]
  exact Int.mul_emod_left _ _
theorem first_digit (u : Int) (h : 0 ≤ u) : Go.bits .or .u8 (u % 256) 128 = u % 128 + 128 := by
  rw [Lib.u8_or128_any _ (by omega) (by omega)]
  omega
/-- Reading a numeral that was written. -/
theorem numP_numF : ∀ (k : Nat) (u : Int) (i : Nat) (acc : Int) (rest : List Int), 0 ≤ u → u < 128 ^ (k + 1) → 0 ≤ acc → acc < 128 ^ i → i ≤ 9 → acc + u * 128 ^ i < 18446744073709551616 → (i = 0 ∨ u ≠ 0) → numP (numF (k + 1) u ++ rest) i acc = some (acc + u * 128 ^ i, rest)
  | k, u, i, acc, rest, h0, h1, ha0, ha1, hi, ht, hz => by
    have hp := pow_pos7 i
    by_cases hu : u ≥ 128
    · have h128 : (128 : Int) * 128 ^ i ≤ u * 128 ^ i := Int.mul_le_mul_of_nonneg_right hu (Int.le_of_lt hp)
      have hi9 : i < 9 := by
        rcases Nat.lt_or_ge i 9 with h | h
        · exact h
        · have : i = 9 := by omega
          subst this
          have e9 : (128 : Int) ^ 9 = 9223372036854775808 := by decide
          rw [e9] at h128 ht
          omega
      unfold numF
      rw [if_pos hu, first_digit u h0, List.cons_append]
      unfold numP
      rw [if_pos ⟨.inr (by omega), .inl hi9⟩, if_neg (by omega)]
      have hmd : (u % 128 + 128) % 128 = u % 128 := by omega
      have hle : (u % 128) * 128 ^ i ≤ u * 128 ^ i := Int.mul_le_mul_of_nonneg_right (by omega) (Int.le_of_lt hp)
      rw [digitP_eq acc i _ ha0 ha1 hi (by omega) (by omega) (by rw [hmd]; omega), hmd]
      cases k with
      | zero => simp at h1; omega
      | succ k =>
        have hs : u * 128 ^ i = (u % 128) * 128 ^ i + (u / 128) * 128 ^ (i + 1) := by
          rw [Int.pow_succ, Int.mul_comm (128 ^ i) 128, ← Int.mul_assoc, ← Int.add_mul]
          congr 1
          omega
        have hlt : acc + (u % 128) * 128 ^ i < 128 ^ (i + 1) := by
          have : (u % 128) * 128 ^ i ≤ 127 * 128 ^ i := Int.mul_le_mul_of_nonneg_right (by omega) (Int.le_of_lt hp)
          rw [Int.pow_succ]
          omega
        rw [numP_numF k (u / 128) (i + 1) _ rest (by omega) (by rw [Int.pow_succ] at h1; omega) (by have := Int.mul_nonneg (show 0 ≤ u % 128 by omega) (Int.le_of_lt hp); omega) hlt (by omega) (by omega) (.inr (by omega)), hs]
        congr 2
        omega
    · unfold numF
      have e256 : u % 256 = u := by omega
      rw [if_neg hu, e256]
      simp only [List.cons_append, List.nil_append]
      unfold numP
      have h9 : i < 9 ∨ u ≤ 1 := by
        rcases Nat.lt_or_ge i 9 with h | h
        · exact .inl h
        · have : i = 9 := by omega
          subst this
          have e9 : (128 : Int) ^ 9 = 9223372036854775808 := by decide
          rw [e9] at ht
          exact .inr (by omega)
      rw [if_pos ⟨hz, h9⟩, if_pos (by omega)]
      have hmd : u % 128 = u := by omega
      rw [digitP_eq acc i _ ha0 ha1 hi (by omega) (by omega) (by rw [hmd]; omega), hmd]
theorem numP_numl (u : Int) (rest : List Int) (h0 : 0 ≤ u) (h1 : u < 18446744073709551616) : numP (numl u ++ rest) 0 0 = some (u, rest) := by
  have h := numP_numF 9 u 0 0 rest h0 (by have : (18446744073709551616 : Int) ≤ 128 ^ (9 + 1) := by decide
                                          omega) (by decide) (by decide) (by decide) (by simp; omega) (.inl rfl)
  unfold numl
  rw [h]
  simp
theorem unsP_eq (n : Int) (h0 : -9223372036854775808 ≤ n) (h1 : n ≤ 9223372036854775807) : unsP n = if 0 ≤ n then 2 * n else -2 * n - 1 := by
  unfold unsP
  by_cases h : 0 ≤ n
  · rw [if_pos h]
    have e : n / 9223372036854775808 = 0 := by omega
    have e1 : IntKind.u64.wrap (IntKind.u64.wrap n * 2) = ((2 * n.toNat : Nat) : Int) := by
      rw [IntKind.wrap_u64, IntKind.wrap_u64]
      omega
    have e2 : IntKind.u64.wrap (0 : Int) = ((0 : Nat) : Int) := by decide
    rw [e, e1, e2, bits_xor_u64_nat _ _ (by omega) (by decide)]
    simp
    omega
  · rw [if_neg h]
    have e : n / 9223372036854775808 = -1 := by omega
    have e1 : IntKind.u64.wrap (IntKind.u64.wrap n * 2) = (((2 * n + 18446744073709551616).toNat : Nat) : Int) := by
      rw [IntKind.wrap_u64, IntKind.wrap_u64]
      omega
    have e2 : IntKind.u64.wrap (-1 : Int) = ((2 ^ 64 - 1 : Nat) : Int) := by decide
    rw [e, e1, e2, bits_xor_u64_nat _ _ (by omega) (by decide), Nat.xor_comm, Lib.xor_ones64 _ (by omega)]
    omega
/-- The integer with an unsigned form. -/
def sigP (u : Int) : Int := Go.bits .xor .i64 (wrap64 (u / 2)) (wrap64 (-(wrap64 (Go.bits .and .u64 u 1))))
theorem xor_i64_comm (a b : Int) : Go.bits .xor .i64 a b = Go.bits .xor .i64 b a := by
  show IntKind.i64.wrap ((BitVec.ofInt 64 a ^^^ BitVec.ofInt 64 b).toNat : Int) = IntKind.i64.wrap ((BitVec.ofInt 64 b ^^^ BitVec.ofInt 64 a).toNat : Int)
  rw [BitVec.xor_comm]
theorem xor_i64_zero (x : Nat) (hx : x < 9223372036854775808) : Go.bits .xor .i64 (x : Int) 0 = (x : Int) := by
  show IntKind.i64.wrap ((BitVec.ofInt 64 (x : Int) ^^^ BitVec.ofInt 64 0).toNat : Int) = _
  have h2 : (BitVec.ofInt 64 (x : Int)).toNat = x := by
    rw [BitVec.ofInt_natCast, BitVec.toNat_ofNat]; exact Nat.mod_eq_of_lt (by omega)
  have h1 : (BitVec.ofInt 64 0).toNat = 0 := by decide
  rw [BitVec.toNat_xor, h1, h2, IntKind.wrap_i64]
  simp
  omega
theorem sigP_eq (u : Int) (h0 : 0 ≤ u) (h1 : u < 18446744073709551616) : sigP u = if u % 2 = 0 then u / 2 else -(u / 2) - 1 := by
  unfold sigP
  rw [Lib.u64_and1 u h0 h1, IntWalk.wrap64_in (u / 2) (by omega), IntWalk.wrap64_in (u % 2) (by omega), IntWalk.wrap64_in _ (by omega)]
  obtain ⟨x, hx⟩ : ∃ x : Nat, u / 2 = (x : Int) := ⟨(u / 2).toNat, by omega⟩
  by_cases h : u % 2 = 0
  · rw [if_pos h, h, hx]
    exact xor_i64_zero x (by omega)
  · have e : u % 2 = 1 := by omega
    rw [if_neg h, e, hx, xor_i64_comm]
    exact Lib.i64_not x (by omega)
theorem sigP_unsP (n : Int) (h0 : -9223372036854775808 ≤ n) (h1 : n ≤ 9223372036854775807) : sigP (unsP n) = n := by
  have hr := unsP_range n
  rw [sigP_eq _ hr.1 hr.2, unsP_eq n h0 h1]
  split <;> split <;> omega
theorem numF_mono : ∀ (k : Nat) (u v : Int), 0 ≤ u → u ≤ v → (numF k u).length ≤ (numF k v).length
  | 0, u, v, _, _ => by simp [numF]
  | k + 1, u, v, h0, h => by
    unfold numF
    by_cases hu : u ≥ 128
    · rw [if_pos hu, if_pos (by omega)]
      have := numF_mono k (u / 128) (v / 128) (by omega) (by omega)
      simp
      exact this
    · rw [if_neg hu]
      split <;> simp
theorem numl_pos (u : Int) : 1 ≤ (numl u).length := by
  unfold numl numF
  split <;> simp
end Go.Proofs.Ytncejmjicjlanaa.Q
