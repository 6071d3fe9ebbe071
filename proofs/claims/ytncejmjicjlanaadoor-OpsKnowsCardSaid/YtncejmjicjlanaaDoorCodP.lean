/- Plain laws of the numerals; contract of the reference's encode. Rendered out of seat A's texts by cod.py of this session. -/
import Derived.Test.YtncejmjicjlanaaDoorCodA
import Derived.Test.YtncejmjicjlanaaDoorCodB
import Derived.IntWalk
import Derived.Lib.VarintBits
import Derived.Lib.Zigzag
namespace Go.Proofs.YtncejmjicjlanaaDoor.Q
section
set_option maxRecDepth 100000
set_option linter.unusedVariables false
open Go.RowKit Go.Proofs.YtncejmjicjlanaaDoorW.PrintWords Go.Proofs.YtncejmjicjlanaaDoorW.PrintLast Go.Proofs.YtncejmjicjlanaaDoorW.PrintMore
theorem pow7 (i : Nat) : (128 : Int) ^ i = 2 ^ (7 * i) := by rw [Int.pow_mul]; rfl
theorem pow_pos7 (i : Nat) : (0 : Int) < 128 ^ i := Int.pow_pos (by decide)
theorem pow_le9 (i : Nat) (h : i ≤ 9) : (128 : Int) ^ i ≤ 9223372036854775808 := by
  have h2 : (128 : Nat) ^ i ≤ 128 ^ 9 := Nat.pow_le_pow_right (by decide) h
  have h3 : (((128 : Nat) ^ i : Nat) : Int) ≤ ((128 ^ 9 : Nat) : Int) := by exact_mod_cast h2
  have h4 : (((128 : Nat) ^ i : Nat) : Int) = (128 : Int) ^ i := by simp
  rw [h4] at h3
  exact Int.le_trans h3 (by decide)
theorem digitP_eq (u : Int) (i : Nat) (c : Int) (h0 : 0 ≤ u) (h1 : u < 128 ^ i) (hi : i ≤ 9) (hc : 0 ≤ c) (hc2 : c < 256) (hb : (c % 128) * 128 ^ i < 18446744073709551616) : digitP u i c = u + (c % 128) * 128 ^ i := by
  unfold digitP
  rw [u8_and127 c hc hc2, IntWalk.wrap64_in _ (by omega)]
  have hmin : min (7 * (i : Int)).toNat 64 = 7 * i := by omega
  have hp := pow_pos7 i
  have hm : 0 ≤ c % 128 := by omega
  have hx0 : 0 ≤ (c % 128) * 128 ^ i := Int.mul_nonneg hm (Int.le_of_lt hp)
  rw [hmin, ← pow7, IntKind.wrap_u64, IntKind.wrap_u64, Int.emod_eq_of_lt hm (by omega), Int.emod_eq_of_lt hx0 hb]
  refine bits_join_low .u64 64 (by decide) wraps_u64 (7 * i) u _ h0 (by rw [← pow7]; exact h1) (by have := pow_le9 i hi; omega) hx0 ?_ hb
  rw [← pow7]
  exact Int.mul_emod_left _ _
theorem first_digit (u : Int) (h : 0 ≤ u) : Go.bits .or .u8 (u % 256) 128 = u % 128 + 128 := by
  rw [Lib.u8_or128_any _ (by omega) (by omega)]
  omega
theorem unsP_eq (n : Int) (h0 : -9223372036854775808 ≤ n) (h1 : n ≤ 9223372036854775807) : unsP n = if 0 ≤ n then 2 * n else -2 * n - 1 := by
  unfold unsP
  by_cases h : 0 ≤ n
  · rw [if_pos h]
    have e : n / 9223372036854775808 = 0 := by omega
    have e1 : IntKind.u64.wrap (IntKind.u64.wrap n * 2) = ((2 * n.toNat : Nat) : Int) := by
      rw [IntKind.wrap_u64, IntKind.wrap_u64]
      omega
    have e2 : IntKind.u64.wrap (0 : Int) = ((0 : Nat) : Int) := by decide
    rw [e, e1, e2, bits_xor_u64_nat _ _ (by omega) (by decide)]
    simp
    omega
  · rw [if_neg h]
    have e : n / 9223372036854775808 = -1 := by omega
    have e1 : IntKind.u64.wrap (IntKind.u64.wrap n * 2) = (((2 * n + 18446744073709551616).toNat : Nat) : Int) := by
      rw [IntKind.wrap_u64, IntKind.wrap_u64]
      omega
    have e2 : IntKind.u64.wrap (-1 : Int) = ((2 ^ 64 - 1 : Nat) : Int) := by decide
    rw [e, e1, e2, bits_xor_u64_nat _ _ (by omega) (by decide), Nat.xor_comm, Lib.xor_ones64 _ (by omega)]
    omega
/-- The integer with an unsigned form. -/
def sigP (u : Int) : Int := Go.bits .xor .i64 (wrap64 (u / 2)) (wrap64 (-(wrap64 (Go.bits .and .u64 u 1))))
theorem xor_i64_comm (a b : Int) : Go.bits .xor .i64 a b = Go.bits .xor .i64 b a := by
  show IntKind.i64.wrap ((BitVec.ofInt 64 a ^^^ BitVec.ofInt 64 b).toNat : Int) = IntKind.i64.wrap ((BitVec.ofInt 64 b ^^^ BitVec.ofInt 64 a).toNat : Int)
  rw [BitVec.xor_comm]
theorem xor_i64_zero (x : Nat) (hx : x < 9223372036854775808) : Go.bits .xor .i64 (x : Int) 0 = (x : Int) := by
  show IntKind.i64.wrap ((BitVec.ofInt 64 (x : Int) ^^^ BitVec.ofInt 64 0).toNat : Int) = _
  have h2 : (BitVec.ofInt 64 (x : Int)).toNat = x := by
    rw [BitVec.ofInt_natCast, BitVec.toNat_ofNat]; exact Nat.mod_eq_of_lt (by omega)
  have h1 : (BitVec.ofInt 64 0).toNat = 0 := by decide
  rw [BitVec.toNat_xor, h1, h2, IntKind.wrap_i64]
  simp
  omega
theorem sigP_eq (u : Int) (h0 : 0 ≤ u) (h1 : u < 18446744073709551616) : sigP u = if u % 2 = 0 then u / 2 else -(u / 2) - 1 := by
  unfold sigP
  rw [Lib.u64_and1 u h0 h1, IntWalk.wrap64_in (u / 2) (by omega), IntWalk.wrap64_in (u % 2) (by omega), IntWalk.wrap64_in _ (by omega)]
  obtain ⟨x, hx⟩ : ∃ x : Nat, u / 2 = (x : Int) := ⟨(u / 2).toNat, by omega⟩
  by_cases h : u % 2 = 0
  · rw [if_pos h, h, hx]
    exact xor_i64_zero x (by omega)
  · have e : u % 2 = 1 := by omega
    rw [if_neg h, e, hx, xor_i64_comm]
    exact Lib.i64_not x (by omega)
end
section
set_option maxRecDepth 100000
open Go.RowKit Go.Proofs.YtncejmjicjlanaaDoorW.PrintWords Go.Proofs.YtncejmjicjlanaaDoorW.PrintLast Go.Proofs.YtncejmjicjlanaaDoorW.PrintMore
set_option linter.unusedVariables false
set_option linter.unusedSimpArgs false
end
end Go.Proofs.YtncejmjicjlanaaDoor.Q
