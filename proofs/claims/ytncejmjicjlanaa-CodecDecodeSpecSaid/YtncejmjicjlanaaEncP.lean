/- The plain functions of codec's writers: a numeral, the encoding of a value. No program in sight. -/
import Derived.Test.YtncejmjicjlanaaQ0
import Derived.Test.YtncejmjicjlanaaQ2
namespace Go.Proofs.Ytncejmjicjlanaa.Q
set_option linter.unusedVariables false
open Go.RowKit Go.Proofs.YtncejmjicjlanaaW.PrintWords Go.Proofs.YtncejmjicjlanaaW.PrintLast Go.Proofs.YtncejmjicjlanaaW.PrintMore
/-- The digits of a number. -/
def numF : Nat → Int → List Int
  | 0, _ => []
  | k + 1, u => if u ≥ 128 then (Go.bits .or .u8 (u % 256) 128) :: numF k (u / 128) else [u % 256]
def numl (u : Int) : List Int := numF 10 u
/-- The unsigned form of an integer. -/
def unsP (n : Int) : Int := Go.bits .xor .u64 (IntKind.u64.wrap ((IntKind.u64.wrap n) * 2)) (IntKind.u64.wrap (n / 9223372036854775808))
mutual
/-- The encoding of a value. -/
def encP : S24 → List Int
  | ⟨K, N, S, L⟩ => if K = 1 then 1 :: numl (unsP N) else if K = 2 then 2 :: (numl (S.size : Int) ++ bytesOf S) else 3 :: (numl (L.length : Int) ++ encL L)
def encL : List S24 → List Int
  | [] => []
  | v :: vs => encP v ++ encL vs
end
mutual
/-- Has a value, and has what it holds, a kind that there is? -/
def wfP : S24 → Bool
  | ⟨K, N, S, L⟩ => if K = 3 then wfL L else (K == 1 || K == 2)
def wfL : List S24 → Bool
  | [] => true
  | v :: vs => wfP v && wfL vs
end
mutual
/-- Are the numbers of a value, and of what it holds, numbers of 64 bits? -/
def okI : S24 → Bool
  | ⟨K, N, S, L⟩ => decide ((-9223372036854775808 ≤ N ∧ N ≤ 9223372036854775807) ∧ S.size < 9223372036854775808) && okIL L
def okIL : List S24 → Bool
  | [] => true
  | v :: vs => okI v && okIL vs
end
theorem okIL_mem : ∀ {L : List S24} {v : S24}, okIL L = true → v ∈ L → okI v = true
  | [], v, _, h => by cases h
  | x :: L, v, h, hm => by
    unfold okIL at h
    rw [Bool.and_eq_true] at h
    rcases List.mem_cons.1 hm with rfl | hm
    · exact h.1
    · exact okIL_mem h.2 hm
theorem okI_parts {K N : Int} {S : ByteArray} {L : List S24} (h : okI ⟨K, N, S, L⟩ = true) : ((-9223372036854775808 ≤ N ∧ N ≤ 9223372036854775807) ∧ S.size < 9223372036854775808) ∧ okIL L = true := by
  unfold okI at h
  rw [Bool.and_eq_true, decide_eq_true_eq] at h
  exact h
theorem wfL_mem : ∀ {L : List S24} {v : S24}, wfL L = true → v ∈ L → wfP v = true
  | [], v, _, h => by cases h
  | x :: L, v, h, hm => by
    unfold wfL at h
    rw [Bool.and_eq_true] at h
    rcases List.mem_cons.1 hm with rfl | hm
    · exact h.1
    · exact wfL_mem h.2 hm
theorem encL_append : ∀ (a b : List S24), encL (a ++ b) = encL a ++ encL b
  | [], b => by simp [encL]
  | v :: a, b => by simp [encL, encL_append a b]
theorem encL_snoc (L : List S24) (i : Nat) (h : i < L.length) : encL (L.take (i + 1)) = encL (L.take i) ++ encP L[i] := by
  rw [List.take_succ_eq_append_getElem h, encL_append]
  simp [encL]
theorem encL_take_le (L : List S24) (i : Nat) : (encL (L.take i)).length ≤ (encL L).length := by
  have h : encL L = encL (L.take i) ++ encL (L.drop i) := by rw [← encL_append, List.take_append_drop]
  rw [h, List.length_append]
  omega
theorem encP_pos (v : S24) : 0 < (encP v).length := by
  obtain ⟨K, N, S, L⟩ := v
  unfold encP
  split
  · simp
  · split <;> simp
theorem encL_len : ∀ (L : List S24), L.length ≤ (encL L).length
  | [] => by simp
  | v :: L => by
    have := encL_len L
    have := encP_pos v
    simp [encL]
    omega
theorem numeral_eval : ∀ (k : Nat) (l : List Int) (u : Int), 0 ≤ u → u < 128 ^ (k + 1) → l.length + k < 140737488355328 → codec_numeral.l0 (k + 1) l u = some (l ++ numF (k + 1) u)
  | 0, l, u, h0, h1, hl => by
    unfold codec_numeral.l0 numF
    rw [if_neg (by simp at h1; omega), if_pos (by omega), if_neg (by simp at h1; omega)]
  | k + 1, l, u, h0, h1, hl => by
    unfold codec_numeral.l0 numF
    by_cases hu : u ≥ 128
    · rw [if_pos hu, if_pos (by omega), if_pos hu]
      rw [numeral_eval k _ _ (by omega) (by rw [Int.pow_succ] at h1; omega) (by simp; omega)]
      simp
    · rw [if_neg hu, if_pos (by omega), if_neg hu]
theorem numl_eval (l : List Int) (u : Int) (h0 : 0 ≤ u) (h1 : u < 18446744073709551616) (hl : l.length < 140737488000000) : codec_numeral.f 10 l u = some (l ++ numl u) :=
  numeral_eval 9 l u h0 (by have : (18446744073709551616 : Int) ≤ 128 ^ (9 + 1) := by decide
                            omega) (by omega)
theorem numF_len : ∀ (k : Nat) (u : Int), (numF k u).length ≤ k
  | 0, u => by simp [numF]
  | k + 1, u => by
    unfold numF
    split
    · have := numF_len k (u / 128)
      simp; omega
    · simp
theorem unsP_range (n : Int) : 0 ≤ unsP n ∧ unsP n < 18446744073709551616 := by
  unfold unsP Go.bits
  simp only [IntKind.wrap_u64]
  omega
end Go.Proofs.Ytncejmjicjlanaa.Q
