/- The plain law of CodecNumbers: for every two numbers, the walk's function answers true. No program in sight. -/
import Derived.Test.YtncejmjicjlanaaQ2
import Derived.Test.YtncejmjicjlanaaQ4
import Derived.Test.YtncejmjicjlanaaQ6
import Derived.Test.YtncejmjicjlanaaQ7
import Derived.Test.YtncejmjicjlanaaPNum
namespace Go.Proofs.Ytncejmjicjlanaa.Pure
open Go.RowKit Go.Proofs.Ytncejmjicjlanaa.Q Go.Proofs.YtncejmjicjlanaaW.PrintWords Go.Proofs.YtncejmjicjlanaaW.PrintLast
set_option linter.unusedSimpArgs false
set_option linter.unusedVariables false
theorem numl_len (u : Int) : (numl u).length ≤ 10 := numF_len 10 u
theorem enc_int (k : Nat) (a : Int) : codec_Encode.f (k + 1) 1 a ⟨#[]⟩ [] = some (1 :: numl (unsP a), 0) := by
  have e : encP ⟨1, a, ⟨#[]⟩, []⟩ = 1 :: numl (unsP a) := by simp [encP]
  have hl := numl_len (unsP a)
  unfold codec_Encode.f
  rw [e, if_pos (by simp; omega)]
  have hc : codec_Check.f (k + 1) 1 a ⟨#[]⟩ [] = some 0 := by
    unfold codec_Check.f codec_formed.f
    have hu : usedB 1 a ⟨#[]⟩ [] = true := by unfold usedB; rw [if_pos rfl]; kernel_rfl
    rw [if_pos hu, if_pos (by decide)]
    simp
  rw [hc]
  simp
theorem size_int (k : Nat) (a : Int) : codec_Size.f (k + 1) 1 a ⟨#[]⟩ [] = some (((numl (unsP a)).length : Int) + 1, 0) := by
  unfold codec_Size.f
  rw [enc_int]
  simp
theorem dec_int (k : Nat) (a : Int) (h0 : -9223372036854775808 ≤ a) (h1 : a ≤ 9223372036854775807) : codec_Decode.f k (1 :: numl (unsP a)) = some (1, a, ⟨#[]⟩, [], 0) := by
  have hl := numl_len (unsP a)
  have hr := unsP_range a
  have hn := numP_numl (unsP a) [] hr.1 hr.2
  rw [List.append_nil] at hn
  have hv : valP 16 (1 :: numl (unsP a)) = some (⟨1, a, ⟨#[]⟩, []⟩, []) := by
    unfold valP
    rw [if_pos (IntWalk.wrap64_in 1 (by omega)), hn]
    have hs := sigP_unsP a h0 h1
    unfold sigP at hs
    simp only [hs]
  unfold codec_Decode.f
  rw [if_pos (by simp; omega)]
  have hd : decP (1 :: numl (unsP a)) = (⟨1, a, ⟨#[]⟩, []⟩, 0) := by unfold decP; rw [hv]
  rw [hd]
theorem CodecNumbers : chartroomlaw01_CodecNumbers.Pure := by
  intro a0 a1 w0 w1
  have r0 : -9223372036854775808 ≤ a0 ∧ a0 ≤ 9223372036854775807 := by
    simp [Lit.wf, IntKind.min, IntKind.max, IntKind.bits, IntKind.signed] at w0
    omega
  have r1 : -9223372036854775808 ≤ a1 ∧ a1 ≤ 9223372036854775807 := by
    simp [Lit.wf, IntKind.min, IntKind.max, IntKind.bits, IntKind.signed] at w1
    omega
  refine ⟨5, ?_⟩
  have l0 := numl_len (unsP a0)
  have l1 := numl_len (unsP a1)
  have p0 := numl_pos (unsP a0)
  have p1 := numl_pos (unsP a1)
  have h1 : a0 ≥ 0 → a1 ≥ a0 → (numl (unsP a0)).length ≤ (numl (unsP a1)).length := fun h h2 => by
    unfold numl
    refine numF_mono 10 _ _ (unsP_range a0).1 ?_
    rw [unsP_eq a0 r0.1 r0.2, unsP_eq a1 r1.1 r1.2, if_pos (by omega), if_pos (by omega)]
    omega
  have h2 : a0 < 0 → a1 ≤ a0 → (numl (unsP a0)).length ≤ (numl (unsP a1)).length := fun h h2 => by
    unfold numl
    refine numF_mono 10 _ _ (unsP_range a0).1 ?_
    rw [unsP_eq a0 r0.1 r0.2, unsP_eq a1 r1.1 r1.2, if_neg (by omega), if_neg (by omega)]
    omega
  have hj1 : ∀ k, chartroomlaw01_CodecNumbers.j1 (k + 2) a0 false = some true := fun k => by
    unfold chartroomlaw01_CodecNumbers.j1
    simp only [chartroomref01_Int.f, Option.bind_some]
    rw [enc_int]
    simp only [Option.bind_some]
    rw [dec_int _ a0 r0.1 r0.2]
    simp
  unfold chartroomlaw01_CodecNumbers.f
  simp only [chartroomlaw01_sane.f, chartroomref01_Int.f, Option.bind_some, if_true]
  rw [size_int]
  simp only [Option.bind_some]
  rw [size_int]
  simp only [Option.bind_some, if_true]
  rw [if_neg (by omega), if_neg (by omega), if_neg (by omega)]
  have hd : decide ((((numl (unsP a1)).length : Int) + 1) > 11) = false := by simp; omega
  rw [hd]
  unfold chartroomlaw01_CodecNumbers.j0
  by_cases c0 : a0 ≥ 0
  · by_cases c1 : a1 ≥ a0
    · have := h1 c0 c1
      simp only [c0, c1, if_true, Bool.false_eq_true, if_false]
      rw [if_neg (by omega), if_neg (by omega)]
      exact hj1 2
    · simp only [c0, c1, if_true, Bool.false_eq_true, if_false]
      rw [if_neg (by omega)]
      exact hj1 2
  · by_cases c1 : a1 ≤ a0
    · have := h2 (by omega) c1
      have hd2 : decide ((((numl (unsP a1)).length : Int) + 1) < ((numl (unsP a0)).length : Int) + 1) = false := by simp; omega
      simp only [c0, c1, if_true, Bool.false_eq_true, if_false]
      rw [if_pos (by omega), hd2]
      exact hj1 2
    · simp only [c0, c1, if_true, Bool.false_eq_true, if_false]
      rw [if_pos (by omega)]
      exact hj1 2
end Go.Proofs.Ytncejmjicjlanaa.Pure
