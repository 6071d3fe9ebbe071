/- VectorSpec answers true, plain Lean. -/
import Derived.Test.YtncejmjicjlanaaDoorEvalJ
import Derived.Test.YtncejmjicjlanaaDoorQ10
namespace Go.Proofs.YtncejmjicjlanaaDoor.Q
open Go.RowKit Go.Proofs.YtncejmjicjlanaaDoorW.PrintWords Go.Proofs.YtncejmjicjlanaaDoorW.PrintLast Go.Proofs.YtncejmjicjlanaaDoorW.PrintMore
set_option linter.unusedVariables false
set_option linter.unusedSimpArgs false

theorem pureSpec (k : Nat) (hk : 20000 ≤ k) (l0 : List S24) (d x0 x1 : Int) : chartroomlaw12_VectorSpec.f k l0 d x0 x1 = some true := by
  have hsane : chartroomlaw12_sane.f k = some true := if_pos (by omega)
  unfold chartroomlaw12_VectorSpec.f chartroomref12_Few.f
  rw [hsane, Option.bind_some, if_pos rfl, Option.bind_some]
  by_cases h0 : (l0.length : Int) ≤ 600
  · have hw : vector_With.f k l0 x0 x1 = some (if chk2 l0 [⟨x0, x1⟩] = 0 then (mrg mx (prs l0 [⟨x0, x1⟩]), 0) else ([], chk2 l0 [⟨x0, x1⟩])) := by
      unfold vector_With.f
      rw [Join_eq k l0 _ (by omega) (by simp) (by omega) (by simp; omega), Option.bind_some]
    have hcov : chartroomref12_Covers.f k l0 x0 x1 = vector_Covers.f l0 x0 x1 := by
      unfold chartroomref12_Covers.f vector_Covers.f
      rw [rAt_eq k l0 x0 (by omega) (by omega)]
      rfl
    have hcov2 : ∃ b, vector_Covers.f l0 x0 x1 = some b := by
      unfold vector_Covers.f vector_At.f
      split <;> exact ⟨_, rfl⟩
    obtain ⟨b, hb⟩ := hcov2
    rw [if_pos (decide_eq_true h0), hw, rWith_eq k l0 x0 x1 (by omega) hk, Option.bind_some, Option.bind_some, vCheck_eq k l0 (by omega) (by omega), rCheck_eq k l0 (by omega) (by omega), Option.bind_some, Option.bind_some, if_pos rfl]
    rw [show vector_At.f l0 d = some (atN l0 d) from rfl, rAt_eq k l0 d (by omega) (by omega), Option.bind_some, Option.bind_some, if_pos rfl, hcov, hb, Option.bind_some, Option.bind_some, if_pos (by simp)]
    have hlen : (if chk2 l0 [(⟨x0, x1⟩ : S24)] = 0 then (mrg mx (prs l0 [⟨x0, x1⟩]), (0 : Int)) else ([], chk2 l0 [⟨x0, x1⟩])).1.length ≤ 1000 := by
      by_cases h : chk2 l0 [(⟨x0, x1⟩ : S24)] = 0
      · obtain ⟨va, vb⟩ := chk2_zero.mp h
        have := mrg_len mx va vb
        rw [if_pos h]
        simp only [List.length_singleton] at this
        show (mrg mx (prs l0 [⟨x0, x1⟩])).length ≤ 1000
        omega
      · rw [if_neg h]
        simp
    rw [Same_eq k _ _ (by omega) (by omega), Option.bind_some, if_pos (by simp)]
    simp
  · rw [if_neg (by simpa using h0)]
end Go.Proofs.YtncejmjicjlanaaDoor.Q
