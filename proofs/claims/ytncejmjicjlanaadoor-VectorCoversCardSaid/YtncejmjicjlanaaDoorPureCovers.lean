/- VectorCovers answers true, plain Lean. -/
import Derived.Test.YtncejmjicjlanaaDoorEval
import Derived.Test.YtncejmjicjlanaaDoorQ12
namespace Go.Proofs.YtncejmjicjlanaaDoor.Q
open Go.RowKit Go.Proofs.YtncejmjicjlanaaDoorW.PrintWords Go.Proofs.YtncejmjicjlanaaDoorW.PrintLast Go.Proofs.YtncejmjicjlanaaDoorW.PrintMore
set_option linter.unusedVariables false
set_option linter.unusedSimpArgs false

theorem Covers_eq (l : List S24) (x0 x1 : Int) : vector_Covers.f l x0 x1 = some (decide (1 ≤ x1 ∧ x1 ≤ atN l x0)) := by
  unfold vector_Covers.f vector_At.f
  split
  · rw [Option.bind_some]
    congr 1
    apply decide_eq_decide.mpr
    omega
  · congr 1
    symm
    apply decide_eq_false
    omega
theorem chk_zero {l : List S24} : chk l = 0 ↔ Valid l := by
  unfold chk
  by_cases h : Valid l <;> simp [h]
theorem pureCovers (k : Nat) (hk : 4000 ≤ k) (l0 l1 : List S24) (x0 x1 : Int) : chartroomlaw12_VectorCovers.f (k + 2) l0 l1 x0 x1 = some true := by
  have hsane : chartroomlaw12_sane.f (k + 2) = some true := if_pos (by omega)
  have fin : chartroomlaw12_VectorCovers.j0 (k + 2) l0 l1 true x0 x1 = some true := by rw [chartroomlaw12_VectorCovers.j0, if_pos rfl]
  unfold chartroomlaw12_VectorCovers.f chartroomref12_Few.f
  rw [hsane, Option.bind_some, if_pos rfl, Option.bind_some]
  by_cases h0 : (l0.length : Int) ≤ 600
  · rw [if_pos (decide_eq_true h0), Option.bind_some]
    by_cases h1 : (l1.length : Int) ≤ 600
    · rw [if_pos (decide_eq_true h1), vCheck_eq (k + 2) l0 (by omega) (by omega), Option.bind_some]
      by_cases v0 : Valid l0
      · rw [if_pos (chk_zero.mpr v0), vCheck_eq (k + 2) l1 (by omega) (by omega), Option.bind_some]
        by_cases v1 : Valid l1
        · have hc : chk2 l0 l1 = 0 := chk2_zero.mpr ⟨v0, v1⟩
          have lj := mrg_len mx v0 v1
          have lm := mrg_len mn v0 v1
          rw [chk_zero.mpr v1, show ((0 : Int) != 0) = false from rfl, chartroomlaw12_VectorCovers.j0, if_neg (by simp), Join_eq (k + 1) l0 l1 (by omega) (by omega) (by omega) (by omega), Meet_eq (k + 1) l0 l1 (by omega) (by omega) (by omega) (by omega), if_pos hc, if_pos hc, Option.bind_some, Option.bind_some]
          dsimp only
          rw [if_pos rfl, if_pos rfl, vCheck_eq (k + 1) _ (by omega) (by omega), vCheck_eq (k + 1) _ (by omega) (by omega), Option.bind_some, Option.bind_some, chk_zero.mpr (join_valid v0 v1), chk_zero.mpr (meet_valid v0 v1), if_pos rfl, show ((0 : Int) != 0) = false from rfl, chartroomlaw12_VectorCovers.j1, if_neg (by simp)]
          simp only [Covers_eq, Option.bind_some, join_at v0 v1, meet_at v0 v1]
          by_cases c0 : (1 ≤ x1 ∧ x1 ≤ atN l0 x0)
          · by_cases c1 : (1 ≤ x1 ∧ x1 ≤ atN l1 x0)
            · have e1 : (1 ≤ x1 ∧ x1 ≤ max (atN l0 x0) (atN l1 x0)) := by omega
              have e2 : (1 ≤ x1 ∧ x1 ≤ min (atN l0 x0) (atN l1 x0)) := by omega
              rw [decide_eq_true c0, decide_eq_true c1, decide_eq_true e1, decide_eq_true e2]
              rfl
            · have e1 : (1 ≤ x1 ∧ x1 ≤ max (atN l0 x0) (atN l1 x0)) := by omega
              have e2 : ¬ (1 ≤ x1 ∧ x1 ≤ min (atN l0 x0) (atN l1 x0)) := by omega
              rw [decide_eq_true c0, decide_eq_false c1, decide_eq_true e1, decide_eq_false e2]
              rfl
          · by_cases c1 : (1 ≤ x1 ∧ x1 ≤ atN l1 x0)
            · have e1 : (1 ≤ x1 ∧ x1 ≤ max (atN l0 x0) (atN l1 x0)) := by omega
              have e2 : ¬ (1 ≤ x1 ∧ x1 ≤ min (atN l0 x0) (atN l1 x0)) := by omega
              rw [decide_eq_false c0, decide_eq_true c1, decide_eq_true e1, decide_eq_false e2]
              rfl
            · have e1 : ¬ (1 ≤ x1 ∧ x1 ≤ max (atN l0 x0) (atN l1 x0)) := by omega
              have e2 : ¬ (1 ≤ x1 ∧ x1 ≤ min (atN l0 x0) (atN l1 x0)) := by omega
              rw [decide_eq_false c0, decide_eq_false c1, decide_eq_false e1, decide_eq_false e2]
              rfl
        · rw [show (chk l1 != 0) = true by simp [chk, v1]]
          exact fin
      · rw [if_neg (fun h => v0 (chk_zero.mp h))]
        exact fin
    · rw [if_neg (by simpa using h1)]
      exact fin
  · rw [if_neg (by simpa using h0)]
    exact fin
end Go.Proofs.YtncejmjicjlanaaDoor.Q
