/- VectorAdds answers true, plain Lean. -/
import Derived.Test.YtncejmjicjlanaaDoorEvalR
import Derived.Test.YtncejmjicjlanaaDoorQ16
namespace Go.Proofs.YtncejmjicjlanaaDoor.Q
open Go.RowKit Go.Proofs.YtncejmjicjlanaaDoorW.PrintWords Go.Proofs.YtncejmjicjlanaaDoorW.PrintLast Go.Proofs.YtncejmjicjlanaaDoorW.PrintMore
set_option linter.unusedVariables false
set_option linter.unusedSimpArgs false

theorem Covers_eqA (l : List S24) (x0 x1 : Int) : vector_Covers.f l x0 x1 = some (decide (1 ≤ x1 ∧ x1 ≤ atN l x0)) := by
  unfold vector_Covers.f vector_At.f
  split
  · rw [Option.bind_some]
    congr 1
    apply decide_eq_decide.mpr
    omega
  · congr 1
    symm
    apply decide_eq_false
    omega
theorem chk_zeroA {l : List S24} : chk l = 0 ↔ Valid l := by
  unfold chk
  by_cases h : Valid l <;> simp [h]
theorem with_eq (k : Nat) (l : List S24) (x0 x1 : Int) (hl : l.length ≤ 10000) (hk : l.length < k) (hk1 : 1 < k) :
    vector_With.f k l x0 x1 = some (if chk2 l [⟨x0, x1⟩] = 0 then (mrg mx (prs l [⟨x0, x1⟩]), 0) else ([], chk2 l [⟨x0, x1⟩])) := by
  unfold vector_With.f
  rw [Join_eq k l _ hl (by simp) hk (by simpa using hk1), Option.bind_some]
theorem pureAdds (k : Nat) (hk : 4000 ≤ k) (l0 : List S24) (x0 x1 y0 y1 : Int) : chartroomlaw12_VectorAdds.f (k + 3) l0 x0 x1 y0 y1 = some true := by
  have hsane : chartroomlaw12_sane.f (k + 3) = some true := if_pos (by omega)
  have fin : chartroomlaw12_VectorAdds.j0 (k + 3) l0 true x0 x1 y0 y1 = some true := by rw [chartroomlaw12_VectorAdds.j0, if_pos rfl]
  unfold chartroomlaw12_VectorAdds.f chartroomref12_Few.f
  rw [hsane, Option.bind_some, if_pos rfl, Option.bind_some]
  by_cases h0 : (l0.length : Int) ≤ 600
  · rw [if_pos (decide_eq_true h0), rCheck_eq (k + 3) l0 (by omega) (by omega), Option.bind_some]
    by_cases v0 : Valid l0
    · rw [if_pos (chk_zeroA.mpr v0), show chartroomref12_IsDot.f x0 x1 = some (decide (Dot ⟨x0, x1⟩)) from refIsDot_eq ⟨x0, x1⟩, Option.bind_some]
      by_cases hd : Dot ⟨x0, x1⟩
      · have v1 : Valid [⟨x0, x1⟩] := ⟨hd, by have h : 0 ≤ x0 := hd.1; show -1 < x0; omega, trivial⟩
        have hc : chk2 l0 [⟨x0, x1⟩] = 0 := chk2_zero.mpr ⟨v0, v1⟩
        have lj := mrg_len mx v0 v1
        have hv := join_valid v0 v1
        have hat := join_at v0 v1
        have hone : ∀ d, atN [⟨x0, x1⟩] d = if x0 = d then x1 else 0 := fun d => rfl
        obtain ⟨d1, d2, d3, d4⟩ := hd
        simp only at d1 d2 d3 d4
        generalize hJ : mrg mx (prs l0 [⟨x0, x1⟩]) = J at *
        simp only [List.length_singleton] at lj
        rw [decide_eq_true (show Dot ⟨x0, x1⟩ from ⟨d1, d2, d3, d4⟩), show (!true) = false from rfl, chartroomlaw12_VectorAdds.j0, if_neg (by simp), with_eq (k + 2) l0 x0 x1 (by omega) (by omega) (by omega), if_pos hc, hJ, Option.bind_some]
        dsimp only
        rw [if_pos rfl, vCheck_eq (k + 2) J (by omega) (by omega), Option.bind_some, chk_zeroA.mpr hv, show ((0 : Int) != 0) = false from rfl, chartroomlaw12_VectorAdds.j1, if_neg (by simp)]
        have nn := atN_nonneg v0 y0
        have hJx : atN J x0 = max (atN l0 x0) x1 := by rw [hat, hone, if_pos rfl]
        have tail : ∀ b : Bool, b = decide (y0 = x0 ∧ 1 ≤ y1 ∧ y1 ≤ x1) → chartroomlaw12_VectorAdds.j2 (k + 1) l0 J b x0 x1 y0 y1 = some true := by
          intro b hb
          rw [chartroomlaw12_VectorAdds.j2]
          have e1 : decide (1 ≤ y1 ∧ y1 ≤ atN J y0) = (decide (1 ≤ y1 ∧ y1 ≤ atN l0 y0) || b) := by
            rw [hb, ← Bool.decide_or]
            apply decide_eq_decide.mpr
            rw [hat, hone]
            by_cases e : x0 = y0
            · rw [if_pos e]; omega
            · rw [if_neg e]; omega
          have e2 : decide (1 ≤ x1 ∧ x1 ≤ atN J x0) = true := by
            apply decide_eq_true
            rw [hJx]; omega
          have e3 : (atN J x0 == mx (atN l0 x0) x1) = true := by
            rw [hJx, mx_eq]; simp
          simp only [Covers_eqA, vector_At.f, Option.bind_some, e1, e2, e3, if_true]
          cases decide (1 ≤ y1 ∧ y1 ≤ atN l0 y0) <;> cases b <;> rfl
        by_cases e : y0 = x0
        · rw [if_pos e]
          by_cases e1 : y1 ≥ 1
          · rw [if_pos e1]
            refine tail _ (decide_eq_decide.mpr ?_)
            omega
          · rw [if_neg e1]
            refine tail _ (decide_eq_false ?_).symm
            omega
        · rw [if_neg e]
          refine tail _ (decide_eq_false ?_).symm
          omega
      · rw [decide_eq_false hd]
        exact fin
    · rw [if_neg (fun h => v0 (chk_zeroA.mp h))]
      exact fin
  · rw [if_neg (by simpa using h0)]
    exact fin
end Go.Proofs.YtncejmjicjlanaaDoor.Q
