/- What VectorOrder's and VectorLeast's ways through their calls ask, plain Lean. -/
import Derived.Test.YtncejmjicjlanaaDoorPureLattice
namespace Go.Proofs.YtncejmjicjlanaaDoor.Q
open Go.RowKit Go.Proofs.YtncejmjicjlanaaDoorW.PrintWords Go.Proofs.YtncejmjicjlanaaDoorW.PrintLast Go.Proofs.YtncejmjicjlanaaDoorW.PrintMore
set_option linter.unusedVariables false
set_option linter.unusedSimpArgs false

theorem cmp_cases {a b : List S24} (va : Valid a) (vb : Valid b) :
    (Le a b ∧ Le b a ∧ cmpN (prs a b) = 0) ∨ (Le a b ∧ ¬ Le b a ∧ cmpN (prs a b) = -1) ∨ (¬ Le a b ∧ Le b a ∧ cmpN (prs a b) = 1) ∨ (¬ Le a b ∧ ¬ Le b a ∧ cmpN (prs a b) = 2) := by
  have l1 := less_iff va vb
  have m1 := more_iff va vb
  rw [← l1, ← m1, cmpN]
  cases lessB (prs a b) <;> cases moreB (prs a b) <;> simp
theorem le_join {a b : List S24} (va : Valid a) (vb : Valid b) : Le a b ↔ vJ a b = b := by
  constructor
  · intro h
    refine valid_ext (vJ_ok va vb) vb fun d => ?_
    have := h d
    rw [vJ_at va vb]; omega
  · intro h d
    have := vJ_at va vb d
    rw [h] at this
    omega
theorem le_meet {a b : List S24} (va : Valid a) (vb : Valid b) : Le a b ↔ vM a b = a := by
  constructor
  · intro h
    refine valid_ext (vM_ok va vb) va fun d => ?_
    have := h d
    rw [vM_at va vb]; omega
  · intro h d
    have := vM_at va vb d
    rw [h] at this
    omega
theorem le_anti {a b : List S24} (va : Valid a) (vb : Valid b) : (Le a b ∧ Le b a) ↔ a = b := by
  constructor
  · intro h
    refine valid_ext va vb fun d => ?_
    have h1 := h.1 d
    have h2 := h.2 d
    omega
  · rintro rfl
    exact ⟨fun d => Int.le_refl _, fun d => Int.le_refl _⟩
theorem le_trans {a b c : List S24} (h1 : Le a b) (h2 : Le b c) : Le a c := fun d => Int.le_trans (h1 d) (h2 d)

theorem orderMain (k : Nat) (hk : 4000 ≤ k) (a b c : List S24) (la : a.length ≤ 600) (lb : b.length ≤ 600) (lc : c.length ≤ 600) (va : Valid a) (vb : Valid b) (vc : Valid c) : ∃ (n m bc ac : Int) (j mm : List S24) (s1 s2 s3 : Bool), vector_Compare.f k a b = some (n, 0) ∧ vector_Compare.f k b a = some (m, 0) ∧ vector_Compare.f k b c = some (bc, 0) ∧ vector_Compare.f k a c = some (ac, 0) ∧ vector_Join.f k a b = some (j, 0) ∧ vector_Meet.f k a b = some (mm, 0) ∧ chartroomref12_Same.f k a b = some s1 ∧ chartroomref12_Same.f k j b = some s2 ∧ chartroomref12_Same.f k mm a = some s3 ∧ ((n = -1 ∧ m = 1 ∧ s1 = false ∧ s2 = true ∧ s3 = true) ∨ (n = 0 ∧ m = 0 ∧ s1 = true ∧ s2 = true ∧ s3 = true) ∨ (n = 1 ∧ m = -1 ∧ s1 = false ∧ s2 = false ∧ s3 = false) ∨ (n = 2 ∧ m = 2 ∧ s1 = false ∧ s2 = false ∧ s3 = false)) ∧ (bc = 1 ∨ bc = 2 ∨ bc = -1 ∨ bc = 0) ∧ ((n = -1 ∨ n = 0) → (bc = -1 ∨ bc = 0) → (ac = -1 ∨ ac = 0)) := by
  have jab := vJ_len va vb
  have mab := vM_len va vb
  refine ⟨cmpN (prs a b), cmpN (prs b a), cmpN (prs b c), cmpN (prs a c), vJ a b, vM a b, decide (a = b), decide (vJ a b = b), decide (vM a b = a),
    cmpF k _ _ va vb (by omega) (by omega) hk, cmpF k _ _ vb va (by omega) (by omega) hk, cmpF k _ _ vb vc (by omega) (by omega) hk, cmpF k _ _ va vc (by omega) (by omega) hk,
    joinF k _ _ va vb (by omega) (by omega) hk, meetF k _ _ va vb (by omega) (by omega) hk, Same_eq k _ _ (by omega) (by omega), Same_eq k _ _ (by omega) (by omega), Same_eq k _ _ (by omega) (by omega), ?_, ?_, ?_⟩
  · have e1 : a = b ↔ (Le a b ∧ Le b a) := (le_anti va vb).symm
    have e2 : vJ a b = b ↔ Le a b := (le_join va vb).symm
    have e3 : vM a b = a ↔ Le a b := (le_meet va vb).symm
    rcases cmp_cases va vb with ⟨h1, h2, h3⟩ | ⟨h1, h2, h3⟩ | ⟨h1, h2, h3⟩ | ⟨h1, h2, h3⟩ <;> rcases cmp_cases vb va with ⟨g1, g2, g3⟩ | ⟨g1, g2, g3⟩ | ⟨g1, g2, g3⟩ | ⟨g1, g2, g3⟩ <;> first | (exact absurd g1 h2) | (exact absurd h2 g1) | (exact absurd g2 h1) | (exact absurd h1 g2) | (rw [h3, g3]; simp [e1, e2, e3, h1, h2])
  · rcases cmp_cases vb vc with ⟨_, _, h⟩ | ⟨_, _, h⟩ | ⟨_, _, h⟩ | ⟨_, _, h⟩ <;> rw [h] <;> decide
  · intro hn hb
    have l1 : Le a b := by
      rcases cmp_cases va vb with ⟨h1, h2, h3⟩ | ⟨h1, h2, h3⟩ | ⟨h1, h2, h3⟩ | ⟨h1, h2, h3⟩
      · exact h1
      · exact h1
      · omega
      · omega
    have l2 : Le b c := by
      rcases cmp_cases vb vc with ⟨h1, h2, h3⟩ | ⟨h1, h2, h3⟩ | ⟨h1, h2, h3⟩ | ⟨h1, h2, h3⟩
      · exact h1
      · exact h1
      · omega
      · omega
    have l3 := le_trans l1 l2
    rcases cmp_cases va vc with ⟨h1, h2, h3⟩ | ⟨h1, h2, h3⟩ | ⟨h1, h2, h3⟩ | ⟨h1, h2, h3⟩
    · exact .inr h3
    · exact .inl h3
    · exact absurd l3 h1
    · exact absurd l3 h1

theorem cmp_le {a b : List S24} (va : Valid a) (vb : Valid b) : cmpN (prs a b) ≤ 0 ↔ Le a b := by
  rcases cmp_cases va vb with ⟨h1, h2, h3⟩ | ⟨h1, h2, h3⟩ | ⟨h1, h2, h3⟩ | ⟨h1, h2, h3⟩ <;> rw [h3] <;> simp [h1]
theorem cmp_ge {a b : List S24} (va : Valid a) (vb : Valid b) : (cmpN (prs a b) = 0 ∨ cmpN (prs a b) = 1) ↔ Le b a := by
  rcases cmp_cases va vb with ⟨h1, h2, h3⟩ | ⟨h1, h2, h3⟩ | ⟨h1, h2, h3⟩ | ⟨h1, h2, h3⟩ <;> rw [h3] <;> simp [h2]
theorem cmp_four {a b : List S24} (va : Valid a) (vb : Valid b) : cmpN (prs a b) = -1 ∨ cmpN (prs a b) = 0 ∨ cmpN (prs a b) = 1 ∨ cmpN (prs a b) = 2 := by
  rcases cmp_cases va vb with ⟨h1, h2, h3⟩ | ⟨h1, h2, h3⟩ | ⟨h1, h2, h3⟩ | ⟨h1, h2, h3⟩ <;> rw [h3] <;> decide
theorem leastMain (k : Nat) (hk : 4000 ≤ k) (a b c : List S24) (la : a.length ≤ 600) (lb : b.length ≤ 600) (lc : c.length ≤ 600) (va : Valid a) (vb : Valid b) (vc : Valid c) : ∃ (ac bc jc mc : Int) (j mm : List S24), vector_Join.f k a b = some (j, 0) ∧ vector_Meet.f k a b = some (mm, 0) ∧ vector_Compare.f k a c = some (ac, 0) ∧ vector_Compare.f k b c = some (bc, 0) ∧ vector_Compare.f k j c = some (jc, 0) ∧ vector_Compare.f k mm c = some (mc, 0) ∧ (ac = -1 ∨ ac = 0 ∨ ac = 1 ∨ ac = 2) ∧ (bc = -1 ∨ bc = 0 ∨ bc = 1 ∨ bc = 2) ∧ (jc = -1 ∨ jc = 0 ∨ jc = 1 ∨ jc = 2) ∧ (mc = -1 ∨ mc = 0 ∨ mc = 1 ∨ mc = 2) ∧ ((ac ≤ 0 ∧ bc ≤ 0) ↔ jc ≤ 0) ∧ (((ac = 0 ∨ ac = 1) ∧ (bc = 0 ∨ bc = 1)) ↔ (mc = 0 ∨ mc = 1)) := by
  have jab := vJ_len va vb
  have mab := vM_len va vb
  have vj := vJ_ok va vb
  have vm := vM_ok va vb
  refine ⟨cmpN (prs a c), cmpN (prs b c), cmpN (prs (vJ a b) c), cmpN (prs (vM a b) c), vJ a b, vM a b, joinF k _ _ va vb (by omega) (by omega) hk, meetF k _ _ va vb (by omega) (by omega) hk,
    cmpF k _ _ va vc (by omega) (by omega) hk, cmpF k _ _ vb vc (by omega) (by omega) hk, cmpF k _ _ vj vc (by omega) (by omega) hk, cmpF k _ _ vm vc (by omega) (by omega) hk, cmp_four va vc, cmp_four vb vc, cmp_four vj vc, cmp_four vm vc, ?_, ?_⟩
  · rw [cmp_le va vc, cmp_le vb vc, cmp_le vj vc]
    constructor
    · intro h d
      have h1 := h.1 d
      have h2 := h.2 d
      rw [vJ_at va vb]; omega
    · intro h
      constructor <;> intro d <;> have h1 := h d <;> rw [vJ_at va vb] at h1 <;> omega
  · rw [cmp_ge va vc, cmp_ge vb vc, cmp_ge vm vc]
    constructor
    · intro h d
      have h1 := h.1 d
      have h2 := h.2 d
      rw [vM_at va vb]; omega
    · intro h
      constructor <;> intro d <;> have h1 := h d <;> rw [vM_at va vb] at h1 <;> omega
end Go.Proofs.YtncejmjicjlanaaDoor.Q
