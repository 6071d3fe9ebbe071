/- What VectorLattice's way through its calls asks, plain Lean; and short forms of Join, Meet, Compare, Same over valid vectors. -/
import Derived.Test.YtncejmjicjlanaaDoorEval
namespace Go.Proofs.YtncejmjicjlanaaDoor.Q
open Go.RowKit Go.Proofs.YtncejmjicjlanaaDoorW.PrintWords Go.Proofs.YtncejmjicjlanaaDoorW.PrintLast Go.Proofs.YtncejmjicjlanaaDoorW.PrintMore
set_option linter.unusedVariables false
set_option linter.unusedSimpArgs false

def vJ (a b : List S24) : List S24 := mrg mx (prs a b)
def vM (a b : List S24) : List S24 := mrg mn (prs a b)
theorem vJ_len {a b : List S24} (va : Valid a) (vb : Valid b) : (vJ a b).length ≤ a.length + b.length := mrg_len mx va vb
theorem vM_len {a b : List S24} (va : Valid a) (vb : Valid b) : (vM a b).length ≤ a.length + b.length := mrg_len mn va vb
theorem vJ_ok {a b : List S24} (va : Valid a) (vb : Valid b) : Valid (vJ a b) := join_valid va vb
theorem vM_ok {a b : List S24} (va : Valid a) (vb : Valid b) : Valid (vM a b) := meet_valid va vb
theorem vJ_at {a b : List S24} (va : Valid a) (vb : Valid b) (d : Int) : atN (vJ a b) d = max (atN a d) (atN b d) := join_at va vb d
theorem vM_at {a b : List S24} (va : Valid a) (vb : Valid b) (d : Int) : atN (vM a b) d = min (atN a d) (atN b d) := meet_at va vb d
theorem joinF (k : Nat) (a b : List S24) (va : Valid a) (vb : Valid b) (ha : a.length ≤ 3000) (hb : b.length ≤ 3000) (hk : 4000 ≤ k) : vector_Join.f k a b = some (vJ a b, 0) := by
  rw [Join_eq k a b (by omega) (by omega) (by omega) (by omega), if_pos (chk2_zero.mpr ⟨va, vb⟩)]
  rfl
theorem meetF (k : Nat) (a b : List S24) (va : Valid a) (vb : Valid b) (ha : a.length ≤ 3000) (hb : b.length ≤ 3000) (hk : 4000 ≤ k) : vector_Meet.f k a b = some (vM a b, 0) := by
  rw [Meet_eq k a b (by omega) (by omega) (by omega) (by omega), if_pos (chk2_zero.mpr ⟨va, vb⟩)]
  rfl
theorem cmpF (k : Nat) (a b : List S24) (va : Valid a) (vb : Valid b) (ha : a.length ≤ 3000) (hb : b.length ≤ 3000) (hk : 4000 ≤ k) : vector_Compare.f k a b = some (cmpN (prs a b), 0) := by
  rw [Compare_eq k a b (by omega) (by omega) (by omega) (by omega), if_pos (chk2_zero.mpr ⟨va, vb⟩)]
theorem sameT (k : Nat) (a b : List S24) (h : a = b) (ha : a.length ≤ 3000) (hk : 4000 ≤ k) : chartroomref12_Same.f k a b = some true := by
  rw [Same_eq k a b (by omega) (by omega), decide_eq_true h]
theorem sameF (k : Nat) (a b : List S24) (h : ¬ a = b) (ha : a.length ≤ 3000) (hk : 4000 ≤ k) : chartroomref12_Same.f k a b = some false := by
  rw [Same_eq k a b (by omega) (by omega), decide_eq_false h]

theorem latticeMain (k : Nat) (hk : 4000 ≤ k) (a b c : List S24) (la : a.length ≤ 600) (lb : b.length ≤ 600) (lc : c.length ≤ 600) (va : Valid a) (vb : Valid b) (vc : Valid c) : ∃ ab ba bc lf rt ow mab mba mbc mlf mrt mow up dn : List S24, vector_Join.f k a b = some (ab, 0) ∧ vector_Join.f k b a = some (ba, 0) ∧ vector_Join.f k b c = some (bc, 0) ∧ vector_Join.f k ab c = some (lf, 0) ∧ vector_Join.f k a bc = some (rt, 0) ∧ vector_Join.f k a a = some (ow, 0) ∧ vector_Meet.f k a b = some (mab, 0) ∧ vector_Meet.f k b a = some (mba, 0) ∧ vector_Meet.f k b c = some (mbc, 0) ∧ vector_Meet.f k mab c = some (mlf, 0) ∧ vector_Meet.f k a mbc = some (mrt, 0) ∧ vector_Meet.f k a a = some (mow, 0) ∧ vector_Meet.f k a ab = some (up, 0) ∧ vector_Join.f k a mab = some (dn, 0) ∧ chartroomref12_Same.f k ab ba = some true ∧ chartroomref12_Same.f k lf rt = some true ∧ chartroomref12_Same.f k ow a = some true ∧ chartroomref12_Same.f k mab mba = some true ∧ chartroomref12_Same.f k mlf mrt = some true ∧ chartroomref12_Same.f k mow a = some true ∧ chartroomref12_Same.f k up a = some true ∧ chartroomref12_Same.f k dn a = some true := by
  have jab := vJ_len va vb
  have jba := vJ_len vb va
  have jbc := vJ_len vb vc
  have vab := vJ_ok va vb
  have vba := vJ_ok vb va
  have vbc := vJ_ok vb vc
  have mab := vM_len va vb
  have mba := vM_len vb va
  have mbc := vM_len vb vc
  have wab := vM_ok va vb
  have wba := vM_ok vb va
  have wbc := vM_ok vb vc
  have l1 := vJ_len vab vc
  have l2 := vJ_len va vbc
  have l3 := vJ_len va va
  have l4 := vM_len wab vc
  have l5 := vM_len va wbc
  have l6 := vM_len va va
  have l7 := vM_len va vab
  have l8 := vJ_len va wab
  refine ⟨vJ a b, vJ b a, vJ b c, vJ (vJ a b) c, vJ a (vJ b c), vJ a a, vM a b, vM b a, vM b c, vM (vM a b) c, vM a (vM b c), vM a a, vM a (vJ a b), vJ a (vM a b),
    joinF k _ _ va vb (by omega) (by omega) hk, joinF k _ _ vb va (by omega) (by omega) hk, joinF k _ _ vb vc (by omega) (by omega) hk, joinF k _ _ vab vc (by omega) (by omega) hk, joinF k _ _ va vbc (by omega) (by omega) hk, joinF k _ _ va va (by omega) (by omega) hk,
    meetF k _ _ va vb (by omega) (by omega) hk, meetF k _ _ vb va (by omega) (by omega) hk, meetF k _ _ vb vc (by omega) (by omega) hk, meetF k _ _ wab vc (by omega) (by omega) hk, meetF k _ _ va wbc (by omega) (by omega) hk, meetF k _ _ va va (by omega) (by omega) hk, meetF k _ _ va vab (by omega) (by omega) hk, joinF k _ _ va wab (by omega) (by omega) hk,
    sameT k _ _ (valid_ext vab vba fun d => ?_) (by omega) hk, sameT k _ _ (valid_ext (vJ_ok vab vc) (vJ_ok va vbc) fun d => ?_) (by omega) hk, sameT k _ _ (valid_ext (vJ_ok va va) va fun d => ?_) (by omega) hk,
    sameT k _ _ (valid_ext wab wba fun d => ?_) (by omega) hk, sameT k _ _ (valid_ext (vM_ok wab vc) (vM_ok va wbc) fun d => ?_) (by omega) hk, sameT k _ _ (valid_ext (vM_ok va va) va fun d => ?_) (by omega) hk,
    sameT k _ _ (valid_ext (vM_ok va vab) va fun d => ?_) (by omega) hk, sameT k _ _ (valid_ext (vJ_ok va wab) va fun d => ?_) (by omega) hk⟩
  · rw [vJ_at va vb, vJ_at vb va]; omega
  · rw [vJ_at vab vc, vJ_at va vb, vJ_at va vbc, vJ_at vb vc]; omega
  · rw [vJ_at va va]; omega
  · rw [vM_at va vb, vM_at vb va]; omega
  · rw [vM_at wab vc, vM_at va vb, vM_at va wbc, vM_at vb vc]; omega
  · rw [vM_at va va]; omega
  · rw [vM_at va vab, vJ_at va vb]; omega
  · rw [vJ_at va wab, vM_at va vb]; omega
end Go.Proofs.YtncejmjicjlanaaDoor.Q
