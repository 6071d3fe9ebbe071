/- What the functions of vector and of its reference compute, with enough rounds: plain Lean, no program. -/
import Derived.Test.YtncejmjicjlanaaDoorQ2
import Derived.Test.YtncejmjicjlanaaDoorQ3
import Derived.Test.YtncejmjicjlanaaDoorPlain
namespace Go.Proofs.YtncejmjicjlanaaDoor.Q
open Go.RowKit Go.Proofs.YtncejmjicjlanaaDoorW.PrintWords Go.Proofs.YtncejmjicjlanaaDoorW.PrintLast Go.Proofs.YtncejmjicjlanaaDoorW.PrintMore
set_option linter.unusedVariables false
set_option linter.unusedSimpArgs false

instance decS24 : DecidableEq S24 := fun x y => if h : x.f0 = y.f0 ∧ x.f1 = y.f1 then isTrue (by cases x; cases y; simp_all) else isFalse (by rintro rfl; exact h ⟨rfl, rfl⟩)
theorem w_add (n : Nat) (h : n ≤ 1000000) : wrap64 ((n : Int) + 1) = ((n + 1 : Nat) : Int) := by unfold wrap64; omega
theorem w_sub (n : Nat) (h : n < 1000000) : wrap64 (((n + 1 : Nat) : Int) - 1) = (n : Int) := by unfold wrap64; omega
theorem drop_rd (l : List S24) (i : Nat) (h : i < l.length) : l.drop i = rd_T24 l i :: l.drop (i + 1) := by
  rw [List.drop_eq_getElem_cons h]
  simp [rd_T24, h]
theorem isDot_eq (x : S24) : vector_isDot.f x.f0 x.f1 = some (decide (Dot x)) := by
  unfold vector_isDot.f Dot
  repeat' split
  all_goals (congr 1; first | (apply decide_eq_decide.mpr; omega) | (symm; apply decide_eq_false; omega))
def chk (l : List S24) : Int := if Valid l then 0 else 120
def okv (p : Int) (l : List S24) : Int := if okFrom p l then 0 else 120
theorem okv_nil (p : Int) : okv p [] = 0 := if_pos trivial
theorem okv_cons (p : Int) (x : S24) (l : List S24) : okv p (x :: l) = if Dot x then (if p < x.f0 then okv x.f0 l else 120) else 120 := by
  unfold okv
  by_cases h1 : Dot x <;> by_cases h2 : p < x.f0 <;> by_cases h3 : okFrom x.f0 l <;> simp [okFrom, h1, h2, h3]

theorem vcheck_loop (l : List S24) (hl : l.length ≤ 100000) : ∀ (m k i : Nat), l.length - i = m → i ≤ l.length → m < k →
    vector_Check.l0 k l l (l.length : Int) i = some (okv (if i = 0 then -1 else (rd_T24 l ((i - 1 : Nat) : Int)).f0) (l.drop i))
  | 0, k + 1, i, hm, hi, hk => by
    have : i = l.length := by omega
    subst this
    rw [vector_Check.l0, if_neg (by omega), List.drop_length, okv_nil]
  | m + 1, k + 1, i, hm, hi, hk => by
    have hlt : i < l.length := by omega
    have ih := vcheck_loop l hl m k (i + 1) (by omega) (by omega) (by omega)
    rw [if_neg (show ¬ i + 1 = 0 by omega), Nat.add_sub_cancel] at ih
    rw [vector_Check.l0, if_pos (by omega), if_pos (by omega), if_pos (by omega), isDot_eq, Option.bind_some, drop_rd l i hlt, okv_cons]
    by_cases hd : Dot (rd_T24 l i)
    · rw [if_pos (by simpa using hd)]
      cases i with
      | zero =>
        rw [if_neg (by simp), w_add 0 (by omega), ih]
        have h1 := hd.1
        rw [if_pos hd, if_pos (show (if 0 = 0 then (-1 : Int) else _) < _ by rw [if_pos rfl]; omega)]
      | succ j =>
        rw [if_pos (by omega), w_sub j (by omega), if_pos (by omega), if_pos (by omega), if_neg (by omega : ¬ j + 1 = 0), Nat.add_sub_cancel]
        by_cases hle : (rd_T24 l ((j + 1 : Nat) : Int)).f0 ≤ (rd_T24 l (j : Int)).f0
        · rw [if_pos hle, if_pos hd, if_neg (by omega)]
        · rw [if_neg hle, w_add _ (by omega), ih, if_pos hd, if_pos (by omega)]
    · rw [if_neg (by simpa using hd), if_neg hd]
theorem vCheck_eq (k : Nat) (l : List S24) (hl : l.length ≤ 100000) (hk : l.length < k) : vector_Check.f k l = some (chk l) := by
  have := vcheck_loop l hl l.length k 0 (by omega) (by omega) hk
  rw [if_pos rfl, List.drop_zero] at this
  exact this

def chk2 (a b : List S24) : Int := if Valid a then chk b else 120
theorem vcheck_eq (k : Nat) (a b : List S24) (ha : a.length ≤ 100000) (hb : b.length ≤ 100000) (hka : a.length < k) (hkb : b.length < k) : vector_check.f k a b = some (chk2 a b) := by
  unfold vector_check.f chk2
  rw [vCheck_eq k a ha hka, Option.bind_some, vCheck_eq k b hb hkb]
  by_cases h : Valid a
  · rw [if_pos (by simp [chk, h]), if_pos h]
    rfl
  · rw [if_neg (by simp [chk, h]), if_neg h]
    simp [chk, h]
/-- With enough rounds. -/
theorem Join_eq (k : Nat) (a b : List S24) (ha : a.length ≤ 10000) (hb : b.length ≤ 10000) (hka : a.length < k) (hkb : b.length < k) :
    vector_Join.f k a b = some (if chk2 a b = 0 then (mrg mx (prs a b), 0) else ([], chk2 a b)) := by
  unfold vector_Join.f
  rw [vcheck_eq k a b (by omega) (by omega) hka hkb, Option.bind_some]
  by_cases h : chk2 a b = 0
  · have hab : Valid a ∧ Valid b := by
      unfold chk2 at h
      by_cases h1 : Valid a
      · rw [if_pos h1] at h
        unfold chk at h
        by_cases h2 : Valid b
        · exact ⟨h1, h2⟩
        · rw [if_neg h2] at h; omega
      · rw [if_neg h1] at h; omega
    have := (prs_ok _ a b hab.1 hab.2).2.2
    rw [if_pos h, if_pos h, if_pos (by omega)]
  · rw [if_neg h, if_neg h]
theorem chk2_zero {a b : List S24} : chk2 a b = 0 ↔ Valid a ∧ Valid b := by
  unfold chk2 chk
  by_cases h1 : Valid a <;> by_cases h2 : Valid b <;> simp [h1, h2]
theorem Meet_eq (k : Nat) (a b : List S24) (ha : a.length ≤ 10000) (hb : b.length ≤ 10000) (hka : a.length < k) (hkb : b.length < k) :
    vector_Meet.f k a b = some (if chk2 a b = 0 then (mrg mn (prs a b), 0) else ([], chk2 a b)) := by
  unfold vector_Meet.f
  rw [vcheck_eq k a b (by omega) (by omega) hka hkb, Option.bind_some]
  by_cases h : chk2 a b = 0
  · have hab := chk2_zero.mp h
    have := (prs_ok _ a b hab.1 hab.2).2.2
    rw [if_pos h, if_pos h, if_pos (by omega)]
  · rw [if_neg h, if_neg h]
theorem Compare_eq (k : Nat) (a b : List S24) (ha : a.length ≤ 10000) (hb : b.length ≤ 10000) (hka : a.length < k) (hkb : b.length < k) :
    vector_Compare.f k a b = some (if chk2 a b = 0 then (cmpN (prs a b), 0) else (0, chk2 a b)) := by
  unfold vector_Compare.f
  rw [vcheck_eq k a b (by omega) (by omega) hka hkb, Option.bind_some]
  split <;> rfl
end Go.Proofs.YtncejmjicjlanaaDoor.Q
