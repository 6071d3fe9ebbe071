/- What the functions of the reference of vector compute, with enough rounds: plain Lean, no program. -/
import Derived.Test.YtncejmjicjlanaaDoorEval
import Derived.Test.YtncejmjicjlanaaDoorQ6
import Derived.Test.YtncejmjicjlanaaDoorQ7
import Derived.Test.YtncejmjicjlanaaDoorQ8
namespace Go.Proofs.YtncejmjicjlanaaDoor.Q
open Go.RowKit Go.Proofs.YtncejmjicjlanaaDoorW.PrintWords Go.Proofs.YtncejmjicjlanaaDoorW.PrintLast Go.Proofs.YtncejmjicjlanaaDoorW.PrintMore
set_option linter.unusedVariables false
set_option linter.unusedSimpArgs false

theorem refIsDot_eq (x : S24) : chartroomref12_IsDot.f x.f0 x.f1 = some (decide (Dot x)) := by
  unfold chartroomref12_IsDot.f Dot
  repeat' split
  all_goals (congr 1; first | (apply decide_eq_decide.mpr; omega) | (symm; apply decide_eq_false; omega))
theorem rcheck_loop (l : List S24) (hl : l.length ≤ 100000) : ∀ (m k i : Nat), l.length - i = m → i ≤ l.length → m < k →
    chartroomref12_Check.l0 k l i = some (okv (if i = 0 then -1 else (rd_T24 l ((i - 1 : Nat) : Int)).f0) (l.drop i))
  | 0, k + 1, i, hm, hi, hk => by
    have : i = l.length := by omega
    subst this
    rw [chartroomref12_Check.l0, if_neg (by omega), List.drop_length, okv_nil]
  | m + 1, k + 1, i, hm, hi, hk => by
    have hlt : i < l.length := by omega
    have ih := rcheck_loop l hl m k (i + 1) (by omega) (by omega) (by omega)
    rw [if_neg (show ¬ i + 1 = 0 by omega), Nat.add_sub_cancel] at ih
    rw [chartroomref12_Check.l0, if_pos (by omega), if_pos (by omega), refIsDot_eq, Option.bind_some, drop_rd l i hlt, okv_cons]
    by_cases hd : Dot (rd_T24 l i)
    · rw [if_pos (by simpa using hd)]
      cases i with
      | zero =>
        rw [if_neg (by simp), w_add 0 (by omega), ih]
        have h1 := hd.1
        rw [if_pos hd, if_pos (show (if 0 = 0 then (-1 : Int) else _) < _ by rw [if_pos rfl]; omega)]
      | succ j =>
        rw [if_pos (by omega), w_sub j (by omega), if_pos (by omega), if_pos (by omega), if_neg (by omega : ¬ j + 1 = 0), Nat.add_sub_cancel]
        by_cases hle : (rd_T24 l ((j + 1 : Nat) : Int)).f0 ≤ (rd_T24 l (j : Int)).f0
        · rw [if_pos hle, if_pos hd, if_neg (by omega)]
        · rw [if_neg hle, w_add _ (by omega), ih, if_pos hd, if_pos (by omega)]
    · rw [if_neg (by simpa using hd), if_neg hd]
theorem rCheck_eq (k : Nat) (l : List S24) (hl : l.length ≤ 100000) (hk : l.length < k) : chartroomref12_Check.f k l = some (chk l) := by
  have := rcheck_loop l hl l.length k 0 (by omega) (by omega) hk
  rw [if_pos rfl, List.drop_zero] at this
  exact this

theorem rcheck_eq (k : Nat) (a b : List S24) (ha : a.length ≤ 100000) (hb : b.length ≤ 100000) (hka : a.length < k) (hkb : b.length < k) : chartroomref12_check.f k a b = some (chk2 a b) := by
  unfold chartroomref12_check.f chk2
  rw [rCheck_eq k a ha hka, Option.bind_some, rCheck_eq k b hb hkb]
  by_cases h : Valid a
  · rw [if_pos (by simp [chk, h]), if_pos h]
    rfl
  · rw [if_neg (by simp [chk, h]), if_neg h]
    simp [chk, h]

theorem rat_loop (l : List S24) (d : Int) (hl : l.length ≤ 100000) : ∀ (m k i : Nat), l.length - i = m → i ≤ l.length → m < k →
    chartroomref12_At.l0 k l d i = some (atN (l.drop i) d)
  | 0, k + 1, i, hm, hi, hk => by
    have : i = l.length := by omega
    subst this
    rw [chartroomref12_At.l0, if_neg (by omega), List.drop_length, atN]
  | m + 1, k + 1, i, hm, hi, hk => by
    have hlt : i < l.length := by omega
    have ih := rat_loop l d hl m k (i + 1) (by omega) (by omega) (by omega)
    rw [chartroomref12_At.l0, if_pos (by omega), if_pos (by omega), w_add _ (by omega), ih, drop_rd l i hlt, atN]
    split <;> rfl
theorem rAt_eq (k : Nat) (l : List S24) (d : Int) (hl : l.length ≤ 100000) (hk : l.length < k) : chartroomref12_At.f k l d = some (atN l d) := by
  have := rat_loop l d hl l.length k 0 (by omega) (by omega) hk
  rwa [List.drop_zero] at this

end Go.Proofs.YtncejmjicjlanaaDoor.Q
