/- Bounds of what codec reads; byte strings by their lists. Plain Lean. -/
import Derived.Test.YtncejmjicjlanaaDoorOpsV
namespace Go.Proofs.YtncejmjicjlanaaDoor.Q
open Go.RowKit Go.Proofs.YtncejmjicjlanaaDoorW.PrintWords Go.Proofs.YtncejmjicjlanaaDoorW.PrintLast Go.Proofs.YtncejmjicjlanaaDoorW.PrintMore
set_option linter.unusedVariables false
set_option linter.unusedSimpArgs false
theorem toList_loop (b : ByteArray) : ∀ (m i : Nat) (r : List UInt8), b.size - i = m → ByteArray.toList.loop b i r = r.reverse ++ b.data.toList.drop i
  | 0, i, r, h => by
    rw [ByteArray.toList.loop, if_neg (by omega), List.drop_of_length_le (by have : b.data.toList.length = b.size := rfl; omega), List.append_nil]
  | m + 1, i, r, h => by
    have hi : i < b.data.toList.length := by have : b.data.toList.length = b.size := rfl; omega
    have hi2 : i < b.data.size := hi
    rw [ByteArray.toList.loop, if_pos (by omega), toList_loop b m (i + 1) _ (by omega), List.drop_eq_getElem_cons hi]
    have e : b.get! i = b.data.toList[i] := by
      show b.data[i]! = _
      rw [getElem!_pos b.data i hi2]
      rfl
    rw [e]
    simp
theorem toList_data (b : ByteArray) : b.toList = b.data.toList := by
  unfold ByteArray.toList
  rw [toList_loop b b.size 0 [] (by omega)]
  rfl
theorem toList_inj {a b : ByteArray} (h : a.toList = b.toList) : a = b := by
  rw [toList_data, toList_data] at h
  cases a; cases b
  simpa using h
theorem toList_beq (a b : ByteArray) : (a.toList == b.toList) = true ↔ a = b := by
  rw [beq_iff_eq]
  exact ⟨toList_inj, fun h => by rw [h]⟩
theorem empty_of (s : ByteArray) (h : s.toList.isEmpty = true) : s.size = 0 := by
  rw [toList_data, List.isEmpty_iff] at h
  have : s.data.toList.length = 0 := by rw [h]; rfl
  exact this
theorem encL_mem_len {L : List S63} {u : S63} (h : u ∈ L) : (encP u).length ≤ (encL L).length := encL_mem h
theorem fmL_mem : ∀ {L : List S63} {u : S63}, fmL L = true → u ∈ L → fmP u = true
  | [], u, _, h => by cases h
  | x :: L, u, h, hm => by
    unfold fmL at h
    rw [Bool.and_eq_true] at h
    rcases List.mem_cons.1 hm with rfl | hm
    · exact h.1
    · exact fmL_mem h.2 hm
/-- A value that codec may hold, of an encoding of at most n bytes. -/
def Bd (n : Nat) (v : S63) : Prop := v.f2.size ≤ n ∧ v.f3.length ≤ n ∧ ∀ u ∈ v.f3, fmP u = true ∧ (encP u).length ≤ n
theorem bd_of {n : Nat} {v : S63} (hf : fmP v = true) (hn : (encP v).length ≤ n) : Bd n v := by
  obtain ⟨K, N, S, L⟩ := v
  unfold fmP usedB at hf
  by_cases k1 : K = 1
  · subst k1
    simp at hf
    have h2 := empty_of S (by simpa using hf.1)
    refine ⟨by show S.size ≤ n; omega, by show L.length ≤ n; rw [hf.2]; simp, fun u hu => ?_⟩
    have hu2 : u ∈ L := hu
    rw [hf.2] at hu2
    cases hu2
  · by_cases k2 : K = 2
    · subst k2
      simp at hf
      have h3 : (encP ⟨2, N, S, L⟩).length = 1 + ((numl (S.size : Int)).length + S.size) := by simp [encP, bytesOf_length]; omega
      refine ⟨by show S.size ≤ n; omega, by show L.length ≤ n; rw [hf.2]; simp, fun u hu => ?_⟩
      have hu2 : u ∈ L := hu
      rw [hf.2] at hu2
      cases hu2
    · by_cases k3 : K = 3
      · subst k3
        simp at hf
        have h2 := empty_of S (by simpa using hf.1.2)
        have h3 : (encP ⟨3, N, S, L⟩).length = 1 + ((numl (L.length : Int)).length + (encL L).length) := by simp [encP]; omega
        have h4 := encL_len L
        refine ⟨by show S.size ≤ n; omega, by show L.length ≤ n; omega, fun u hu => ⟨fmL_mem hf.2 hu, ?_⟩⟩
        have := encL_mem (v := u) (L := L) hu
        omega
      · simp [k1, k2, k3] at hf
theorem bd_nil (n : Nat) : Bd n z63 := ⟨Nat.zero_le _, Nat.zero_le _, fun u hu => by cases hu⟩
/-- What Decode reads, if it reads. -/
theorem decP_some {l : List Int} {v : S63} (h : decP l = (v, 0)) : valP 16 l = some (v, []) := by
  unfold decP at h
  split at h
  · rename_i v' hv
    injection h with h1 h2
    rw [hv, h1]
  · injection h with h1 h2
    exact absurd h2 (by decide)
theorem dec_bd {l : List Int} {v : S63} (hb : Bytes l) (hl : l.length < 2000000000) (h : decP l = (v, 0)) : fmP v = true ∧ encP v = l ∧ okI v = true ∧ Bd l.length v := by
  obtain ⟨h1, h2, h3, h4⟩ := decP_ok hb hl (decP_some h)
  have hf : fmP v = true := by
    unfold chkP at h2
    split at h2
    · assumption
    · exact absurd h2 (by decide)
  exact ⟨hf, h1, h3, bd_of hf (by rw [h1]; exact Nat.le_refl _)⟩
end Go.Proofs.YtncejmjicjlanaaDoor.Q
