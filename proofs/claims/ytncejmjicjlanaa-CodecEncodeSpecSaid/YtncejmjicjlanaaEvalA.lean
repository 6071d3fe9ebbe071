/- What codec's and the reference's checks compute, with enough rounds: plain Lean, no program. -/
import Derived.Test.YtncejmjicjlanaaQ2
import Derived.Test.YtncejmjicjlanaaQ3
import Derived.Test.YtncejmjicjlanaaHandEncode
import Derived.Test.YtncejmjicjlanaaHandREncode
namespace Go.Proofs.Ytncejmjicjlanaa.Q
open Go.RowKit Go.Proofs.YtncejmjicjlanaaW.PrintWords Go.Proofs.YtncejmjicjlanaaW.PrintLast Go.Proofs.YtncejmjicjlanaaW.PrintMore
set_option linter.unusedVariables false
set_option linter.unusedSimpArgs false
/-- With enough rounds. -/
def Ev {α : Type} (f : Nat → Option α) (a : α) : Prop := ∃ k0, ∀ k, k0 ≤ k → f k = some a
theorem rd_get (L : List S24) (i : Nat) (h : i < L.length) : rd_T24 L (i : Int) = L[i] := by simp [rd_T24, List.getD, List.getElem?_eq_getElem h]
mutual
def fmP : S24 → Bool
  | ⟨K, N, S, L⟩ => usedB K N S L && (if K < 3 then true else fmL L)
def fmL : List S24 → Bool
  | [] => true
  | v :: vs => fmP v && fmL vs
end
mutual
def dpP : S24 → Int
  | ⟨K, N, S, L⟩ => if K = 3 then wrap64 (dpL 0 L + 1) else 0
def dpL : Int → List S24 → Int
  | d, [] => d
  | d, v :: vs => dpL (mx d (dpP v)) vs
end
mutual
def smP : S24 → Bool
  | ⟨K, N, S, L⟩ => decide (L.length < 1000000000000) && smL L
def smL : List S24 → Bool
  | [] => true
  | v :: vs => smP v && smL vs
end
theorem smL_mem : ∀ {L : List S24} {v : S24}, smL L = true → v ∈ L → smP v = true
  | [], v, _, h => by cases h
  | x :: L, v, h, hm => by
    unfold smL at h
    rw [Bool.and_eq_true] at h
    rcases List.mem_cons.1 hm with rfl | hm
    · exact h.1
    · exact smL_mem h.2 hm
theorem formed_loop (L : List S24) (hL : L.length < 1000000000000) (hel : ∀ v ∈ L, Ev (fun k => codec_formed.f k v.f0 v.f1 v.f2 v.f3) (if fmP v then dpP v else 0, fmP v)) : ∀ (m i : Nat) (d : Int), L.length - i = m → i ≤ L.length →
    Ev (fun k => codec_formed.l0 k L (i : Int) d) (if fmL (L.drop i) then wrap64 (dpL d (L.drop i) + 1) else 0, fmL (L.drop i))
  | 0, i, d, hm, hi => by
    have : i = L.length := by omega
    subst this
    refine ⟨1, fun k hk => ?_⟩
    obtain ⟨k, rfl⟩ : ∃ j, k = j + 1 := ⟨k - 1, by omega⟩
    simp only
    unfold codec_formed.l0
    rw [if_neg (by omega)]
    simp [fmL, dpL]
  | m + 1, i, d, hm, hi => by
    have hlt : i < L.length := by omega
    obtain ⟨k1, h1⟩ := hel L[i] (List.getElem_mem hlt)
    obtain ⟨k2, h2⟩ := formed_loop L hL hel m (i + 1) (mx d (dpP L[i])) (by omega) (by omega)
    refine ⟨max k1 k2 + 1, fun k hk => ?_⟩
    obtain ⟨k, rfl⟩ : ∃ j, k = j + 1 := ⟨k - 1, by omega⟩
    have e1 := h1 k (by omega)
    have e2 := h2 k (by omega)
    simp only at e1 e2 ⊢
    unfold codec_formed.l0
    rw [if_pos (by omega), if_pos (by omega), rd_get L i hlt, e1, List.drop_eq_getElem_cons hlt]
    simp only [Option.bind_some, fmL, dpL]
    by_cases hf : fmP L[i] = true
    · simp only [hf, if_true, Bool.true_and]
      rw [IntWalk.wrap64_in _ (by omega), show ((i : Int) + 1) = ((i + 1 : Nat) : Int) by omega]
      exact e2
    · simp [hf]
theorem formed_ev : ∀ (n : Nat) (v : S24), SizeOf.sizeOf v < n → smP v = true → Ev (fun k => codec_formed.f k v.f0 v.f1 v.f2 v.f3) (if fmP v then dpP v else 0, fmP v)
  | 0, v, h, _ => absurd h (by omega)
  | n + 1, ⟨K, N, S, L⟩, h, hs => by
    have hsz : SizeOf.sizeOf L < n + 1 := by rw [S24.mk.sizeOf_spec] at h; omega
    unfold smP at hs
    rw [Bool.and_eq_true, decide_eq_true_eq] at hs
    obtain ⟨k2, h2⟩ := formed_loop L hs.1 (fun v hv => formed_ev n v (Nat.lt_of_lt_of_le (List.sizeOf_lt_of_mem hv) (by omega)) (smL_mem hs.2 hv)) L.length 0 0 (by omega) (by omega)
    refine ⟨k2 + 1, fun k hk => ?_⟩
    obtain ⟨k, rfl⟩ : ∃ j, k = j + 1 := ⟨k - 1, by omega⟩
    have e2 := h2 k (by omega)
    simp only [List.drop_zero] at e2 ⊢
    unfold codec_formed.f fmP dpP
    by_cases hu : usedB K N S L = true
    · rw [if_pos hu, hu]
      by_cases k3 : K < 3
      · rw [if_pos k3]
        simp [k3, show ¬ K = 3 by omega]
      · have e3 : K = 3 := by
          unfold usedB at hu
          rw [if_neg (by omega), if_neg (by omega)] at hu
          by_cases h3 : K = 3
          · exact h3
          · rw [if_neg h3] at hu
            cases hu
        rw [if_neg k3]
        simp only [k3, if_false, Bool.true_and, e3, if_true]
        exact e2
    · have hu2 : usedB K N S L = false := by simpa using hu
      rw [if_neg hu, hu2]
      simp
theorem rformed_loop (L : List S24) (K N : Int) (S : ByteArray) (hL : L.length < 1000000000000) (hel : ∀ v ∈ L, Ev (fun k => chartroomref01_Formed.f k v.f0 v.f1 v.f2 v.f3) (fmP v)) : ∀ (m i : Nat), L.length - i = m → i ≤ L.length →
    Ev (fun k => chartroomref01_Formed.l0 k (i : Int) K N S L) (fmL (L.drop i) && (decide (N = 0) && S.toList.isEmpty))
  | 0, i, hm, hi => by
    have : i = L.length := by omega
    subst this
    refine ⟨1, fun k hk => ?_⟩
    obtain ⟨k, rfl⟩ : ∃ j, k = j + 1 := ⟨k - 1, by omega⟩
    simp only
    unfold chartroomref01_Formed.l0
    rw [if_neg (by omega)]
    by_cases hN : N = 0
    · rw [if_pos hN]
      cases hS : S.toList <;> simp [fmL, hN, hS]
    · rw [if_neg hN]
      simp [fmL, hN]
  | m + 1, i, hm, hi => by
    have hlt : i < L.length := by omega
    obtain ⟨k1, h1⟩ := hel L[i] (List.getElem_mem hlt)
    obtain ⟨k2, h2⟩ := rformed_loop L K N S hL hel m (i + 1) (by omega) (by omega)
    refine ⟨max k1 k2 + 1, fun k hk => ?_⟩
    obtain ⟨k, rfl⟩ : ∃ j, k = j + 1 := ⟨k - 1, by omega⟩
    have e1 := h1 k (by omega)
    have e2 := h2 k (by omega)
    simp only at e1 e2 ⊢
    unfold chartroomref01_Formed.l0
    rw [if_pos (by omega), if_pos (by omega), rd_get L i hlt, e1, List.drop_eq_getElem_cons hlt]
    simp only [Option.bind_some, fmL]
    cases hf : fmP L[i]
    · simp
    · simp only [if_true, Bool.true_and]
      rw [IntWalk.wrap64_in _ (by omega), show ((i : Int) + 1) = ((i + 1 : Nat) : Int) by omega]
      exact e2
theorem rformed_ev : ∀ (n : Nat) (v : S24), SizeOf.sizeOf v < n → smP v = true → Ev (fun k => chartroomref01_Formed.f k v.f0 v.f1 v.f2 v.f3) (fmP v)
  | 0, v, h, _ => absurd h (by omega)
  | n + 1, ⟨K, N, S, L⟩, h, hs => by
    have hsz : SizeOf.sizeOf L < n + 1 := by rw [S24.mk.sizeOf_spec] at h; omega
    unfold smP at hs
    rw [Bool.and_eq_true, decide_eq_true_eq] at hs
    obtain ⟨k2, h2⟩ := rformed_loop L K N S hs.1 (fun v hv => rformed_ev n v (Nat.lt_of_lt_of_le (List.sizeOf_lt_of_mem hv) (by omega)) (smL_mem hs.2 hv)) L.length 0 (by omega) (by omega)
    refine ⟨k2 + 1, fun k hk => ?_⟩
    obtain ⟨k, rfl⟩ : ∃ j, k = j + 1 := ⟨k - 1, by omega⟩
    have e2 := h2 k (by omega)
    simp only [List.drop_zero] at e2 ⊢
    unfold chartroomref01_Formed.f fmP usedB
    by_cases k1 : K = 1
    · rw [if_pos k1, if_pos k1, if_pos (show K < 3 by omega)]
      by_cases hS : S.toList = []
      · rw [if_pos hS, hS]
        simp only [List.isEmpty_nil, Bool.true_and, Bool.and_true, if_true]
        rfl
      · rw [if_neg hS]
        simp [hS]
    · by_cases k2' : K = 2
      · rw [if_neg k1, if_pos k2', if_neg k1, if_pos k2', if_pos (show K < 3 by omega)]
        by_cases hN : N = 0
        · rw [if_pos hN]
          simp only [hN, decide_true, Bool.true_and, Bool.and_true, if_true]
          rfl
        · rw [if_neg hN]
          simp [hN]
      · by_cases k3 : K = 3
        · rw [if_neg k1, if_neg k2', if_pos k3, if_neg k1, if_neg k2', if_pos k3, if_neg (show ¬ K < 3 by omega), Bool.and_comm]
          exact e2
        · rw [if_neg k1, if_neg k2', if_neg k3, if_neg k1, if_neg k2', if_neg k3]
          simp
theorem rdepth_loop (L : List S24) (K N : Int) (S : ByteArray) (hL : L.length < 1000000000000) (hel : ∀ v ∈ L, Ev (fun k => chartroomref01_Depth.f k v.f0 v.f1 v.f2 v.f3) (dpP v)) : ∀ (m i : Nat) (d : Int), L.length - i = m → i ≤ L.length →
    Ev (fun k => chartroomref01_Depth.l0 k d (i : Int) K N S L) (wrap64 (dpL d (L.drop i) + 1))
  | 0, i, d, hm, hi => by
    have : i = L.length := by omega
    subst this
    refine ⟨1, fun k hk => ?_⟩
    obtain ⟨k, rfl⟩ : ∃ j, k = j + 1 := ⟨k - 1, by omega⟩
    simp only
    unfold chartroomref01_Depth.l0
    rw [if_neg (by omega)]
    simp [dpL]
  | m + 1, i, d, hm, hi => by
    have hlt : i < L.length := by omega
    obtain ⟨k1, h1⟩ := hel L[i] (List.getElem_mem hlt)
    obtain ⟨k2, h2⟩ := rdepth_loop L K N S hL hel m (i + 1) (mx d (dpP L[i])) (by omega) (by omega)
    refine ⟨max k1 k2 + 1, fun k hk => ?_⟩
    obtain ⟨k, rfl⟩ : ∃ j, k = j + 1 := ⟨k - 1, by omega⟩
    have e1 := h1 k (by omega)
    have e2 := h2 k (by omega)
    simp only at e1 e2 ⊢
    unfold chartroomref01_Depth.l0
    rw [if_pos (by omega), if_pos (by omega), rd_get L i hlt, e1, List.drop_eq_getElem_cons hlt]
    simp only [Option.bind_some, dpL]
    rw [IntWalk.wrap64_in ((i : Int) + 1) (by omega), show ((i : Int) + 1) = ((i + 1 : Nat) : Int) by omega]
    exact e2
theorem rdepth_ev : ∀ (n : Nat) (v : S24), SizeOf.sizeOf v < n → smP v = true → Ev (fun k => chartroomref01_Depth.f k v.f0 v.f1 v.f2 v.f3) (dpP v)
  | 0, v, h, _ => absurd h (by omega)
  | n + 1, ⟨K, N, S, L⟩, h, hs => by
    have hsz : SizeOf.sizeOf L < n + 1 := by rw [S24.mk.sizeOf_spec] at h; omega
    unfold smP at hs
    rw [Bool.and_eq_true, decide_eq_true_eq] at hs
    obtain ⟨k2, h2⟩ := rdepth_loop L K N S hs.1 (fun v hv => rdepth_ev n v (Nat.lt_of_lt_of_le (List.sizeOf_lt_of_mem hv) (by omega)) (smL_mem hs.2 hv)) L.length 0 0 (by omega) (by omega)
    refine ⟨k2 + 1, fun k hk => ?_⟩
    obtain ⟨k, rfl⟩ : ∃ j, k = j + 1 := ⟨k - 1, by omega⟩
    have e2 := h2 k (by omega)
    simp only [List.drop_zero] at e2 ⊢
    unfold chartroomref01_Depth.f dpP
    by_cases k3 : K = 3
    · rw [if_pos k3, if_pos k3]
      exact e2
    · rw [if_neg k3, if_neg k3]
/-- What Check answers. -/
def chkP (v : S24) : Int := if fmP v then (if dpP v > 16 then 2 else 0) else 1
theorem check_ev (v : S24) (hs : smP v = true) : Ev (fun k => codec_Check.f k v.f0 v.f1 v.f2 v.f3) (chkP v) := by
  obtain ⟨k0, h⟩ := formed_ev _ v (Nat.lt_succ_self _) hs
  refine ⟨k0, fun k hk => ?_⟩
  have e := h k hk
  simp only at e ⊢
  unfold codec_Check.f chkP
  rw [e]
  cases fmP v <;> simp
  split <;> rfl
theorem rcheck_ev (v : S24) (hs : smP v = true) : Ev (fun k => chartroomref01_Check.f k v.f0 v.f1 v.f2 v.f3) (chkP v) := by
  obtain ⟨k0, h⟩ := rformed_ev _ v (Nat.lt_succ_self _) hs
  obtain ⟨k1, h1⟩ := rdepth_ev _ v (Nat.lt_succ_self _) hs
  refine ⟨max k0 k1, fun k hk => ?_⟩
  have e := h k (by omega)
  have e1 := h1 k (by omega)
  simp only at e e1 ⊢
  unfold chartroomref01_Check.f chkP
  rw [e]
  cases fmP v
  · simp
  · simp only [Option.bind_some, if_true]
    rw [e1]
    simp
    split <;> rfl
end Go.Proofs.Ytncejmjicjlanaa.Q
