/- What codec's and the reference's checks compute, with enough rounds: plain Lean, no program. -/
import Derived.Test.YtncejmjicjlanaaQ2
import Derived.Test.YtncejmjicjlanaaQ3
import Derived.Test.YtncejmjicjlanaaHandEncode
import Derived.Test.YtncejmjicjlanaaHandREncode
import Derived.Test.YtncejmjicjlanaaQ1
import Derived.Test.YtncejmjicjlanaaQ4
namespace Go.Proofs.Ytncejmjicjlanaa.Q
section
open Go.RowKit Go.Proofs.YtncejmjicjlanaaW.PrintWords Go.Proofs.YtncejmjicjlanaaW.PrintLast Go.Proofs.YtncejmjicjlanaaW.PrintMore
set_option linter.unusedVariables false
set_option linter.unusedSimpArgs false
/-- With enough rounds. -/
def Ev {α : Type} (f : Nat → Option α) (a : α) : Prop := ∃ k0, ∀ k, k0 ≤ k → f k = some a
theorem rd_get (L : List S24) (i : Nat) (h : i < L.length) : rd_T24 L (i : Int) = L[i] := by simp [rd_T24, List.getD, List.getElem?_eq_getElem h]
mutual
def fmP : S24 → Bool
  | ⟨K, N, S, L⟩ => usedB K N S L && (if K < 3 then true else fmL L)
def fmL : List S24 → Bool
  | [] => true
  | v :: vs => fmP v && fmL vs
end
mutual
def dpP : S24 → Int
  | ⟨K, N, S, L⟩ => if K = 3 then wrap64 (dpL 0 L + 1) else 0
def dpL : Int → List S24 → Int
  | d, [] => d
  | d, v :: vs => dpL (mx d (dpP v)) vs
end
mutual
def smP : S24 → Bool
  | ⟨K, N, S, L⟩ => decide (L.length < 1000000000000) && smL L
def smL : List S24 → Bool
  | [] => true
  | v :: vs => smP v && smL vs
end
theorem smL_mem : ∀ {L : List S24} {v : S24}, smL L = true → v ∈ L → smP v = true
  | [], v, _, h => by cases h
  | x :: L, v, h, hm => by
    unfold smL at h
    rw [Bool.and_eq_true] at h
    rcases List.mem_cons.1 hm with rfl | hm
    · exact h.1
    · exact smL_mem h.2 hm
theorem formed_loop (L : List S24) (hL : L.length < 1000000000000) (hel : ∀ v ∈ L, Ev (fun k => codec_formed.f k v.f0 v.f1 v.f2 v.f3) (if fmP v then dpP v else 0, fmP v)) : ∀ (m i : Nat) (d : Int), L.length - i = m → i ≤ L.length →
    Ev (fun k => codec_formed.l0 k L (i : Int) d) (if fmL (L.drop i) then wrap64 (dpL d (L.drop i) + 1) else 0, fmL (L.drop i))
  | 0, i, d, hm, hi => by
    have : i = L.length := by omega
    subst this
    refine ⟨1, fun k hk => ?_⟩
    obtain ⟨k, rfl⟩ : ∃ j, k = j + 1 := ⟨k - 1, by omega⟩
    simp only
    unfold codec_formed.l0
    rw [if_neg (by omega)]
    simp [fmL, dpL]
  | m + 1, i, d, hm, hi => by
    have hlt : i < L.length := by omega
    obtain ⟨k1, h1⟩ := hel L[i] (List.getElem_mem hlt)
    obtain ⟨k2, h2⟩ := formed_loop L hL hel m (i + 1) (mx d (dpP L[i])) (by omega) (by omega)
    refine ⟨max k1 k2 + 1, fun k hk => ?_⟩
    obtain ⟨k, rfl⟩ : ∃ j, k = j + 1 := ⟨k - 1, by omega⟩
    have e1 := h1 k (by omega)
    have e2 := h2 k (by omega)
    simp only at e1 e2 ⊢
    unfold codec_formed.l0
    rw [if_pos (by omega), if_pos (by omega), rd_get L i hlt, e1, List.drop_eq_getElem_cons hlt]
    simp only [Option.bind_some, fmL, dpL]
    by_cases hf : fmP L[i] = true
    · simp only [hf, if_true, Bool.true_and]
      rw [IntWalk.wrap64_in _ (by omega), show ((i : Int) + 1) = ((i + 1 : Nat) : Int) by omega]
      exact e2
    · simp [hf]
theorem formed_ev : ∀ (n : Nat) (v : S24), SizeOf.sizeOf v < n → smP v = true → Ev (fun k => codec_formed.f k v.f0 v.f1 v.f2 v.f3) (if fmP v then dpP v else 0, fmP v)
  | 0, v, h, _ => absurd h (by omega)
  | n + 1, ⟨K, N, S, L⟩, h, hs => by
    have hsz : SizeOf.sizeOf L < n + 1 := by rw [S24.mk.sizeOf_spec] at h; omega
    unfold smP at hs
    rw [Bool.and_eq_true, decide_eq_true_eq] at hs
    obtain ⟨k2, h2⟩ := formed_loop L hs.1 (fun v hv => formed_ev n v (Nat.lt_of_lt_of_le (List.sizeOf_lt_of_mem hv) (by omega)) (smL_mem hs.2 hv)) L.length 0 0 (by omega) (by omega)
    refine ⟨k2 + 1, fun k hk => ?_⟩
    obtain ⟨k, rfl⟩ : ∃ j, k = j + 1 := ⟨k - 1, by omega⟩
    have e2 := h2 k (by omega)
    simp only [List.drop_zero] at e2 ⊢
    unfold codec_formed.f fmP dpP
    by_cases hu : usedB K N S L = true
    · rw [if_pos hu, hu]
      by_cases k3 : K < 3
      · rw [if_pos k3]
        simp [k3, show ¬ K = 3 by omega]
      · have e3 : K = 3 := by
          unfold usedB at hu
          rw [if_neg (by omega), if_neg (by omega)] at hu
          by_cases h3 : K = 3
          · exact h3
          · rw [if_neg h3] at hu
            cases hu
        rw [if_neg k3]
        simp only [k3, if_false, Bool.true_and, e3, if_true]
        exact e2
    · have hu2 : usedB K N S L = false := by simpa using hu
      rw [if_neg hu, hu2]
      simp
theorem rformed_loop (L : List S24) (K N : Int) (S : ByteArray) (hL : L.length < 1000000000000) (hel : ∀ v ∈ L, Ev (fun k => chartroomref01_Formed.f k v.f0 v.f1 v.f2 v.f3) (fmP v)) : ∀ (m i : Nat), L.length - i = m → i ≤ L.length →
    Ev (fun k => chartroomref01_Formed.l0 k (i : Int) K N S L) (fmL (L.drop i) && (decide (N = 0) && S.toList.isEmpty))
  | 0, i, hm, hi => by
    have : i = L.length := by omega
    subst this
    refine ⟨1, fun k hk => ?_⟩
    obtain ⟨k, rfl⟩ : ∃ j, k = j + 1 := ⟨k - 1, by omega⟩
    simp only
    unfold chartroomref01_Formed.l0
    rw [if_neg (by omega)]
    by_cases hN : N = 0
    · rw [if_pos hN]
      cases hS : S.toList <;> simp [fmL, hN, hS]
    · rw [if_neg hN]
      simp [fmL, hN]
  | m + 1, i, hm, hi => by
    have hlt : i < L.length := by omega
    obtain ⟨k1, h1⟩ := hel L[i] (List.getElem_mem hlt)
    obtain ⟨k2, h2⟩ := rformed_loop L K N S hL hel m (i + 1) (by omega) (by omega)
    refine ⟨max k1 k2 + 1, fun k hk => ?_⟩
    obtain ⟨k, rfl⟩ : ∃ j, k = j + 1 := ⟨k - 1, by omega⟩
    have e1 := h1 k (by omega)
    have e2 := h2 k (by omega)
    simp only at e1 e2 ⊢
    unfold chartroomref01_Formed.l0
    rw [if_pos (by omega), if_pos (by omega), rd_get L i hlt, e1, List.drop_eq_getElem_cons hlt]
    simp only [Option.bind_some, fmL]
    cases hf : fmP L[i]
    · simp
    · simp only [if_true, Bool.true_and]
      rw [IntWalk.wrap64_in _ (by omega), show ((i : Int) + 1) = ((i + 1 : Nat) : Int) by omega]
      exact e2
theorem rformed_ev : ∀ (n : Nat) (v : S24), SizeOf.sizeOf v < n → smP v = true → Ev (fun k => chartroomref01_Formed.f k v.f0 v.f1 v.f2 v.f3) (fmP v)
  | 0, v, h, _ => absurd h (by omega)
  | n + 1, ⟨K, N, S, L⟩, h, hs => by
    have hsz : SizeOf.sizeOf L < n + 1 := by rw [S24.mk.sizeOf_spec] at h; omega
    unfold smP at hs
    rw [Bool.and_eq_true, decide_eq_true_eq] at hs
    obtain ⟨k2, h2⟩ := rformed_loop L K N S hs.1 (fun v hv => rformed_ev n v (Nat.lt_of_lt_of_le (List.sizeOf_lt_of_mem hv) (by omega)) (smL_mem hs.2 hv)) L.length 0 (by omega) (by omega)
    refine ⟨k2 + 1, fun k hk => ?_⟩
    obtain ⟨k, rfl⟩ : ∃ j, k = j + 1 := ⟨k - 1, by omega⟩
    have e2 := h2 k (by omega)
    simp only [List.drop_zero] at e2 ⊢
    unfold chartroomref01_Formed.f fmP usedB
    by_cases k1 : K = 1
    · rw [if_pos k1, if_pos k1, if_pos (show K < 3 by omega)]
      by_cases hS : S.toList = []
      · rw [if_pos hS, hS]
        simp only [List.isEmpty_nil, Bool.true_and, Bool.and_true, if_true]
        rfl
      · rw [if_neg hS]
        simp [hS]
    · by_cases k2' : K = 2
      · rw [if_neg k1, if_pos k2', if_neg k1, if_pos k2', if_pos (show K < 3 by omega)]
        by_cases hN : N = 0
        · rw [if_pos hN]
          simp only [hN, decide_true, Bool.true_and, Bool.and_true, if_true]
          rfl
        · rw [if_neg hN]
          simp [hN]
      · by_cases k3 : K = 3
        · rw [if_neg k1, if_neg k2', if_pos k3, if_neg k1, if_neg k2', if_pos k3, if_neg (show ¬ K < 3 by omega), Bool.and_comm]
          exact e2
        · rw [if_neg k1, if_neg k2', if_neg k3, if_neg k1, if_neg k2', if_neg k3]
          simp
theorem rdepth_loop (L : List S24) (K N : Int) (S : ByteArray) (hL : L.length < 1000000000000) (hel : ∀ v ∈ L, Ev (fun k => chartroomref01_Depth.f k v.f0 v.f1 v.f2 v.f3) (dpP v)) : ∀ (m i : Nat) (d : Int), L.length - i = m → i ≤ L.length →
    Ev (fun k => chartroomref01_Depth.l0 k d (i : Int) K N S L) (wrap64 (dpL d (L.drop i) + 1))
  | 0, i, d, hm, hi => by
    have : i = L.length := by omega
    subst this
    refine ⟨1, fun k hk => ?_⟩
    obtain ⟨k, rfl⟩ : ∃ j, k = j + 1 := ⟨k - 1, by omega⟩
    simp only
    unfold chartroomref01_Depth.l0
    rw [if_neg (by omega)]
    simp [dpL]
  | m + 1, i, d, hm, hi => by
    have hlt : i < L.length := by omega
    obtain ⟨k1, h1⟩ := hel L[i] (List.getElem_mem hlt)
    obtain ⟨k2, h2⟩ := rdepth_loop L K N S hL hel m (i + 1) (mx d (dpP L[i])) (by omega) (by omega)
    refine ⟨max k1 k2 + 1, fun k hk => ?_⟩
    obtain ⟨k, rfl⟩ : ∃ j, k = j + 1 := ⟨k - 1, by omega⟩
    have e1 := h1 k (by omega)
    have e2 := h2 k (by omega)
    simp only at e1 e2 ⊢
    unfold chartroomref01_Depth.l0
    rw [if_pos (by omega), if_pos (by omega), rd_get L i hlt, e1, List.drop_eq_getElem_cons hlt]
    simp only [Option.bind_some, dpL]
    rw [IntWalk.wrap64_in ((i : Int) + 1) (by omega), show ((i : Int) + 1) = ((i + 1 : Nat) : Int) by omega]
    exact e2
theorem rdepth_ev : ∀ (n : Nat) (v : S24), SizeOf.sizeOf v < n → smP v = true → Ev (fun k => chartroomref01_Depth.f k v.f0 v.f1 v.f2 v.f3) (dpP v)
  | 0, v, h, _ => absurd h (by omega)
  | n + 1, ⟨K, N, S, L⟩, h, hs => by
    have hsz : SizeOf.sizeOf L < n + 1 := by rw [S24.mk.sizeOf_spec] at h; omega
    unfold smP at hs
    rw [Bool.and_eq_true, decide_eq_true_eq] at hs
    obtain ⟨k2, h2⟩ := rdepth_loop L K N S hs.1 (fun v hv => rdepth_ev n v (Nat.lt_of_lt_of_le (List.sizeOf_lt_of_mem hv) (by omega)) (smL_mem hs.2 hv)) L.length 0 0 (by omega) (by omega)
    refine ⟨k2 + 1, fun k hk => ?_⟩
    obtain ⟨k, rfl⟩ : ∃ j, k = j + 1 := ⟨k - 1, by omega⟩
    have e2 := h2 k (by omega)
    simp only [List.drop_zero] at e2 ⊢
    unfold chartroomref01_Depth.f dpP
    by_cases k3 : K = 3
    · rw [if_pos k3, if_pos k3]
      exact e2
    · rw [if_neg k3, if_neg k3]
/-- What Check answers. -/
def chkP (v : S24) : Int := if fmP v then (if dpP v > 16 then 2 else 0) else 1
theorem check_ev (v : S24) (hs : smP v = true) : Ev (fun k => codec_Check.f k v.f0 v.f1 v.f2 v.f3) (chkP v) := by
  obtain ⟨k0, h⟩ := formed_ev _ v (Nat.lt_succ_self _) hs
  refine ⟨k0, fun k hk => ?_⟩
  have e := h k hk
  simp only at e ⊢
  unfold codec_Check.f chkP
  rw [e]
  cases fmP v <;> simp
  split <;> rfl
theorem rcheck_ev (v : S24) (hs : smP v = true) : Ev (fun k => chartroomref01_Check.f k v.f0 v.f1 v.f2 v.f3) (chkP v) := by
  obtain ⟨k0, h⟩ := rformed_ev _ v (Nat.lt_succ_self _) hs
  obtain ⟨k1, h1⟩ := rdepth_ev _ v (Nat.lt_succ_self _) hs
  refine ⟨max k0 k1, fun k hk => ?_⟩
  have e := h k (by omega)
  have e1 := h1 k (by omega)
  simp only at e e1 ⊢
  unfold chartroomref01_Check.f chkP
  rw [e]
  cases fmP v
  · simp
  · simp only [Option.bind_some, if_true]
    rw [e1]
    simp
    split <;> rfl
end
section
open Go.RowKit Go.Proofs.YtncejmjicjlanaaW.PrintWords Go.Proofs.YtncejmjicjlanaaW.PrintLast Go.Proofs.YtncejmjicjlanaaW.PrintMore
set_option linter.unusedVariables false
set_option linter.unusedSimpArgs false
mutual
def cntP : S24 → Int → Int
  | ⟨K, N, S, L⟩, d => if d < 0 then 1000 else if (L.length : Int) > 150 then 1000 else cntL L d (wrap64 (1 + wrap64 ((S.size : Int) / 200)))
def cntL : List S24 → Int → Int → Int
  | [], _, n => n
  | v :: vs, d, n => if n ≤ 1000 then cntL vs d (wrap64 (n + cntP v (wrap64 (d - 1)))) else n
end
theorem count_loop (L : List S24) (K N : Int) (S : ByteArray) (d : Int) (hL : L.length ≤ 150) (hel : ∀ v ∈ L, Ev (fun k => chartroomref01_count.f k v.f0 v.f1 v.f2 v.f3 (wrap64 (d - 1))) (cntP v (wrap64 (d - 1)))) : ∀ (m i : Nat) (n : Int), L.length - i = m → i ≤ L.length →
    Ev (fun k => chartroomref01_count.l0 k d n (i : Int) K N S L) (cntL (L.drop i) d n)
  | 0, i, n, hm, hi => by
    have : i = L.length := by omega
    subst this
    refine ⟨1, fun k hk => ?_⟩
    obtain ⟨k, rfl⟩ : ∃ j, k = j + 1 := ⟨k - 1, by omega⟩
    simp only
    unfold chartroomref01_count.l0
    rw [if_neg (by omega)]
    simp [cntL]
  | m + 1, i, n, hm, hi => by
    have hlt : i < L.length := by omega
    obtain ⟨k1, h1⟩ := hel L[i] (List.getElem_mem hlt)
    obtain ⟨k2, h2⟩ := count_loop L K N S d hL hel m (i + 1) (wrap64 (n + cntP L[i] (wrap64 (d - 1)))) (by omega) (by omega)
    refine ⟨max k1 k2 + 1, fun k hk => ?_⟩
    obtain ⟨k, rfl⟩ : ∃ j, k = j + 1 := ⟨k - 1, by omega⟩
    have e1 := h1 k (by omega)
    have e2 := h2 k (by omega)
    simp only at e1 e2 ⊢
    unfold chartroomref01_count.l0
    rw [if_pos (by omega), List.drop_eq_getElem_cons hlt]
    unfold cntL
    by_cases hn : n ≤ 1000
    · rw [if_pos hn, if_pos (by omega), rd_get L i hlt, e1, if_pos hn]
      simp only [Option.bind_some]
      rw [IntWalk.wrap64_in ((i : Int) + 1) (by omega), show ((i : Int) + 1) = ((i + 1 : Nat) : Int) by omega]
      exact e2
    · rw [if_neg hn, if_neg hn]
theorem count_ev : ∀ (m : Nat) (v : S24) (d : Int), SizeOf.sizeOf v < m → Ev (fun k => chartroomref01_count.f k v.f0 v.f1 v.f2 v.f3 d) (cntP v d)
  | 0, v, d, h => absurd h (by omega)
  | m + 1, ⟨K, N, S, L⟩, d, h => by
    have hsz : SizeOf.sizeOf L < m + 1 := by rw [S24.mk.sizeOf_spec] at h; omega
    by_cases hd : d < 0
    · refine ⟨2, fun k hk => ?_⟩
      obtain ⟨k, rfl⟩ : ∃ j, k = j + 2 := ⟨k - 2, by omega⟩
      simp only
      unfold chartroomref01_count.f chartroomref01_count.j0 cntP
      rw [if_pos hd, if_pos rfl, if_pos hd]
    · by_cases hl : (L.length : Int) > 150
      · refine ⟨2, fun k hk => ?_⟩
        obtain ⟨k, rfl⟩ : ∃ j, k = j + 2 := ⟨k - 2, by omega⟩
        simp only
        unfold chartroomref01_count.f chartroomref01_count.j0 cntP
        rw [if_neg hd, if_pos (decide_eq_true hl), if_neg hd, if_pos hl]
      · obtain ⟨k2, h2⟩ := count_loop L K N S d (by omega) (fun v hv => count_ev m v _ (Nat.lt_of_lt_of_le (List.sizeOf_lt_of_mem hv) (by omega))) L.length 0 (wrap64 (1 + wrap64 ((S.size : Int) / 200))) (by omega) (by omega)
        refine ⟨k2 + 2, fun k hk => ?_⟩
        obtain ⟨k, rfl⟩ : ∃ j, k = j + 2 := ⟨k - 2, by omega⟩
        have e2 := h2 k (by omega)
        simp only [List.drop_zero] at e2 ⊢
        unfold chartroomref01_count.f chartroomref01_count.j0 cntP
        rw [if_neg hd, if_neg (by simpa using hl), if_neg hd, if_neg hl]
        exact e2
theorem few_ev (v : S24) : Ev (fun k => chartroomlaw01_few.f k [v]) (decide (cntP v 20 ≤ 200)) := by
  obtain ⟨k0, h⟩ := count_ev _ v 20 (Nat.lt_succ_self _)
  refine ⟨k0 + 2, fun k hk => ?_⟩
  obtain ⟨k, rfl⟩ : ∃ j, k = j + 2 := ⟨k - 2, by omega⟩
  have e := h (k + 1) (by omega)
  simp only at e ⊢
  unfold chartroomlaw01_few.f chartroomlaw01_few.l0
  have hrd : rd_T24 [v] 0 = v := rfl
  rw [if_pos (by simp), if_pos (by decide), if_pos (by simp), hrd]
  unfold chartroomref01_Few.f
  rw [e]
  simp only [Option.bind_some]
  by_cases hc : cntP v 20 ≤ 200
  · rw [if_pos (decide_eq_true hc)]
    unfold chartroomlaw01_few.l0
    rw [IntWalk.wrap64_in _ (by omega), if_neg (by simp)]
    simp [hc]
  · rw [if_neg (by simpa using hc)]
    simp [hc]
theorem count_bound_loop (d : Int) (hd0 : 0 ≤ d) (hd : d ≤ 20) : ∀ (L : List S24) (n : Int), (∀ v ∈ L, 1 ≤ cntP v (wrap64 (d - 1)) ∧ cntP v (wrap64 (d - 1)) ≤ 60000000000000000 + 1000 * (d + 1) ∧ (cntP v (wrap64 (d - 1)) ≤ 999 → ((encP v).length : Int) ≤ 211 * cntP v (wrap64 (d - 1)) ∧ smP v = true)) → 1 ≤ n → n ≤ 60000000000000000 + 1000 * (d + 2) →
    n ≤ cntL L d n ∧ cntL L d n ≤ 60000000000000000 + 1000 * (d + 2) ∧ (cntL L d n ≤ 999 → ((encL L).length : Int) ≤ 211 * (cntL L d n - n) ∧ smL L = true)
  | [], n, _, h1, h2 => by simp [cntL, encL, smL]; omega
  | v :: L, n, hel, h1, h2 => by
    obtain ⟨c1, c2, c3⟩ := hel v (by simp)
    unfold cntL
    by_cases hn : n ≤ 1000
    · rw [if_pos hn]
      have hw : wrap64 (n + cntP v (wrap64 (d - 1))) = n + cntP v (wrap64 (d - 1)) := IntWalk.wrap64_in _ (by omega)
      rw [hw]
      obtain ⟨r1, r2, r3⟩ := count_bound_loop d hd0 hd L (n + cntP v (wrap64 (d - 1))) (fun x hx => hel x (by simp [hx])) (by omega) (by omega)
      refine ⟨by omega, r2, fun hr => ?_⟩
      obtain ⟨s1, s2⟩ := r3 hr
      obtain ⟨t1, t2⟩ := c3 (by omega)
      refine ⟨?_, by simp [smL, t2, s2]⟩
      simp only [encL, List.length_append]
      omega
    · rw [if_neg hn]
      exact ⟨by omega, h2, fun h => by omega⟩
theorem count_bound : ∀ (m : Nat) (v : S24) (d : Int), SizeOf.sizeOf v < m → okI v = true → -1 ≤ d → d ≤ 20 → 1 ≤ cntP v d ∧ cntP v d ≤ 60000000000000000 + 1000 * (d + 2) ∧ (cntP v d ≤ 999 → ((encP v).length : Int) ≤ 211 * cntP v d ∧ smP v = true)
  | 0, v, d, h, _, _, _ => absurd h (by omega)
  | m + 1, ⟨K, N, S, L⟩, d, h, hok, hd0, hd1 => by
    have hsz : SizeOf.sizeOf L < m + 1 := by rw [S24.mk.sizeOf_spec] at h; omega
    obtain ⟨⟨hN, hS⟩, hL⟩ := okI_parts hok
    unfold cntP
    by_cases hd : d < 0
    · rw [if_pos hd]
      exact ⟨by omega, by omega, fun h => by omega⟩
    rw [if_neg hd]
    by_cases hl : (L.length : Int) > 150
    · rw [if_pos hl]
      exact ⟨by omega, by omega, fun h => by omega⟩
    rw [if_neg hl]
    have hw : wrap64 (1 + wrap64 ((S.size : Int) / 200)) = 1 + (S.size : Int) / 200 := by
      rw [IntWalk.wrap64_in ((S.size : Int) / 200) (by omega), IntWalk.wrap64_in _ (by omega)]
    rw [hw]
    have hwd : wrap64 (d - 1) = d - 1 := IntWalk.wrap64_in _ (by omega)
    obtain ⟨r1, r2, r3⟩ := count_bound_loop d (by omega) hd1 L (1 + (S.size : Int) / 200) (fun v hv => by
      rw [hwd]
      have := count_bound m v (d - 1) (Nat.lt_of_lt_of_le (List.sizeOf_lt_of_mem hv) (by omega)) (okIL_mem hL hv) (by omega) (by omega)
      exact ⟨this.1, by have := this.2.1; omega, this.2.2⟩) (by omega) (by omega)
    refine ⟨by omega, r2, fun hr => ?_⟩
    obtain ⟨s1, s2⟩ := r3 hr
    refine ⟨?_, by simp [smP, s2]; omega⟩
    have n1 := numF_len 10 (unsP N)
    have n2 := numF_len 10 (S.size : Int)
    have n3 := numF_len 10 (L.length : Int)
    unfold encP
    by_cases k1 : K = 1
    · rw [if_pos k1]
      simp only [List.length_cons, numl]
      omega
    · rw [if_neg k1]
      by_cases k2 : K = 2
      · rw [if_pos k2]
        simp only [List.length_cons, List.length_append, bytesOf_length, numl]
        omega
      · rw [if_neg k2]
        simp only [List.length_cons, List.length_append, numl]
        omega
theorem few_facts (v : S24) (hok : okI v = true) (h : cntP v 20 ≤ 200) : (encP v).length < 140737487000000 ∧ smP v = true := by
  obtain ⟨_, _, h3⟩ := count_bound _ v 20 (Nat.lt_succ_self _) hok (by omega) (by omega)
  obtain ⟨h4, h5⟩ := h3 (by omega)
  exact ⟨by omega, h5⟩
/-- What Encode answers. -/
def encA (v : S24) : List Int := if chkP v = 0 then encP v else []
theorem enc_ev (v : S24) (hl : (encP v).length < 140737487000000) (hs : smP v = true) : Ev (fun k => codec_Encode.f k v.f0 v.f1 v.f2 v.f3) (encA v, chkP v) := by
  obtain ⟨k0, h⟩ := check_ev v hs
  refine ⟨k0, fun k hk => ?_⟩
  have e := h k hk
  simp only at e ⊢
  unfold codec_Encode.f encA
  rw [s24_eta, if_pos hl, e]
  simp only [Option.bind_some]
  by_cases h0 : chkP v = 0
  · rw [if_pos h0, if_pos h0, h0]
  · rw [if_neg h0, if_neg h0]
theorem renc_ev (v : S24) (hl : (encP v).length < 140737487000000) (hs : smP v = true) (hok : okI v = true) : Ev (fun k => chartroomref01_Encode.f k v.f0 v.f1 v.f2 v.f3) (encA v, chkP v) := by
  obtain ⟨k0, h⟩ := rcheck_ev v hs
  refine ⟨k0, fun k hk => ?_⟩
  have e := h k hk
  simp only at e ⊢
  unfold chartroomref01_Encode.f encA chartroomref01_encode.f
  rw [s24_eta, if_pos hl, if_pos hok, e]
  simp only [Option.bind_some]
  by_cases h0 : chkP v = 0
  · rw [if_pos h0, if_pos h0, h0]
  · rw [if_neg h0, if_neg h0]
theorem size_ev (v : S24) (hl : (encP v).length < 140737487000000) (hs : smP v = true) : Ev (fun k => codec_Size.f k v.f0 v.f1 v.f2 v.f3) (((encA v).length : Int), chkP v) := by
  obtain ⟨k0, h⟩ := enc_ev v hl hs
  refine ⟨k0, fun k hk => ?_⟩
  have e := h k hk
  simp only at e ⊢
  unfold codec_Size.f
  rw [e]
  rfl
theorem rsize_ev (v : S24) (hl : (encP v).length < 140737487000000) (hs : smP v = true) (hok : okI v = true) : Ev (fun k => chartroomref01_Size.f k v.f0 v.f1 v.f2 v.f3) (((encA v).length : Int), chkP v) := by
  obtain ⟨k0, h⟩ := renc_ev v hl hs hok
  refine ⟨k0, fun k hk => ?_⟩
  have e := h k hk
  simp only at e ⊢
  unfold chartroomref01_Size.f
  rw [e]
  rfl
end
end Go.Proofs.Ytncejmjicjlanaa.Q
