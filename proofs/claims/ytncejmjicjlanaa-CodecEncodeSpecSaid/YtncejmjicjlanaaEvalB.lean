/- What Few, Encode and Size compute, with enough rounds, and what Few means: plain Lean, no program. -/
import Derived.Test.YtncejmjicjlanaaQ1
import Derived.Test.YtncejmjicjlanaaQ4
import Derived.Test.YtncejmjicjlanaaEvalA
namespace Go.Proofs.Ytncejmjicjlanaa.Q
open Go.RowKit Go.Proofs.YtncejmjicjlanaaW.PrintWords Go.Proofs.YtncejmjicjlanaaW.PrintLast Go.Proofs.YtncejmjicjlanaaW.PrintMore
set_option linter.unusedVariables false
set_option linter.unusedSimpArgs false
mutual
def cntP : S24 → Int → Int
  | ⟨K, N, S, L⟩, d => if d < 0 then 1000 else if (L.length : Int) > 150 then 1000 else cntL L d (wrap64 (1 + wrap64 ((S.size : Int) / 200)))
def cntL : List S24 → Int → Int → Int
  | [], _, n => n
  | v :: vs, d, n => if n ≤ 1000 then cntL vs d (wrap64 (n + cntP v (wrap64 (d - 1)))) else n
end
theorem count_loop (L : List S24) (K N : Int) (S : ByteArray) (d : Int) (hL : L.length ≤ 150) (hel : ∀ v ∈ L, Ev (fun k => chartroomref01_count.f k v.f0 v.f1 v.f2 v.f3 (wrap64 (d - 1))) (cntP v (wrap64 (d - 1)))) : ∀ (m i : Nat) (n : Int), L.length - i = m → i ≤ L.length →
    Ev (fun k => chartroomref01_count.l0 k d n (i : Int) K N S L) (cntL (L.drop i) d n)
  | 0, i, n, hm, hi => by
    have : i = L.length := by omega
    subst this
    refine ⟨1, fun k hk => ?_⟩
    obtain ⟨k, rfl⟩ : ∃ j, k = j + 1 := ⟨k - 1, by omega⟩
    simp only
    unfold chartroomref01_count.l0
    rw [if_neg (by omega)]
    simp [cntL]
  | m + 1, i, n, hm, hi => by
    have hlt : i < L.length := by omega
    obtain ⟨k1, h1⟩ := hel L[i] (List.getElem_mem hlt)
    obtain ⟨k2, h2⟩ := count_loop L K N S d hL hel m (i + 1) (wrap64 (n + cntP L[i] (wrap64 (d - 1)))) (by omega) (by omega)
    refine ⟨max k1 k2 + 1, fun k hk => ?_⟩
    obtain ⟨k, rfl⟩ : ∃ j, k = j + 1 := ⟨k - 1, by omega⟩
    have e1 := h1 k (by omega)
    have e2 := h2 k (by omega)
    simp only at e1 e2 ⊢
    unfold chartroomref01_count.l0
    rw [if_pos (by omega), List.drop_eq_getElem_cons hlt]
    unfold cntL
    by_cases hn : n ≤ 1000
    · rw [if_pos hn, if_pos (by omega), rd_get L i hlt, e1, if_pos hn]
      simp only [Option.bind_some]
      rw [IntWalk.wrap64_in ((i : Int) + 1) (by omega), show ((i : Int) + 1) = ((i + 1 : Nat) : Int) by omega]
      exact e2
    · rw [if_neg hn, if_neg hn]
theorem count_ev : ∀ (m : Nat) (v : S24) (d : Int), SizeOf.sizeOf v < m → Ev (fun k => chartroomref01_count.f k v.f0 v.f1 v.f2 v.f3 d) (cntP v d)
  | 0, v, d, h => absurd h (by omega)
  | m + 1, ⟨K, N, S, L⟩, d, h => by
    have hsz : SizeOf.sizeOf L < m + 1 := by rw [S24.mk.sizeOf_spec] at h; omega
    by_cases hd : d < 0
    · refine ⟨2, fun k hk => ?_⟩
      obtain ⟨k, rfl⟩ : ∃ j, k = j + 2 := ⟨k - 2, by omega⟩
      simp only
      unfold chartroomref01_count.f chartroomref01_count.j0 cntP
      rw [if_pos hd, if_pos rfl, if_pos hd]
    · by_cases hl : (L.length : Int) > 150
      · refine ⟨2, fun k hk => ?_⟩
        obtain ⟨k, rfl⟩ : ∃ j, k = j + 2 := ⟨k - 2, by omega⟩
        simp only
        unfold chartroomref01_count.f chartroomref01_count.j0 cntP
        rw [if_neg hd, if_pos (decide_eq_true hl), if_neg hd, if_pos hl]
      · obtain ⟨k2, h2⟩ := count_loop L K N S d (by omega) (fun v hv => count_ev m v _ (Nat.lt_of_lt_of_le (List.sizeOf_lt_of_mem hv) (by omega))) L.length 0 (wrap64 (1 + wrap64 ((S.size : Int) / 200))) (by omega) (by omega)
        refine ⟨k2 + 2, fun k hk => ?_⟩
        obtain ⟨k, rfl⟩ : ∃ j, k = j + 2 := ⟨k - 2, by omega⟩
        have e2 := h2 k (by omega)
        simp only [List.drop_zero] at e2 ⊢
        unfold chartroomref01_count.f chartroomref01_count.j0 cntP
        rw [if_neg hd, if_neg (by simpa using hl), if_neg hd, if_neg hl]
        exact e2
theorem few_ev (v : S24) : Ev (fun k => chartroomlaw01_few.f k [v]) (decide (cntP v 20 ≤ 200)) := by
  obtain ⟨k0, h⟩ := count_ev _ v 20 (Nat.lt_succ_self _)
  refine ⟨k0 + 2, fun k hk => ?_⟩
  obtain ⟨k, rfl⟩ : ∃ j, k = j + 2 := ⟨k - 2, by omega⟩
  have e := h (k + 1) (by omega)
  simp only at e ⊢
  unfold chartroomlaw01_few.f chartroomlaw01_few.l0
  have hrd : rd_T24 [v] 0 = v := rfl
  rw [if_pos (by simp), if_pos (by decide), if_pos (by simp), hrd]
  unfold chartroomref01_Few.f
  rw [e]
  simp only [Option.bind_some]
  by_cases hc : cntP v 20 ≤ 200
  · rw [if_pos (decide_eq_true hc)]
    unfold chartroomlaw01_few.l0
    rw [IntWalk.wrap64_in _ (by omega), if_neg (by simp)]
    simp [hc]
  · rw [if_neg (by simpa using hc)]
    simp [hc]
theorem count_bound_loop (d : Int) (hd0 : 0 ≤ d) (hd : d ≤ 20) : ∀ (L : List S24) (n : Int), (∀ v ∈ L, 1 ≤ cntP v (wrap64 (d - 1)) ∧ cntP v (wrap64 (d - 1)) ≤ 60000000000000000 + 1000 * (d + 1) ∧ (cntP v (wrap64 (d - 1)) ≤ 999 → ((encP v).length : Int) ≤ 211 * cntP v (wrap64 (d - 1)) ∧ smP v = true)) → 1 ≤ n → n ≤ 60000000000000000 + 1000 * (d + 2) →
    n ≤ cntL L d n ∧ cntL L d n ≤ 60000000000000000 + 1000 * (d + 2) ∧ (cntL L d n ≤ 999 → ((encL L).length : Int) ≤ 211 * (cntL L d n - n) ∧ smL L = true)
  | [], n, _, h1, h2 => by simp [cntL, encL, smL]; omega
  | v :: L, n, hel, h1, h2 => by
    obtain ⟨c1, c2, c3⟩ := hel v (by simp)
    unfold cntL
    by_cases hn : n ≤ 1000
    · rw [if_pos hn]
      have hw : wrap64 (n + cntP v (wrap64 (d - 1))) = n + cntP v (wrap64 (d - 1)) := IntWalk.wrap64_in _ (by omega)
      rw [hw]
      obtain ⟨r1, r2, r3⟩ := count_bound_loop d hd0 hd L (n + cntP v (wrap64 (d - 1))) (fun x hx => hel x (by simp [hx])) (by omega) (by omega)
      refine ⟨by omega, r2, fun hr => ?_⟩
      obtain ⟨s1, s2⟩ := r3 hr
      obtain ⟨t1, t2⟩ := c3 (by omega)
      refine ⟨?_, by simp [smL, t2, s2]⟩
      simp only [encL, List.length_append]
      omega
    · rw [if_neg hn]
      exact ⟨by omega, h2, fun h => by omega⟩
theorem count_bound : ∀ (m : Nat) (v : S24) (d : Int), SizeOf.sizeOf v < m → okI v = true → -1 ≤ d → d ≤ 20 → 1 ≤ cntP v d ∧ cntP v d ≤ 60000000000000000 + 1000 * (d + 2) ∧ (cntP v d ≤ 999 → ((encP v).length : Int) ≤ 211 * cntP v d ∧ smP v = true)
  | 0, v, d, h, _, _, _ => absurd h (by omega)
  | m + 1, ⟨K, N, S, L⟩, d, h, hok, hd0, hd1 => by
    have hsz : SizeOf.sizeOf L < m + 1 := by rw [S24.mk.sizeOf_spec] at h; omega
    obtain ⟨⟨hN, hS⟩, hL⟩ := okI_parts hok
    unfold cntP
    by_cases hd : d < 0
    · rw [if_pos hd]
      exact ⟨by omega, by omega, fun h => by omega⟩
    rw [if_neg hd]
    by_cases hl : (L.length : Int) > 150
    · rw [if_pos hl]
      exact ⟨by omega, by omega, fun h => by omega⟩
    rw [if_neg hl]
    have hw : wrap64 (1 + wrap64 ((S.size : Int) / 200)) = 1 + (S.size : Int) / 200 := by
      rw [IntWalk.wrap64_in ((S.size : Int) / 200) (by omega), IntWalk.wrap64_in _ (by omega)]
    rw [hw]
    have hwd : wrap64 (d - 1) = d - 1 := IntWalk.wrap64_in _ (by omega)
    obtain ⟨r1, r2, r3⟩ := count_bound_loop d (by omega) hd1 L (1 + (S.size : Int) / 200) (fun v hv => by
      rw [hwd]
      have := count_bound m v (d - 1) (Nat.lt_of_lt_of_le (List.sizeOf_lt_of_mem hv) (by omega)) (okIL_mem hL hv) (by omega) (by omega)
      exact ⟨this.1, by have := this.2.1; omega, this.2.2⟩) (by omega) (by omega)
    refine ⟨by omega, r2, fun hr => ?_⟩
    obtain ⟨s1, s2⟩ := r3 hr
    refine ⟨?_, by simp [smP, s2]; omega⟩
    have n1 := numF_len 10 (unsP N)
    have n2 := numF_len 10 (S.size : Int)
    have n3 := numF_len 10 (L.length : Int)
    unfold encP
    by_cases k1 : K = 1
    · rw [if_pos k1]
      simp only [List.length_cons, numl]
      omega
    · rw [if_neg k1]
      by_cases k2 : K = 2
      · rw [if_pos k2]
        simp only [List.length_cons, List.length_append, bytesOf_length, numl]
        omega
      · rw [if_neg k2]
        simp only [List.length_cons, List.length_append, numl]
        omega
theorem few_facts (v : S24) (hok : okI v = true) (h : cntP v 20 ≤ 200) : (encP v).length < 140737487000000 ∧ smP v = true := by
  obtain ⟨_, _, h3⟩ := count_bound _ v 20 (Nat.lt_succ_self _) hok (by omega) (by omega)
  obtain ⟨h4, h5⟩ := h3 (by omega)
  exact ⟨by omega, h5⟩
/-- What Encode answers. -/
def encA (v : S24) : List Int := if chkP v = 0 then encP v else []
theorem enc_ev (v : S24) (hl : (encP v).length < 140737487000000) (hs : smP v = true) : Ev (fun k => codec_Encode.f k v.f0 v.f1 v.f2 v.f3) (encA v, chkP v) := by
  obtain ⟨k0, h⟩ := check_ev v hs
  refine ⟨k0, fun k hk => ?_⟩
  have e := h k hk
  simp only at e ⊢
  unfold codec_Encode.f encA
  rw [s24_eta, if_pos hl, e]
  simp only [Option.bind_some]
  by_cases h0 : chkP v = 0
  · rw [if_pos h0, if_pos h0, h0]
  · rw [if_neg h0, if_neg h0]
theorem renc_ev (v : S24) (hl : (encP v).length < 140737487000000) (hs : smP v = true) (hok : okI v = true) : Ev (fun k => chartroomref01_Encode.f k v.f0 v.f1 v.f2 v.f3) (encA v, chkP v) := by
  obtain ⟨k0, h⟩ := rcheck_ev v hs
  refine ⟨k0, fun k hk => ?_⟩
  have e := h k hk
  simp only at e ⊢
  unfold chartroomref01_Encode.f encA chartroomref01_encode.f
  rw [s24_eta, if_pos hl, if_pos hok, e]
  simp only [Option.bind_some]
  by_cases h0 : chkP v = 0
  · rw [if_pos h0, if_pos h0, h0]
  · rw [if_neg h0, if_neg h0]
theorem size_ev (v : S24) (hl : (encP v).length < 140737487000000) (hs : smP v = true) : Ev (fun k => codec_Size.f k v.f0 v.f1 v.f2 v.f3) (((encA v).length : Int), chkP v) := by
  obtain ⟨k0, h⟩ := enc_ev v hl hs
  refine ⟨k0, fun k hk => ?_⟩
  have e := h k hk
  simp only at e ⊢
  unfold codec_Size.f
  rw [e]
  rfl
theorem rsize_ev (v : S24) (hl : (encP v).length < 140737487000000) (hs : smP v = true) (hok : okI v = true) : Ev (fun k => chartroomref01_Size.f k v.f0 v.f1 v.f2 v.f3) (((encA v).length : Int), chkP v) := by
  obtain ⟨k0, h⟩ := renc_ev v hl hs hok
  refine ⟨k0, fun k hk => ?_⟩
  have e := h k hk
  simp only at e ⊢
  unfold chartroomref01_Size.f
  rw [e]
  rfl
end Go.Proofs.Ytncejmjicjlanaa.Q
