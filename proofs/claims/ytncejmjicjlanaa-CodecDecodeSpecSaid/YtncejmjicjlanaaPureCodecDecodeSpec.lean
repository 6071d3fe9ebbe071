/- The plain law of CodecDecodeSpec: for all bytes, the walk's function answers true. No program in sight. -/
import Derived.Test.YtncejmjicjlanaaQ5
import Derived.Test.YtncejmjicjlanaaQ6
import Derived.Test.YtncejmjicjlanaaPSound
namespace Go.Proofs.Ytncejmjicjlanaa.Pure
open Go.RowKit Go.Proofs.Ytncejmjicjlanaa.Q Go.Proofs.YtncejmjicjlanaaW.PrintWords Go.Proofs.YtncejmjicjlanaaW.PrintLast
set_option linter.unusedSimpArgs false
set_option linter.unusedVariables false
theorem rsame_loop (L : List S24) (K N : Int) (S : ByteArray) (K2 N2 : Int) (S2 : ByteArray) (hL : L.length < 1000000000000) (hel : ∀ v ∈ L, Q.Ev (fun k => chartroomref01_Same.f k v.f0 v.f1 v.f2 v.f3 v.f0 v.f1 v.f2 v.f3) true) : ∀ (m i : Nat), L.length - i = m → i ≤ L.length →
    Q.Ev (fun k => chartroomref01_Same.l0 k (i : Int) K N S L K2 N2 S2 L) true
  | 0, i, hm, hi => by
    have : i = L.length := by omega
    subst this
    refine ⟨1, fun k hk => ?_⟩
    obtain ⟨k, rfl⟩ : ∃ j, k = j + 1 := ⟨k - 1, by omega⟩
    simp only
    unfold chartroomref01_Same.l0
    rw [if_neg (by omega)]
  | m + 1, i, hm, hi => by
    have hlt : i < L.length := by omega
    obtain ⟨k1, h1⟩ := hel L[i] (List.getElem_mem hlt)
    obtain ⟨k2, h2⟩ := rsame_loop L K N S K2 N2 S2 hL hel m (i + 1) (by omega) (by omega)
    refine ⟨max k1 k2 + 1, fun k hk => ?_⟩
    obtain ⟨k, rfl⟩ : ∃ j, k = j + 1 := ⟨k - 1, by omega⟩
    have e1 := h1 k (by omega)
    have e2 := h2 k (by omega)
    simp only at e1 e2 ⊢
    unfold chartroomref01_Same.l0
    have hi1 : (i : Int) < (L.length : Int) := by omega
    have hi0 : (0 : Int) ≤ (i : Int) := by omega
    simp only [hi1, hi0, if_true]
    rw [rd_get L i hlt, e1]
    simp only [Option.bind_some, if_true]
    rw [IntWalk.wrap64_in _ (by omega), show ((i : Int) + 1) = ((i + 1 : Nat) : Int) by omega]
    exact e2
theorem rsame_ev : ∀ (n : Nat) (v : S24), SizeOf.sizeOf v < n → smP v = true → Q.Ev (fun k => chartroomref01_Same.f k v.f0 v.f1 v.f2 v.f3 v.f0 v.f1 v.f2 v.f3) true
  | 0, v, h, _ => absurd h (by omega)
  | n + 1, ⟨K, N, S, L⟩, h, hs => by
    have hsz : SizeOf.sizeOf L < n + 1 := by rw [S24.mk.sizeOf_spec] at h; omega
    unfold smP at hs
    rw [Bool.and_eq_true, decide_eq_true_eq] at hs
    obtain ⟨k2, h2⟩ := rsame_loop L K N S K N S hs.1 (fun v hv => rsame_ev n v (Nat.lt_of_lt_of_le (List.sizeOf_lt_of_mem hv) (by omega)) (smL_mem hs.2 hv)) L.length 0 (by omega) (by omega)
    refine ⟨k2 + 2, fun k hk => ?_⟩
    obtain ⟨k, rfl⟩ : ∃ j, k = j + 2 := ⟨k - 2, by omega⟩
    have e2 := h2 k (by omega)
    have e3 := h2 (k + 1) (by omega)
    simp only at e2 e3 ⊢
    unfold chartroomref01_Same.f
    simp
    first | exact e3 | exact e2 | (unfold chartroomref01_Same.j0; simp; exact e2)
theorem decP_sm (b : List Int) (hb : Bytes b) (hl : b.length < 2000000000) : smP (decP b).1 = true := by
  unfold decP
  split
  · rename_i v h
    exact (decP_ok hb hl h).2.2.2
  · rfl
theorem CodecDecodeSpec : chartroomlaw01_CodecDecodeSpec.Pure := by
  intro l0 _ _ hwf
  have hb : Bytes l0 := fun x hx => by
    have := hwf x hx
    simp [Lit.wf, IntKind.min, IntKind.max, IntKind.bits, IntKind.signed] at this
    omega
  by_cases hlen : (l0.length : Int) > 2000
  · refine ⟨1, ?_⟩
    unfold chartroomlaw01_CodecDecodeSpec.f chartroomlaw01_sane.f
    simp only [Option.bind_some, if_true]
    rw [if_pos hlen]
  · have hl : l0.length < 2000000000 := by omega
    obtain ⟨k, hk⟩ := rsame_ev _ (decP l0).1 (Nat.lt_succ_self _) (decP_sm l0 hb hl)
    refine ⟨k, ?_⟩
    have e := hk k (Nat.le_refl _)
    simp only at e
    have h1 : codec_Decode.f k l0 = some ((decP l0).1.f0, (decP l0).1.f1, (decP l0).1.f2, (decP l0).1.f3, (decP l0).2) := by
      unfold codec_Decode.f
      rw [if_pos hl]
    have h2 : chartroomref01_Decode.f k l0 = some ((decP l0).1.f0, (decP l0).1.f1, (decP l0).1.f2, (decP l0).1.f3, (decP l0).2) := by
      unfold chartroomref01_Decode.f
      rw [if_pos hl, if_pos (by rw [List.all_eq_true]; intro x hx; simpa using hb x hx)]
    unfold chartroomlaw01_CodecDecodeSpec.f chartroomlaw01_sane.f
    simp only [Option.bind_some, if_true]
    rw [if_neg hlen, h1, h2]
    simp only [Option.bind_some]
    rw [e]
    simp
end Go.Proofs.Ytncejmjicjlanaa.Pure
