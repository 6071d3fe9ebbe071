/- The values of an operation: their encoding is short, and they pass codec's check. Plain Lean. -/
import Derived.Test.YtncejmjicjlanaaDoorOps0
import Derived.Test.YtncejmjicjlanaaDoorHandVals
import Derived.Test.YtncejmjicjlanaaDoorCodV
namespace Go.Proofs.YtncejmjicjlanaaDoor.Q
open Go.RowKit Go.Proofs.YtncejmjicjlanaaDoorW.PrintWords Go.Proofs.YtncejmjicjlanaaDoorW.PrintLast Go.Proofs.YtncejmjicjlanaaDoorW.PrintMore
set_option linter.unusedVariables false
set_option linter.unusedSimpArgs false
/-- The values of an operation. -/
def dotsV (l : List S24) : List S63 := l.map fun x => lV [nV x.f0, nV x.f1]
theorem dotsV_len (l : List S24) : (dotsV l).length = l.length := List.length_map _
theorem dotsV_snoc (l : List S24) (i : Nat) (h : i < l.length) : dotsV (l.take (i + 1)) = dotsV (l.take i) ++ [lV [nV (rd_T24 l (i : Int)).f0, nV (rd_T24 l (i : Int)).f1]] := by
  have e : rd_T24 l (i : Int) = l[i] := by simp [rd_T24, List.getD, List.getElem?_eq_getElem h]
  rw [List.take_succ_eq_append_getElem h, e]
  simp only [dotsV, List.map_append, List.map_cons, List.map_nil]
def onI (o : S45) : Int := if o.f10 then 1 else 0
def opL (o : S45) : List S63 := [nV o.f0.f0, nV o.f0.f1, nV o.f1, lV (dotsV o.f2), lV [nV o.f3.f0, tV o.f3.f1], nV o.f4, lV [nV o.f5.f0, nV o.f5.f1, nV o.f5.f2], lV [nV o.f6.f0, nV o.f6.f1, nV o.f6.f2], tV o.f7, tV o.f8, nV o.f9, nV (onI o)]
def opV (o : S45) : S63 := lV (opL o)
theorem numl_le (u : Int) : (numl u).length ≤ 10 := numF_len 10 u
theorem enc_num (n : Int) : (encP (nV n)).length ≤ 11 := by
  have := numl_le (unsP n)
  simp [nV, encP]
  omega
theorem enc_text (s : ByteArray) : (encP (tV s)).length ≤ 11 + s.size := by
  have := numl_le (s.size : Int)
  simp [tV, encP, bytesOf_length]
  omega
theorem enc_list (L : List S63) : (encP (lV L)).length ≤ 11 + (encL L).length := by
  have := numl_le (L.length : Int)
  simp [lV, encP]
  omega
theorem encL_cons (v : S63) (L : List S63) : (encL (v :: L)).length = (encP v).length + (encL L).length := by simp [encL]
theorem encL_nil : (encL []).length = 0 := by simp [encL]
theorem enc_dots : ∀ (l : List S24), (encL (dotsV l)).length ≤ 33 * l.length
  | [] => by simp [dotsV, encL]
  | x :: l => by
    have h1 := enc_dots l
    have h2 := enc_list [nV x.f0, nV x.f1]
    have h3 := enc_num x.f0
    have h4 := enc_num x.f1
    rw [encL_cons, encL_cons, encL_nil] at h2
    have h5 : encL (dotsV (x :: l)) = encL (lV [nV x.f0, nV x.f1] :: dotsV l) := rfl
    rw [h5, encL_cons, List.length_cons]
    omega
theorem enc_opV (o : S45) : (encP (opV o)).length ≤ 33 * o.f2.length + (o.f3.f1.size + o.f7.size + o.f8.size) + 400 := by
  have h := enc_list (opL o)
  have a0 := enc_num o.f0.f0
  have a1 := enc_num o.f0.f1
  have a2 := enc_num o.f1
  have a3 := enc_list (dotsV o.f2)
  have a3' := enc_dots o.f2
  have a4 := enc_list [nV o.f3.f0, tV o.f3.f1]
  have a4a := enc_num o.f3.f0
  have a4b := enc_text o.f3.f1
  have a5 := enc_num o.f4
  have a6 := enc_list [nV o.f5.f0, nV o.f5.f1, nV o.f5.f2]
  have a6a := enc_num o.f5.f0
  have a6b := enc_num o.f5.f1
  have a6c := enc_num o.f5.f2
  have a7 := enc_list [nV o.f6.f0, nV o.f6.f1, nV o.f6.f2]
  have a7a := enc_num o.f6.f0
  have a7b := enc_num o.f6.f1
  have a7c := enc_num o.f6.f2
  have a8 := enc_text o.f7
  have a9 := enc_text o.f8
  have a10 := enc_num o.f9
  have a11 := enc_num (onI o)
  simp only [encL_cons, encL_nil, opL] at h a4 a6 a7
  unfold opV opL
  omega
theorem sm_num (n : Int) : smP (nV n) = true := by simp [nV, smP, smL]
theorem sm_text (s : ByteArray) : smP (tV s) = true := by simp [tV, smP, smL]
theorem sm_dots : ∀ (l : List S24), smL (dotsV l) = true
  | [] => rfl
  | x :: l => by
    have h := sm_dots l
    show smL (lV [nV x.f0, nV x.f1] :: dotsV l) = true
    unfold smL
    rw [h]
    simp [lV, smP, smL, sm_num]
theorem sm_opV (o : S45) (hl : o.f2.length ≤ 100000) : smP (opV o) = true := by
  have h1 : smP (lV (dotsV o.f2)) = true := by
    unfold lV smP
    rw [sm_dots, dotsV_len, decide_eq_true (by omega)]
    rfl
  unfold opV lV smP opL
  simp only [smL, sm_num, sm_text, h1]
  simp [lV, smP, smL, sm_num, sm_text]
theorem fm_num (n : Int) : fmP (nV n) = true := by simp [nV, fmP, usedB]
theorem fm_text (s : ByteArray) : fmP (tV s) = true := by simp [tV, fmP, usedB]
theorem fm_list {L : List S63} (h : fmL L = true) : fmP (lV L) = true := by
  unfold lV fmP
  rw [h]
  simp [usedB]
theorem fm_dots : ∀ (l : List S24), fmL (dotsV l) = true
  | [] => rfl
  | x :: l => by
    have h := fm_dots l
    show fmL (lV [nV x.f0, nV x.f1] :: dotsV l) = true
    unfold fmL
    rw [h, fm_list (by simp [fmL, fm_num])]
    rfl
theorem dp_num (n : Int) : dpP (nV n) = 0 := by simp [nV, dpP]
theorem dp_text (s : ByteArray) : dpP (tV s) = 0 := by simp [tV, dpP]
theorem dp_pair (x : S24) : dpP (lV [nV x.f0, nV x.f1]) = 1 := by
  simp [lV, dpP, dpL, dp_num, mx, wrap64]
theorem dp_dots : ∀ (l : List S24) (d : Int), 0 ≤ d → d ≤ 1 → 0 ≤ dpL d (dotsV l) ∧ dpL d (dotsV l) ≤ 1
  | [], d, h0, h1 => ⟨h0, h1⟩
  | x :: l, d, h0, h1 => by
    show 0 ≤ dpL d (lV [nV x.f0, nV x.f1] :: dotsV l) ∧ _
    have e : dpL d (lV [nV x.f0, nV x.f1] :: dotsV l) = dpL (mx d 1) (dotsV l) := by rw [dpL, dp_pair]
    show 0 ≤ dpL d (lV [nV x.f0, nV x.f1] :: dotsV l) ∧ dpL d (lV [nV x.f0, nV x.f1] :: dotsV l) ≤ 1
    rw [e]
    exact dp_dots l (mx d 1) (by unfold mx; omega) (by unfold mx; omega)
theorem chk_opV (o : S45) : chkP (opV o) = 0 := by
  have hf : fmP (opV o) = true := by
    refine fm_list ?_
    unfold opL
    simp only [fmL, fm_num, fm_text, fm_list (fm_dots o.f2), Bool.and_true, Bool.true_and]
    rw [fm_list (by simp [fmL, fm_num, fm_text]), fm_list (by simp [fmL, fm_num]), fm_list (by simp [fmL, fm_num])]
    rfl
  have hd : 0 ≤ dpP (lV (dotsV o.f2)) ∧ dpP (lV (dotsV o.f2)) ≤ 2 := by
    have h := dp_dots o.f2 0 (by omega) (by omega)
    have e : dpP (lV (dotsV o.f2)) = wrap64 (dpL 0 (dotsV o.f2) + 1) := by unfold lV; rw [dpP, if_pos rfl]
    rw [e]
    unfold wrap64
    omega
  have h4 : dpP (lV [nV o.f3.f0, tV o.f3.f1]) = 1 := by simp [lV, dpP, dpL, dp_num, dp_text, mx, wrap64]
  have h6 : dpP (lV [nV o.f5.f0, nV o.f5.f1, nV o.f5.f2]) = 1 := by simp [lV, dpP, dpL, dp_num, mx, wrap64]
  have h7 : dpP (lV [nV o.f6.f0, nV o.f6.f1, nV o.f6.f2]) = 1 := by simp [lV, dpP, dpL, dp_num, mx, wrap64]
  have hp : dpP (opV o) ≤ 16 := by
    have e : dpP (opV o) = wrap64 (dpL 0 (opL o) + 1) := by unfold opV lV; rw [dpP, if_pos rfl]
    rw [e]
    unfold opL
    simp only [dpL, dp_num, dp_text, h4, h6, h7]
    generalize dpP (lV (dotsV o.f2)) = z at *
    unfold mx wrap64
    omega
  unfold chkP
  rw [if_pos hf, if_neg (by omega)]
theorem enc_ok (o : S45) (hl : o.f2.length ≤ 100000) (hsz : o.f3.f1.size + o.f7.size + o.f8.size ≤ 1000000) : ∃ k, codec_Encode.f k 3 0 ⟨#[]⟩ (opL o) = some (encP (opV o), 0) := by
  have h1 := enc_opV o
  obtain ⟨k, hk⟩ := enc_ev (opV o) (by omega) (sm_opV o hl)
  have := hk k (Nat.le_refl _)
  rw [chk_opV] at this
  unfold encA at this
  rw [chk_opV, if_pos rfl] at this
  exact ⟨k, this⟩
end Go.Proofs.YtncejmjicjlanaaDoor.Q
