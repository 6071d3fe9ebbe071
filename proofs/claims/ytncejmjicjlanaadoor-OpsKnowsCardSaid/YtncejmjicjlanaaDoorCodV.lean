/- What the functions of codec and of its reference compute; soundness of the reader: plain Lean. Rendered out of seat A's texts by cod.py of this session. -/
import Derived.Test.YtncejmjicjlanaaDoorQ8
import Derived.Test.YtncejmjicjlanaaDoorCodP
namespace Go.Proofs.YtncejmjicjlanaaDoor.Q
section
set_option maxRecDepth 100000
open Go.RowKit Go.Proofs.YtncejmjicjlanaaDoorW.PrintWords Go.Proofs.YtncejmjicjlanaaDoorW.PrintLast Go.Proofs.YtncejmjicjlanaaDoorW.PrintMore
set_option linter.unusedVariables false
set_option linter.unusedSimpArgs false
/-- With enough rounds. -/
def Ev {α : Type} (f : Nat → Option α) (a : α) : Prop := ∃ k0, ∀ k, k0 ≤ k → f k = some a
theorem rd_get (L : List S63) (i : Nat) (h : i < L.length) : rd_T63 L (i : Int) = L[i] := by simp [rd_T63, List.getD, List.getElem?_eq_getElem h]
mutual
def fmP : S63 → Bool
  | ⟨K, N, S, L⟩ => usedB K N S L && (if K < 3 then true else fmL L)
def fmL : List S63 → Bool
  | [] => true
  | v :: vs => fmP v && fmL vs
end
mutual
def dpP : S63 → Int
  | ⟨K, N, S, L⟩ => if K = 3 then wrap64 (dpL 0 L + 1) else 0
def dpL : Int → List S63 → Int
  | d, [] => d
  | d, v :: vs => dpL (mx d (dpP v)) vs
end
mutual
def smP : S63 → Bool
  | ⟨K, N, S, L⟩ => decide (L.length < 1000000000000) && smL L
def smL : List S63 → Bool
  | [] => true
  | v :: vs => smP v && smL vs
end
theorem smL_mem : ∀ {L : List S63} {v : S63}, smL L = true → v ∈ L → smP v = true
  | [], v, _, h => by cases h
  | x :: L, v, h, hm => by
    unfold smL at h
    rw [Bool.and_eq_true] at h
    rcases List.mem_cons.1 hm with rfl | hm
    · exact h.1
    · exact smL_mem h.2 hm
theorem formed_loop (L : List S63) (hL : L.length < 1000000000000) (hel : ∀ v ∈ L, Ev (fun k => codec_formed.f k v.f0 v.f1 v.f2 v.f3) (if fmP v then dpP v else 0, fmP v)) : ∀ (m i : Nat) (d : Int), L.length - i = m → i ≤ L.length →
    Ev (fun k => codec_formed.l0 k L (i : Int) d) (if fmL (L.drop i) then wrap64 (dpL d (L.drop i) + 1) else 0, fmL (L.drop i))
  | 0, i, d, hm, hi => by
    have : i = L.length := by omega
    subst this
    refine ⟨1, fun k hk => ?_⟩
    obtain ⟨k, rfl⟩ : ∃ j, k = j + 1 := ⟨k - 1, by omega⟩
    simp only
    unfold codec_formed.l0
    rw [if_neg (by omega)]
    simp [fmL, dpL]
  | m + 1, i, d, hm, hi => by
    have hlt : i < L.length := by omega
    obtain ⟨k1, h1⟩ := hel L[i] (List.getElem_mem hlt)
    obtain ⟨k2, h2⟩ := formed_loop L hL hel m (i + 1) (mx d (dpP L[i])) (by omega) (by omega)
    refine ⟨max k1 k2 + 1, fun k hk => ?_⟩
    obtain ⟨k, rfl⟩ : ∃ j, k = j + 1 := ⟨k - 1, by omega⟩
    have e1 := h1 k (by omega)
    have e2 := h2 k (by omega)
    simp only at e1 e2 ⊢
    unfold codec_formed.l0
    rw [if_pos (by omega), if_pos (by omega), rd_get L i hlt, e1, List.drop_eq_getElem_cons hlt]
    simp only [Option.bind_some, fmL, dpL]
    by_cases hf : fmP L[i] = true
    · simp only [hf, if_true, Bool.true_and]
      rw [IntWalk.wrap64_in _ (by omega), show ((i : Int) + 1) = ((i + 1 : Nat) : Int) by omega]
      exact e2
    · simp [hf]
theorem formed_ev : ∀ (n : Nat) (v : S63), SizeOf.sizeOf v < n → smP v = true → Ev (fun k => codec_formed.f k v.f0 v.f1 v.f2 v.f3) (if fmP v then dpP v else 0, fmP v)
  | 0, v, h, _ => absurd h (by omega)
  | n + 1, ⟨K, N, S, L⟩, h, hs => by
    have hsz : SizeOf.sizeOf L < n + 1 := by rw [S63.mk.sizeOf_spec] at h; omega
    unfold smP at hs
    rw [Bool.and_eq_true, decide_eq_true_eq] at hs
    obtain ⟨k2, h2⟩ := formed_loop L hs.1 (fun v hv => formed_ev n v (Nat.lt_of_lt_of_le (List.sizeOf_lt_of_mem hv) (by omega)) (smL_mem hs.2 hv)) L.length 0 0 (by omega) (by omega)
    refine ⟨k2 + 1, fun k hk => ?_⟩
    obtain ⟨k, rfl⟩ : ∃ j, k = j + 1 := ⟨k - 1, by omega⟩
    have e2 := h2 k (by omega)
    simp only [List.drop_zero] at e2 ⊢
    unfold codec_formed.f fmP dpP
    by_cases hu : usedB K N S L = true
    · rw [if_pos hu, hu]
      by_cases k3 : K < 3
      · rw [if_pos k3]
        simp [k3, show ¬ K = 3 by omega]
      · have e3 : K = 3 := by
          unfold usedB at hu
          rw [if_neg (by omega), if_neg (by omega)] at hu
          by_cases h3 : K = 3
          · exact h3
          · rw [if_neg h3] at hu
            cases hu
        rw [if_neg k3]
        simp only [k3, if_false, Bool.true_and, e3, if_true]
        exact e2
    · have hu2 : usedB K N S L = false := by simpa using hu
      rw [if_neg hu, hu2]
      simp
/-- What Check answers. -/
def chkP (v : S63) : Int := if fmP v then (if dpP v > 16 then 2 else 0) else 1
theorem check_ev (v : S63) (hs : smP v = true) : Ev (fun k => codec_Check.f k v.f0 v.f1 v.f2 v.f3) (chkP v) := by
  obtain ⟨k0, h⟩ := formed_ev _ v (Nat.lt_succ_self _) hs
  refine ⟨k0, fun k hk => ?_⟩
  have e := h k hk
  simp only at e ⊢
  unfold codec_Check.f chkP
  rw [e]
  cases fmP v <;> simp
  split <;> rfl
end
section
set_option maxRecDepth 100000
open Go.RowKit Go.Proofs.YtncejmjicjlanaaDoorW.PrintWords Go.Proofs.YtncejmjicjlanaaDoorW.PrintLast Go.Proofs.YtncejmjicjlanaaDoorW.PrintMore
set_option linter.unusedVariables false
set_option linter.unusedSimpArgs false
/-- What Encode answers. -/
def encA (v : S63) : List Int := if chkP v = 0 then encP v else []
theorem enc_ev (v : S63) (hl : (encP v).length < 140737487000000) (hs : smP v = true) : Ev (fun k => codec_Encode.f k v.f0 v.f1 v.f2 v.f3) (encA v, chkP v) := by
  obtain ⟨k0, h⟩ := check_ev v hs
  refine ⟨k0, fun k hk => ?_⟩
  have e := h k hk
  simp only at e ⊢
  unfold codec_Encode.f encA
  rw [s63_eta, if_pos hl, e]
  simp only [Option.bind_some]
  by_cases h0 : chkP v = 0
  · rw [if_pos h0, if_pos h0, h0]
  · rw [if_neg h0, if_neg h0]
end
section
set_option maxRecDepth 100000
open Go.RowKit Go.Proofs.YtncejmjicjlanaaDoorW.PrintWords Go.Proofs.YtncejmjicjlanaaDoorW.PrintLast Go.Proofs.YtncejmjicjlanaaDoorW.PrintMore
set_option linter.unusedVariables false
set_option linter.unusedSimpArgs false
def Bytes (l : List Int) : Prop := ∀ x ∈ l, 0 ≤ x ∧ x < 256
theorem Bytes.tail {p r : List Int} (h : Bytes (p ++ r)) : Bytes r := fun x hx => h x (by simp [hx])
theorem numF_stable : ∀ (k : Nat) (u : Int), 0 ≤ u → u < 128 ^ (k + 1) → numF (k + 2) u = numF (k + 1) u
  | 0, u, h0, h1 => by
    have : ¬ u ≥ 128 := by simp at h1; omega
    simp only [numF, if_neg this]
  | k + 1, u, h0, h1 => by
    unfold numF
    by_cases hu : u ≥ 128
    · rw [if_pos hu, if_pos hu, numF_stable k (u / 128) (by omega) (by rw [Int.pow_succ] at h1; omega)]
    · rw [if_neg hu, if_neg hu]
theorem pow_mono7 (i j : Nat) (h : i ≤ j) : (128 : Int) ^ i ≤ 128 ^ j := by
  have h2 : (128 : Nat) ^ i ≤ 128 ^ j := Nat.pow_le_pow_right (by decide) h
  have h3 : (((128 : Nat) ^ i : Nat) : Int) ≤ ((128 ^ j : Nat) : Int) := by exact_mod_cast h2
  simpa using h3
theorem numF_ten : ∀ (j k : Nat) (u : Int), 0 ≤ u → u < 128 ^ (k + 1) → numF (k + 1 + j) u = numF (k + 1) u
  | 0, k, u, _, _ => rfl
  | j + 1, k, u, h0, h1 => by
    have h2 : u < 128 ^ (k + j + 1) := Int.lt_of_lt_of_le h1 (pow_mono7 _ _ (by omega))
    have := numF_stable (k + j) u h0 h2
    rw [show k + 1 + (j + 1) = k + j + 2 by omega, this, show k + j + 1 = k + 1 + j by omega]
    exact numF_ten j k u h0 h1
theorem numP_sound : ∀ (l : List Int) (i : Nat) (acc x : Int) (r : List Int), Bytes l → 0 ≤ acc → acc < 128 ^ i → i ≤ 9 → numP l i acc = some (x, r) → ∃ (k : Nat) (u : Int), 0 ≤ u ∧ u < 128 ^ (k + 1) ∧ i + k ≤ 9 ∧ x = acc + u * 128 ^ i ∧ (i = 0 ∨ u ≠ 0) ∧ l = numF (k + 1) u ++ r
  | [], _, _, _, _, _, _, _, _, h => by simp [numP] at h
  | c :: l, i, acc, x, r, hb, h0, h1, hi, h => by
    have hc := hb c (by simp)
    have hp := pow_pos7 i
    unfold numP at h
    by_cases hok : (i = 0 ∨ c ≠ 0) ∧ (i < 9 ∨ c ≤ 1)
    · rw [if_pos hok] at h
      have hbd : (c % 128) * 128 ^ i < 18446744073709551616 := by
        rcases hok.2 with h9 | h9
        · have h8 := pow_mono7 i 8 (by omega)
          have e8 : (128 : Int) ^ 8 = 72057594037927936 := by decide
          rw [e8] at h8
          have : (c % 128) * 128 ^ i ≤ 127 * 128 ^ i := Int.mul_le_mul_of_nonneg_right (by omega) (Int.le_of_lt hp)
          omega
        · have h8 := pow_le9 i hi
          have : (c % 128) * 128 ^ i ≤ 1 * 128 ^ i := Int.mul_le_mul_of_nonneg_right (by omega) (Int.le_of_lt hp)
          omega
      have hd := digitP_eq acc i c h0 h1 hi hc.1 hc.2 hbd
      by_cases hlt : c < 128
      · rw [if_pos hlt] at h
        injection h with h
        injection h with h2 h3
        subst h3
        refine ⟨0, c, hc.1, by simpa using hlt, by omega, ?_, hok.1, ?_⟩
        · rw [← h2, hd, show c % 128 = c by omega]
        · simp only [numF, if_neg (show ¬ c ≥ 128 by omega)]
          rw [show c % 256 = c by omega]
          rfl
      · rw [if_neg hlt, hd] at h
        have hm : 0 ≤ (c % 128) * 128 ^ i := Int.mul_nonneg (by omega) (Int.le_of_lt hp)
        have hacc : acc + (c % 128) * 128 ^ i < 128 ^ (i + 1) := by
          have : (c % 128) * 128 ^ i ≤ 127 * 128 ^ i := Int.mul_le_mul_of_nonneg_right (by omega) (Int.le_of_lt hp)
          rw [Int.pow_succ]
          omega
        have hi9 : i < 9 := hok.2.resolve_right (by omega)
        obtain ⟨k, u, q0, q1, q2, q3, q4, q5⟩ := numP_sound l (i + 1) _ x r (fun y hy => hb y (by simp [hy])) (by omega) hacc (by omega) h
        have hu0 : u ≠ 0 := q4.resolve_left (by omega)
        refine ⟨k + 1, c % 128 + 128 * u, by omega, ?_, by omega, ?_, .inr (by omega), ?_⟩
        · rw [Int.pow_succ]
          omega
        · rw [q3, Int.pow_succ, Int.add_mul, ← Int.add_assoc]
          congr 1
          rw [Int.mul_comm (128 ^ i) 128, ← Int.mul_assoc, Int.mul_comm u 128]
        · have e1 : (c % 128 + 128 * u) ≥ 128 := by omega
          have e2 : (c % 128 + 128 * u) / 128 = u := by omega
          have e3 : (c % 128 + 128 * u) % 128 + 128 = c := by omega
          have e4 : numF (k + 1 + 1) (c % 128 + 128 * u) = c :: numF (k + 1) u := by
            rw [numF, if_pos e1, first_digit _ (by omega), e2, e3]
          rw [e4, q5]
          rfl
    · rw [if_neg hok] at h
      cases h
theorem numP_numl_back {l : List Int} {x : Int} {r : List Int} (hb : Bytes l) (h : numP l 0 0 = some (x, r)) : 0 ≤ x ∧ x < 18446744073709551616 ∧ l = numl x ++ r := by
  have hr := numP_range _ _ _ _ _ h
  obtain ⟨k, u, q0, q1, q2, q3, _, q5⟩ := numP_sound l 0 0 x r hb (by omega) (by decide) (by omega) h
  have e : x = u := by rw [q3]; simp
  subst e
  refine ⟨hr.1, hr.2, ?_⟩
  unfold numl
  have := numF_ten (9 - k) k x q0 q1
  rw [show k + 1 + (9 - k) = 10 by omega] at this
  rw [this]
  exact q5
theorem unsP_sigP (u : Int) (h0 : 0 ≤ u) (h1 : u < 18446744073709551616) : unsP (sigP u) = u ∧ -9223372036854775808 ≤ sigP u ∧ sigP u ≤ 9223372036854775807 := by
  have e := sigP_eq u h0 h1
  by_cases h : u % 2 = 0
  · rw [if_pos h] at e
    rw [e, unsP_eq _ (by omega) (by omega), if_pos (by omega)]
    omega
  · rw [if_neg h] at e
    rw [e, unsP_eq _ (by omega) (by omega), if_neg (by omega)]
    omega
theorem strOfNums_size (xs : List Int) : (strOfNums xs).size = xs.length := by
  simp [strOfNums, ByteArray.size]
theorem bytesOf_strOfNums (xs : List Int) (h : Bytes xs) : bytesOf (strOfNums xs) = xs := by
  unfold bytesOf strOfNums
  simp only [List.map_map, Array.toList_map, List.toList_toArray]
  conv => rhs; rw [← List.map_id xs]
  apply List.map_congr_left
  intro a ha
  have := h a ha
  simp
  omega
theorem lenP_back {l : List Int} (hl : l.length < 2000000000) (hb : Bytes l) {n : Int} {r : List Int} (h : lenP l = some (n, r)) : 0 ≤ n ∧ n ≤ (r.length : Int) ∧ l = numl n ++ r := by
  obtain ⟨q1, q2, q3⟩ := lenP_facts hl h
  unfold lenP at h
  split at h
  · cases h
  · rename_i x r1 hn
    split at h
    · rename_i hle
      injection h with h
      injection h with h1 h2
      subst h2
      obtain ⟨p1, p2, p3⟩ := numP_numl_back hb hn
      rw [IntKind.wrap_u64] at hle
      have : wrap64 x = x := IntWalk.wrap64_in x (by omega)
      rw [this] at h1
      subst h1
      exact ⟨q1, q2, p3⟩
    · cases h
/-- What is said of a value read. -/
def Good (m : Nat) (v : S63) : Prop := fmP v = true ∧ 0 ≤ dpP v ∧ dpP v ≤ (m : Int) ∧ okI v = true ∧ smP v = true
theorem dpL_bound (m : Int) : ∀ (vs : List S63) (d : Int), (∀ v ∈ vs, 0 ≤ dpP v ∧ dpP v ≤ m) → 0 ≤ d → d ≤ m → 0 ≤ dpL d vs ∧ dpL d vs ≤ m
  | [], d, _, h0, h1 => by simp [dpL]; omega
  | v :: vs, d, h, h0, h1 => by
    have hv := h v (by simp)
    unfold dpL
    refine dpL_bound m vs _ (fun x hx => h x (by simp [hx])) ?_ ?_
    · unfold mx; split <;> omega
    · unfold mx; split <;> omega
theorem fmL_of : ∀ (L : List S63), (∀ v ∈ L, fmP v = true) → fmL L = true
  | [], _ => rfl
  | v :: L, h => by
    unfold fmL
    rw [Bool.and_eq_true]
    exact ⟨h v (by simp), fmL_of L (fun x hx => h x (by simp [hx]))⟩
theorem smL_of : ∀ (L : List S63), (∀ v ∈ L, smP v = true) → smL L = true
  | [], _ => rfl
  | v :: L, h => by
    unfold smL
    rw [Bool.and_eq_true]
    exact ⟨h v (by simp), smL_of L (fun x hx => h x (by simp [hx]))⟩
theorem okIL_of2 : ∀ (L : List S63), (∀ v ∈ L, okI v = true) → okIL L = true
  | [], _ => rfl
  | v :: L, h => by
    unfold okIL
    rw [Bool.and_eq_true]
    exact ⟨h v (by simp), okIL_of2 L (fun x hx => h x (by simp [hx]))⟩
theorem elemsP_sound (m : Nat) (ih : ∀ (l : List Int) (v : S63) (r : List Int), Bytes l → l.length < 2000000000 → valP m l = some (v, r) → l = encP v ++ r ∧ Good m v) : ∀ (n : Nat) (l : List Int) (vs : List S63) (r : List Int), Bytes l → l.length < 2000000000 → elemsP (valP m) n l = some (vs, r) → l = encL vs ++ r ∧ vs.length = n ∧ ∀ v ∈ vs, Good m v
  | 0, l, vs, r, hb, hl, h => by
    simp [elemsP] at h
    obtain ⟨rfl, rfl⟩ := h
    simp [encL]
  | n + 1, l, vs, r, hb, hl, h => by
    unfold elemsP at h
    split at h
    · cases h
    · rename_i v l1 h1
      split at h
      · cases h
      · rename_i vs1 l2 h2
        injection h with h
        injection h with h3 h4
        subst h3; subst h4
        obtain ⟨q1, q2⟩ := ih l v l1 hb hl h1
        have hb1 : Bytes l1 := by rw [q1] at hb; exact hb.tail
        have hl1 : l1.length < 2000000000 := by rw [q1, List.length_append] at hl; omega
        obtain ⟨p1, p2, p3⟩ := elemsP_sound m ih n l1 vs1 l2 hb1 hl1 h2
        refine ⟨?_, by simp [p2], ?_⟩
        · rw [q1, p1]
          simp [encL]
        · intro x hx
          rcases List.mem_cons.1 hx with rfl | hx
          · exact q2
          · exact p3 x hx
theorem valP_sound_step (m : Nat) (hm : m ≤ 1000) (ih : ∀ m', m = m' + 1 → ∀ (l : List Int) (v : S63) (r : List Int), Bytes l → l.length < 2000000000 → valP m' l = some (v, r) → l = encP v ++ r ∧ Good m' v) : ∀ (l : List Int) (v : S63) (r : List Int), Bytes l → l.length < 2000000000 → valP m l = some (v, r) → l = encP v ++ r ∧ Good m v
  | [], v, r, hb, hl, h => by simp [valP] at h
  | b :: l, v, r, hb, hl, h => by
    have hbb := hb b (by simp)
    have hbl : Bytes l := fun x hx => hb x (by simp [hx])
    have hll : l.length < 2000000000 := by simp at hl; omega
    have hw : wrap64 b = b := IntWalk.wrap64_in b (by omega)
    have hE : (⟨#[]⟩ : ByteArray).toList.isEmpty = true := by kernel_rfl
    unfold valP at h
    rw [hw] at h
    by_cases k1 : b = 1
    · rw [if_pos k1] at h
      split at h
      · cases h
      · rename_i u r1 hn
        injection h with h
        injection h with h1 h2
        subst h1; subst h2; subst k1
        obtain ⟨q0, q1, q2⟩ := numP_numl_back hbl hn
        obtain ⟨p0, p1, p2⟩ := unsP_sigP u q0 q1
        unfold sigP at p0 p1 p2
        refine ⟨?_, ?_, ?_, ?_, ?_, ?_⟩
        · simp only [encP, if_true]
          rw [p0, q2]
          rfl
        · simp [fmP, usedB, hE]
        · simp [dpP]
        · simp [dpP]
        · simp only [okI, okIL, Bool.and_true, decide_eq_true_eq]
          exact ⟨⟨p1, p2⟩, by decide⟩
        · simp [smP, smL]
    rw [if_neg k1] at h
    by_cases k2 : b = 2
    · rw [if_pos k2] at h
      split at h
      · cases h
      · rename_i n r1 hn
        split at h
        · injection h with h
          injection h with h1 h2
          subst h1; subst h2; subst k2
          obtain ⟨q0, q1, q2⟩ := lenP_back hll hbl hn
          have hr1 : Bytes r1 := by rw [q2] at hbl; exact hbl.tail
          have hln : (r1.take n.toNat).length = n.toNat := by rw [List.length_take]; omega
          have hsz : (strOfNums (r1.take n.toNat)).size = n.toNat := by rw [strOfNums_size, hln]
          refine ⟨?_, ?_, ?_, ?_, ?_, ?_⟩
          · simp only [encP, if_neg (show ¬ (2 : Int) = 1 by decide), if_true]
            rw [hsz, show ((n.toNat : Nat) : Int) = n by omega, bytesOf_strOfNums _ (fun x hx => hr1 x (List.mem_of_mem_take hx)), q2]
            simp [List.take_append_drop]
          · simp [fmP, usedB]
          · simp [dpP]
          · simp [dpP]
          · simp only [okI, okIL, Bool.and_true, decide_eq_true_eq]
            refine ⟨⟨by decide, by decide⟩, ?_⟩
            rw [hsz]
            have := (lenP_facts hll hn).2.2
            omega
          · simp [smP, smL]
        · cases h
    rw [if_neg k2] at h
    by_cases k3 : b = 3
    · rw [if_pos k3] at h
      cases m with
      | zero => cases h
      | succ m =>
        simp only at h
        split at h
        · cases h
        · rename_i n r1 hn
          split at h
          · cases h
          · rename_i vs r2 he
            injection h with h
            injection h with h1 h2
            subst h1; subst h2; subst k3
            obtain ⟨q0, q1, q2⟩ := lenP_back hll hbl hn
            have hr1 : Bytes r1 := by rw [q2] at hbl; exact hbl.tail
            have hl1 : r1.length < 2000000000 := by rw [q2, List.length_append] at hll; omega
            obtain ⟨p0, p1, p2⟩ := elemsP_sound m (ih m rfl) n.toNat r1 vs r2 hr1 hl1 he
            have hd := dpL_bound (m : Int) vs 0 (fun v hv => ⟨(p2 v hv).2.1, (p2 v hv).2.2.1⟩) (by omega) (by omega)
            have hdw : wrap64 (dpL 0 vs + 1) = dpL 0 vs + 1 := IntWalk.wrap64_in _ (by omega)
            refine ⟨?_, ?_, ?_, ?_, ?_, ?_⟩
            · simp only [encP, if_neg (show ¬ (3 : Int) = 1 by decide), if_neg (show ¬ (3 : Int) = 2 by decide)]
              rw [p1, show ((n.toNat : Nat) : Int) = n by omega, q2, p0]
              simp
            · have := fmL_of vs (fun v hv => (p2 v hv).1)
              simp [fmP, usedB, hE, this]
            · simp only [dpP, if_true]
              omega
            · simp only [dpP, if_true]
              omega
            · have := okIL_of2 vs (fun v hv => (p2 v hv).2.2.2.1)
              simp only [okI, this, Bool.and_true, decide_eq_true_eq]
              exact ⟨⟨by decide, by decide⟩, by decide⟩
            · have := smL_of vs (fun v hv => (p2 v hv).2.2.2.2)
              simp only [smP, this, Bool.and_true, decide_eq_true_eq]
              omega
    · rw [if_neg k3] at h
      cases h
theorem valP_sound : ∀ (m : Nat), m ≤ 1000 → ∀ (l : List Int) (v : S63) (r : List Int), Bytes l → l.length < 2000000000 → valP m l = some (v, r) → l = encP v ++ r ∧ Good m v
  | 0, hm => valP_sound_step 0 hm (fun m' h => by omega)
  | m + 1, hm => valP_sound_step (m + 1) hm (fun m' h => by
      obtain rfl : m = m' := by omega
      exact valP_sound m (by omega))
/-- A whole input that is read is the encoding of a value that is checked. -/
theorem decP_ok {b : List Int} {v : S63} (hb : Bytes b) (hl : b.length < 2000000000) (h : valP 16 b = some (v, [])) : encP v = b ∧ chkP v = 0 ∧ okI v = true ∧ smP v = true := by
  obtain ⟨q1, q2, q3, q4, q5, q6⟩ := valP_sound 16 (by decide) b v [] hb hl h
  rw [List.append_nil] at q1
  refine ⟨q1.symm, ?_, q5, q6⟩
  unfold chkP
  rw [if_pos q2, if_neg (by omega)]
end
end Go.Proofs.YtncejmjicjlanaaDoor.Q
