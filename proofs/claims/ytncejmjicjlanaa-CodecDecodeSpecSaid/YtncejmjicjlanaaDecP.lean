/- The plain functions of codec's reader: a numeral, a length, a value, a whole input; none: the reader panics. No program in sight. -/
import Derived.Test.YtncejmjicjlanaaQ0
namespace Go.Proofs.Ytncejmjicjlanaa.Q
set_option linter.unusedVariables false
open Go.RowKit Go.Proofs.YtncejmjicjlanaaW.PrintWords Go.Proofs.YtncejmjicjlanaaW.PrintLast Go.Proofs.YtncejmjicjlanaaW.PrintMore
/-- One more digit of a numeral. -/
def digitP (u : Int) (i : Nat) (c : Int) : Int := Go.bits .or .u64 u (IntKind.u64.wrap (IntKind.u64.wrap (Go.bits .and .u8 c 127) * 2 ^ min (wrap64 (7 * (i : Int))).toNat 64))
/-- A numeral that is next. -/
def numP : List Int → Nat → Int → Option (Int × List Int)
  | [], _, _ => none
  | c :: rest, i, u => if (i = 0 ∨ c ≠ 0) ∧ (i < 9 ∨ c ≤ 1) then (if c < 128 then some (digitP u i c, rest) else numP rest (i + 1) (digitP u i c)) else none
/-- A number of bytes or elements that follow. -/
def lenP (l : List Int) : Option (Int × List Int) :=
  match numP l 0 0 with
  | none => none
  | some (n, rest) => if n ≤ IntKind.u64.wrap (rest.length : Int) then some (wrap64 n, rest) else none
/-- So many elements that follow. -/
def elemsP (f : List Int → Option (S24 × List Int)) : Nat → List Int → Option (List S24 × List Int)
  | 0, l => some ([], l)
  | n + 1, l => match f l with
    | none => none
    | some (v, l1) => match elemsP f n l1 with
      | none => none
      | some (vs, l2) => some (v :: vs, l2)
/-- A value that is next, in which so many lists may be nested. -/
def valP : Nat → List Int → Option (S24 × List Int)
  | _, [] => none
  | m, c :: l => if wrap64 c = 1 then (match numP l 0 0 with
      | none => none
      | some (u, r) => some (⟨1, Go.bits .xor .i64 (wrap64 (u / 2)) (wrap64 (-(wrap64 (Go.bits .and .u64 u 1)))), ⟨#[]⟩, []⟩, r))
    else if wrap64 c = 2 then (match lenP l with
      | none => none
      | some (n, r) => if n ≤ (r.length : Int) then some (⟨2, 0, strOfNums (r.take n.toNat), []⟩, r.drop n.toNat) else none)
    else if wrap64 c = 3 then (match m with
      | 0 => none
      | m + 1 => match lenP l with
        | none => none
        | some (n, r) => match elemsP (valP m) n.toNat r with
          | none => none
          | some (vs, r2) => some (⟨3, 0, ⟨#[]⟩, vs⟩, r2))
    else none
theorem numP_suffix : ∀ (l : List Int) (i : Nat) (u x : Int) (r : List Int), numP l i u = some (x, r) → r.length < l.length ∧ ∃ p, l = p ++ r
  | [], _, _, _, _, h => by simp [numP] at h
  | c :: l, i, u, x, r, h => by
    unfold numP at h
    split at h
    · split at h
      · injection h with h
        injection h with h1 h2
        subst h2
        exact ⟨by simp, [c], rfl⟩
      · obtain ⟨h1, p, h2⟩ := numP_suffix l _ _ _ _ h
        exact ⟨by simp; omega, c :: p, by rw [h2]; rfl⟩
    · cases h
theorem digitP_range (u : Int) (i : Nat) (c : Int) : 0 ≤ digitP u i c ∧ digitP u i c < 18446744073709551616 := by
  unfold digitP Go.bits
  simp only [IntKind.wrap_u64]
  omega
theorem numP_range : ∀ (l : List Int) (i : Nat) (u x : Int) (r : List Int), numP l i u = some (x, r) → 0 ≤ x ∧ x < 18446744073709551616
  | [], _, _, _, _, h => by simp [numP] at h
  | c :: l, i, u, x, r, h => by
    unfold numP at h
    split at h
    · split at h
      · injection h with h
        injection h with h1 h2
        subst h1
        exact digitP_range _ _ _
      · exact numP_range l _ _ _ _ h
    · cases h
theorem lenP_facts {l : List Int} (hl : l.length < 2000000000) {n : Int} {r : List Int} (h : lenP l = some (n, r)) : 0 ≤ n ∧ n ≤ (r.length : Int) ∧ r.length < l.length := by
  unfold lenP at h
  split at h
  · cases h
  · rename_i x r1 hn
    split at h
    · rename_i hle
      injection h with h
      injection h with h1 h2
      subst h2
      have h3 := (numP_suffix _ _ _ _ _ hn).1
      have h4 := numP_range _ _ _ _ _ hn
      rw [IntKind.wrap_u64] at hle
      subst h1
      unfold wrap64
      omega
    · cases h
theorem elemsP_len (f : List Int → Option (S24 × List Int)) (hf : ∀ l v r, f l = some (v, r) → r.length ≤ l.length) : ∀ (n : Nat) (l : List Int) (vs : List S24) (r : List Int), elemsP f n l = some (vs, r) → r.length ≤ l.length
  | 0, l, vs, r, h => by simp [elemsP] at h; rw [h.2]; omega
  | n + 1, l, vs, r, h => by
    unfold elemsP at h
    split at h
    · cases h
    · rename_i v l1 h1
      split at h
      · cases h
      · rename_i vs1 l2 h2
        injection h with h
        injection h with h3 h4
        subst h4
        have := hf _ _ _ h1
        have := elemsP_len f hf n _ _ _ h2
        omega
theorem lenP_le {l : List Int} {n : Int} {r : List Int} (h : lenP l = some (n, r)) : r.length < l.length := by
  unfold lenP at h
  split at h
  · cases h
  · rename_i x r1 hn
    split at h
    · injection h with h
      injection h with h1 h2
      subst h2
      exact (numP_suffix _ _ _ _ _ hn).1
    · cases h
theorem valP_len : ∀ (m : Nat) (l : List Int) (v : S24) (r : List Int), valP m l = some (v, r) → r.length ≤ l.length := by
  intro m
  induction m with
  | zero =>
    intro l v r h
    cases l with
    | nil => simp [valP] at h
    | cons b l =>
      unfold valP at h
      repeat' split at h
      all_goals try cases h
      · rename_i h1; have := (numP_suffix _ _ _ _ _ h1).1; simp; omega
      · rename_i h1 _; have := lenP_le h1; simp; omega
      · rename_i h0 _ _ _ _ _ _ _; cases h0
  | succ m ih =>
    intro l v r h
    cases l with
    | nil => simp [valP] at h
    | cons b l =>
      unfold valP at h
      repeat' split at h
      all_goals try cases h
      · rename_i h1; have := (numP_suffix _ _ _ _ _ h1).1; simp; omega
      · rename_i h1 _; have := lenP_le h1; simp; omega
      · rename_i h0 _ _ _ h1 _ _ h2
        injection h0 with h0
        subst h0
        have := lenP_le h1
        have := elemsP_len _ ih _ _ _ _ h2
        simp; omega
/-- What Decode answers. -/
def decP (b : List Int) : S24 × Int :=
  match valP 16 b with
  | some (v, []) => (v, 0)
  | _ => (z24, 10)
end Go.Proofs.Ytncejmjicjlanaa.Q
