/- Contract of codec.Decode, with its reader. Rendered out of seat A's texts by cod.py of this session. -/
import Derived.Test.YtncejmjicjlanaaDoorQ0
import Derived.Defers
import Derived.IntWalk
import Derived.Laws.Pointers
import Derived.Recover
import Derived.WalkSmall
namespace Go.Proofs.YtncejmjicjlanaaDoor.Q
section
set_option maxRecDepth 100000
open Go.RowKit Go.Proofs.YtncejmjicjlanaaDoorW.PrintWords Go.Proofs.YtncejmjicjlanaaDoorW.PrintLast Go.Proofs.YtncejmjicjlanaaDoorW.PrintMore
set_option linter.unusedVariables false
set_option linter.unusedSimpArgs false
/-- The panic of the reader. -/
abbrev badEnd : Ending := .panicked [{ v := .iface 27 (.int .i64 10), recovered := false }]
set_option maxHeartbeats 400000 in
theorem want_ok (p : Value) (w : World) : Calls Tryd.prog 83 #[p, .bool true] w fun e w' => e = .returned (.tuple #[]) ∧ w' = w := by
  go_enter Tryd.func83, Tryd.ntmps83
  go_wp2
  refine bodyPost_end (v := .tuple #[]) (by simp [results, Tryd.results83, go_sem]) rfl ?_
  exact ⟨rfl, rfl⟩
set_option maxHeartbeats 400000 in
theorem want_bad (p : Value) (w : World) : Calls Tryd.prog 83 #[p, .bool false] w fun e w' => e = badEnd ∧ w' = w := by
  go_enter Tryd.func83, Tryd.ntmps83
  go_wp2
  exact ⟨rfl, rfl, rfl⟩
theorem info5p : ∃ i, Tryd.prog.info? 5 = some i ∧ i.size = 1 := by
  obtain ⟨i0, hi, _, hz1, _⟩ := info_parts info5
  exact ⟨i0, hi, hz1⟩
/-- [:n:n] of a slice of bytes. -/
theorem cut_cap (A : Option Addr) (n c : Nat) (j : Int) (h0 : 0 ≤ j) (hm : j ≤ n) (hc : n ≤ c) (W : World) :
    (Instr.slice 54 (.slice A n c) none (some (.int .i64 j)) (some (.int .i64 j))).run Tryd.prog W = .ok (.slice A j.toNat j.toNat) W := by
  obtain ⟨i0, hi, hz⟩ := info5p
  have hel : Tryd.prog.elem 54 = 5 := by simp [Program.elem, Tryd.underlying54]
  have hu : Tryd.prog.underlying 54 = some (.slice (Tryd.prog.elem 54)) := by rw [hel]; exact Tryd.underlying54
  have ha : (A.map fun x => x.add 0) = A := by cases A <;> simp [Addr.add]
  rw [run_slice_hm W 54 A n c hu .i64 .i64 j j h0 (by omega) (by omega), hel]
  simp [sizeOf, typeInfo, hi, sliced, Result.andThen, ha]
/-- The reader's block: it holds a slice that reads as the rest. -/
def IsRd (w0 W : World) (g : Nat) (A : Option Addr) (c : Nat) (rest : List Int) : Prop := W.heap[g]? = some (.cells #[.slice A rest.length c] 106 (0, 0)) ∧ rest.length ≤ c ∧ w0.heap.size ≤ g ∧ Kd.C (Kd.int .u8) w0 A rest.length rest
set_option maxHeartbeats 1000000 in
set_option maxRecDepth 100000 in
theorem take_bad (g : Nat) (A : Option Addr) (c : Nat) (rest : List Int) (n : Int) (w0 w : World) (hI : IsRd w0 w g A c rest) (hn : ¬ n ≤ (rest.length : Int)) :
    Calls Tryd.prog 99 #[.pointer (some ⟨g, 0, none⟩), .int .i64 n] w fun e w' => e = badEnd ∧ w' = w := by
  have hcell : w.cell? ⟨g, 0, none⟩ = some (.slice A rest.length c) := (blk_cell hI.1 0).trans rfl
  have hb : decide (n ≤ (rest.length : Int)) = false := decide_eq_false hn
  go_enter Tryd.func99, Tryd.ntmps99
  go_wp2_with fail
  refine (want_bad _ w).mono ?_
  rintro e w1 ⟨rfl, rfl⟩
  go_wp2
  exact ⟨rfl, rfl, rfl⟩
set_option maxHeartbeats 1000000 in
set_option maxRecDepth 100000 in
theorem take_ok (g : Nat) (A : Option Addr) (c : Nat) (rest : List Int) (n : Int) (w0 w : World) (hI : IsRd w0 w g A c rest) (h0 : 0 ≤ n) (hn : n ≤ (rest.length : Int)) :
    Calls Tryd.prog 99 #[.pointer (some ⟨g, 0, none⟩), .int .i64 n] w fun e w' => e = .returned (.slice A n.toNat n.toNat) ∧ w' = w.setCell ⟨g, 0, none⟩ (.slice (if c = n.toNat then A else A.map (·.add (n.toNat * 1))) (rest.length - n.toNat) (c - n.toNat)) := by
  have hcell : w.cell? ⟨g, 0, none⟩ = some (.slice A rest.length c) := (blk_cell hI.1 0).trans rfl
  have hfz := blk_frozen hI.1 0
  have hb : decide (n ≤ (rest.length : Int)) = true := decide_eq_true hn
  obtain ⟨i0, hi, hz⟩ := info5p
  have hcap := cut_cap A rest.length c n h0 hn hI.2.1
  have hfrom := cut_from (P := Tryd.prog) 54 5 .i64 Tryd.underlying54 hi 1 hz A rest.length c n h0 hn
  go_enter Tryd.func99, Tryd.ntmps99
  go_wp2_with fail
  refine (want_ok _ w).mono ?_
  rintro e w1 ⟨rfl, rfl⟩
  go_wp2
  all_goals go_ret
  all_goals exact ⟨rfl, rfl⟩
/-- The reader behind a take. -/
theorem isRd_take {w0 w : World} {g : Nat} {A : Option Addr} {c : Nat} {rest : List Int} (hI : IsRd w0 w g A c rest) (m : Nat) (hm : m ≤ rest.length) :
    IsRd w0 (w.setCell ⟨g, 0, none⟩ (.slice (if c = m then A else A.map (·.add (m * 1))) (rest.length - m) (c - m))) g (if c = m then A else A.map (·.add (m * 1))) (c - m) (rest.drop m) := by
  obtain ⟨hb, hc, hg, hr⟩ := hI
  refine ⟨?_, by rw [List.length_drop]; omega, hg, Kd.C_drop hr hm hc⟩
  rw [List.length_drop]
  simpa using blk_set hb 0 (.slice (if c = m then A else A.map (·.add (m * 1))) (rest.length - m) (c - m))
/-- What was taken reads as the rest's beginning. -/
theorem took_C {w0 w : World} {g : Nat} {A : Option Addr} {c : Nat} {rest : List Int} (hI : IsRd w0 w g A c rest) (m : Nat) (hm : m ≤ rest.length) : Kd.C (Kd.int .u8) w0 A (rest.take m).length (rest.take m) := Kd.C_take hI.2.2.2 hm
end
section
set_option maxRecDepth 100000
set_option linter.unusedVariables false
open Go.RowKit Go.Proofs.YtncejmjicjlanaaDoorW.PrintWords Go.Proofs.YtncejmjicjlanaaDoorW.PrintLast Go.Proofs.YtncejmjicjlanaaDoorW.PrintMore
/-- One more digit of a numeral. -/
def digitP (u : Int) (i : Nat) (c : Int) : Int := Go.bits .or .u64 u (IntKind.u64.wrap (IntKind.u64.wrap (Go.bits .and .u8 c 127) * 2 ^ min (wrap64 (7 * (i : Int))).toNat 64))
/-- A numeral that is next. -/
def numP : List Int → Nat → Int → Option (Int × List Int)
  | [], _, _ => none
  | c :: rest, i, u => if (i = 0 ∨ c ≠ 0) ∧ (i < 9 ∨ c ≤ 1) then (if c < 128 then some (digitP u i c, rest) else numP rest (i + 1) (digitP u i c)) else none
/-- A number of bytes or elements that follow. -/
def lenP (l : List Int) : Option (Int × List Int) :=
  match numP l 0 0 with
  | none => none
  | some (n, rest) => if n ≤ IntKind.u64.wrap (rest.length : Int) then some (wrap64 n, rest) else none
/-- So many elements that follow. -/
def elemsP (f : List Int → Option (S63 × List Int)) : Nat → List Int → Option (List S63 × List Int)
  | 0, l => some ([], l)
  | n + 1, l => match f l with
    | none => none
    | some (v, l1) => match elemsP f n l1 with
      | none => none
      | some (vs, l2) => some (v :: vs, l2)
/-- A value that is next, in which so many lists may be nested. -/
def valP : Nat → List Int → Option (S63 × List Int)
  | _, [] => none
  | m, c :: l => if wrap64 c = 1 then (match numP l 0 0 with
      | none => none
      | some (u, r) => some (⟨1, Go.bits .xor .i64 (wrap64 (u / 2)) (wrap64 (-(wrap64 (Go.bits .and .u64 u 1)))), ⟨#[]⟩, []⟩, r))
    else if wrap64 c = 2 then (match lenP l with
      | none => none
      | some (n, r) => if n ≤ (r.length : Int) then some (⟨2, 0, strOfNums (r.take n.toNat), []⟩, r.drop n.toNat) else none)
    else if wrap64 c = 3 then (match m with
      | 0 => none
      | m + 1 => match lenP l with
        | none => none
        | some (n, r) => match elemsP (valP m) n.toNat r with
          | none => none
          | some (vs, r2) => some (⟨3, 0, ⟨#[]⟩, vs⟩, r2))
    else none
theorem numP_suffix : ∀ (l : List Int) (i : Nat) (u x : Int) (r : List Int), numP l i u = some (x, r) → r.length < l.length ∧ ∃ p, l = p ++ r
  | [], _, _, _, _, h => by simp [numP] at h
  | c :: l, i, u, x, r, h => by
    unfold numP at h
    split at h
    · split at h
      · injection h with h
        injection h with h1 h2
        subst h2
        exact ⟨by simp, [c], rfl⟩
      · obtain ⟨h1, p, h2⟩ := numP_suffix l _ _ _ _ h
        exact ⟨by simp; omega, c :: p, by rw [h2]; rfl⟩
    · cases h
theorem digitP_range (u : Int) (i : Nat) (c : Int) : 0 ≤ digitP u i c ∧ digitP u i c < 18446744073709551616 := by
  unfold digitP Go.bits
  simp only [IntKind.wrap_u64]
  omega
theorem numP_range : ∀ (l : List Int) (i : Nat) (u x : Int) (r : List Int), numP l i u = some (x, r) → 0 ≤ x ∧ x < 18446744073709551616
  | [], _, _, _, _, h => by simp [numP] at h
  | c :: l, i, u, x, r, h => by
    unfold numP at h
    split at h
    · split at h
      · injection h with h
        injection h with h1 h2
        subst h1
        exact digitP_range _ _ _
      · exact numP_range l _ _ _ _ h
    · cases h
theorem lenP_facts {l : List Int} (hl : l.length < 2000000000) {n : Int} {r : List Int} (h : lenP l = some (n, r)) : 0 ≤ n ∧ n ≤ (r.length : Int) ∧ r.length < l.length := by
  unfold lenP at h
  split at h
  · cases h
  · rename_i x r1 hn
    split at h
    · rename_i hle
      injection h with h
      injection h with h1 h2
      subst h2
      have h3 := (numP_suffix _ _ _ _ _ hn).1
      have h4 := numP_range _ _ _ _ _ hn
      rw [IntKind.wrap_u64] at hle
      subst h1
      unfold wrap64
      omega
    · cases h
theorem elemsP_len (f : List Int → Option (S63 × List Int)) (hf : ∀ l v r, f l = some (v, r) → r.length ≤ l.length) : ∀ (n : Nat) (l : List Int) (vs : List S63) (r : List Int), elemsP f n l = some (vs, r) → r.length ≤ l.length
  | 0, l, vs, r, h => by simp [elemsP] at h; rw [h.2]; omega
  | n + 1, l, vs, r, h => by
    unfold elemsP at h
    split at h
    · cases h
    · rename_i v l1 h1
      split at h
      · cases h
      · rename_i vs1 l2 h2
        injection h with h
        injection h with h3 h4
        subst h4
        have := hf _ _ _ h1
        have := elemsP_len f hf n _ _ _ h2
        omega
theorem lenP_le {l : List Int} {n : Int} {r : List Int} (h : lenP l = some (n, r)) : r.length < l.length := by
  unfold lenP at h
  split at h
  · cases h
  · rename_i x r1 hn
    split at h
    · injection h with h
      injection h with h1 h2
      subst h2
      exact (numP_suffix _ _ _ _ _ hn).1
    · cases h
theorem valP_len : ∀ (m : Nat) (l : List Int) (v : S63) (r : List Int), valP m l = some (v, r) → r.length ≤ l.length := by
  intro m
  induction m with
  | zero =>
    intro l v r h
    cases l with
    | nil => simp [valP] at h
    | cons b l =>
      unfold valP at h
      repeat' split at h
      all_goals try cases h
      · rename_i h1; have := (numP_suffix _ _ _ _ _ h1).1; simp; omega
      · rename_i h1 _; have := lenP_le h1; simp; omega
      · rename_i h0 _ _ _ _ _ _ _; cases h0
  | succ m ih =>
    intro l v r h
    cases l with
    | nil => simp [valP] at h
    | cons b l =>
      unfold valP at h
      repeat' split at h
      all_goals try cases h
      · rename_i h1; have := (numP_suffix _ _ _ _ _ h1).1; simp; omega
      · rename_i h1 _; have := lenP_le h1; simp; omega
      · rename_i h0 _ _ _ h1 _ _ h2
        injection h0 with h0
        subst h0
        have := lenP_le h1
        have := elemsP_len _ ih _ _ _ _ h2
        simp; omega
/-- What Decode answers. -/
def decP (b : List Int) : S63 × Int :=
  match valP 16 b with
  | some (v, []) => (v, 0)
  | _ => (z63, 10)
end
section
set_option maxRecDepth 100000
open Go.RowKit Go.Proofs.YtncejmjicjlanaaDoorW.PrintWords Go.Proofs.YtncejmjicjlanaaDoorW.PrintLast Go.Proofs.YtncejmjicjlanaaDoorW.PrintMore
set_option linter.unusedVariables false
set_option linter.unusedSimpArgs false
/-- How a method of the reader ends: what it answers, or its panic; the rest of the heap stays. -/
def RdPost {α : Type} (w0 w : World) (g : Nat) (val : α → Value) (out : Option (α × List Int)) (e : Ending) (w' : World) : Prop :=
  KeepBut w w' g none ∧ Below w0.heap.size w0 w' ∧
  match out with
  | none => e = badEnd
  | some (a, r) => e = .returned (val a) ∧ ∃ A c, IsRd w0 w' g A c r
theorem rd_keep {w W : World} {g i : Nat} {v : Value} (h : KeepBut w W g none) : KeepBut w (W.setCell ⟨g, i, none⟩ v) g none := KeepBut.set_ h _ _
/-- take, told by what remains. -/
theorem take_calls (g : Nat) (A : Option Addr) (c : Nat) (rest : List Int) (n : Int) (w0 w : World) (hI : IsRd w0 w g A c rest) (hB : Below w0.heap.size w0 w) (h0 : 0 ≤ n) (hn : n ≤ (rest.length : Int)) :
    Calls Tryd.prog 99 #[.pointer (some ⟨g, 0, none⟩), .int .i64 n] w fun e w' => e = .returned (.slice A n.toNat n.toNat) ∧ (∃ A1 c1, IsRd w0 w' g A1 c1 (rest.drop n.toNat)) ∧ KeepBut w w' g none ∧ Below w0.heap.size w0 w' :=
  (take_ok g A c rest n w0 w hI h0 hn).mono fun e w' ⟨he, hw⟩ => by
    subst hw
    exact ⟨he, ⟨_, _, isRd_take hI n.toNat (by omega)⟩, rd_keep (KeepBut.refl w g none), below_set hB hI.2.2.1⟩
theorem take_one (g : Nat) (A : Option Addr) (c : Nat) (b : Int) (r : List Int) (w0 w : World) (hI : IsRd w0 w g A c (b :: r)) (hB : Below w0.heap.size w0 w) :
    Calls Tryd.prog 99 #[.pointer (some ⟨g, 0, none⟩), .int .i64 1] w fun e w' => ∃ ad, e = .returned (.slice (some ad) 1 1) ∧ w'.cell? ad = some (.int .u8 b) ∧ (∃ A1 c1, IsRd w0 w' g A1 c1 r) ∧ KeepBut w w' g none ∧ Below w0.heap.size w0 w' :=
  (take_calls g A c (b :: r) 1 w0 w hI hB (by decide) (by simp; omega)).mono fun e w' ⟨he, hi, hk, hb⟩ => by
    obtain ⟨ad, hA, hc⟩ := Kd.at_int (took_C hI 1 (by simp)) 0 (by decide) (by simp)
    subst hA
    have h00 : ad.add (Int.toNat 0) = ad := by simp [Addr.add]
    rw [h00] at hc
    exact ⟨ad, he, (hb.cell (World.block_lt_of_cell? w0 _ hc)).trans hc, hi, hk, hb⟩
set_option maxHeartbeats 4000000 in
set_option maxRecDepth 100000 in
theorem number_calls (g : Nat) (A : Option Addr) (c : Nat) (rest : List Int) (w0 w : World) (hI : IsRd w0 w g A c rest) (hB : Below w0.heap.size w0 w) :
    Calls Tryd.prog 101 #[.pointer (some ⟨g, 0, none⟩)] w (RdPost w0 w g (Value.int .u64) (numP rest 0 0)) := by
  have HI := Aside0.mk (show ∃ A c, IsRd w0 w g A c rest from ⟨A, c, hI⟩)
  have HB := Aside0.mk hB
  obtain ⟨R, hR⟩ : ∃ R, numP rest 0 0 = R := ⟨_, rfl⟩
  rw [hR]
  have H := Aside0.mk hR
  clear hI hB hR
  go_enter Tryd.func101, Tryd.ntmps101
  go_wp2_with fail
  go_loopg [2, 3] rest.length (fun kq v2 v3 wr => ∃ (u : Int) (i : Nat) (r : List Int), v2 = .int .u64 u ∧ v3 = .int .i64 (i : Int) ∧ Aside0 (numP r i u = R) ∧ Aside0 (kq = r.length) ∧ Aside0 (i ≤ 9) ∧ Aside0 (KeepBut w wr g none) ∧ Aside0 (Below w0.heap.size w0 wr) ∧ Aside0 (∃ A c, IsRd w0 wr g A c r))
  case atStart => exact ⟨0, 0, rest, rfl, rfl, H, ⟨rfl⟩, ⟨by omega⟩, ⟨KeepBut.refl w g none⟩, HB, HI⟩
  case round =>
    clear H HI HB
    obtain ⟨u, i, r, rfl, rfl, HA, HK1, HI9, HK, HB, HI⟩ := hrel
    obtain ⟨A, c, hI⟩ := HI.out
    cases r with
    | nil =>
      have hR := HA.out
      simp only [numP] at hR
      subst hR
      go_wp2_with fail
      refine (take_bad g A c [] 1 w0 wr hI (by decide)).mono ?_
      rintro e w1 ⟨rfl, rfl⟩
      go_wp2
      exact ⟨rfl, HK.out, HB.out, rfl⟩
    | cons b r1 =>
      go_wp2_with fail
      refine (take_one g A c b r1 w0 wr hI HB.out).mono ?_
      rintro e w1 ⟨ad, rfl, hcell, hI1, hk1, hb1⟩
      have HB1 := Aside0.mk hb1
      have HK2 := Aside0.mk (HK.out.trans hk1 (.inl rfl))
      have HI1 := Aside0.mk hI1
      clear hb1 hk1 hI1 HB HK HI hI
      have hR := HA.out
      clear HA
      unfold numP at hR
      have h7 : 0 ≤ wrap64 (7 * (i : Int)) := by have := HI9.out; rw [IntWalk.wrap64_in _ (by omega)]; omega
      by_cases hok : (i = 0 ∨ b ≠ 0) ∧ (i < 9 ∨ b ≤ 1)
      case neg =>
        rw [if_neg hok] at hR
        subst hR
        have b0 : (i = 0) = ((i : Int) = 0) := by simp
        by_cases i0 : i = 0
        · subst i0
          have d1 : decide ((0 : Int) < 9) = true := rfl
          exact absurd ⟨.inl rfl, .inl (by decide)⟩ hok
        have e0 : ((i : Int) == 0) = false := by simp; omega
        by_cases bz : b = 0
        · subst bz
          go_wp2_with fail
          refine (want_bad _ w1).mono ?_
          rintro e w2 ⟨rfl, rfl⟩
          go_wp2
          exact ⟨rfl, HK2.out, HB1.out, rfl⟩
        have e1 : (b != 0) = true := by simpa using bz
        have e2 : decide ((i : Int) < 9) = false := by
          simp only [decide_eq_false_iff_not]
          intro h
          exact hok ⟨.inr bz, .inl (by omega)⟩
        have e3 : decide (b ≤ 1) = false := by
          simp only [decide_eq_false_iff_not]
          intro h
          exact hok ⟨.inr bz, .inr h⟩
        go_wp2_with fail
        refine (want_bad _ w1).mono ?_
        rintro e w2 ⟨rfl, rfl⟩
        go_wp2
        exact ⟨rfl, HK2.out, HB1.out, rfl⟩
      rw [if_pos hok] at hR
      have h8 : ¬ wrap64 (7 * (i : Int)) < 0 := by omega
      by_cases hlt : b < 128
      case pos =>
        rw [if_pos hlt] at hR
        subst hR
        have e4 : decide (b < 128) = true := by simpa using hlt
        by_cases cA : i = 0
        case pos =>
          have e0 : ((i : Int) == 0) = true := by simp [cA]
          have e2 : decide ((i : Int) < 9) = true := by simp [cA]
          clear hok hlt cA
          go_wp2_with fail
          refine (want_ok _ w1).mono ?_
          rintro e w2 ⟨rfl, rfl⟩
          go_wp2
          refine bodyPost_ret (v := .int .u64 (digitP u i b)) (by simp [results, Tryd.results101, go_sem]; rfl) rfl ⟨HK2.out, HB1.out, rfl, HI1.out⟩
        by_cases cB : i < 9
        case pos =>
          have e0 : ((i : Int) == 0) = false := by simp; omega
          have e1 : (b != 0) = true := by simpa using hok.1.resolve_left cA
          have e2 : decide ((i : Int) < 9) = true := by simp; omega
          clear hok hlt cA cB
          go_wp2_with fail
          refine (want_ok _ w1).mono ?_
          rintro e w2 ⟨rfl, rfl⟩
          go_wp2
          refine bodyPost_ret (v := .int .u64 (digitP u i b)) (by simp [results, Tryd.results101, go_sem]; rfl) rfl ⟨HK2.out, HB1.out, rfl, HI1.out⟩
        have e0 : ((i : Int) == 0) = false := by simp; omega
        have e1 : (b != 0) = true := by simpa using hok.1.resolve_left cA
        have e2 : decide ((i : Int) < 9) = false := by simp; omega
        have e3 : decide (b ≤ 1) = true := by simp; exact hok.2.resolve_left cB
        clear hok hlt cA cB
        go_wp2_with fail
        refine (want_ok _ w1).mono ?_
        rintro e w2 ⟨rfl, rfl⟩
        go_wp2
        refine bodyPost_ret (v := .int .u64 (digitP u i b)) (by simp [results, Tryd.results101, go_sem]; rfl) rfl ⟨HK2.out, HB1.out, rfl, HI1.out⟩
      rw [if_neg hlt] at hR
      have H2 := Aside0.mk hR
      have HI92 : Aside0 (i + 1 ≤ 9) := ⟨by omega⟩
      have hw : Value.int .i64 (wrap64 ((i : Int) + 1)) = .int .i64 ((i + 1 : Nat) : Int) := by have := HI9.out; rw [IntWalk.wrap64_in _ (by omega)]; rfl
      clear hR
      have e4 : decide (b < 128) = false := by simpa using hlt
      by_cases cA : i = 0
      case pos =>
        have e0 : ((i : Int) == 0) = true := by simp [cA]
        have e2 : decide ((i : Int) < 9) = true := by simp [cA]
        clear hok hlt cA
        go_wp2_with fail
        refine (want_ok _ w1).mono ?_
        rintro e w2 ⟨rfl, rfl⟩
        go_wp2_with fail
        go_roundg (r1.length)
        case measure => have := HK1.out; simp at this; omega
        case rel => exact ⟨digitP u i b, i + 1, r1, rfl, hw, H2, ⟨rfl⟩, HI92, HK2, HB1, HI1⟩
      by_cases cB : i < 9
      case pos =>
        have e0 : ((i : Int) == 0) = false := by simp; omega
        have e1 : (b != 0) = true := by simpa using hok.1.resolve_left cA
        have e2 : decide ((i : Int) < 9) = true := by simp; omega
        clear hok hlt cA cB
        go_wp2_with fail
        refine (want_ok _ w1).mono ?_
        rintro e w2 ⟨rfl, rfl⟩
        go_wp2_with fail
        go_roundg (r1.length)
        case measure => have := HK1.out; simp at this; omega
        case rel => exact ⟨digitP u i b, i + 1, r1, rfl, hw, H2, ⟨rfl⟩, HI92, HK2, HB1, HI1⟩
      have e0 : ((i : Int) == 0) = false := by simp; omega
      have e1 : (b != 0) = true := by simpa using hok.1.resolve_left cA
      have e2 : decide ((i : Int) < 9) = false := by simp; omega
      have e3 : decide (b ≤ 1) = true := by simp; exact hok.2.resolve_left cB
      clear hok hlt cA cB
      go_wp2_with fail
      refine (want_ok _ w1).mono ?_
      rintro e w2 ⟨rfl, rfl⟩
      go_wp2_with fail
      go_roundg (r1.length)
      case measure => have := HK1.out; simp at this; omega
      case rel => exact ⟨digitP u i b, i + 1, r1, rfl, hw, H2, ⟨rfl⟩, HI92, HK2, HB1, HI1⟩
set_option maxHeartbeats 4000000 in
set_option maxRecDepth 100000 in
theorem length_calls (g : Nat) (A : Option Addr) (c : Nat) (rest : List Int) (w0 w : World) (hI : IsRd w0 w g A c rest) (hB : Below w0.heap.size w0 w) :
    Calls Tryd.prog 102 #[.pointer (some ⟨g, 0, none⟩)] w (RdPost w0 w g (Value.int .i64) (lenP rest)) := by
  obtain ⟨R, hR⟩ : ∃ R, lenP rest = R := ⟨_, rfl⟩
  rw [hR]
  have HN := Aside0.mk (number_calls g A c rest w0 w hI hB)
  unfold lenP at hR
  go_enter Tryd.func102, Tryd.ntmps102
  go_wp2_with fail
  refine HN.out.mono ?_
  rintro e w1 ⟨hk, hb, hp⟩
  have HK := Aside0.mk hk
  have HB := Aside0.mk hb
  clear hk hb HN hI hB
  cases hN : numP rest 0 0 with
  | none =>
    rw [hN] at hp hR
    simp only at hp hR
    subst hR
    subst hp
    go_wp2
    exact ⟨rfl, HK.out, HB.out, rfl⟩
  | some x =>
    obtain ⟨n, r⟩ := x
    rw [hN] at hp hR
    simp only at hp hR
    obtain ⟨rfl, hi⟩ := hp
    have HI := Aside0.mk hi
    obtain ⟨A1, c1, hI1⟩ := hi
    have hcell : w1.cell? ⟨g, 0, none⟩ = some (.slice A1 r.length c1) := (blk_cell hI1.1 0).trans rfl
    clear hN hI1
    by_cases hle : n ≤ IntKind.u64.wrap (r.length : Int)
    · rw [if_pos hle] at hR
      subst hR
      have hd : decide (n ≤ IntKind.u64.wrap (r.length : Int)) = true := decide_eq_true hle
      clear hle
      go_wp2_with fail
      refine (want_ok _ w1).mono ?_
      rintro e w2 ⟨rfl, rfl⟩
      go_wp2
      refine bodyPost_ret (v := .int .i64 (wrap64 n)) (by simp [results, Tryd.results102, go_sem]) rfl ⟨HK.out, HB.out, rfl, HI.out⟩
    · rw [if_neg hle] at hR
      subst hR
      have hd : decide (n ≤ IntKind.u64.wrap (r.length : Int)) = false := decide_eq_false hle
      clear hle
      go_wp2_with fail
      refine (want_bad _ w1).mono ?_
      rintro e w2 ⟨rfl, rfl⟩
      go_wp2
      exact ⟨rfl, HK.out, HB.out, rfl⟩
end
section
set_option maxRecDepth 100000
open Go.RowKit Go.Proofs.YtncejmjicjlanaaDoorW.PrintWords Go.Proofs.YtncejmjicjlanaaDoorW.PrintLast Go.Proofs.YtncejmjicjlanaaDoorW.PrintMore
set_option linter.unusedVariables false
set_option linter.unusedSimpArgs false
theorem IsRd.of {w0 W W' : World} {g : Nat} {A : Option Addr} {c : Nat} {rest : List Int} (h : IsRd w0 W g A c rest) (e : W'.heap[g]? = W.heap[g]?) : IsRd w0 W' g A c rest := ⟨e.trans h.1, h.2⟩
/-- A call of a Go function that may panic, by its contract, in a region that draws its order. -/
theorem goesP_ {P : Program} {b : Bool} {oi : Oper} {N : Option Tmp} {a : Act} {w : World} {K : Act → World → Prop} {Q : Exit → Act → World → Prop} {f : FuncId} {fn : Func} {asx : Array Operand} {ts : Array TypeId} (hw : b = true) (hN : oi.dst = N) (hf : P.funcs[f]? = some fn) (hname : (fn.name == "runtime.NumGoroutine") = false) (hb : fn.body.isSome = true) (args : Array Value)
    (hop : oi.op = .call { callee := .value (.func f), args := asx, argTypes := ts }) (hargs : asx.map a.eval = args)
    (h : Calls P f args w fun e w' => (∃ v, e = .returned v ∧ K (a.put N v) w') ∨ (∃ chain, e = .panicked chain ∧ Q (.panic chain) a w')) : if b = true then Oper.wp P oi a w K Q else K (a.put N undef) w := by
  rw [if_pos hw]
  subst hN
  unfold Oper.wp
  have hrun : (execOp a.eval oi).run P w = .ok (.enter f args) w := by
    have he := enters_ hf hname hb args w
    unfold execOp
    simp [hop, resolve, Deferred.ofValue, invoke, Act.eval, hargs, he]
  rw [hrun, Oper.upon_enter]
  refine h.mono fun e w'' hh => ?_
  rcases hh with ⟨v, rfl, hk⟩ | ⟨ch, rfl, hk⟩
  · exact hk
  · exact hk
/-- How value ends. -/
def ValPost (w0 w : World) (g : Nat) (out : Option (S63 × List Int)) (e : Ending) (w' : World) : Prop :=
  KeepBut w w' g none ∧ Below w0.heap.size w0 w' ∧
  match out with
  | none => e = badEnd
  | some (v, r) => ∃ v3, e = .returned (.agg #[.int .i64 v.f0, .int .i64 v.f1, .string v.f2, v3]) ∧ Kd.R k63 63 w' w.heap.size (fun _ => True) v3 v.f3 ∧ ∃ A c, IsRd w0 w' g A c r
/-- The contract, so many lists still allowed. -/
def ValueOk (m : Nat) : Prop := ∀ (d : Int) (g : Nat) (A : Option Addr) (c : Nat) (rest : List Int) (w0 w : World) (hd : d = 16 - (m : Int)) (hm : m ≤ 16) (hI : IsRd w0 w g A c rest) (hB : Below w0.heap.size w0 w) (hl : rest.length < 2000000000),
    Calls Tryd.prog 82 #[.pointer (some ⟨g, 0, none⟩), .int .i64 d] w (ValPost w0 w g (valP m rest))
/-- A list's value out of the elements read so far and those to come. -/
def listP (vs : List S63) : Option (List S63 × List Int) → Option (S63 × List Int)
  | none => none
  | some (vs2, r2) => some (⟨3, 0, ⟨#[]⟩, vs ++ vs2⟩, r2)
theorem listP_nil (E : Option (List S63 × List Int)) : listP [] E = (match E with | none => none | some (vs, r2) => some (⟨3, 0, ⟨#[]⟩, vs⟩, r2)) := by
  cases E <;> rfl
theorem Vst.drew {w0 w W : World} {g : Nat} {x0 x1 x2 x3 : Value} (h : W.heap[w.heap.size]? = some (.cells #[x0, x1, x2, x3] 63 (0, 0)) ∧ KeepBut w W g none ∧ Below w0.heap.size w0 W) : W.drew.heap[w.heap.size]? = some (.cells #[x0, x1, x2, x3] 63 (0, 0)) ∧ KeepBut w W.drew g none ∧ Below w0.heap.size w0 W.drew :=
  ⟨h.1, keep_drew h.2.1, below_drew1 h.2.2⟩
/-- The value's own block, and what stays: x0 .. x3 are its fields. -/
def Vst (w0 w W : World) (g : Nat) (x0 x1 x2 x3 : Value) : Prop := W.heap[w.heap.size]? = some (.cells #[x0, x1, x2, x3] 63 (0, 0)) ∧ KeepBut w W g none ∧ Below w0.heap.size w0 W
theorem Vst.set0 {w0 w W : World} {g : Nat} {x0 x1 x2 x3 : Value} (h : Vst w0 w W g x0 x1 x2 x3) (hw : w0.heap.size ≤ w.heap.size) (v : Value) : Vst w0 w (W.setCell ⟨w.heap.size, 0, none⟩ v) g v x1 x2 x3 :=
  ⟨blk_put h.1 0 v rfl, keep_far h.2.1 (Nat.le_refl _) v, below_set h.2.2 hw⟩
theorem Vst.set1 {w0 w W : World} {g : Nat} {x0 x1 x2 x3 : Value} (h : Vst w0 w W g x0 x1 x2 x3) (hw : w0.heap.size ≤ w.heap.size) (v : Value) : Vst w0 w (W.setCell ⟨w.heap.size, 1, none⟩ v) g x0 v x2 x3 :=
  ⟨blk_put h.1 1 v rfl, keep_far h.2.1 (Nat.le_refl _) v, below_set h.2.2 hw⟩
theorem Vst.set2 {w0 w W : World} {g : Nat} {x0 x1 x2 x3 : Value} (h : Vst w0 w W g x0 x1 x2 x3) (hw : w0.heap.size ≤ w.heap.size) (v : Value) : Vst w0 w (W.setCell ⟨w.heap.size, 2, none⟩ v) g x0 x1 v x3 :=
  ⟨blk_put h.1 2 v rfl, keep_far h.2.1 (Nat.le_refl _) v, below_set h.2.2 hw⟩
theorem Vst.set3 {w0 w W : World} {g : Nat} {x0 x1 x2 x3 : Value} (h : Vst w0 w W g x0 x1 x2 x3) (hw : w0.heap.size ≤ w.heap.size) (v : Value) : Vst w0 w (W.setCell ⟨w.heap.size, 3, none⟩ v) g x0 x1 x2 v :=
  ⟨blk_put h.1 3 v rfl, keep_far h.2.1 (Nat.le_refl _) v, below_set h.2.2 hw⟩
theorem Vst.next {w0 w W W' : World} {g : Nat} {x0 x1 x2 x3 : Value} (h : Vst w0 w W g x0 x1 x2 x3) (hg : g < w.heap.size) (hk : KeepBut W W' g none) (hb : Below w0.heap.size w0 W') : Vst w0 w W' g x0 x1 x2 x3 :=
  ⟨(hk.2 _ (blk_lt h.1) (by omega) (by simp)).trans h.1, h.2.1.trans hk (.inl rfl), hb⟩
theorem Vst.grown {w0 w W W' : World} {g : Nat} {x0 x1 x2 x3 : Value} (h : Vst w0 w W g x0 x1 x2 x3) (hw : w0.heap.size ≤ w.heap.size) (hb : Below w.heap.size W W') (e : W'.heap[w.heap.size]? = W.heap[w.heap.size]?) : Vst w0 w W' g x0 x1 x2 x3 :=
  ⟨e.trans h.1, ⟨Nat.le_trans h.2.1.1 hb.size, fun i hi hne hr => (hb.block i hi).trans (h.2.1.2 i hi hne hr)⟩, h.2.2.trans (hb.mono hw)⟩
theorem info63 : (Tryd.prog.info? 63).map (fun i => (i.zero, i.size, i.bytes)) = some (some (.agg #[(.int .i64 0), (.int .i64 0), (.string ⟨#[]⟩), (.slice none 0 0)]), 4, 56) := by kernel_rfl
theorem Vst.cells {w0 w W : World} {g : Nat} {x0 x1 x2 x3 : Value} (h : Vst w0 w W g x0 x1 x2 x3) : W.cell? ⟨w.heap.size, 0, none⟩ = some x0 ∧ W.cell? ⟨w.heap.size, 1, none⟩ = some x1 ∧ W.cell? ⟨w.heap.size, 2, none⟩ = some x2 ∧ W.cell? ⟨w.heap.size, 3, none⟩ = some x3 :=
  ⟨(blk_cell h.1 0).trans rfl, (blk_cell h.1 1).trans rfl, (blk_cell h.1 2).trans rfl, (blk_cell h.1 3).trans rfl⟩
theorem IsRd.own {w0 W : World} {g h : Nat} {A : Option Addr} {c j : Nat} {rest : List Int} (hI : IsRd w0 W g A c rest) (hn : g ≠ h) (v : Value) : IsRd w0 (W.setCell ⟨h, j, none⟩ v) g A c rest := hI.of (Below.heap_setCell W ⟨h, j, none⟩ v g hn)
set_option maxHeartbeats 400000 in
theorem signed_calls (u : Int) (w : World) : Calls Tryd.prog 100 #[.int .u64 u] w fun e w' => e = .returned (.int .i64 (Go.bits .xor .i64 (wrap64 (u / 2)) (wrap64 (-(wrap64 (Go.bits .and .u64 u 1)))))) ∧ w' = w := by
  go_enter Tryd.func100, Tryd.ntmps100
  go_wp2
  go_ret
  exact ⟨rfl, rfl⟩
set_option maxHeartbeats 4000000 in
set_option maxRecDepth 100000 in
theorem value_nil (m : Nat) (d : Int) (g : Nat) (A : Option Addr) (c : Nat) (w0 w : World) (hI : IsRd w0 w g A c []) (hB : Below w0.heap.size w0 w) :
    Calls Tryd.prog 82 #[.pointer (some ⟨g, 0, none⟩), .int .i64 d] w (ValPost w0 w g (valP m [])) := by
  have hgl : g < w.heap.size := blk_lt hI.1
  have hu63 := Tryd.underlying63
  go_enter Tryd.func82, Tryd.ntmps82
  go_wp2_with fail
  have hI1 := hI.of (Below.heap_alloc w (.cells #[.int .i64 0, .int .i64 0, .string ⟨#[]⟩, .slice none 0 0] 63) g hgl)
  have hB1 := below_alloc hB (.cells #[.int .i64 0, .int .i64 0, .string ⟨#[]⟩, .slice none 0 0] 63)
  have hK1 := keep_alloc (KeepBut.refl w g none) (.cells #[.int .i64 0, .int .i64 0, .string ⟨#[]⟩, .slice none 0 0] 63)
  generalize hW1 : w.alloc (.cells #[.int .i64 0, .int .i64 0, .string ⟨#[]⟩, .slice none 0 0] 63) = W1 at *
  refine (take_bad g A c [] 1 w0 W1 hI1 (by decide)).mono ?_
  rintro e w1 ⟨rfl, rfl⟩
  go_wp2
  exact ⟨rfl, hK1, hB1, by simp only [valP]⟩
set_option maxHeartbeats 4000000 in
set_option maxRecDepth 100000 in
theorem value_int (m : Nat) (d : Int) (g : Nat) (A : Option Addr) (c : Nat) (b : Int) (l : List Int) (w0 w : World) (hd : d = 16 - (m : Int)) (hm : m ≤ 16) (hI : IsRd w0 w g A c (b :: l)) (hB : Below w0.heap.size w0 w) (hl : (b :: l).length < 2000000000) (k1 : wrap64 b = 1) :
    Calls Tryd.prog 82 #[.pointer (some ⟨g, 0, none⟩), .int .i64 d] w (ValPost w0 w g (valP (m) (b :: l))) := by
  have hgl : g < w.heap.size := blk_lt hI.1
  have hu63 := Tryd.underlying63
  obtain ⟨R, hR⟩ : ∃ R, valP m (b :: l) = R := ⟨_, rfl⟩
  rw [hR]
  have HD := Aside0.mk hd
  clear hd
  go_enter Tryd.func82, Tryd.ntmps82
  go_wp2_with fail
  have hBv := blk_new w (.cells #[.int .i64 0, .int .i64 0, .string ⟨#[]⟩, .slice none 0 0] 63)
  have hI1 := hI.of (Below.heap_alloc w (.cells #[.int .i64 0, .int .i64 0, .string ⟨#[]⟩, .slice none 0 0] 63) g hgl)
  have hB1 := below_alloc hB (.cells #[.int .i64 0, .int .i64 0, .string ⟨#[]⟩, .slice none 0 0] 63)
  have hK1 := keep_alloc (KeepBut.refl w g none) (.cells #[.int .i64 0, .int .i64 0, .string ⟨#[]⟩, .slice none 0 0] 63)
  generalize hW1 : w.alloc (.cells #[.int .i64 0, .int .i64 0, .string ⟨#[]⟩, .slice none 0 0] 63) = W1 at *
  have HWS := Aside0.mk hB.size
  clear hW1 hB hI
  refine (take_one g A c b l w0 W1 hI1 hB1).mono ?_
  rintro e W2 ⟨ad, rfl, hcell, hI2, hk2, hB2⟩
  have hV : Vst w0 w W2 g (.int .i64 0) (.int .i64 0) (.string ⟨#[]⟩) (.slice none 0 0) := Vst.next ⟨hBv, hK1, hB1⟩ hgl hk2 hB2
  obtain ⟨hc0, hc1, hc2, hc3⟩ := hV.cells
  have hfz := fun j => blk_frozen hV.1 j
  have HV := Aside0.mk hV
  have HI2 := Aside0.mk hI2
  have hgn : ¬ w.heap.size = g := by omega
  have HW0 := Aside0.mk (show w0.heap.size ≤ w.heap.size from HWS.out)
  clear hK1 hB1 hI1 hBv hk2 hB2 hI2 hV HWS
  unfold valP at hR
  have hl2 : l.length < 2000000000 := by simp at hl; omega
  rw [if_pos k1] at hR
  go_wp2_with fail
  have HV3 := Aside0.mk (HV.out.set0 HW0.out (.int .i64 1))
  obtain ⟨A2, c2, hI2⟩ := HI2.out
  have hI3 := hI2.own (h := w.heap.size) (j := 0) (by omega) (.int .i64 1)
  clear HV HI2 hI2 hc0 hc1 hc2 hc3 hfz hcell
  generalize W2.setCell ⟨w.heap.size, 0, none⟩ (.int .i64 1) = W3 at *
  refine (number_calls g A2 c2 l w0 W3 hI3 HV3.out.2.2).mono ?_
  rintro e W4 ⟨hk4, hB4, hp⟩
  have HV4 := Aside0.mk (HV3.out.next hgl hk4 hB4)
  clear HV3 hk4 hB4 hI3
  cases hN : numP l 0 0 with
  | none =>
    rw [hN] at hp hR
    simp only at hp hR
    subst hR
    subst hp
    go_wp2
    exact ⟨rfl, HV4.out.2.1, HV4.out.2.2, rfl⟩
  | some x =>
    obtain ⟨u, r⟩ := x
    rw [hN] at hp hR
    simp only at hp hR
    obtain ⟨rfl, A4, c4, hI4⟩ := hp
    have HI4 := Aside0.mk hI4
    subst hR
    clear hI4 hN
    go_wp2_with fail
    refine (signed_calls u W4).mono ?_
    rintro e W5 ⟨rfl, rfl⟩
    obtain ⟨hc0, hc1, hc2, hc3⟩ := HV4.out.cells
    have hfz := fun j => blk_frozen HV4.out.1 j
    go_wp2
    have HV9 := Aside0.mk ((((((HV4.out).set1 HW0.out (.int .i64 (Go.bits .xor .i64 (wrap64 (u / 2)) (wrap64 (-(wrap64 (Go.bits .and .u64 u 1))))))).set0 HW0.out (.int .i64 1)).set1 HW0.out (.int .i64 (Go.bits .xor .i64 (wrap64 (u / 2)) (wrap64 (-(wrap64 (Go.bits .and .u64 u 1))))))).set2 HW0.out (.string ⟨#[]⟩)).set3 HW0.out (.slice none 0 0))
    have HI9 := Aside0.mk ((((((HI4.out).own (h := w.heap.size) (j := 1) (by omega) (.int .i64 (Go.bits .xor .i64 (wrap64 (u / 2)) (wrap64 (-(wrap64 (Go.bits .and .u64 u 1))))))).own (h := w.heap.size) (j := 0) (by omega) (.int .i64 1)).own (h := w.heap.size) (j := 1) (by omega) (.int .i64 (Go.bits .xor .i64 (wrap64 (u / 2)) (wrap64 (-(wrap64 (Go.bits .and .u64 u 1))))))).own (h := w.heap.size) (j := 2) (by omega) (.string ⟨#[]⟩)).own (h := w.heap.size) (j := 3) (by omega) (.slice none 0 0))
    obtain ⟨c90, c91, c92, c93⟩ := HV9.out.cells
    clear hc0 hc1 hc2 hc3 hfz HV4 HI4
    generalize (((((W5).setCell ⟨w.heap.size, 1, none⟩ (.int .i64 (Go.bits .xor .i64 (wrap64 (u / 2)) (wrap64 (-(wrap64 (Go.bits .and .u64 u 1))))))).setCell ⟨w.heap.size, 0, none⟩ (.int .i64 1)).setCell ⟨w.heap.size, 1, none⟩ (.int .i64 (Go.bits .xor .i64 (wrap64 (u / 2)) (wrap64 (-(wrap64 (Go.bits .and .u64 u 1))))))).setCell ⟨w.heap.size, 2, none⟩ (.string ⟨#[]⟩)).setCell ⟨w.heap.size, 3, none⟩ (.slice none 0 0) = W9 at *
    refine bodyPost_ret (v := .agg #[.int .i64 1, (.int .i64 (Go.bits .xor .i64 (wrap64 (u / 2)) (wrap64 (-(wrap64 (Go.bits .and .u64 u 1)))))), (.string ⟨#[]⟩), (.slice none 0 0)]) (by simp [results, Tryd.results82, go_sem, c90, c91, c92, c93]) rfl ⟨HV9.out.2.1, HV9.out.2.2, _, rfl, Kd.R_nil _ _ _ _ _, _, _, HI9.out⟩
set_option maxHeartbeats 4000000 in
set_option maxRecDepth 100000 in
theorem value_text (m : Nat) (d : Int) (g : Nat) (A : Option Addr) (c : Nat) (b : Int) (l : List Int) (w0 w : World) (hd : d = 16 - (m : Int)) (hm : m ≤ 16) (hI : IsRd w0 w g A c (b :: l)) (hB : Below w0.heap.size w0 w) (hl : (b :: l).length < 2000000000) (k1 : ¬ wrap64 b = 1) (k2 : wrap64 b = 2) :
    Calls Tryd.prog 82 #[.pointer (some ⟨g, 0, none⟩), .int .i64 d] w (ValPost w0 w g (valP (m) (b :: l))) := by
  have hgl : g < w.heap.size := blk_lt hI.1
  have hu63 := Tryd.underlying63
  obtain ⟨R, hR⟩ : ∃ R, valP m (b :: l) = R := ⟨_, rfl⟩
  rw [hR]
  have HD := Aside0.mk hd
  clear hd
  go_enter Tryd.func82, Tryd.ntmps82
  go_wp2_with fail
  have hBv := blk_new w (.cells #[.int .i64 0, .int .i64 0, .string ⟨#[]⟩, .slice none 0 0] 63)
  have hI1 := hI.of (Below.heap_alloc w (.cells #[.int .i64 0, .int .i64 0, .string ⟨#[]⟩, .slice none 0 0] 63) g hgl)
  have hB1 := below_alloc hB (.cells #[.int .i64 0, .int .i64 0, .string ⟨#[]⟩, .slice none 0 0] 63)
  have hK1 := keep_alloc (KeepBut.refl w g none) (.cells #[.int .i64 0, .int .i64 0, .string ⟨#[]⟩, .slice none 0 0] 63)
  generalize hW1 : w.alloc (.cells #[.int .i64 0, .int .i64 0, .string ⟨#[]⟩, .slice none 0 0] 63) = W1 at *
  have HWS := Aside0.mk hB.size
  clear hW1 hB hI
  refine (take_one g A c b l w0 W1 hI1 hB1).mono ?_
  rintro e W2 ⟨ad, rfl, hcell, hI2, hk2, hB2⟩
  have hV : Vst w0 w W2 g (.int .i64 0) (.int .i64 0) (.string ⟨#[]⟩) (.slice none 0 0) := Vst.next ⟨hBv, hK1, hB1⟩ hgl hk2 hB2
  obtain ⟨hc0, hc1, hc2, hc3⟩ := hV.cells
  have hfz := fun j => blk_frozen hV.1 j
  have HV := Aside0.mk hV
  have HI2 := Aside0.mk hI2
  have hgn : ¬ w.heap.size = g := by omega
  have HW0 := Aside0.mk (show w0.heap.size ≤ w.heap.size from HWS.out)
  clear hK1 hB1 hI1 hBv hk2 hB2 hI2 hV HWS
  unfold valP at hR
  have hl2 : l.length < 2000000000 := by simp at hl; omega
  rw [if_neg k1, if_pos k2] at hR
  go_wp2_with fail
  have HV3 := Aside0.mk (HV.out.set0 HW0.out (.int .i64 2))
  obtain ⟨A2, c2, hI2⟩ := HI2.out
  have hI3 := hI2.own (h := w.heap.size) (j := 0) (by omega) (.int .i64 2)
  clear HV HI2 hI2 hc0 hc1 hc2 hc3 hfz hcell
  generalize W2.setCell ⟨w.heap.size, 0, none⟩ (.int .i64 2) = W3 at *
  refine (length_calls g A2 c2 l w0 W3 hI3 HV3.out.2.2).mono ?_
  rintro e W4 ⟨hk4, hB4, hp⟩
  have HV4 := Aside0.mk (HV3.out.next hgl hk4 hB4)
  clear HV3 hk4 hB4 hI3
  cases hN : lenP l with
  | none =>
    rw [hN] at hp hR
    simp only at hp hR
    subst hR
    subst hp
    go_wp2
    exact ⟨rfl, HV4.out.2.1, HV4.out.2.2, rfl⟩
  | some x =>
    obtain ⟨n, r⟩ := x
    rw [hN] at hp hR
    simp only at hp hR
    obtain ⟨rfl, A4, c4, hI4⟩ := hp
    obtain ⟨n0, nr, _⟩ := lenP_facts hl2 hN
    rw [if_pos nr] at hR
    subst hR
    have htk := took_C hI4 n.toNat (by omega)
    have htl : (r.take n.toNat).length = n.toNat := by rw [List.length_take]; omega
    rw [htl] at htk
    clear hN htl
    go_wp2_with fail
    refine (take_calls g A4 c4 r n w0 W4 hI4 HV4.out.2.2 n0 nr).mono ?_
    rintro e W5 ⟨rfl, ⟨A5, c5, hI5⟩, hk5, hB5⟩
    have HV5 := Aside0.mk (HV4.out.next hgl hk5 hB5)
    have HI5 := Aside0.mk hI5
    have hstr := Kd.C_string (P := Tryd.prog) (c := n.toNat) Tryd.underlying54 Tryd.underlying5 Tryd.underlying9 (Kd.C_below htk hB5)
    obtain ⟨hc0, hc1, hc2, hc3⟩ := HV5.out.cells
    have hfz := fun j => blk_frozen HV5.out.1 j
    clear hk5 hB5 hI5 htk hI4 HV4
    go_wp2
    have HV9 := Aside0.mk ((((((HV5.out).set2 HW0.out (.string (strOfNums (r.take n.toNat)))).set0 HW0.out (.int .i64 2)).set1 HW0.out (.int .i64 0)).set2 HW0.out (.string (strOfNums (r.take n.toNat)))).set3 HW0.out (.slice none 0 0))
    have HI9 := Aside0.mk ((((((HI5.out).own (h := w.heap.size) (j := 2) (by omega) (.string (strOfNums (r.take n.toNat)))).own (h := w.heap.size) (j := 0) (by omega) (.int .i64 2)).own (h := w.heap.size) (j := 1) (by omega) (.int .i64 0)).own (h := w.heap.size) (j := 2) (by omega) (.string (strOfNums (r.take n.toNat)))).own (h := w.heap.size) (j := 3) (by omega) (.slice none 0 0))
    obtain ⟨c90, c91, c92, c93⟩ := HV9.out.cells
    clear hc0 hc1 hc2 hc3 hfz HV5 HI5
    generalize (((((W5).setCell ⟨w.heap.size, 2, none⟩ (.string (strOfNums (r.take n.toNat)))).setCell ⟨w.heap.size, 0, none⟩ (.int .i64 2)).setCell ⟨w.heap.size, 1, none⟩ (.int .i64 0)).setCell ⟨w.heap.size, 2, none⟩ (.string (strOfNums (r.take n.toNat)))).setCell ⟨w.heap.size, 3, none⟩ (.slice none 0 0) = W9 at *
    refine bodyPost_ret (v := .agg #[.int .i64 2, .int .i64 0, (.string (strOfNums (r.take n.toNat))), (.slice none 0 0)]) (by simp [results, Tryd.results82, go_sem, c90, c91, c92, c93]) rfl ⟨HV9.out.2.1, HV9.out.2.2, _, rfl, Kd.R_nil _ _ _ _ _, _, _, HI9.out⟩
set_option maxHeartbeats 4000000 in
set_option maxRecDepth 100000 in
theorem value_bad (m : Nat) (d : Int) (g : Nat) (A : Option Addr) (c : Nat) (b : Int) (l : List Int) (w0 w : World) (hd : d = 16 - (m : Int)) (hm : m ≤ 16) (hI : IsRd w0 w g A c (b :: l)) (hB : Below w0.heap.size w0 w) (hl : (b :: l).length < 2000000000) (k1 : ¬ wrap64 b = 1) (k2 : ¬ wrap64 b = 2) (k3 : ¬ wrap64 b = 3) :
    Calls Tryd.prog 82 #[.pointer (some ⟨g, 0, none⟩), .int .i64 d] w (ValPost w0 w g (valP (m) (b :: l))) := by
  have hgl : g < w.heap.size := blk_lt hI.1
  have hu63 := Tryd.underlying63
  obtain ⟨R, hR⟩ : ∃ R, valP m (b :: l) = R := ⟨_, rfl⟩
  rw [hR]
  have HD := Aside0.mk hd
  clear hd
  go_enter Tryd.func82, Tryd.ntmps82
  go_wp2_with fail
  have hBv := blk_new w (.cells #[.int .i64 0, .int .i64 0, .string ⟨#[]⟩, .slice none 0 0] 63)
  have hI1 := hI.of (Below.heap_alloc w (.cells #[.int .i64 0, .int .i64 0, .string ⟨#[]⟩, .slice none 0 0] 63) g hgl)
  have hB1 := below_alloc hB (.cells #[.int .i64 0, .int .i64 0, .string ⟨#[]⟩, .slice none 0 0] 63)
  have hK1 := keep_alloc (KeepBut.refl w g none) (.cells #[.int .i64 0, .int .i64 0, .string ⟨#[]⟩, .slice none 0 0] 63)
  generalize hW1 : w.alloc (.cells #[.int .i64 0, .int .i64 0, .string ⟨#[]⟩, .slice none 0 0] 63) = W1 at *
  have HWS := Aside0.mk hB.size
  clear hW1 hB hI
  refine (take_one g A c b l w0 W1 hI1 hB1).mono ?_
  rintro e W2 ⟨ad, rfl, hcell, hI2, hk2, hB2⟩
  have hV : Vst w0 w W2 g (.int .i64 0) (.int .i64 0) (.string ⟨#[]⟩) (.slice none 0 0) := Vst.next ⟨hBv, hK1, hB1⟩ hgl hk2 hB2
  obtain ⟨hc0, hc1, hc2, hc3⟩ := hV.cells
  have hfz := fun j => blk_frozen hV.1 j
  have HV := Aside0.mk hV
  have HI2 := Aside0.mk hI2
  have hgn : ¬ w.heap.size = g := by omega
  have HW0 := Aside0.mk (show w0.heap.size ≤ w.heap.size from HWS.out)
  clear hK1 hB1 hI1 hBv hk2 hB2 hI2 hV HWS
  unfold valP at hR
  have hl2 : l.length < 2000000000 := by simp at hl; omega
  rw [if_neg k1, if_neg k2, if_neg k3] at hR
  subst hR
  have e1 : (wrap64 b == 1) = false := by simpa using k1
  have e2 : (wrap64 b == 2) = false := by simpa using k2
  have e3 : (wrap64 b == 3) = false := by simpa using k3
  go_wp2_with fail
  have HV3 := Aside0.mk (HV.out.set0 HW0.out (.int .i64 (wrap64 b)))
  refine (want_bad _ _).mono ?_
  rintro e W4 ⟨rfl, rfl⟩
  go_wp2
  exact ⟨rfl, HV3.out.2.1, HV3.out.2.2, rfl⟩
set_option maxHeartbeats 4000000 in
set_option maxRecDepth 100000 in
theorem value_deep (m : Nat) (d : Int) (g : Nat) (A : Option Addr) (c : Nat) (b : Int) (l : List Int) (w0 w : World) (hd : d = 16 - ((0 : Nat) : Int)) (hm : 0 ≤ 16) (hI : IsRd w0 w g A c (b :: l)) (hB : Below w0.heap.size w0 w) (hl : (b :: l).length < 2000000000) (k1 : ¬ wrap64 b = 1) (k2 : ¬ wrap64 b = 2) (k3 : wrap64 b = 3) :
    Calls Tryd.prog 82 #[.pointer (some ⟨g, 0, none⟩), .int .i64 d] w (ValPost w0 w g (valP (0) (b :: l))) := by
  have hgl : g < w.heap.size := blk_lt hI.1
  have hu63 := Tryd.underlying63
  obtain ⟨R, hR⟩ : ∃ R, valP (0) (b :: l) = R := ⟨_, rfl⟩
  rw [hR]
  have HD := Aside0.mk hd
  clear hd
  go_enter Tryd.func82, Tryd.ntmps82
  go_wp2_with fail
  have hBv := blk_new w (.cells #[.int .i64 0, .int .i64 0, .string ⟨#[]⟩, .slice none 0 0] 63)
  have hI1 := hI.of (Below.heap_alloc w (.cells #[.int .i64 0, .int .i64 0, .string ⟨#[]⟩, .slice none 0 0] 63) g hgl)
  have hB1 := below_alloc hB (.cells #[.int .i64 0, .int .i64 0, .string ⟨#[]⟩, .slice none 0 0] 63)
  have hK1 := keep_alloc (KeepBut.refl w g none) (.cells #[.int .i64 0, .int .i64 0, .string ⟨#[]⟩, .slice none 0 0] 63)
  generalize hW1 : w.alloc (.cells #[.int .i64 0, .int .i64 0, .string ⟨#[]⟩, .slice none 0 0] 63) = W1 at *
  have HWS := Aside0.mk hB.size
  clear hW1 hB hI
  refine (take_one g A c b l w0 W1 hI1 hB1).mono ?_
  rintro e W2 ⟨ad, rfl, hcell, hI2, hk2, hB2⟩
  have hV : Vst w0 w W2 g (.int .i64 0) (.int .i64 0) (.string ⟨#[]⟩) (.slice none 0 0) := Vst.next ⟨hBv, hK1, hB1⟩ hgl hk2 hB2
  obtain ⟨hc0, hc1, hc2, hc3⟩ := hV.cells
  have hfz := fun j => blk_frozen hV.1 j
  have HV := Aside0.mk hV
  have HI2 := Aside0.mk hI2
  have hgn : ¬ w.heap.size = g := by omega
  have HW0 := Aside0.mk (show w0.heap.size ≤ w.heap.size from HWS.out)
  clear hK1 hB1 hI1 hBv hk2 hB2 hI2 hV HWS
  unfold valP at hR
  have hl2 : l.length < 2000000000 := by simp at hl; omega
  rw [if_neg k1, if_neg k2, if_pos k3] at hR
  simp only at hR
  subst hR
  have hdl : decide (d < 16) = false := by have := HD.out; simp; omega
  go_wp2_with fail
  have HV3 := Aside0.mk (HV.out.set0 HW0.out (.int .i64 3))
  refine (want_bad _ _).mono ?_
  rintro e W4 ⟨rfl, rfl⟩
  go_wp2
  exact ⟨rfl, HV3.out.2.1, HV3.out.2.2, rfl⟩
end
section
set_option maxRecDepth 100000
open Go.RowKit Go.Proofs.YtncejmjicjlanaaDoorW.PrintWords Go.Proofs.YtncejmjicjlanaaDoorW.PrintLast Go.Proofs.YtncejmjicjlanaaDoorW.PrintMore
set_option linter.unusedVariables false
set_option linter.unusedSimpArgs false
set_option maxHeartbeats 4000000 in
set_option maxRecDepth 100000 in
theorem value_list (m : Nat) (d : Int) (g : Nat) (A : Option Addr) (c : Nat) (b : Int) (l : List Int) (w0 w : World) (hd : d = 16 - ((m + 1 : Nat) : Int)) (hm : m + 1 ≤ 16) (hI : IsRd w0 w g A c (b :: l)) (hB : Below w0.heap.size w0 w) (hl : (b :: l).length < 2000000000) (k1 : ¬ wrap64 b = 1) (k2 : ¬ wrap64 b = 2) (k3 : wrap64 b = 3) (ih : ValueOk m) :
    Calls Tryd.prog 82 #[.pointer (some ⟨g, 0, none⟩), .int .i64 d] w (ValPost w0 w g (valP (m + 1) (b :: l))) := by
  have hgl : g < w.heap.size := blk_lt hI.1
  have hu63 := Tryd.underlying63
  obtain ⟨R, hR⟩ : ∃ R, valP (m + 1) (b :: l) = R := ⟨_, rfl⟩
  rw [hR]
  have HD := Aside0.mk hd
  clear hd
  go_enter Tryd.func82, Tryd.ntmps82
  go_wp2_with fail
  have hBv := blk_new w (.cells #[.int .i64 0, .int .i64 0, .string ⟨#[]⟩, .slice none 0 0] 63)
  have hI1 := hI.of (Below.heap_alloc w (.cells #[.int .i64 0, .int .i64 0, .string ⟨#[]⟩, .slice none 0 0] 63) g hgl)
  have hB1 := below_alloc hB (.cells #[.int .i64 0, .int .i64 0, .string ⟨#[]⟩, .slice none 0 0] 63)
  have hK1 := keep_alloc (KeepBut.refl w g none) (.cells #[.int .i64 0, .int .i64 0, .string ⟨#[]⟩, .slice none 0 0] 63)
  generalize hW1 : w.alloc (.cells #[.int .i64 0, .int .i64 0, .string ⟨#[]⟩, .slice none 0 0] 63) = W1 at *
  have HWS := Aside0.mk hB.size
  clear hW1 hB hI
  refine (take_one g A c b l w0 W1 hI1 hB1).mono ?_
  rintro e W2 ⟨ad, rfl, hcell, hI2, hk2, hB2⟩
  have hV : Vst w0 w W2 g (.int .i64 0) (.int .i64 0) (.string ⟨#[]⟩) (.slice none 0 0) := Vst.next ⟨hBv, hK1, hB1⟩ hgl hk2 hB2
  obtain ⟨hc0, hc1, hc2, hc3⟩ := hV.cells
  have hfz := fun j => blk_frozen hV.1 j
  have HV := Aside0.mk hV
  have HI2 := Aside0.mk hI2
  have hgn : ¬ w.heap.size = g := by omega
  have HW0 := Aside0.mk (show w0.heap.size ≤ w.heap.size from HWS.out)
  clear hK1 hB1 hI1 hBv hk2 hB2 hI2 hV HWS
  unfold valP at hR
  have hl2 : l.length < 2000000000 := by simp at hl; omega
  rw [if_neg k1, if_neg k2, if_pos k3] at hR
  simp only at hR
  have hdl : decide (d < 16) = true := by have := HD.out; simp; omega
  go_wp2_with fail
  have HV3 := Aside0.mk (HV.out.set0 HW0.out (.int .i64 3))
  obtain ⟨A2, c2, hI2⟩ := HI2.out
  have hI3 := hI2.own (h := w.heap.size) (j := 0) (by omega) (.int .i64 3)
  clear HV HI2 hI2 hc0 hc1 hc2 hc3 hfz hcell
  generalize W2.setCell ⟨w.heap.size, 0, none⟩ (.int .i64 3) = W3 at *
  refine (want_ok _ W3).mono ?_
  rintro e W3' ⟨rfl, rfl⟩
  go_wp2_with fail
  refine (length_calls g A2 c2 l w0 W3' hI3 HV3.out.2.2).mono ?_
  rintro e W4 ⟨hk4, hB4, hp⟩
  have HV4 := Aside0.mk (HV3.out.next hgl hk4 hB4)
  clear HV3 hk4 hB4 hI3
  cases hN : lenP l with
  | none =>
    rw [hN] at hp hR
    simp only at hp hR
    subst hR
    subst hp
    go_wp2
    exact ⟨rfl, HV4.out.2.1, HV4.out.2.2, rfl⟩
  | some x =>
    obtain ⟨n, r⟩ := x
    rw [hN] at hp hR
    simp only at hp hR
    obtain ⟨rfl, hI4⟩ := hp
    obtain ⟨n0, nr, nl⟩ := lenP_facts hl2 hN
    have HI4 := Aside0.mk hI4
    obtain ⟨N, rfl⟩ : ∃ N : Nat, n = (N : Int) := ⟨n.toNat, by omega⟩
    have IH := Aside0.mk ih
    have HN := Aside0.mk (show N ≤ r.length from by omega)
    have HNS := Aside0.mk (show N < 2000000000 from by omega)
    have HL := Aside0.mk (show r.length < 2000000000 from by omega)
    have HM := Aside0.mk hm
    rw [Int.toNat_natCast] at hR
    have HR0 := Aside0.mk hR
    clear hN hI4 ih n0 nr nl hl hl2 k1 k2 k3 hm hR hdl
    go_wp2_with fail
    go_loopg [37] N (fun kq v37 wr => ∃ (i : Nat) (vs : List S63) (r1 : List Int) (u : Value), v37 = .int .i64 (i : Int) ∧ Aside0 (i + kq = N) ∧ Aside0 (vs.length = i) ∧ Aside0 (r1.length < 2000000000) ∧ Aside0 (Vst w0 w wr g (.int .i64 3) (.int .i64 0) (.string ⟨#[]⟩) u) ∧ Aside0 (Kd.R k63 63 wr w.heap.size (fun k => k ≠ g ∧ k ≠ w.heap.size) u vs) ∧ Aside0 (∃ A c, IsRd w0 wr g A c r1) ∧ Aside0 (R = listP vs (elemsP (valP m) kq r1)))
    case atStart => exact ⟨0, [], r, .slice none 0 0, rfl, ⟨by omega⟩, ⟨rfl⟩, HL, HV4, ⟨Kd.R_nil _ _ _ _ _⟩, HI4, ⟨by rw [listP_nil]; exact HR0.out.symm⟩⟩
    case round =>
      clear HV4 HI4 HR0 HL HN
      obtain ⟨i, vs, r1, u, rfl, HIK, HVL, HL, HV4, HO, HI4, HR⟩ := hrel
      obtain ⟨hc0, hc1, hc2, hc3⟩ := HV4.out.cells
      have hfz := fun j => blk_frozen HV4.out.1 j
      cases gk with
      | zero =>
        have hlt : decide (i < N) = false := by have := HIK.out; simp; omega
        have hR := HR.out
        simp only [elemsP, listP, List.append_nil] at hR
        subst hR
        obtain ⟨A3, c3, rfl⟩ := Kd.R_slice HO.out
        obtain ⟨A4, c4, hI4⟩ := HI4.out
        have HI4 := Aside0.mk hI4
        clear hI4
        go_wp2
        have HV9 := Aside0.mk (((((HV4.out).set0 HW0.out (.int .i64 3)).set1 HW0.out (.int .i64 0)).set2 HW0.out (.string ⟨#[]⟩)).set3 HW0.out (.slice A3 vs.length c3))
        have HO9 := Aside0.mk (Kd.R_mono (Kd.R_far (p := ⟨w.heap.size, 3, none⟩) (Kd.R_far (p := ⟨w.heap.size, 2, none⟩) (Kd.R_far (p := ⟨w.heap.size, 1, none⟩) (Kd.R_far (p := ⟨w.heap.size, 0, none⟩) HO.out (fun _ hk => hk.2) (.int .i64 3)) (fun _ hk => hk.2) (.int .i64 0)) (fun _ hk => hk.2) (.string ⟨#[]⟩)) (fun _ hk => hk.2) (.slice A3 vs.length c3)) (fun _ _ => trivial) (ok' := fun _ => True))
        have HI9 := Aside0.mk (((((HI4.out).own (h := w.heap.size) (j := 0) (by omega) (.int .i64 3)).own (h := w.heap.size) (j := 1) (by omega) (.int .i64 0)).own (h := w.heap.size) (j := 2) (by omega) (.string ⟨#[]⟩)).own (h := w.heap.size) (j := 3) (by omega) (.slice A3 vs.length c3))
        obtain ⟨c90, c91, c92, c93⟩ := HV9.out.cells
        clear HO hc0 hc1 hc2 hc3 hfz HV4 HI4
        generalize ((((wr).setCell ⟨w.heap.size, 0, none⟩ (.int .i64 3)).setCell ⟨w.heap.size, 1, none⟩ (.int .i64 0)).setCell ⟨w.heap.size, 2, none⟩ (.string ⟨#[]⟩)).setCell ⟨w.heap.size, 3, none⟩ (.slice A3 vs.length c3) = W9 at *
        refine bodyPost_ret (v := .agg #[.int .i64 3, .int .i64 0, .string ⟨#[]⟩, .slice A3 vs.length c3]) (by simp [results, Tryd.results82, go_sem, c90, c91, c92, c93]) rfl ⟨HV9.out.2.1, HV9.out.2.2, _, rfl, HO9.out, _, _, HI9.out⟩
      | succ k1 =>
        have hlt : decide (i < N) = true := by have := HIK.out; simp; omega
        go_wp2_with fail
        have HV5 := Aside0.mk (show Vst w0 w wr.drew g (.int .i64 3) (.int .i64 0) (.string ⟨#[]⟩) u from Vst.drew HV4.out)
        have HO5 := Aside0.mk (show Kd.R k63 63 wr.drew w.heap.size (fun k => k ≠ g ∧ k ≠ w.heap.size) u vs from Kd.R_drew HO.out)
        obtain ⟨A5, c5, hI5⟩ : ∃ A c, IsRd w0 wr.drew g A c r1 := HI4.out
        have hd1 : wrap64 (d + 1) = 16 - (m : Int) := by have h1 := HD.out; have h2 := HM.out; rw [IntWalk.wrap64_in _ (by omega)]; omega
        have hm1 : m ≤ 16 := by have h2 := HM.out; omega
        clear HV4 HO HI4
        refine start_ (n := 10) (S := fun w' => w'.cell? ⟨w.heap.size, 3, none⟩ = some u) (ds := [9]) #[false, false, false, false, false, false, false, false, false, false] (by kernel_rfl) rfl rfl ((by exact hc3)) (fun hHeld => ?_)
        generalize wr.drew = W5 at HV5 HO5 hI5 hHeld ⊢
        have hcall := IH.out _ g A5 c5 r1 w0 W5 hd1 hm1 hI5 HV5.out.2.2 HL.out
        refine pure_ (i := 0) (N := some 39) (v := ?_) (a' := ?_) #[true, false, false, false, false, false, false, false, false, false] rfl rfl (by kernel_rfl) (fun _ _ _ h => h) (Or.inl ⟨by rfl, ?_⟩) ?_ ?_
        rotate_left
        · intro w'
          go_simp
          with_reducible rfl
        rotate_left
        · simp only [Act.put, List.setIfInBounds_toArray, List.set_cons_zero, List.set_cons_succ, i64_w, i32_w]
          rfl
        refine pure_ (i := 2) (N := some 41) (v := ?_) (a' := ?_) #[true, false, true, false, false, false, false, false, false, false] rfl rfl (by kernel_rfl) (fun _ _ _ h => h) (Or.inl ⟨by rfl, ?_⟩) ?_ ?_
        rotate_left
        · intro w'
          go_simp
          with_reducible rfl
        rotate_left
        · simp only [Act.put, List.setIfInBounds_toArray, List.set_cons_zero, List.set_cons_succ, i64_w, i32_w]
          rfl
        refine pure_ (i := 3) (N := some 42) (v := ?_) (a' := ?_) #[true, false, true, true, false, false, false, false, false, false] rfl rfl (by kernel_rfl) (fun _ _ _ h => h) (Or.inl ⟨by rfl, ?_⟩) ?_ ?_
        rotate_left
        · intro w'
          go_simp
          with_reducible rfl
        rotate_left
        · simp only [Act.put, List.setIfInBounds_toArray, List.set_cons_zero, List.set_cons_succ, i64_w, i32_w]
          rfl
        refine pure_ (i := 4) (N := some 43) (v := ?_) (a' := ?_) #[true, false, true, true, true, false, false, false, false, false] rfl rfl (by kernel_rfl) (fun _ _ _ h => h) (Or.inl ⟨by rfl, ?_⟩) ?_ ?_
        rotate_left
        · intro w'
          go_simp
          with_reducible rfl
        rotate_left
        · simp only [Act.put, List.setIfInBounds_toArray, List.set_cons_zero, List.set_cons_succ, i64_w, i32_w]
          rfl
        refine take_ (i := 1) (N := some 40) (v := ?_) (a' := ?_) #[true, true, true, true, true, false, false, false, false, false] rfl rfl (by kernel_rfl) (fun _ _ _ h => h) (Or.inl ⟨by rfl, ?_⟩) hHeld ?_ ?_
        rotate_left
        · intro w' s0
          go_simp
          with_reducible rfl
        rotate_left
        · simp only [Act.put, List.setIfInBounds_toArray, List.set_cons_zero, List.set_cons_succ, i64_w, i32_w]
          rfl
        refine one_ (i := 5) (N := some 44) #[true, true, true, true, true, true, false, false, false, false] rfl rfl (by kernel_rfl) (by decide) (fun K hK => ?_)
        refine goesP_ (by rfl) (by rfl) Tryd.func82 (by kernel_rfl) rfl #[.pointer (some ⟨g, 0, none⟩), .int .i64 (wrap64 (d + 1))] (by rfl) (by simp only [List.map_toArray, List.map_cons, List.map_nil]; rfl) ?_
        refine hcall.mono ?_
        rintro e W6 ⟨hk6, hB6, hp⟩
        have hgl6 : w.heap.size < W5.heap.size := blk_lt HV5.out.1
        have HV6 := Aside0.mk (HV5.out.next hgl hk6 hB6)
        cases hV : valP m r1 with
        | none =>
          rw [hV] at hp
          have hRn : R = none := by rw [HR.out]; simp only [elemsP, hV, listP]
          right
          refine ⟨_, hp, rfl, HV6.out.2.1, HV6.out.2.2, ?_⟩
          rw [hRn]
        | some x =>
          obtain ⟨v, r2⟩ := x
          rw [hV] at hp
          obtain ⟨v3, rfl, hR6, hI6⟩ := hp
          have HRs : Aside0 (R = listP (vs ++ [v]) (elemsP (valP m) k1 r2)) := ⟨by rw [HR.out]; simp only [elemsP, hV]; cases elemsP (valP m) k1 r2 <;> simp [listP]⟩
          have HO6 := Aside0.mk (Kd.R_keep HO5.out hk6 (fun _ hk => hk.1))
          have HX := Aside0.mk (Kd.R_lower (Kd.R_mono (Kd.R_bound hR6) (ok' := fun k => (k ≠ g ∧ k ≠ w.heap.size) ∧ some k ≠ u.ownBlock) (fun k hk => ⟨⟨by have := hk.2.1; omega, by have := hk.2.1; omega⟩, fun he => by have := Kd.R_lt HO5.out k he.symm; have := hk.2.1; omega⟩)) (Nat.le_of_lt hgl6))
          have hs6 : W5.heap.size ≤ W6.heap.size := hk6.1
          have HL2 : Aside0 (r2.length < 2000000000) := ⟨by have := (valP_len m _ _ _ hV); have := HL.out; omega⟩
          have HI6 := Aside0.mk hI6
          obtain ⟨A6, c6, rfl⟩ := Kd.R_slice HX.out
          clear hk6 hB6 hR6 hI6 HR HV5 HO5 hI5 hcall hV
          left
          refine ⟨_, rfl, ?_⟩
          refine hK.out _ _ ((HV6.out.cells.2.2.2)) (fun hHeld => ?_)
          clear hK K
          refine norm_ (a' := ?_) ?_ ?_
          rotate_left
          · show Act.put _ (some 44) _ = _
            simp only [Act.put, List.setIfInBounds_toArray, List.set_cons_zero, List.set_cons_succ, i64_w, i32_w]
            rfl
          refine one_ (i := 6) (N := some 45) #[true, true, true, true, true, true, true, false, false, false] rfl rfl (by kernel_rfl) (by decide) (fun K hK => ?_)
          refine value_ (w1 := ?_) (v := ?_) (by rfl) rfl ?_ ?_
          rotate_left 2
          · go_simp
            constructor
            · rfl
            · rfl
          refine hK.out _ _ (((blk_cell (blk_alloc HV6.out.1 _) 3).trans rfl)) (fun hHeld => ?_)
          clear hK K
          refine norm_ (a' := ?_) ?_ ?_
          rotate_left
          · show Act.put _ (some 45) _ = _
            simp only [Act.put, List.setIfInBounds_toArray, List.set_cons_zero, List.set_cons_succ, i64_w, i32_w]
            rfl
          refine one_ (i := 7) (N := some 46) #[true, true, true, true, true, true, true, true, false, false] rfl rfl (by kernel_rfl) (by decide) (fun K hK => ?_)
          refine Kd.R_append_step k63 (w0 := W6) w.heap.size (by rfl) (.tmp 40) (.tmp 45) 61 63 (.agg #[(.int .i64 0), (.int .i64 0), (.string ⟨#[]⟩), (.slice none 0 0)]) 56 rfl Tryd.underlying61 info63 rfl (by decide) (by omega) u vs v [.int .i64 v.f0, .int .i64 v.f1, .string v.f2, .slice A6 v.f3.length c6] (fun k => k ≠ g ∧ k ≠ w.heap.size) (fun k => (k ≠ g ∧ k ≠ w.heap.size) ∧ some k ≠ u.ownBlock) rfl rfl (k63_mkM _ _ _ v HX.out) (fun _ hk => hk) (fun k hk => ⟨by omega, by omega⟩) HO6.out (Below.refl _ _) (by omega) (by have h1 := HVL.out; have h2 := HIK.out; have h3 := HNS.out; omega) ?_
          intro v7 w7 ho hb hg hat
          obtain ⟨A7, c7, rfl⟩ := Kd.R_slice ho
          have HV7 := Aside0.mk (HV6.out.grown HW0.out hb (hg.block _ (by omega) (Kd.R_away HO6.out (fun _ hk => hk.2))))
          have HI7 : Aside0 (∃ A c, IsRd w0 w7 g A c r2) := ⟨by obtain ⟨A, c, h⟩ := HI6.out; exact ⟨A, c, h.of (hb.block _ hgl)⟩⟩
          have hln : (vs ++ [v]).length = vs.length + 1 := by simp
          rw [hln] at ho
          have HO7 := Aside0.mk ho
          clear ho hb hg hat HV6 HI6 HO6 HX hln
          refine hK.out _ _ ((HV7.out.cells.2.2.2)) (fun hHeld => ?_)
          clear hK K
          refine norm_ (a' := ?_) ?_ ?_
          rotate_left
          · show Act.put _ (some 46) _ = _
            simp only [Act.put, List.setIfInBounds_toArray, List.set_cons_zero, List.set_cons_succ, i64_w, i32_w]
            rfl
          refine pure_ (i := 8) (N := some 47) (v := ?_) (a' := ?_) #[true, true, true, true, true, true, true, true, true, false] rfl rfl (by kernel_rfl) (fun _ _ _ h => h) (Or.inl ⟨by rfl, ?_⟩) ?_ ?_
          rotate_left
          · intro w'
            go_simp
            with_reducible rfl
          rotate_left
          · simp only [Act.put, List.setIfInBounds_toArray, List.set_cons_zero, List.set_cons_succ, i64_w, i32_w]
            rfl
          refine last_ (i := 9) (N := none) #[true, true, true, true, true, true, true, true, true, true] rfl rfl (by kernel_rfl) (by decide) (fun K hK => ?_)
          have hs15 := HV7.out.cells.2.2.2
          have hfs15 := blk_frozen HV7.out.1 3
          refine skip_ (w1 := ?_) (by rfl) rfl ?_ ?_
          rotate_left
          · go_simp
            rfl
          refine hK.out _ _ ?_
          clear hK K
          refine done_ (by kernel_rfl) ?_
  
          go_wp2_with fail
          have HI8 : Aside0 (∃ A c, IsRd w0 (w7.setCell ⟨w.heap.size, 3, none⟩ (.slice A7 (vs.length + 1) c7)) g A c r2) := ⟨by obtain ⟨A, c, h⟩ := HI7.out; exact ⟨A, c, h.own (by omega) _⟩⟩
          have hw : Value.int .i64 (wrap64 ((i : Int) + 1)) = .int .i64 ((i + 1 : Nat) : Int) := by have h1 := HNS.out; have h2 := HIK.out; rw [IntWalk.wrap64_in _ (by omega)]; rfl
          go_roundg k1
          case measure => have := HIK.out; omega
          case rel => exact ⟨i + 1, vs ++ [v], r2, _, hw, ⟨by have := HIK.out; omega⟩, ⟨by rw [List.length_append]; have := HVL.out; simp; omega⟩, HL2, ⟨HV7.out.set3 HW0.out _⟩, ⟨Kd.R_far HO7.out (fun _ hk => hk.2) _⟩, HI8, HRs⟩
theorem value_calls (m : Nat) : ValueOk m := by
  induction m with
  | zero =>
    intro d g A c rest w0 w hd hm hI hB hl
    cases rest with
    | nil => exact value_nil 0 d g A c w0 w hI hB
    | cons b l =>
      by_cases k1 : wrap64 b = 1
      · exact value_int 0 d g A c b l w0 w hd hm hI hB hl k1
      by_cases k2 : wrap64 b = 2
      · exact value_text 0 d g A c b l w0 w hd hm hI hB hl k1 k2
      by_cases k3 : wrap64 b = 3
      · exact value_deep 0 d g A c b l w0 w hd hm hI hB hl k1 k2 k3
      · exact value_bad 0 d g A c b l w0 w hd hm hI hB hl k1 k2 k3
  | succ m ih =>
    intro d g A c rest w0 w hd hm hI hB hl
    cases rest with
    | nil => exact value_nil (m + 1) d g A c w0 w hI hB
    | cons b l =>
      by_cases k1 : wrap64 b = 1
      · exact value_int (m + 1) d g A c b l w0 w hd hm hI hB hl k1
      by_cases k2 : wrap64 b = 2
      · exact value_text (m + 1) d g A c b l w0 w hd hm hI hB hl k1 k2
      by_cases k3 : wrap64 b = 3
      · exact value_list m d g A c b l w0 w hd hm hI hB hl k1 k2 k3 ih
      · exact value_bad (m + 1) d g A c b l w0 w hd hm hI hB hl k1 k2 k3
end
section
set_option maxRecDepth 100000
open Go.RowKit Go.Proofs.YtncejmjicjlanaaDoorW.PrintWords Go.Proofs.YtncejmjicjlanaaDoorW.PrintLast Go.Proofs.YtncejmjicjlanaaDoorW.PrintMore
set_option linter.unusedVariables false
set_option linter.unusedSimpArgs false
set_option maxHeartbeats 4000000 in
set_option maxRecDepth 100000 in
/-- The deferred closure behind a panic of the reader: the results are laid anew. -/
theorem catch_bad (g h : Nat) (x0 x1 x2 x3 y : Value) (w : World) (hg : w.heap[g]? = some (.cells #[x0, x1, x2, x3] 63 (0, 0))) (hh : w.heap[h]? = some (.cells #[y] 27 (0, 0))) (hn : g ≠ h) :
    CallsD Tryd.prog 81 #[.pointer (some ⟨g, 0, none⟩), .pointer (some ⟨h, 0, none⟩)] (.panicking [{ v := .iface 27 (.int .i64 10), recovered := false }]) w fun e u' w' =>
      e = .returned (.tuple #[]) ∧ u' = .panicking [{ v := .iface 27 (.int .i64 10), recovered := true }] ∧ w'.heap[g]? = some (.cells #[.int .i64 0, .int .i64 0, .string ⟨#[]⟩, .slice none 0 0] 63 (0, 0)) ∧ w'.heap[h]? = some (.cells #[.int .i64 10] 27 (0, 0)) ∧ ∀ B w0, B ≤ g → B ≤ h → Below B w0 w → Below B w0 w' := by
  have hc0 := blk_cell hg 0
  have hc1 := blk_cell hg 1
  have hc2 := blk_cell hg 2
  have hc3 := blk_cell hg 3
  have hfz := fun j => blk_frozen hg j
  have hd := blk_cell hh 0
  have hfd := blk_frozen hh 0
  simp at hc0 hc1 hc2 hc3 hd
  have hu63 := Tryd.underlying63
  have hta : ∀ W : World, (Instr.typeAssert (.iface 27 (.int .i64 10)) 20 27 false).run Tryd.prog W = .ok (.int .i64 10) W := fun W => by
    have h1 := Tryd.underlying27
    simp [Instr.typeAssert, go_sem, h1]
  have hn2 : ¬ h = g := fun e => hn e.symm
  refine callsD_of_wpS Tryd.func81 rfl fun c₀ cs hu => ?_
  apply wpS_seq
  apply wpS_region
  simp [wpOpsS, go_sem, recoverD, hu, Tryd.ntmps81, Exit.thenS]
  apply wpS_seq
  apply wpS_region
  simp [wpOpsS, go_sem, recoverD, hu, Tryd.ntmps81, Exit.thenS]
  refine wpS_cond (t := true) (by simp [Act.eval, Array.replicate]) ?_
  simp only [if_true]
  refine wpS_of_wp ?_
  simp [Array.replicate]
  go_wp2_with fail
  refine start_ (n := 5) (S := fun w' => True) (ds := [4]) #[false, false, false, false, false] (by kernel_rfl) rfl rfl trivial (fun hHeld => ?_)
  refine pure_ (i := 0) (N := some 6) (v := ?_) (a' := ?_) #[true, false, false, false, false] rfl rfl (by kernel_rfl) (fun _ _ _ h => h) (Or.inl ⟨by rfl, ?_⟩) ?_ ?_
  rotate_left
  · intro w'
    go_simp
    with_reducible rfl
  rotate_left
  · simp only [Act.put, List.setIfInBounds_toArray, List.set_cons_zero, List.set_cons_succ, i64_w, i32_w]
    rfl
  refine pure_ (i := 1) (N := some 7) (v := ?_) (a' := ?_) #[true, true, false, false, false] rfl rfl (by kernel_rfl) (fun _ _ _ h => h) (Or.inl ⟨by rfl, ?_⟩) ?_ ?_
  rotate_left
  · intro w'
    go_simp
    with_reducible rfl
  rotate_left
  · simp only [Act.put, List.setIfInBounds_toArray, List.set_cons_zero, List.set_cons_succ, i64_w, i32_w]
    rfl
  refine pure_ (i := 2) (N := some 8) (v := ?_) (a' := ?_) #[true, true, true, false, false] rfl rfl (by kernel_rfl) (fun _ _ _ h => h) (Or.inl ⟨by rfl, ?_⟩) ?_ ?_
  rotate_left
  · intro w'
    go_simp
    with_reducible rfl
  rotate_left
  · simp only [Act.put, List.setIfInBounds_toArray, List.set_cons_zero, List.set_cons_succ, i64_w, i32_w]
    rfl
  refine one_ (i := 3) (N := none) #[true, true, true, true, false] rfl rfl (by kernel_rfl) (by decide) (fun K hK => ?_)
  refine skip_ (w1 := ?_) (by rfl) rfl ?_ ?_
  rotate_left
  · go_simp
    rfl
  refine hK.out _ _ trivial (fun hHeld => ?_)
  clear hK K
  refine last_ (i := 4) (N := none) #[true, true, true, true, true] rfl rfl (by kernel_rfl) (by decide) (fun K hK => ?_)
  refine skip_ (w1 := ?_) (by rfl) rfl ?_ ?_
  rotate_left
  · go_simp
    rfl
  refine hK.out _ _ ?_
  clear hK K
  refine done_ (by kernel_rfl) ?_
  have hgs := blk_put (blk_put (blk_put (blk_put hg 0 (.int .i64 0) rfl) 1 (.int .i64 0) rfl) 2 (.string ⟨#[]⟩) rfl) 3 (.slice none 0 0) rfl
  have hhs := blk_far (blk_far (blk_far (blk_far hh (p := ⟨g, 0, none⟩) hn2 (.int .i64 0)) (p := ⟨g, 1, none⟩) hn2 (.int .i64 0)) (p := ⟨g, 2, none⟩) hn2 (.string ⟨#[]⟩)) (p := ⟨g, 3, none⟩) hn2 (.slice none 0 0)
  refine ⟨rfl, _, rfl, .tuple #[], by simp [results, Tryd.results81, go_sem], rfl, rfl, blk_drew (blk_far hgs (p := ⟨h, 0, none⟩) hn (.int .i64 10)), blk_drew (blk_put hhs 0 (.int .i64 10) rfl), fun B w0 h1 h2 hb => ?_⟩
  have hb5 := ((((hb.setCell (p := ⟨g, 0, none⟩) h1 (.int .i64 0)).setCell (p := ⟨g, 1, none⟩) h1 (.int .i64 0)).setCell (p := ⟨g, 2, none⟩) h1 (.string ⟨#[]⟩)).setCell (p := ⟨g, 3, none⟩) h1 (.slice none 0 0)).setCell (p := ⟨h, 0, none⟩) h2 (.int .i64 10)
  exact ⟨hb5.os, hb5.tape, hb5.output, hb5.size, hb5.block⟩
set_option maxHeartbeats 4000000 in
set_option maxRecDepth 100000 in
/-- The deferred closure behind a return: it does nothing. -/
theorem catch_idle (g h : Nat) (w : World) :
    CallsD Tryd.prog 81 #[.pointer (some ⟨g, 0, none⟩), .pointer (some ⟨h, 0, none⟩)] .returning w fun e u' w' => e = .returned (.tuple #[]) ∧ u' = .returning ∧ w' = w := by
  refine callsD_of_wpS Tryd.func81 rfl fun c₀ cs hu => ?_
  apply wpS_seq
  apply wpS_region
  simp [wpOpsS, go_sem, recoverD, hu, Tryd.ntmps81, Exit.thenS]
  apply wpS_seq
  apply wpS_region
  simp [wpOpsS, go_sem, recoverD, hu, Tryd.ntmps81, Exit.thenS]
  refine wpS_cond (t := false) (by simp [Act.eval, Array.replicate]) ?_
  simp only [Bool.false_eq_true, if_false]
  refine wpS_of_wp (wp_skip ?_)
  cases c₀
  simp_all [bodyPostS, results, Tryd.results81]
end
section
set_option maxRecDepth 100000
open Go.RowKit Go.Proofs.YtncejmjicjlanaaDoorW.PrintWords Go.Proofs.YtncejmjicjlanaaDoorW.PrintLast Go.Proofs.YtncejmjicjlanaaDoorW.PrintMore
set_option linter.unusedVariables false
set_option linter.unusedSimpArgs false
def codec_Decode.f (k : Nat) (l0 : List Int) : Option (Int × Int × ByteArray × (List (S63)) × Int) := if l0.length < 2000000000 then some ((decP l0).1.f0, (decP l0).1.f1, (decP l0).1.f2, (decP l0).1.f3, (decP l0).2) else none
theorem codec_Decode.mono : ∀ a0 k, LeO (codec_Decode.f k a0) (codec_Decode.f (k + 1) a0) := fun _ _ => LeO.refl _
set_option maxHeartbeats 4000000 in
set_option maxRecDepth 100000 in
theorem decode_walk (A : Option Addr) (c : Nat) (l : List Int) (w : World) (hr : Kd.C (Kd.int .u8) w A l.length l) (hc : l.length ≤ c) (hl : l.length < 2000000000) :
    Calls Tryd.prog 47 #[.slice A l.length c] w fun e w' => ∃ v4 : Value, e = .returned (.tuple #[.agg #[.int .i64 (decP l).1.f0, .int .i64 (decP l).1.f1, .string (decP l).1.f2, v4], .int .i64 (decP l).2]) ∧ Kd.R k63 63 w' w.heap.size (fun _ => True) v4 (decP l).1.f3 ∧ Below w.heap.size w w' := by
  have hmf : ∀ (fn : Fn) (first cap : Array Value) (w : World), (Instr.makeFunc fn first cap).run Tryd.prog w = .ok (.func fn first cap) w := fun _ _ _ _ => rfl
  have hu63 := Tryd.underlying63
  have hu27 := Tryd.underlying27
  have hu106 := Tryd.underlying106
  have HR := Aside0.mk hr
  have HC := Aside0.mk hc
  have HL := Aside0.mk hl
  clear hr hc hl
  go_enter_defers Tryd.func47, Tryd.ntmps47
  go_wp2_with fail
  have h2 := blk_alloc (blk_alloc (blk_new w (.cells #[.int .i64 0, .int .i64 0, .string ⟨#[]⟩, .slice none 0 0] 63)) (.cells #[.int .i64 0] 27)) (.cells #[.slice A l.length c] 106)
  have h3 := blk_alloc (blk_new (w.alloc (.cells #[.int .i64 0, .int .i64 0, .string ⟨#[]⟩, .slice none 0 0] 63)) (.cells #[.int .i64 0] 27)) (.cells #[.slice A l.length c] 106)
  have h4 := blk_new ((w.alloc (.cells #[.int .i64 0, .int .i64 0, .string ⟨#[]⟩, .slice none 0 0] 63)).alloc (.cells #[.int .i64 0] 27)) (.cells #[.slice A l.length c] 106)
  have hb := below_alloc (below_alloc (below_alloc (Below.refl w.heap.size w) (.cells #[.int .i64 0, .int .i64 0, .string ⟨#[]⟩, .slice none 0 0] 63)) (.cells #[.int .i64 0] 27)) (.cells #[.slice A l.length c] 106)
  have hsz : (((w.alloc (.cells #[.int .i64 0, .int .i64 0, .string ⟨#[]⟩, .slice none 0 0] 63)).alloc (.cells #[.int .i64 0] 27)).alloc (.cells #[.slice A l.length c] 106)).heap.size = w.heap.size + 3 := by simp
  rw [World.size_alloc] at h3 h4
  rw [World.size_alloc] at h4
  generalize ((w.alloc (.cells #[.int .i64 0, .int .i64 0, .string ⟨#[]⟩, .slice none 0 0] 63)).alloc (.cells #[.int .i64 0] 27)).alloc (.cells #[.slice A l.length c] 106) = W1 at *
  have hI : IsRd w W1 (w.heap.size + 1 + 1) A c l := ⟨h4, HC.out, by omega, HR.out⟩
  have hV := value_calls 16 0 _ A c l w W1 (by decide) (by decide) hI hb HL.out
  refine hV.mono ?_
  rintro e W2 ⟨hk, hb2, hp⟩
  have g2 := (hk.2 _ (blk_lt h2) (by omega) (by simp)).trans h2
  have g3 := (hk.2 _ (blk_lt h3) (by omega) (by simp)).trans h3
  clear hV hI hb h2 h3 h4 hk
  cases hv : valP 16 l with
  | none =>
    rw [hv] at hp
    simp only at hp
    subst hp
    have hP : decP l = (z63, 10) := by unfold decP; rw [hv]
    go_wp2
    refine leaves_cons (f := 81) (args := #[.pointer (some ⟨w.heap.size, 0, none⟩), .pointer (some ⟨w.heap.size + 1, 0, none⟩)]) (by simp) (by simp [go_sem]) ?_
    refine (catch_bad _ _ _ _ _ _ _ _ g2 g3 (by omega)).mono ?_
    rintro e u' w'' ⟨rfl, rfl, q1, q2, q3⟩
    have d0 := blk_cell q1 0
    have d1 := blk_cell q1 1
    have d2 := blk_cell q1 2
    have d3 := blk_cell q1 3
    have d4 := blk_cell q2 0
    simp at d0 d1 d2 d3 d4
    refine ⟨.tuple #[.agg #[.int .i64 0, .int .i64 0, .string ⟨#[]⟩, .slice none 0 0], .int .i64 10], by simp [results, Tryd.results47, go_sem, d0, d1, d2, d3, d4], .slice none 0 0, ?_, ?_, q3 _ _ (Nat.le_refl _) (by omega) hb2⟩
    · rw [hP]; rfl
    · rw [hP]; exact Kd.R_nil _ _ _ _ _
  | some x =>
    obtain ⟨v, r⟩ := x
    rw [hv] at hp
    obtain ⟨v3, rfl, hR, A2, c2, hI2⟩ := hp
    obtain ⟨A3, c3, rfl⟩ := Kd.R_slice hR
    have hR2 : Kd.R k63 63 W2 w.heap.size (fun k => w.heap.size + 3 ≤ k) (.slice A3 v.f3.length c3) v.f3 := Kd.R_lower (Kd.R_mono (Kd.R_bound hR) (fun k hk => by have := hk.2.1; omega)) (by omega)
    have HR2 := Aside0.mk hR2
    have HI2 := Aside0.mk hI2
    have HB2 := Aside0.mk hb2
    have hc0 := blk_cell g2 0
    have hc1 := blk_cell g2 1
    have hc2 := blk_cell g2 2
    have hc3 := blk_cell g2 3
    have hf2 := fun j => blk_frozen g2 j
    simp at hc0 hc1 hc2 hc3
    have G2 := Aside0.mk g2
    have G3 := Aside0.mk g3
    clear hR hR2 hI2 hb2 g2 g3
    have hcr : W2.cell? ⟨w.heap.size + 1 + 1, 0, none⟩ = some (.slice A2 r.length c2) := (blk_cell HI2.out.1 0).trans rfl
    have hc4 := blk_cell G3.out 0
    have hf4 := blk_frozen G3.out 0
    simp at hc4
    go_wp2_with fail
    have n1 := Aside0.mk (Kd.R_far (p := ⟨w.heap.size, 3, none⟩) (Kd.R_far (p := ⟨w.heap.size, 2, none⟩) (Kd.R_far (p := ⟨w.heap.size, 1, none⟩) (Kd.R_far (p := ⟨w.heap.size, 0, none⟩) (HR2.out) (fun k hk => by show k ≠ w.heap.size; omega) (.int .i64 v.f0)) (fun k hk => by show k ≠ w.heap.size; omega) (.int .i64 v.f1)) (fun k hk => by show k ≠ w.heap.size; omega) (.string v.f2)) (fun k hk => by show k ≠ w.heap.size; omega) (.slice A3 v.f3.length c3))
    have n2 := Aside0.mk (blk_put (blk_put (blk_put (blk_put (G2.out) 0 (.int .i64 v.f0) rfl) 1 (.int .i64 v.f1) rfl) 2 (.string v.f2) rfl) 3 (.slice A3 v.f3.length c3) rfl)
    have n3 := Aside0.mk (blk_far (p := ⟨w.heap.size, 3, none⟩) (blk_far (p := ⟨w.heap.size, 2, none⟩) (blk_far (p := ⟨w.heap.size, 1, none⟩) (blk_far (p := ⟨w.heap.size, 0, none⟩) (G3.out) (by show w.heap.size + 1 ≠ w.heap.size; omega) (.int .i64 v.f0)) (by show w.heap.size + 1 ≠ w.heap.size; omega) (.int .i64 v.f1)) (by show w.heap.size + 1 ≠ w.heap.size; omega) (.string v.f2)) (by show w.heap.size + 1 ≠ w.heap.size; omega) (.slice A3 v.f3.length c3))
    have n4 := Aside0.mk (below_set (j := 3) (v := (.slice A3 v.f3.length c3)) (below_set (j := 2) (v := (.string v.f2)) (below_set (j := 1) (v := (.int .i64 v.f1)) (below_set (j := 0) (v := (.int .i64 v.f0)) (HB2.out) (Nat.le_refl _)) (Nat.le_refl _)) (Nat.le_refl _)) (Nat.le_refl _))
    clear HR2 G2 G3 HB2 hc0 hc1 hc2 hc3 hf2 hcr hc4 hf4 HI2
    have HR2 := n1
    have G2 := n2
    have G3 := n3
    have HB2 := n4
    clear n1 n2 n3 n4
    generalize ((((W2).setCell ⟨w.heap.size, 0, none⟩ (.int .i64 v.f0)).setCell ⟨w.heap.size, 1, none⟩ (.int .i64 v.f1)).setCell ⟨w.heap.size, 2, none⟩ (.string v.f2)).setCell ⟨w.heap.size, 3, none⟩ (.slice A3 v.f3.length c3) = W3 at *
    cases r with
    | cons b r =>
      have hz : (((b :: r).length : Int) == 0) = false := by simp; omega
      have hP : decP l = (z63, 10) := by unfold decP; rw [hv]
      refine (want_bad _ W3).mono ?_
      rintro e W4 ⟨rfl, rfl⟩
      go_wp2
      refine leaves_cons (f := 81) (args := #[.pointer (some ⟨w.heap.size, 0, none⟩), .pointer (some ⟨w.heap.size + 1, 0, none⟩)]) (by simp) (by simp [go_sem]) ?_
      refine (catch_bad _ _ _ _ _ _ _ _ G2.out G3.out (by omega)).mono ?_
      rintro e u' w'' ⟨rfl, rfl, q1, q2, q3⟩
      have d0 := blk_cell q1 0
      have d1 := blk_cell q1 1
      have d2 := blk_cell q1 2
      have d3 := blk_cell q1 3
      have d4 := blk_cell q2 0
      simp at d0 d1 d2 d3 d4
      refine ⟨.tuple #[.agg #[.int .i64 0, .int .i64 0, .string ⟨#[]⟩, .slice none 0 0], .int .i64 10], by simp [results, Tryd.results47, go_sem, d0, d1, d2, d3, d4], .slice none 0 0, ?_, ?_, q3 _ _ (Nat.le_refl _) (by omega) HB2.out⟩
      · rw [hP]; rfl
      · rw [hP]; exact Kd.R_nil _ _ _ _ _
    | nil =>
      have hP : decP l = (v, 0) := by unfold decP; rw [hv]
      refine (want_ok _ W3).mono ?_
      rintro e W4 ⟨rfl, rfl⟩
      have hc0 := blk_cell G2.out 0
      have hc1 := blk_cell G2.out 1
      have hc2 := blk_cell G2.out 2
      have hc3 := blk_cell G2.out 3
      have hf2 := fun j => blk_frozen G2.out j
      have hc4 := blk_cell G3.out 0
      have hf4 := blk_frozen G3.out 0
      simp at hc0 hc1 hc2 hc3 hc4
      go_wp2
      have n1 := Aside0.mk (Kd.R_far (p := ⟨w.heap.size, 3, none⟩) (Kd.R_far (p := ⟨w.heap.size, 2, none⟩) (Kd.R_far (p := ⟨w.heap.size, 1, none⟩) (Kd.R_far (p := ⟨w.heap.size, 0, none⟩) (HR2.out) (fun k hk => by show k ≠ w.heap.size; omega) (.int .i64 v.f0)) (fun k hk => by show k ≠ w.heap.size; omega) (.int .i64 v.f1)) (fun k hk => by show k ≠ w.heap.size; omega) (.string v.f2)) (fun k hk => by show k ≠ w.heap.size; omega) (.slice A3 v.f3.length c3))
      have n2 := Aside0.mk (blk_put (blk_put (blk_put (blk_put (G2.out) 0 (.int .i64 v.f0) rfl) 1 (.int .i64 v.f1) rfl) 2 (.string v.f2) rfl) 3 (.slice A3 v.f3.length c3) rfl)
      have n3 := Aside0.mk (blk_far (p := ⟨w.heap.size, 3, none⟩) (blk_far (p := ⟨w.heap.size, 2, none⟩) (blk_far (p := ⟨w.heap.size, 1, none⟩) (blk_far (p := ⟨w.heap.size, 0, none⟩) (G3.out) (by show w.heap.size + 1 ≠ w.heap.size; omega) (.int .i64 v.f0)) (by show w.heap.size + 1 ≠ w.heap.size; omega) (.int .i64 v.f1)) (by show w.heap.size + 1 ≠ w.heap.size; omega) (.string v.f2)) (by show w.heap.size + 1 ≠ w.heap.size; omega) (.slice A3 v.f3.length c3))
      have n4 := Aside0.mk (below_set (j := 3) (v := (.slice A3 v.f3.length c3)) (below_set (j := 2) (v := (.string v.f2)) (below_set (j := 1) (v := (.int .i64 v.f1)) (below_set (j := 0) (v := (.int .i64 v.f0)) (HB2.out) (Nat.le_refl _)) (Nat.le_refl _)) (Nat.le_refl _)) (Nat.le_refl _))
      clear HR2 G2 G3 HB2 hc0 hc1 hc2 hc3 hf2 hc4 hf4
      have HR2 := n1
      have G2 := n2
      have G3 := n3
      have HB2 := n4
      clear n1 n2 n3 n4
      generalize ((((W4).setCell ⟨w.heap.size, 0, none⟩ (.int .i64 v.f0)).setCell ⟨w.heap.size, 1, none⟩ (.int .i64 v.f1)).setCell ⟨w.heap.size, 2, none⟩ (.string v.f2)).setCell ⟨w.heap.size, 3, none⟩ (.slice A3 v.f3.length c3) = W5 at *
      have HR3 := Aside0.mk (Kd.R_far (p := ⟨w.heap.size + 1, 0, none⟩) HR2.out (fun k hk => by show k ≠ w.heap.size + 1; omega) (.int .i64 0))
      have d := blk_far (p := ⟨w.heap.size + 1, 0, none⟩) G2.out (by show w.heap.size ≠ w.heap.size + 1; omega) (.int .i64 0)
      have d4 := blk_cell (blk_put G3.out 0 (.int .i64 0) rfl) 0
      have HB3 := below_set (j := 0) (v := .int .i64 0) HB2.out (Nat.le_add_right w.heap.size 1)
      have d0 := blk_cell d 0
      have d1 := blk_cell d 1
      have d2 := blk_cell d 2
      have d3 := blk_cell d 3
      simp at d0 d1 d2 d3 d4
      refine leaves_cons (f := 81) (args := #[.pointer (some ⟨w.heap.size, 0, none⟩), .pointer (some ⟨w.heap.size + 1, 0, none⟩)]) (by simp) (by simp [go_sem]) ?_
      refine (catch_idle _ _ _).mono ?_
      rintro e u' w'' ⟨rfl, rfl, rfl⟩
      refine ⟨.tuple #[.agg #[.int .i64 v.f0, .int .i64 v.f1, .string v.f2, .slice A3 v.f3.length c3], .int .i64 0], by simp [results, Tryd.results47, go_sem, d0, d1, d2, d3, d4], .slice A3 v.f3.length c3, ?_, ?_, HB3⟩
      · rw [hP]
      · rw [hP]; exact Kd.R_mono HR3.out (fun _ _ => trivial)
theorem codec_Decode.calls (k : Nat) (A0 : Option Addr) (c0 : Nat) (l0 : List Int) (r1 : Int) (r2 : Int) (r3 : ByteArray) (r4 : List (S63)) (r5 : Int) (w : World) (hr0 : Kd.C (Kd.int .u8) w A0 l0.length l0) (hc0 : l0.length ≤ c0) (h : codec_Decode.f k l0 = some (r1, r2, r3, r4, r5)) :
    Calls Tryd.prog 47 #[.slice A0 l0.length c0] w fun e w' => ∃ v4_ : Value, e = .returned (.tuple #[.agg #[.int .i64 r1, .int .i64 r2, .string r3, v4_], .int .i64 r5]) ∧ Kd.R k63 63 w' w.heap.size (fun _ => True) v4_ r4 ∧ Below w.heap.size w w' := by
  unfold codec_Decode.f at h
  split at h
  · simp only [Option.some.injEq, Prod.mk.injEq] at h
    obtain ⟨rfl, rfl, rfl, rfl, rfl⟩ := h
    exact decode_walk A0 c0 l0 w hr0 hc0 (by assumption)
  · cases h
end
end Go.Proofs.YtncejmjicjlanaaDoor.Q
