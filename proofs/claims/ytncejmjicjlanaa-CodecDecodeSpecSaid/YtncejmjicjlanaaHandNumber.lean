/- Contracts of the reader's number and length of codec: as the plain numP and lenP, or a panic; the reader's cell alone turns. -/
import Derived.Test.YtncejmjicjlanaaHandReader
import Derived.Test.YtncejmjicjlanaaDecP
import Derived.IntWalk
import Derived.IntWalk
namespace Go.Proofs.Ytncejmjicjlanaa.Q
open Go.RowKit Go.Proofs.YtncejmjicjlanaaW.PrintWords Go.Proofs.YtncejmjicjlanaaW.PrintLast Go.Proofs.YtncejmjicjlanaaW.PrintMore
set_option linter.unusedVariables false
set_option linter.unusedSimpArgs false
/-- How a method of the reader ends: what it answers, or its panic; the rest of the heap stays. -/
def RdPost {α : Type} (w0 w : World) (g : Nat) (val : α → Value) (out : Option (α × List Int)) (e : Ending) (w' : World) : Prop :=
  KeepBut w w' g none ∧ Below w0.heap.size w0 w' ∧
  match out with
  | none => e = badEnd
  | some (a, r) => e = .returned (val a) ∧ ∃ A c, IsRd w0 w' g A c r
theorem rd_keep {w W : World} {g i : Nat} {v : Value} (h : KeepBut w W g none) : KeepBut w (W.setCell ⟨g, i, none⟩ v) g none := KeepBut.set_ h _ _
/-- take, told by what remains. -/
theorem take_calls (g : Nat) (A : Option Addr) (c : Nat) (rest : List Int) (n : Int) (w0 w : World) (hI : IsRd w0 w g A c rest) (hB : Below w0.heap.size w0 w) (h0 : 0 ≤ n) (hn : n ≤ (rest.length : Int)) :
    Calls Try.prog 40 #[.pointer (some ⟨g, 0, none⟩), .int .i64 n] w fun e w' => e = .returned (.slice A n.toNat n.toNat) ∧ (∃ A1 c1, IsRd w0 w' g A1 c1 (rest.drop n.toNat)) ∧ KeepBut w w' g none ∧ Below w0.heap.size w0 w' :=
  (take_ok g A c rest n w0 w hI h0 hn).mono fun e w' ⟨he, hw⟩ => by
    subst hw
    exact ⟨he, ⟨_, _, isRd_take hI n.toNat (by omega)⟩, rd_keep (KeepBut.refl w g none), below_set hB hI.2.2.1⟩
theorem take_one (g : Nat) (A : Option Addr) (c : Nat) (b : Int) (r : List Int) (w0 w : World) (hI : IsRd w0 w g A c (b :: r)) (hB : Below w0.heap.size w0 w) :
    Calls Try.prog 40 #[.pointer (some ⟨g, 0, none⟩), .int .i64 1] w fun e w' => ∃ ad, e = .returned (.slice (some ad) 1 1) ∧ w'.cell? ad = some (.int .u8 b) ∧ (∃ A1 c1, IsRd w0 w' g A1 c1 r) ∧ KeepBut w w' g none ∧ Below w0.heap.size w0 w' :=
  (take_calls g A c (b :: r) 1 w0 w hI hB (by decide) (by simp; omega)).mono fun e w' ⟨he, hi, hk, hb⟩ => by
    obtain ⟨ad, hA, hc⟩ := Kd.at_int (took_C hI 1 (by simp)) 0 (by decide) (by simp)
    subst hA
    have h00 : ad.add (Int.toNat 0) = ad := by simp [Addr.add]
    rw [h00] at hc
    exact ⟨ad, he, (hb.cell (World.block_lt_of_cell? w0 _ hc)).trans hc, hi, hk, hb⟩
set_option maxHeartbeats 4000000 in
set_option maxRecDepth 100000 in
theorem number_calls (g : Nat) (A : Option Addr) (c : Nat) (rest : List Int) (w0 w : World) (hI : IsRd w0 w g A c rest) (hB : Below w0.heap.size w0 w) :
    Calls Try.prog 42 #[.pointer (some ⟨g, 0, none⟩)] w (RdPost w0 w g (Value.int .u64) (numP rest 0 0)) := by
  have HI := Aside0.mk (show ∃ A c, IsRd w0 w g A c rest from ⟨A, c, hI⟩)
  have HB := Aside0.mk hB
  obtain ⟨R, hR⟩ : ∃ R, numP rest 0 0 = R := ⟨_, rfl⟩
  rw [hR]
  have H := Aside0.mk hR
  clear hI hB hR
  go_enter Try.func42, Try.ntmps42
  go_wp2_with fail
  go_loopg [2, 3] rest.length (fun kq v2 v3 wr => ∃ (u : Int) (i : Nat) (r : List Int), v2 = .int .u64 u ∧ v3 = .int .i64 (i : Int) ∧ Aside0 (numP r i u = R) ∧ Aside0 (kq = r.length) ∧ Aside0 (i ≤ 9) ∧ Aside0 (KeepBut w wr g none) ∧ Aside0 (Below w0.heap.size w0 wr) ∧ Aside0 (∃ A c, IsRd w0 wr g A c r))
  case atStart => exact ⟨0, 0, rest, rfl, rfl, H, ⟨rfl⟩, ⟨by omega⟩, ⟨KeepBut.refl w g none⟩, HB, HI⟩
  case round =>
    clear H HI HB
    obtain ⟨u, i, r, rfl, rfl, HA, HK1, HI9, HK, HB, HI⟩ := hrel
    obtain ⟨A, c, hI⟩ := HI.out
    cases r with
    | nil =>
      have hR := HA.out
      simp only [numP] at hR
      subst hR
      go_wp2_with fail
      refine (take_bad g A c [] 1 w0 wr hI (by decide)).mono ?_
      rintro e w1 ⟨rfl, rfl⟩
      go_wp2
      exact ⟨rfl, HK.out, HB.out, rfl⟩
    | cons b r1 =>
      go_wp2_with fail
      refine (take_one g A c b r1 w0 wr hI HB.out).mono ?_
      rintro e w1 ⟨ad, rfl, hcell, hI1, hk1, hb1⟩
      have HB1 := Aside0.mk hb1
      have HK2 := Aside0.mk (HK.out.trans hk1 (.inl rfl))
      have HI1 := Aside0.mk hI1
      clear hb1 hk1 hI1 HB HK HI hI
      have hR := HA.out
      clear HA
      unfold numP at hR
      have h7 : 0 ≤ wrap64 (7 * (i : Int)) := by have := HI9.out; rw [IntWalk.wrap64_in _ (by omega)]; omega
      by_cases hok : (i = 0 ∨ b ≠ 0) ∧ (i < 9 ∨ b ≤ 1)
      case neg =>
        rw [if_neg hok] at hR
        subst hR
        have b0 : (i = 0) = ((i : Int) = 0) := by simp
        by_cases i0 : i = 0
        · subst i0
          have d1 : decide ((0 : Int) < 9) = true := rfl
          exact absurd ⟨.inl rfl, .inl (by decide)⟩ hok
        have e0 : ((i : Int) == 0) = false := by simp; omega
        by_cases bz : b = 0
        · subst bz
          go_wp2_with fail
          refine (want_bad _ w1).mono ?_
          rintro e w2 ⟨rfl, rfl⟩
          go_wp2
          exact ⟨rfl, HK2.out, HB1.out, rfl⟩
        have e1 : (b != 0) = true := by simpa using bz
        have e2 : decide ((i : Int) < 9) = false := by
          simp only [decide_eq_false_iff_not]
          intro h
          exact hok ⟨.inr bz, .inl (by omega)⟩
        have e3 : decide (b ≤ 1) = false := by
          simp only [decide_eq_false_iff_not]
          intro h
          exact hok ⟨.inr bz, .inr h⟩
        go_wp2_with fail
        refine (want_bad _ w1).mono ?_
        rintro e w2 ⟨rfl, rfl⟩
        go_wp2
        exact ⟨rfl, HK2.out, HB1.out, rfl⟩
      rw [if_pos hok] at hR
      have h8 : ¬ wrap64 (7 * (i : Int)) < 0 := by omega
      by_cases hlt : b < 128
      case pos =>
        rw [if_pos hlt] at hR
        subst hR
        have e4 : decide (b < 128) = true := by simpa using hlt
        by_cases cA : i = 0
        case pos =>
          have e0 : ((i : Int) == 0) = true := by simp [cA]
          have e2 : decide ((i : Int) < 9) = true := by simp [cA]
          clear hok hlt cA
          go_wp2_with fail
          refine (want_ok _ w1).mono ?_
          rintro e w2 ⟨rfl, rfl⟩
          go_wp2
          refine bodyPost_ret (v := .int .u64 (digitP u i b)) (by simp [results, Try.results42, go_sem]; rfl) rfl ⟨HK2.out, HB1.out, rfl, HI1.out⟩
        by_cases cB : i < 9
        case pos =>
          have e0 : ((i : Int) == 0) = false := by simp; omega
          have e1 : (b != 0) = true := by simpa using hok.1.resolve_left cA
          have e2 : decide ((i : Int) < 9) = true := by simp; omega
          clear hok hlt cA cB
          go_wp2_with fail
          refine (want_ok _ w1).mono ?_
          rintro e w2 ⟨rfl, rfl⟩
          go_wp2
          refine bodyPost_ret (v := .int .u64 (digitP u i b)) (by simp [results, Try.results42, go_sem]; rfl) rfl ⟨HK2.out, HB1.out, rfl, HI1.out⟩
        have e0 : ((i : Int) == 0) = false := by simp; omega
        have e1 : (b != 0) = true := by simpa using hok.1.resolve_left cA
        have e2 : decide ((i : Int) < 9) = false := by simp; omega
        have e3 : decide (b ≤ 1) = true := by simp; exact hok.2.resolve_left cB
        clear hok hlt cA cB
        go_wp2_with fail
        refine (want_ok _ w1).mono ?_
        rintro e w2 ⟨rfl, rfl⟩
        go_wp2
        refine bodyPost_ret (v := .int .u64 (digitP u i b)) (by simp [results, Try.results42, go_sem]; rfl) rfl ⟨HK2.out, HB1.out, rfl, HI1.out⟩
      rw [if_neg hlt] at hR
      have H2 := Aside0.mk hR
      have HI92 : Aside0 (i + 1 ≤ 9) := ⟨by omega⟩
      have hw : Value.int .i64 (wrap64 ((i : Int) + 1)) = .int .i64 ((i + 1 : Nat) : Int) := by have := HI9.out; rw [IntWalk.wrap64_in _ (by omega)]; rfl
      clear hR
      have e4 : decide (b < 128) = false := by simpa using hlt
      by_cases cA : i = 0
      case pos =>
        have e0 : ((i : Int) == 0) = true := by simp [cA]
        have e2 : decide ((i : Int) < 9) = true := by simp [cA]
        clear hok hlt cA
        go_wp2_with fail
        refine (want_ok _ w1).mono ?_
        rintro e w2 ⟨rfl, rfl⟩
        go_wp2_with fail
        go_roundg (r1.length)
        case measure => have := HK1.out; simp at this; omega
        case rel => exact ⟨digitP u i b, i + 1, r1, rfl, hw, H2, ⟨rfl⟩, HI92, HK2, HB1, HI1⟩
      by_cases cB : i < 9
      case pos =>
        have e0 : ((i : Int) == 0) = false := by simp; omega
        have e1 : (b != 0) = true := by simpa using hok.1.resolve_left cA
        have e2 : decide ((i : Int) < 9) = true := by simp; omega
        clear hok hlt cA cB
        go_wp2_with fail
        refine (want_ok _ w1).mono ?_
        rintro e w2 ⟨rfl, rfl⟩
        go_wp2_with fail
        go_roundg (r1.length)
        case measure => have := HK1.out; simp at this; omega
        case rel => exact ⟨digitP u i b, i + 1, r1, rfl, hw, H2, ⟨rfl⟩, HI92, HK2, HB1, HI1⟩
      have e0 : ((i : Int) == 0) = false := by simp; omega
      have e1 : (b != 0) = true := by simpa using hok.1.resolve_left cA
      have e2 : decide ((i : Int) < 9) = false := by simp; omega
      have e3 : decide (b ≤ 1) = true := by simp; exact hok.2.resolve_left cB
      clear hok hlt cA cB
      go_wp2_with fail
      refine (want_ok _ w1).mono ?_
      rintro e w2 ⟨rfl, rfl⟩
      go_wp2_with fail
      go_roundg (r1.length)
      case measure => have := HK1.out; simp at this; omega
      case rel => exact ⟨digitP u i b, i + 1, r1, rfl, hw, H2, ⟨rfl⟩, HI92, HK2, HB1, HI1⟩
set_option maxHeartbeats 4000000 in
set_option maxRecDepth 100000 in
theorem length_calls (g : Nat) (A : Option Addr) (c : Nat) (rest : List Int) (w0 w : World) (hI : IsRd w0 w g A c rest) (hB : Below w0.heap.size w0 w) :
    Calls Try.prog 43 #[.pointer (some ⟨g, 0, none⟩)] w (RdPost w0 w g (Value.int .i64) (lenP rest)) := by
  obtain ⟨R, hR⟩ : ∃ R, lenP rest = R := ⟨_, rfl⟩
  rw [hR]
  have HN := Aside0.mk (number_calls g A c rest w0 w hI hB)
  unfold lenP at hR
  go_enter Try.func43, Try.ntmps43
  go_wp2_with fail
  refine HN.out.mono ?_
  rintro e w1 ⟨hk, hb, hp⟩
  have HK := Aside0.mk hk
  have HB := Aside0.mk hb
  clear hk hb HN hI hB
  cases hN : numP rest 0 0 with
  | none =>
    rw [hN] at hp hR
    simp only at hp hR
    subst hR
    subst hp
    go_wp2
    exact ⟨rfl, HK.out, HB.out, rfl⟩
  | some x =>
    obtain ⟨n, r⟩ := x
    rw [hN] at hp hR
    simp only at hp hR
    obtain ⟨rfl, hi⟩ := hp
    have HI := Aside0.mk hi
    obtain ⟨A1, c1, hI1⟩ := hi
    have hcell : w1.cell? ⟨g, 0, none⟩ = some (.slice A1 r.length c1) := (blk_cell hI1.1 0).trans rfl
    clear hN hI1
    by_cases hle : n ≤ IntKind.u64.wrap (r.length : Int)
    · rw [if_pos hle] at hR
      subst hR
      have hd : decide (n ≤ IntKind.u64.wrap (r.length : Int)) = true := decide_eq_true hle
      clear hle
      go_wp2_with fail
      refine (want_ok _ w1).mono ?_
      rintro e w2 ⟨rfl, rfl⟩
      go_wp2
      refine bodyPost_ret (v := .int .i64 (wrap64 n)) (by simp [results, Try.results43, go_sem]) rfl ⟨HK.out, HB.out, rfl, HI.out⟩
    · rw [if_neg hle] at hR
      subst hR
      have hd : decide (n ≤ IntKind.u64.wrap (r.length : Int)) = false := decide_eq_false hle
      clear hle
      go_wp2_with fail
      refine (want_bad _ w1).mono ?_
      rintro e w2 ⟨rfl, rfl⟩
      go_wp2
      exact ⟨rfl, HK.out, HB.out, rfl⟩
end Go.Proofs.Ytncejmjicjlanaa.Q
