/- Contracts of vector.At (with its closure and slices.IndexFunc) over every list of dots: At returns the Seq of the first dot of the device, 0 if there is none; nothing that was there changes. Conditions: the slice reads as the list. -/
import Derived.Test.YtncejmjicjlanaaDoorQ0
namespace Go.Proofs.YtncejmjicjlanaaDoor.Q
open Go.RowKit Go.Proofs.YtncejmjicjlanaaDoorW.PrintWords Go.Proofs.YtncejmjicjlanaaDoorW.PrintLast Go.Proofs.YtncejmjicjlanaaDoorW.PrintMore
set_option linter.unusedVariables false
set_option linter.unusedSimpArgs false

/-- The number of a device in a list of dots. -/
def atN : List S24 → Int → Int
  | [], _ => 0
  | x :: l, d => if x.f0 = d then x.f1 else atN l d

set_option maxHeartbeats 400000 in
theorem at1_calls (x0 x1 dev : Int) (B : Nat) (w : World) (hB : w.cell? ⟨B, 0, none⟩ = some (.int .i64 dev)) :
    Calls Tryd.prog 50 #[.agg #[.int .i64 x0, .int .i64 x1], .pointer (some ⟨B, 0, none⟩)] w fun e w' => e = .returned (.bool (x0 == dev)) ∧ Below w.heap.size w w' := by
  have hlt := World.block_lt_of_cell? w _ hB
  go_enter Tryd.func50, Tryd.ntmps50
  go_wp2
  go_ret
  exact ⟨rfl, (Below.refl _ _).alloc (Nat.le_refl _) _⟩

/-- Where the first dot of the device stands, from i on; -1 if there is none. -/
def idxFrom : List S24 → Int → Int → Int
  | [], _, _ => -1
  | x :: l, d, i => if x.f0 = d then i else idxFrom l d (i + 1)
theorem idxFrom_step (l : List S24) (d : Int) (k : Nat) (h : k < l.length) : idxFrom (l.drop k) d k = if (rd_T24 l k).f0 = d then (k : Int) else idxFrom (l.drop (k + 1)) d ((k + 1 : Nat) : Int) := by
  rw [List.drop_eq_getElem_cons h]
  simp [idxFrom, rd_T24, h]
theorem idxFrom_end (l : List S24) (d : Int) (k : Int) : idxFrom (l.drop l.length) d k = -1 := by simp [idxFrom]

set_option maxHeartbeats 400000 in
theorem idx_calls (A : Option Addr) (c : Nat) (l : List S24) (dev : Int) (B : Nat) (w : World) (hr : Kd.C k24 w A l.length l) (hc : l.length ≤ c) (hB : w.cell? ⟨B, 0, none⟩ = some (.int .i64 dev)) :
    Calls Tryd.prog 49 #[.slice A l.length c, .func (.func 50) #[] #[.pointer (some ⟨B, 0, none⟩)]] w fun e w' => e = .returned (.int .i64 (idxFrom l dev 0)) ∧ Below w.heap.size w w' := by
  have hlt := World.block_lt_of_cell? w _ hB
  have hlen := hr.2.1
  have HB0 := Aside0.mk hB
  have HR := Aside0.mk hr
  clear hr hB
  go_enter Tryd.func49, Tryd.ntmps49
  go_wp2_with fail
  go_loopw [8] (fun v wr => ∃ k : Nat, k ≤ l.length ∧ v = .int .i64 k ∧ Aside0 (idxFrom l dev 0 = idxFrom (l.drop k) dev k) ∧ Aside0 (Below w.heap.size w wr)) (fun v _ => l.length - (intOf v).toNat)
  case atStart => exact ⟨0, by omega, rfl, ⟨rfl⟩, ⟨Below.refl _ _⟩⟩
  case round =>
    obtain ⟨k, hk, rfl, HE, HW⟩ := hrel
    by_cases hlt2 : k < l.length
    · obtain ⟨ad, rfl, hx0, hx1⟩ := at_T24 (Kd.C_below HR.out HW.out) (k : Int) (by omega) (by omega)
      have hB2 : wr.cell? ⟨B, 0, none⟩ = some (.int .i64 dev) := (HW.out.cell (p := ⟨B, 0, none⟩) hlt).trans HB0.out
      have hu24 := Tryd.underlying24
      have HS := Aside0.mk (idxFrom_step l dev k hlt2)
      rw [Int.toNat_natCast] at hx0 hx1
      by_cases he : (rd_T24 l k).f0 = dev
      · have heb : ((rd_T24 l k).f0 == dev) = true := by simpa using he
        have HH := Aside0.mk he
        clear he
        go_wp2_with fail
        refine (at1_calls _ _ dev B _ hB2).mono ?_
        rintro e w1 ⟨rfl, hb⟩
        go_wp2
        go_ret
        exact ⟨by rw [HE.out, HS.out, if_pos HH.out]; rfl, HW.out.trans (hb.mono HW.out.size)⟩
      · have heb : ((rd_T24 l k).f0 == dev) = false := by simpa using he
        have HH := Aside0.mk he
        clear he
        go_wp2_with fail
        refine (at1_calls _ _ dev B _ hB2).mono ?_
        rintro e w1 ⟨rfl, hb⟩
        go_wp2
        go_roundw
        case rel => exact ⟨k + 1, by omega, by go_num, ⟨by rw [HE.out, HS.out, if_neg HH.out]⟩, ⟨HW.out.trans (hb.mono HW.out.size)⟩⟩
        case measure => simp [intOf]; omega
    · have hke : k = l.length := by omega
      have HK := Aside0.mk hke
      clear hke
      go_wp2
      go_ret
      exact ⟨by rw [HE.out, HK.out, idxFrom_end]; rfl, HW.out⟩

theorem idxFrom_at (l : List S24) (d : Int) : ∀ i : Nat, (idxFrom l d i = -1 ∧ atN l d = 0) ∨ ∃ j : Nat, j < l.length ∧ idxFrom l d i = ((i + j : Nat) : Int) ∧ atN l d = (rd_T24 l j).f1 := by
  induction l with
  | nil => intro i; exact .inl ⟨rfl, rfl⟩
  | cons x l ih =>
    intro i
    by_cases h : x.f0 = d
    · exact .inr ⟨0, by simp, by simp [idxFrom, h], by simp [atN, h, rd_T24]⟩
    · rcases ih (i + 1) with ⟨h1, h2⟩ | ⟨j, h1, h2, h3⟩
      · exact .inl ⟨by rw [idxFrom, if_neg h, ← h1]; rfl, by rw [atN, if_neg h, h2]⟩
      · refine .inr ⟨j + 1, by simpa using h1, ?_, ?_⟩
        · rw [idxFrom, if_neg h]
          have : ((i : Int) + 1) = ((i + 1 : Nat) : Int) := by omega
          rw [this, h2]
          omega
        · rw [atN, if_neg h, h3]
          simp [rd_T24]

def vector_At.f (l0 : List (S24)) (a1 : Int) : Option (Int) := some (atN l0 a1)
set_option maxHeartbeats 400000 in
theorem vector_At.calls (A0 : Option Addr) (c0 : Nat) (l0 : List (S24)) (a1 : Int) (r : Int) (w : World) (hr0 : Kd.C k24 w A0 l0.length l0) (hc0 : l0.length ≤ c0) (h : vector_At.f l0 a1 = some r) :
    Calls Tryd.prog 23 #[.slice A0 l0.length c0, .int .i64 a1] w fun e w' => e = .returned (.int .i64 r) ∧ Below w.heap.size w w' := by
  obtain rfl := Option.some.inj h
  have hlen := hr0.2.1
  have HR := Aside0.mk hr0
  clear hr0 h
  have HC := Aside0.mk (fun W (hW : Below w.heap.size w W) (hB : W.cell? ⟨w.heap.size, 0, none⟩ = some (.int .i64 a1)) => idx_calls A0 c0 l0 a1 w.heap.size W (Kd.C_below HR.out hW) hc0 hB)
  rcases idxFrom_at l0 a1 0 with ⟨h1, h2⟩ | ⟨j, h1, h2, h3⟩
  · have H1 := Aside0.mk h1
    have H2 := Aside0.mk h2
    clear h1 h2
    go_enter Tryd.func23, Tryd.ntmps23
    go_wp2_with fail
    refine (HC.out _ ((Below.refl _ _).alloc (Nat.le_refl _) _) (by simp)).mono ?_
    rintro e w1 ⟨rfl, hb⟩
    have hi : idxFrom l0 a1 0 = -1 := H1.out
    have HB := Aside0.mk hb
    clear hb
    go_wp2
    go_ret
    exact ⟨by rw [H2.out]; rfl, ((Below.refl _ _).alloc (Nat.le_refl _) _).trans (HB.out.mono (by simp))⟩
  · have H2 := Aside0.mk h2
    have H3 := Aside0.mk h3
    clear h2 h3
    go_enter Tryd.func23, Tryd.ntmps23
    go_wp2_with fail
    refine (HC.out _ ((Below.refl _ _).alloc (Nat.le_refl _) _) (by simp)).mono ?_
    rintro e w1 ⟨rfl, hb⟩
    have hi : idxFrom l0 a1 0 = (j : Int) := by have := H2.out; simpa using this
    have HB := Aside0.mk (((Below.refl _ _).alloc (Nat.le_refl _) _ : Below w.heap.size w _).trans (hb.mono (by simp)))
    clear hb
    obtain ⟨ad, rfl, hx0, hx1⟩ := at_T24 (Kd.C_below HR.out HB.out) (j : Int) (by omega) (by omega)
    rw [Int.toNat_natCast] at hx0 hx1
    have hu24 := Tryd.underlying24
    go_wp2
    go_ret
    exact ⟨by rw [H3.out]; rfl, HB.out⟩
end Go.Proofs.YtncejmjicjlanaaDoor.Q
