/- Contracts of the reader's methods of codec: each returns, or panics with the error's value; the cell of the rest alone turns. -/
import Derived.Test.YtncejmjicjlanaaQ0
import Derived.WalkSmall
import Derived.Defers
namespace Go.Proofs.Ytncejmjicjlanaa.Q
open Go.RowKit Go.Proofs.YtncejmjicjlanaaW.PrintWords Go.Proofs.YtncejmjicjlanaaW.PrintLast Go.Proofs.YtncejmjicjlanaaW.PrintMore
set_option linter.unusedVariables false
set_option linter.unusedSimpArgs false
/-- The panic of the reader. -/
abbrev badEnd : Ending := .panicked [{ v := .iface 28 (.int .i64 10), recovered := false }]
set_option maxHeartbeats 400000 in
theorem want_ok (p : Value) (w : World) : Calls Try.prog 29 #[p, .bool true] w fun e w' => e = .returned (.tuple #[]) ∧ w' = w := by
  go_enter Try.func29, Try.ntmps29
  go_wp2
  refine bodyPost_end (v := .tuple #[]) (by simp [results, Try.results29, go_sem]) rfl ?_
  exact ⟨rfl, rfl⟩
set_option maxHeartbeats 400000 in
theorem want_bad (p : Value) (w : World) : Calls Try.prog 29 #[p, .bool false] w fun e w' => e = badEnd ∧ w' = w := by
  go_enter Try.func29, Try.ntmps29
  go_wp2
  exact ⟨rfl, rfl, rfl⟩
theorem info5p : ∃ i, Try.prog.info? 5 = some i ∧ i.size = 1 := by
  obtain ⟨i0, hi, _, hz1, _⟩ := info_parts info5
  exact ⟨i0, hi, hz1⟩
/-- [:n:n] of a slice of bytes. -/
theorem cut_cap (A : Option Addr) (n c : Nat) (j : Int) (h0 : 0 ≤ j) (hm : j ≤ n) (hc : n ≤ c) (W : World) :
    (Instr.slice 27 (.slice A n c) none (some (.int .i64 j)) (some (.int .i64 j))).run Try.prog W = .ok (.slice A j.toNat j.toNat) W := by
  obtain ⟨i0, hi, hz⟩ := info5p
  have hel : Try.prog.elem 27 = 5 := by simp [Program.elem, Try.underlying27]
  have hu : Try.prog.underlying 27 = some (.slice (Try.prog.elem 27)) := by rw [hel]; exact Try.underlying27
  have ha : (A.map fun x => x.add 0) = A := by cases A <;> simp [Addr.add]
  rw [run_slice_hm W 27 A n c hu .i64 .i64 j j h0 (by omega) (by omega), hel]
  simp [sizeOf, typeInfo, hi, sliced, Result.andThen, ha]
/-- The reader's block: it holds a slice that reads as the rest. -/
def IsRd (w0 W : World) (g : Nat) (A : Option Addr) (c : Nat) (rest : List Int) : Prop := W.heap[g]? = some (.cells #[.slice A rest.length c] 56 (0, 0)) ∧ rest.length ≤ c ∧ w0.heap.size ≤ g ∧ Kd.C (Kd.int .u8) w0 A rest.length rest
set_option maxHeartbeats 1000000 in
set_option maxRecDepth 100000 in
theorem take_bad (g : Nat) (A : Option Addr) (c : Nat) (rest : List Int) (n : Int) (w0 w : World) (hI : IsRd w0 w g A c rest) (hn : ¬ n ≤ (rest.length : Int)) :
    Calls Try.prog 40 #[.pointer (some ⟨g, 0, none⟩), .int .i64 n] w fun e w' => e = badEnd ∧ w' = w := by
  have hcell : w.cell? ⟨g, 0, none⟩ = some (.slice A rest.length c) := (blk_cell hI.1 0).trans rfl
  have hb : decide (n ≤ (rest.length : Int)) = false := decide_eq_false hn
  go_enter Try.func40, Try.ntmps40
  go_wp2_with fail
  refine (want_bad _ w).mono ?_
  rintro e w1 ⟨rfl, rfl⟩
  go_wp2
  exact ⟨rfl, rfl, rfl⟩
set_option maxHeartbeats 1000000 in
set_option maxRecDepth 100000 in
theorem take_ok (g : Nat) (A : Option Addr) (c : Nat) (rest : List Int) (n : Int) (w0 w : World) (hI : IsRd w0 w g A c rest) (h0 : 0 ≤ n) (hn : n ≤ (rest.length : Int)) :
    Calls Try.prog 40 #[.pointer (some ⟨g, 0, none⟩), .int .i64 n] w fun e w' => e = .returned (.slice A n.toNat n.toNat) ∧ w' = w.setCell ⟨g, 0, none⟩ (.slice (if c = n.toNat then A else A.map (·.add (n.toNat * 1))) (rest.length - n.toNat) (c - n.toNat)) := by
  have hcell : w.cell? ⟨g, 0, none⟩ = some (.slice A rest.length c) := (blk_cell hI.1 0).trans rfl
  have hfz := blk_frozen hI.1 0
  have hb : decide (n ≤ (rest.length : Int)) = true := decide_eq_true hn
  obtain ⟨i0, hi, hz⟩ := info5p
  have hcap := cut_cap A rest.length c n h0 hn hI.2.1
  have hfrom := cut_from (P := Try.prog) 27 5 .i64 Try.underlying27 hi 1 hz A rest.length c n h0 hn
  go_enter Try.func40, Try.ntmps40
  go_wp2_with fail
  refine (want_ok _ w).mono ?_
  rintro e w1 ⟨rfl, rfl⟩
  go_wp2
  all_goals go_ret
  all_goals exact ⟨rfl, rfl⟩
/-- The reader behind a take. -/
theorem isRd_take {w0 w : World} {g : Nat} {A : Option Addr} {c : Nat} {rest : List Int} (hI : IsRd w0 w g A c rest) (m : Nat) (hm : m ≤ rest.length) :
    IsRd w0 (w.setCell ⟨g, 0, none⟩ (.slice (if c = m then A else A.map (·.add (m * 1))) (rest.length - m) (c - m))) g (if c = m then A else A.map (·.add (m * 1))) (c - m) (rest.drop m) := by
  obtain ⟨hb, hc, hg, hr⟩ := hI
  refine ⟨?_, by rw [List.length_drop]; omega, hg, Kd.C_drop hr hm hc⟩
  rw [List.length_drop]
  simpa using blk_set hb 0 (.slice (if c = m then A else A.map (·.add (m * 1))) (rest.length - m) (c - m))
/-- What was taken reads as the rest's beginning. -/
theorem took_C {w0 w : World} {g : Nat} {A : Option Addr} {c : Nat} {rest : List Int} (hI : IsRd w0 w g A c rest) (m : Nat) (hm : m ≤ rest.length) : Kd.C (Kd.int .u8) w0 A (rest.take m).length (rest.take m) := Kd.C_take hI.2.2.2 hm
end Go.Proofs.Ytncejmjicjlanaa.Q
