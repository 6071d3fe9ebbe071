/- What a law's argument is, out of the row's premises: a value, with its lists; a row of bytes. -/
import Derived.Test.YtncejmjicjlanaaEvalB
import Derived.Test.YtncejmjicjlanaaRows
import Derived.ProofKit
import Derived.OpenShut
import Derived.ChangeOld
import Derived.SizedLaws
import Derived.ShutString
namespace Go.Proofs.Ytncejmjicjlanaa.Q
open Go.RowKit Go.ChangeShapes Go.WideShapes Go.ChangeAt Go.Proofs.YtncejmjicjlanaaW.PrintWords Go.Proofs.YtncejmjicjlanaaW.PrintLast Go.Proofs.YtncejmjicjlanaaW.PrintMore
set_option linter.unusedVariables false
set_option linter.unusedSimpArgs false
theorem cells24of : Try.prog.cellsOf 24 = 4 := by kernel_rfl
theorem cells22of : Try.prog.cellsOf 22 = 1 := by kernel_rfl
theorem cells3of : Try.prog.cellsOf 3 = 1 := by kernel_rfl
theorem cells9of : Try.prog.cellsOf 9 = 1 := by kernel_rfl
theorem okIL_of : ∀ (L : List S24), (∀ v ∈ L, okI v = true) → okIL L = true
  | [], _ => rfl
  | v :: L, h => by
    unfold okIL
    rw [Bool.and_eq_true]
    exact ⟨h v (by simp), okIL_of L (fun x hx => h x (by simp [hx]))⟩
section
variable {H : Type} {enc : TypeId × Value → H} {W : World} {base : Nat} {sp : Nat → Bool} {hd : Bool}
set_option maxRecDepth 100000 in
theorem val_of (fuel : Nat) : ∀ {cs : List Value} {y : DataW H × List MemPlace}, DataW.trod enc Try.prog W base sp hd fuel 24 cs = some y → ∃ K N S A c L, cs = [.int .i64 K, .int .i64 N, .string S, .slice A L.length c] ∧ L.length ≤ c ∧ Kd.C k24 W A L.length L ∧ okI ⟨K, N, S, L⟩ = true := by
  induction fuel using Nat.strongRecOn with
  | _ fuel ih =>
  intro cs y h
  obtain ⟨xs, n, hfu, rfl, hl, hlen, hf⟩ := DataW.trod_struct Try.underlying24 h
  rw [cells24of] at hl
  have h0 : DataW.trod enc Try.prog W base sp hd n 3 ((cs.drop 0).take (Try.prog.cellsOf 3)) = xs[0]? := hf 0 _ rfl
  have h1 : DataW.trod enc Try.prog W base sp hd n 3 ((cs.drop 1).take (Try.prog.cellsOf 3)) = xs[1]? := hf 1 _ rfl
  have h2 : DataW.trod enc Try.prog W base sp hd n 9 ((cs.drop 2).take (Try.prog.cellsOf 9)) = xs[2]? := hf 2 _ rfl
  have h3 : DataW.trod enc Try.prog W base sp hd n 22 ((cs.drop 3).take (Try.prog.cellsOf 22)) = xs[3]? := hf 3 _ rfl
  rw [cells3of] at h0 h1
  rw [cells9of] at h2
  rw [cells22of] at h3
  have hx3 : 3 < xs.length := by have h4 : xs.length = 4 := by simpa using hlen
                                 omega
  rw [List.getElem?_eq_getElem (by omega)] at h0 h1 h2 h3
  obtain ⟨m0, e0, _, w0⟩ := DataW.trod_int Try.underlying3 h0
  obtain ⟨m1, e1, _, w1⟩ := DataW.trod_int Try.underlying3 h1
  obtain ⟨s2, e2, _, z2⟩ := DataW.trod_string Try.underlying9 h2
  have r1 : -9223372036854775808 ≤ m1 ∧ m1 ≤ 9223372036854775807 := by
    simp [Lit.wf, IntKind.min, IntKind.max, IntKind.bits, IntKind.signed] at w1
    omega
  have rs : s2.size < 9223372036854775808 := by unfold maxLen at z2; omega
  rcases cs with _ | ⟨c0, _ | ⟨c1, _ | ⟨c2, _ | ⟨c3, _ | ⟨c4, cs⟩⟩⟩⟩⟩
  · simp at hl
  · simp at hl
  · simp at hl
  · simp at hl
  · simp at e0 e1 e2 h3
    subst e0; subst e1; subst e2
    clear h0 h1 h2
    rcases DataW.trod_slice Try.underlying22 h3 with ⟨e, _⟩ | ⟨a, len, cap, elems, rest, n2, hn2, e, _, hb, hl2, hm, hlen2, hel, _, _⟩
    · simp at e
      subst e
      refine ⟨m0, m1, s2, none, 0, [], rfl, Nat.le_refl _, Kd.C_nil _ _, ?_⟩
      simp [okI, okIL, r1, rs]
    · simp at e
      subst e
      have hx : ∀ i, ∃ x : S24 × Option Addr × Nat, i < len → W.cell? (a.add (i * 4)) = some (.int .i64 x.1.f0) ∧ W.cell? (a.add (i * 4 + 1)) = some (.int .i64 x.1.f1) ∧ W.cell? (a.add (i * 4 + 2)) = some (.string x.1.f2) ∧ W.cell? (a.add (i * 4 + 3)) = some (.slice x.2.1 x.1.f3.length x.2.2) ∧ x.1.f3.length ≤ x.2.2 ∧ Kd.C k24 W x.2.1 x.1.f3.length x.1.f3 ∧ okI x.1 = true := by
        intro i
        by_cases hi : i < len
        · have h1 := hel i hi
          rw [List.getElem?_eq_getElem (by omega), Option.bind_eq_some_iff] at h1
          obtain ⟨cs, hcs, hy⟩ := h1
          obtain ⟨K, N, S, A, c, L, rfl, q1, q2, q3⟩ := ih n2 (by omega) hy
          have hcell := (World.cells?_some hcs).2.2
          clear hel hcs hy
          rw [cells24of] at hcell
          refine ⟨(⟨K, N, S, L⟩, A, c), fun _ => ⟨?_, ?_, ?_, ?_, q1, q2, q3⟩⟩
          · have := hcell 0 (by omega)
            rw [Addr.add_add, Nat.add_zero] at this
            simpa using this
          · have := hcell 1 (by omega)
            rw [Addr.add_add] at this
            simpa using this
          · have := hcell 2 (by omega)
            rw [Addr.add_add] at this
            simpa using this
          · have := hcell 3 (by omega)
            rw [Addr.add_add] at this
            simpa using this
        · exact ⟨(⟨0, 0, ⟨#[]⟩, []⟩, none, 0), fun h => absurd h hi⟩
      obtain ⟨g, hg⟩ := Classical.axiomOfChoice hx
      have hlg : ((List.range len).map fun i => (g i).1).length = len := by simp
      refine ⟨m0, m1, s2, some a, cap, (List.range len).map fun i => (g i).1, by rw [hlg], by rw [hlg]; exact hl2, ⟨rfl, by rw [hlg]; unfold maxLen at hm; omega, fun _ => ⟨a, rfl, fun j p hj => ?_⟩⟩, ?_⟩
      · have hj2 : j < len := by
          have := (List.getElem?_eq_some_iff.1 hj).1
          rwa [hlg] at this
        have hp : p = (g j).1 := by
          rw [List.getElem?_map, List.getElem?_range hj2] at hj
          exact (Option.some.inj hj).symm
        subst hp
        obtain ⟨q0, q1, q2, q3, q4, q5, q6⟩ := hg j hj2
        refine ⟨_, rfl, k24_mk _ _ q4 q5, fun i u hu => ?_⟩
        match i, hu with
        | 0, hu => simp at hu; rw [← hu]; exact q0
        | 1, hu => simp at hu; rw [← hu]; exact q1
        | 2, hu => simp at hu; rw [← hu]; exact q2
        | 3, hu => simp at hu; rw [← hu]; exact q3
      · have hL : okIL ((List.range len).map fun i => (g i).1) = true := okIL_of _ (fun v hv => by
          simp at hv
          obtain ⟨j, hj, rfl⟩ := hv
          exact (hg j hj).2.2.2.2.2.2)
        unfold okI
        rw [hL]
        simp [r1, rs]
  · simp at hl
set_option maxRecDepth 100000 in
theorem open_val {r : Reach} {b0 : Nat} {v : Value} {d : DataW H} {ps : List MemPlace} (hval : Value.okWide Try.prog W r b0 24 v) (h : DataW.Trod enc Try.prog W base sp hd 24 v d ps) :
    ∃ K N S A c L, v = .agg #[.int .i64 K, .int .i64 N, .string S, .slice A L.length c] ∧ L.length ≤ c ∧ Kd.C k24 W A L.length L ∧ okI ⟨K, N, S, L⟩ = true := by
  obtain ⟨cs, rfl, _⟩ := okWide_struct Try.underlying24 hval
  obtain ⟨fuel, hf⟩ := h
  obtain ⟨K, N, S, A, c, L, e, q1, q2, q3⟩ := val_of fuel hf
  refine ⟨K, N, S, A, c, L, ?_, q1, q2, q3⟩
  have e2 : cs.toList = [.int .i64 K, .int .i64 N, .string S, .slice A L.length c] := by simpa [Value.cells] using e
  rw [← Array.toList_inj.mp (show cs.toList = (#[.int .i64 K, .int .i64 N, .string S, .slice A L.length c] : Array Value).toList from e2)]
end
end Go.Proofs.Ytncejmjicjlanaa.Q
