/- An argument of type Op opened: its seventeen cells, its context's dots. -/
import Derived.Test.YtncejmjicjlanaaDoorOpenK
import Derived.Test.YtncejmjicjlanaaDoorOps0
import Derived.Deep.Strs
import Derived.ShutString
namespace Go.Proofs.YtncejmjicjlanaaDoor.Q
open Go.RowKit Go.ChangeShapes Go.WideShapes Go.ChangeAt Go.Proofs.YtncejmjicjlanaaDoorW.PrintWords Go.Proofs.YtncejmjicjlanaaDoorW.PrintLast Go.Proofs.YtncejmjicjlanaaDoorW.PrintMore
set_option linter.unusedVariables false
set_option linter.unusedSimpArgs false
theorem cells22of' : Tryd.prog.cellsOf 22 = 1 := by kernel_rfl
theorem cells41of' : Tryd.prog.cellsOf 41 = 2 := by kernel_rfl
theorem cells43of' : Tryd.prog.cellsOf 43 = 3 := by kernel_rfl
theorem cells9of' : Tryd.prog.cellsOf 9 = 1 := by kernel_rfl
theorem cells4of' : Tryd.prog.cellsOf 4 = 1 := by kernel_rfl
theorem cells45of' : Tryd.prog.cellsOf 45 = 17 := by kernel_rfl
section
variable {H : Type} {enc : TypeId × Value → H} {W : World} {base : Nat} {sp : Nat → Bool} {hd : Bool}
theorem part_of {fuel : Nat} {cs : List Value} {y : DataW H × List MemPlace} (h : DataW.trod enc Tryd.prog W base sp hd fuel 41 cs = some y) : ∃ x0 x1, cs = [.int .i64 x0, .string x1] := by
  obtain ⟨y0, y1, n, rfl, hl, h0, h1⟩ := trod_struct2 Tryd.underlying41 h
  rw [cells41of'] at hl
  dsimp only at h0 h1
  rw [cells3of] at h0
  rw [cells9of'] at h1
  obtain ⟨m, e0, _, _⟩ := DataW.trod_int Tryd.underlying3 h0
  obtain ⟨m1, e1, _, _⟩ := DataW.trod_string Tryd.underlying9 h1
  clear h h0 h1
  rcases cs with _ | ⟨c0, _ | ⟨c1, _ | ⟨c2, cs⟩⟩⟩
  · simp at hl
  · simp at hl
  · simp at e0 e1
    exact ⟨m, m1, by rw [e0, e1]⟩
  · simp at hl
theorem id_of {fuel : Nat} {cs : List Value} {y : DataW H × List MemPlace} (h : DataW.trod enc Tryd.prog W base sp hd fuel 43 cs = some y) : ∃ x0 x1 x2, cs = [.int .i64 x0, .int .i64 x1, .int .i64 x2] := by
  obtain ⟨xs, n, hfu, rfl, hl, hlen, hf⟩ := DataW.trod_struct Tryd.underlying43 h
  rw [cells43of'] at hl
  have h0 : DataW.trod enc Tryd.prog W base sp hd n 3 ((cs.drop 0).take (Tryd.prog.cellsOf 3)) = xs[0]? := hf 0 _ rfl
  have h1 : DataW.trod enc Tryd.prog W base sp hd n 3 ((cs.drop 1).take (Tryd.prog.cellsOf 3)) = xs[1]? := hf 1 _ rfl
  have h2 : DataW.trod enc Tryd.prog W base sp hd n 3 ((cs.drop 2).take (Tryd.prog.cellsOf 3)) = xs[2]? := hf 2 _ rfl
  have h4 : xs.length = 3 := by simpa using hlen
  rw [cells3of] at h0 h1 h2
  rw [List.getElem?_eq_getElem (by omega)] at h0 h1 h2
  obtain ⟨m0, e0, _, w0⟩ := DataW.trod_int Tryd.underlying3 h0
  obtain ⟨m1, e1, _, w1⟩ := DataW.trod_int Tryd.underlying3 h1
  obtain ⟨m2, e2, _, w2⟩ := DataW.trod_int Tryd.underlying3 h2
  clear h0 h1 h2 w0 w1 w2 hf
  match cs, hl with
  | [c0, c1, c2], _ =>
    simp at e0 e1 e2
    exact ⟨m0, m1, m2, by rw [e0, e1, e2]⟩
set_option maxRecDepth 100000 in
theorem dots_of {fuel : Nat} {cs : List Value} {y : DataW H × List MemPlace} (h : DataW.trod enc Tryd.prog W base sp hd fuel 22 cs = some y) : ∃ A c xs, cs = [.slice A xs.length c] ∧ xs.length ≤ c ∧ Kd.C k24 W A xs.length xs := by
  rcases DataW.trod_slice Tryd.underlying22 h with ⟨e, _⟩ | ⟨a, len, cap, elems, rest, n, _, e, _, hb, hl, hm, hlen, hel, _, _⟩
  · exact ⟨none, 0, [], e, Nat.le_refl _, Kd.C_nil _ _⟩
  · have hx : ∀ i, ∃ x : S24, i < len → W.cell? (a.add (i * 2)) = some (.int .i64 x.f0) ∧ W.cell? (a.add (i * 2 + 1)) = some (.int .i64 x.f1) := by
      intro i
      by_cases hi : i < len
      · have h1 := hel i hi
        rw [List.getElem?_eq_getElem (by omega), Option.bind_eq_some_iff] at h1
        obtain ⟨cs, hcs, hy⟩ := h1
        obtain ⟨x0, x1, rfl⟩ := dot_of hy
        have hcell := (World.cells?_some hcs).2.2
        clear hel h hy hcs
        rw [cells24of] at hcell
        refine ⟨⟨x0, x1⟩, fun _ => ⟨?_, ?_⟩⟩
        · have := hcell 0 (by omega)
          rw [Addr.add_add, Nat.add_zero] at this
          simpa using this
        · have := hcell 1 (by omega)
          rw [Addr.add_add] at this
          simpa using this
      · exact ⟨⟨0, 0⟩, fun h => absurd h hi⟩
    obtain ⟨g, hg⟩ := Classical.axiomOfChoice hx
    have hlg : ((List.range len).map g).length = len := by simp
    refine ⟨some a, cap, (List.range len).map g, by rw [hlg]; exact e, by rw [hlg]; exact hl, rfl, by rw [hlg]; unfold maxLen at hm; omega, fun _ => ⟨a, rfl, fun j p hj => ?_⟩⟩
    have hj2 : j < len := by
      have := (List.getElem?_eq_some_iff.1 hj).1
      rwa [hlg] at this
    have hp : p = g j := by
      rw [List.getElem?_map, List.getElem?_range hj2] at hj
      exact (Option.some.inj hj).symm
    subst hp
    obtain ⟨c0, c1⟩ := hg j hj2
    refine ⟨_, rfl, k24_mk _ _, fun i u hu => ?_⟩
    match i, hu with
    | 0, hu =>
      simp at hu
      rw [← hu]
      exact c0
    | 1, hu =>
      simp at hu
      rw [← hu]
      exact c1
set_option maxRecDepth 100000 in
theorem op_of {fuel : Nat} {cs : List Value} {y : DataW H × List MemPlace} (h : DataW.trod enc Tryd.prog W base sp hd fuel 45 cs = some y) : ∃ o A c, cs = (opC o A c).toList ∧ o.f2.length ≤ c ∧ Kd.C k24 W A o.f2.length o.f2 := by
  obtain ⟨xs, n, hfu, rfl, hl, hlen, hf⟩ := DataW.trod_struct Tryd.underlying45 h
  rw [cells45of'] at hl
  have h4 : xs.length = 11 := by simpa using hlen
  have h0' : DataW.trod enc Tryd.prog W base sp hd n 24 ((cs.drop 0).take (Tryd.prog.cellsOf 24)) = xs[0]? := hf 0 _ rfl
  have h1' : DataW.trod enc Tryd.prog W base sp hd n 3 ((cs.drop 2).take (Tryd.prog.cellsOf 3)) = xs[1]? := hf 1 _ rfl
  have h2' : DataW.trod enc Tryd.prog W base sp hd n 22 ((cs.drop 3).take (Tryd.prog.cellsOf 22)) = xs[2]? := hf 2 _ rfl
  have h3' : DataW.trod enc Tryd.prog W base sp hd n 41 ((cs.drop 4).take (Tryd.prog.cellsOf 41)) = xs[3]? := hf 3 _ rfl
  have h4' : DataW.trod enc Tryd.prog W base sp hd n 3 ((cs.drop 6).take (Tryd.prog.cellsOf 3)) = xs[4]? := hf 4 _ rfl
  have h5' : DataW.trod enc Tryd.prog W base sp hd n 43 ((cs.drop 7).take (Tryd.prog.cellsOf 43)) = xs[5]? := hf 5 _ rfl
  have h6' : DataW.trod enc Tryd.prog W base sp hd n 43 ((cs.drop 10).take (Tryd.prog.cellsOf 43)) = xs[6]? := hf 6 _ rfl
  have h7' : DataW.trod enc Tryd.prog W base sp hd n 9 ((cs.drop 13).take (Tryd.prog.cellsOf 9)) = xs[7]? := hf 7 _ rfl
  have h8' : DataW.trod enc Tryd.prog W base sp hd n 9 ((cs.drop 14).take (Tryd.prog.cellsOf 9)) = xs[8]? := hf 8 _ rfl
  have h9' : DataW.trod enc Tryd.prog W base sp hd n 3 ((cs.drop 15).take (Tryd.prog.cellsOf 3)) = xs[9]? := hf 9 _ rfl
  have h10' : DataW.trod enc Tryd.prog W base sp hd n 4 ((cs.drop 16).take (Tryd.prog.cellsOf 4)) = xs[10]? := hf 10 _ rfl
  rw [List.getElem?_eq_getElem (by omega)] at h0' h1' h2' h3' h4' h5' h6' h7' h8' h9' h10'
  rw [cells24of] at h0'
  rw [cells3of] at h1'
  rw [cells22of'] at h2'
  rw [cells41of'] at h3'
  rw [cells3of] at h4'
  rw [cells43of'] at h5'
  rw [cells43of'] at h6'
  rw [cells9of'] at h7'
  rw [cells9of'] at h8'
  rw [cells3of] at h9'
  rw [cells4of'] at h10'
  obtain ⟨a0, b0, e0⟩ := dot_of h0'
  obtain ⟨a1, e1, _, _⟩ := DataW.trod_int Tryd.underlying3 h1'
  obtain ⟨A2, c2, l2, e2, hc, hC⟩ := dots_of h2'
  obtain ⟨a3, b3, e3⟩ := part_of h3'
  obtain ⟨a4, e4, _, _⟩ := DataW.trod_int Tryd.underlying3 h4'
  obtain ⟨a5, b5, d5, e5⟩ := id_of h5'
  obtain ⟨a6, b6, d6, e6⟩ := id_of h6'
  obtain ⟨a7, e7, _, _⟩ := DataW.trod_string Tryd.underlying9 h7'
  obtain ⟨a8, e8, _, _⟩ := DataW.trod_string Tryd.underlying9 h8'
  obtain ⟨a9, e9, _, _⟩ := DataW.trod_int Tryd.underlying3 h9'
  obtain ⟨a10, e10, _⟩ := DataW.trod_bool Tryd.underlying4 h10'
  clear hf h h0' h1' h2' h3' h4' h5' h6' h7' h8' h9' h10'
  match cs, hl with
  | [c_0, c_1, c_2, c_3, c_4, c_5, c_6, c_7, c_8, c_9, c_10, c_11, c_12, c_13, c_14, c_15, c_16], _ =>
    simp at e0 e1 e2 e3 e4 e5 e6 e7 e8 e9 e10
    refine ⟨⟨⟨a0, b0⟩, a1, l2, ⟨a3, b3⟩, a4, ⟨a5, b5, d5⟩, ⟨a6, b6, d6⟩, a7, a8, a9, a10⟩, A2, c2, ?_, hc, hC⟩
    simp [opC, *]
set_option maxRecDepth 100000 in
theorem open_op {r : Reach} {b0 : Nat} {v : Value} {d : DataW H} {ps : List MemPlace} (hval : Value.okWide Tryd.prog W r b0 45 v) (h : DataW.Trod enc Tryd.prog W base sp hd 45 v d ps) :
    ∃ o A c, v = .agg (opC o A c) ∧ o.f2.length ≤ c ∧ Kd.C k24 W A o.f2.length o.f2 := by
  obtain ⟨cs, rfl, _⟩ := okWide_struct Tryd.underlying45 hval
  obtain ⟨fuel, hf⟩ := h
  obtain ⟨o, A, c, e, h1, h2⟩ := op_of hf
  refine ⟨o, A, c, ?_, h1, h2⟩
  have e2 : cs.toList = (opC o A c).toList := by simpa [Value.cells] using e
  rw [Array.toList_inj.mp e2]
end
theorem u8_lo {x : Int} (h : (Lit.int .u8 x).wf = true) : 0 ≤ x := by
  simp [Lit.wf, IntKind.min, IntKind.max, IntKind.bits, IntKind.signed] at h
  omega
theorem u8_hi {x : Int} (h : (Lit.int .u8 x).wf = true) : x < 256 := by
  simp [Lit.wf, IntKind.min, IntKind.max, IntKind.bits, IntKind.signed] at h
  omega
end Go.Proofs.YtncejmjicjlanaaDoor.Q
