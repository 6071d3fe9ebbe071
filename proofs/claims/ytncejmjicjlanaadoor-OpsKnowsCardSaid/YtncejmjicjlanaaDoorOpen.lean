/- What the laws' arguments and the two listed variables are, out of the row's premises: lists of dots and dots; the variables' functions. -/
import Derived.Test.YtncejmjicjlanaaDoorQ0
import Derived.Test.YtncejmjicjlanaaDoorGlob
import Derived.Test.YtncejmjicjlanaaDoorCards
import Derived.ProofKit
import Derived.LaidMore
import Derived.LaidHandle
import Derived.OpenShut
import Derived.RowKitVeiled
import Derived.Carry
import Derived.Stop.Joined
namespace Go.Proofs.YtncejmjicjlanaaDoor.Q
open Go.RowKit Go.ChangeShapes Go.WideShapes Go.ChangeAt Go.Proofs.YtncejmjicjlanaaDoorW.PrintWords Go.Proofs.YtncejmjicjlanaaDoorW.PrintLast Go.Proofs.YtncejmjicjlanaaDoorW.PrintMore
set_option linter.unusedVariables false
set_option linter.unusedSimpArgs false

theorem own : ownKnob Tryd.prog.godebug = none := by kernel_rfl
theorem laidOut : laidOutB Tryd.prog = true := by kernel_rfl
theorem cells24of : Tryd.prog.cellsOf 24 = 2 := by kernel_rfl
theorem cells3of : Tryd.prog.cellsOf 3 = 1 := by kernel_rfl
section
variable {H : Type} {enc : TypeId × Value → H} {W : World} {base : Nat} {sp : Nat → Bool} {hd : Bool}
theorem dot_of {fuel : Nat} {cs : List Value} {y : DataW H × List MemPlace} (h : DataW.trod enc Tryd.prog W base sp hd fuel 24 cs = some y) : ∃ x0 x1, cs = [.int .i64 x0, .int .i64 x1] := by
  obtain ⟨y0, y1, n, rfl, hl, h0, h1⟩ := trod_struct2 Tryd.underlying24 h
  rw [cells24of] at hl
  dsimp only at h0 h1
  rw [cells3of] at h0 h1
  obtain ⟨m, e0, _, _⟩ := DataW.trod_int Tryd.underlying3 h0
  obtain ⟨m1, e1, _, _⟩ := DataW.trod_int Tryd.underlying3 h1
  clear h h0 h1
  rcases cs with _ | ⟨c0, _ | ⟨c1, _ | ⟨c2, cs⟩⟩⟩
  · simp at hl
  · simp at hl
  · simp at e0 e1
    exact ⟨m, m1, by rw [e0, e1]⟩
  · simp at hl
set_option maxRecDepth 100000 in
theorem open_dot {r : Reach} {b0 : Nat} {v : Value} {d : DataW H} {ps : List MemPlace} (hval : Value.okWide Tryd.prog W r b0 24 v) (h : DataW.Trod enc Tryd.prog W base sp hd 24 v d ps) : ∃ x0 x1, v = .agg #[.int .i64 x0, .int .i64 x1] := by
  obtain ⟨cs, rfl, _⟩ := okWide_struct Tryd.underlying24 hval
  obtain ⟨fuel, hf⟩ := h
  obtain ⟨x0, x1, e⟩ := dot_of hf
  refine ⟨x0, x1, ?_⟩
  have e2 : cs.toList = [.int .i64 x0, .int .i64 x1] := by simpa [Value.cells] using e
  rw [← Array.toList_inj.mp (show cs.toList = (#[.int .i64 x0, .int .i64 x1] : Array Value).toList from e2)]
set_option maxRecDepth 100000 in
theorem open_dots {r : Reach} {b0 : Nat} {v : Value} {d : DataW H} {ps : List MemPlace} (hval : Value.okWide Tryd.prog W r b0 22 v) (h : DataW.Trod enc Tryd.prog W base sp hd 22 v d ps) :
    ∃ A c xs, v = .slice A xs.length c ∧ xs.length ≤ c ∧ Kd.C k24 W A xs.length xs := by
  obtain ⟨a, len, cap, rfl⟩ := okWide_slice Tryd.underlying22 hval
  obtain ⟨fuel, hf⟩ := h
  rcases DataW.trod_slice Tryd.underlying22 hf with ⟨e, _⟩ | ⟨a, len, cap, elems, rest, n, _, e, _, hb, hl, hm, hlen, hel, _, _⟩
  · simp [Value.cells] at e
    obtain ⟨rfl, rfl, rfl⟩ := e
    exact ⟨none, 0, [], rfl, Nat.le_refl _, Kd.C_nil _ _⟩
  · simp [Value.cells] at e
    obtain ⟨rfl, rfl, rfl⟩ := e
    have hx : ∀ i, ∃ x : S24, i < len → W.cell? (a.add (i * 2)) = some (.int .i64 x.f0) ∧ W.cell? (a.add (i * 2 + 1)) = some (.int .i64 x.f1) := by
      intro i
      by_cases hi : i < len
      · have h1 := hel i hi
        rw [List.getElem?_eq_getElem (by omega), Option.bind_eq_some_iff] at h1
        obtain ⟨cs, hcs, hy⟩ := h1
        obtain ⟨x0, x1, rfl⟩ := dot_of hy
        have hcell := (World.cells?_some hcs).2.2
        clear hel hf hy hcs
        rw [cells24of] at hcell
        refine ⟨⟨x0, x1⟩, fun _ => ⟨?_, ?_⟩⟩
        · have := hcell 0 (by omega)
          rw [Addr.add_add, Nat.add_zero] at this
          simpa using this
        · have := hcell 1 (by omega)
          rw [Addr.add_add] at this
          simpa using this
      · exact ⟨⟨0, 0⟩, fun h => absurd h hi⟩
    obtain ⟨g, hg⟩ := Classical.axiomOfChoice hx
    have hlg : ((List.range len).map g).length = len := by simp
    refine ⟨some a, cap, (List.range len).map g, by rw [hlg], by rw [hlg]; exact hl, rfl, by rw [hlg]; unfold maxLen at hm; omega, fun _ => ⟨a, rfl, fun j p hj => ?_⟩⟩
    have hj2 : j < len := by
      have := (List.getElem?_eq_some_iff.1 hj).1
      rwa [hlg] at this
    have hp : p = g j := by
      rw [List.getElem?_map, List.getElem?_range hj2] at hj
      exact (Option.some.inj hj).symm
    subst hp
    obtain ⟨c0, c1⟩ := hg j hj2
    refine ⟨_, rfl, k24_mk _ _, fun i u hu => ?_⟩
    match i, hu with
    | 0, hu =>
      simp at hu
      rw [← hu]
      exact c0
    | 1, hu =>
      simp at hu
      rw [← hu]
      exact c1
end

/-- The condition of the rows on vector: both variables hold their functions. -/
abbrev laidV : List (String × DataW Unit) := [("chartroom/vector.greater", Rows.laid_chartroom_vector_greater), ("chartroom/vector.lesser", Rows.laid_chartroom_vector_lesser)]
theorem names132 : ((List.range 150).filter fun f => match Tryd.prog.funcs[f]? with | some fn => fn.name.toUTF8.data.toList == [99, 104, 97, 114, 116, 114, 111, 111, 109, 47, 118, 101, 99, 116, 111, 114, 46, 103, 114, 101, 97, 116, 101, 114, 36, 49] | none => false) = [132] := by kernel_rfl
theorem names133 : ((List.range 150).filter fun f => match Tryd.prog.funcs[f]? with | some fn => fn.name.toUTF8.data.toList == [99, 104, 97, 114, 116, 114, 111, 111, 109, 47, 118, 101, 99, 116, 111, 114, 46, 108, 101, 115, 115, 101, 114, 36, 49] | none => false) = [133] := by kernel_rfl
theorem funcs150 : Tryd.prog.funcs.size = 150 := by kernel_rfl
theorem token_func {t : TypeId} {v : Value} {b : UInt8} {r : List UInt8} (h : funcToken Tryd.prog (t, v) = b :: r) :
    ∃ f fn, v = .func (.func f) #[] #[] ∧ Tryd.prog.funcs[f]? = some fn ∧ fn.name.toUTF8.data.toList = b :: r := by
  unfold funcToken at h
  split at h
  · rename_i f first captured e
    have ev : v = .func (.func f) first captured := congrArg Prod.snd e
    split at h
    · rename_i hc
      simp only [Bool.and_eq_true, Array.isEmpty_iff] at hc
      obtain ⟨rfl, rfl⟩ := hc
      split at h
      · rename_i fn hfn
        split at h
        · exact ⟨f, fn, ev, hfn, h⟩
        · cases h
      · cases h
    · cases h
  · cases h
theorem globals01 : Tryd.prog.globalNamed "chartroom/vector.greater" = some 0 ∧ Tryd.prog.globalNamed "chartroom/vector.lesser" = some 1 := ⟨by kernel_rfl, by kernel_rfl⟩
theorem globalT : (Tryd.prog.globals[0]?).map (·.type) = some 70 ∧ (Tryd.prog.globals[1]?).map (·.type) = some 70 := ⟨by kernel_rfl, by kernel_rfl⟩
theorem cells70of : Tryd.prog.cellsOf 70 = 1 := by kernel_rfl
set_option maxRecDepth 100000 in
/-- A variable of the type 'rule' that reads as one function: its cell. -/
theorem rule_of {W : World} {n : String} {g f0 : Nat} {b : UInt8} {r : List UInt8} (hg : Tryd.prog.globalNamed n = some g) (ht : (Tryd.prog.globals[g]?).map (·.type) = some 70)
    (hn : ((List.range 150).filter fun f => match Tryd.prog.funcs[f]? with | some fn => fn.name.toUTF8.data.toList == b :: r | none => false) = [f0])
    (h : funcsAt Tryd.prog W n (.agg [.iface "func" (.lit (.string (b :: r)))])) : W.cell? ⟨g, 0, none⟩ = some (.func (.func f0) #[] #[]) := by
  obtain ⟨g', t, cs, fuel, p, hg', ht', hv, hd⟩ := h
  obtain rfl := Option.some.inj (hg.symm.trans hg')
  obtain rfl := Option.some.inj (ht.symm.trans ht')
  obtain ⟨y0, n0, e, hl, h0⟩ := trod_struct1 Tryd.underlying70 hd
  rw [cells70of] at hl
  dsimp only at h0
  obtain ⟨v, ev, hf, ey⟩ := Go.RowKit.func_of_trod Tryd.underlying68 h0
  have hcs : cs.toList = [v] := by
    have e68 : Tryd.prog.cellsOf 68 = 1 := by kernel_rfl
    rw [e68] at ev
    rcases hc : cs.toList with _ | ⟨c0, _ | ⟨c1, l⟩⟩
    · rw [hc] at hl; simp at hl
    · rw [hc] at ev; simpa using ev
    · rw [hc] at hl; simp at hl
  subst ey
  simp only [DataW.funcsOut, DataW.funcsOutAll, Prod.mk.injEq, DataW.agg.injEq, List.cons.injEq, and_true] at e
  have hcell : W.cell? ⟨g, 0, none⟩ = some v := by
    have := World.var?_cell hg hv 0
    rw [Array.eq_one_of_toList hcs] at this
    simpa using this
  have e1 := e.1
  simp only [beq_self_eq_true, if_true] at e1
  have htok : funcToken Tryd.prog (68, v) = b :: r := by
    cases v <;> simp only [IsFunc] at hf <;> simp [veil] at e1
    exact e1.symm
  obtain ⟨f, fn, rfl, hfn, hname⟩ := token_func htok
  have hm : f ∈ (List.range 150).filter fun f => match Tryd.prog.funcs[f]? with | some fn => fn.name.toUTF8.data.toList == b :: r | none => false := by
    refine List.mem_filter.2 ⟨List.mem_range.2 ?_, ?_⟩
    · rw [← funcs150]
      exact (Array.getElem?_eq_some_iff.1 hfn).1
    · rw [hfn]
      simpa using hname
  rw [hn] at hm
  obtain rfl := List.mem_singleton.1 hm
  exact hcell
set_option maxRecDepth 100000 in
theorem globG_of {W : World} (h : laidMetH Tryd.prog laidV W) : GlobG W := rule_of globals01.1 globalT.1 names132 (h.funcs (List.mem_cons_self))
set_option maxRecDepth 100000 in
theorem globL_of {W : World} (h : laidMetH Tryd.prog laidV W) : GlobL W := rule_of globals01.2 globalT.2 names133 (h.funcs (List.mem_cons_of_mem _ List.mem_cons_self))
/-- The door's own heap meets the condition. -/
theorem door_metV (os : Os) (args : Array Value) : laidMetH Tryd.prog laidV ((World.doorLaid Tryd.prog 400 os).forCall (fun _ _ => 0) ⟨#[], args, []⟩).memory :=
  laidMetH_of_parts3 (fuel := 8) (laidMet_nil _ _) (by kernel_rfl) (by kernel_rfl)
end Go.Proofs.YtncejmjicjlanaaDoor.Q
