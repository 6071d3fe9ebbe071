/- What the package variable ops.kinds holds: a map of eight kinds, as a fact on memory; it stays when nothing that was there changes; what a look-up in it gives. -/
import Derived.Test.YtncejmjicjlanaaDoorGlob
import Derived.MapKept
import Derived.WideLaws
import Derived.KernelRfl
namespace Go.Proofs.YtncejmjicjlanaaDoor.Q
open Go.RowKit
/-- The part and the function of a kind of operations. -/
def kindAt (K : Int) : Option (Int × Nat) := if K = 1 then some (1, 134) else if K = 2 then some (1, 136) else if K = 3 then some (2, 138) else if K = 4 then some (2, 139) else if K = 5 then some (3, 140) else if K = 6 then some (4, 141) else if K = 7 then some (4, 142) else if K = 8 then some (4, 143) else none
/-- The variable ops.kinds holds its map. -/
def GlobK (w : World) : Prop := ∃ bm es clock, w.cell? ⟨2, 0, none⟩ = some (.map (some bm)) ∧ w.heap[bm]? = some (.map es clock) ∧
  (∀ K p f, kindAt K = some (p, f) → ∃ j, Instr.findNow (.int .i64) (.int .i64 K) es.toList 0 = some (some (j, .agg #[.int .i64 p, .func (.func f) #[] #[]]))) ∧
  ∀ K, kindAt K = none → Instr.findNow (.int .i64) (.int .i64 K) es.toList 0 = some none
theorem GlobK_below {w w' : World} (h : GlobK w) (hb : Below w.heap.size w w') : GlobK w' := by
  obtain ⟨bm, es, clock, hc, hm, h1, h2⟩ := h
  refine ⟨bm, es, clock, (hb.cell (World.block_lt_of_cell? w _ hc)).trans hc, (hb.block bm (Array.getElem?_eq_some_iff.1 hm).1).trans hm, h1, h2⟩
theorem zero84 (w : World) : (zeroValue 84).run Tryd.prog w = .ok (.agg #[.int .i64 0, .nilFunc]) w := by kernel_rfl
theorem look_some {w : World} (h : GlobK w) : ∃ bm, w.cell? ⟨2, 0, none⟩ = some (.map (some bm)) ∧
    ∀ K, (Instr.lookup 86 (.map (some bm)) (.int .i64 K) true).run Tryd.prog w = .ok (match kindAt K with | some (p, f) => .tuple #[.agg #[.int .i64 p, .func (.func f) #[] #[]], .bool true] | none => .tuple #[.agg #[.int .i64 0, .nilFunc], .bool false]) w := by
  obtain ⟨bm, es, clock, hc, hm, h1, h2⟩ := h
  refine ⟨bm, hc, fun K => ?_⟩
  have hck : (Instr.checkKey es.isEmpty 10000 3 (.int .i64 K)).run Tryd.prog w = .ok () w := MapKept.run_checkKey (d := .int .i64) (k := .int .i64 K) Tryd.underlying3 (by simp [MapKept.IsKey]) _ 9999
  cases hk : kindAt K with
  | none =>
    have hf : (Instr.findKey 3 (.int .i64 K) es.toList).run Tryd.prog w = .ok none w := MapKept.run_findKey Tryd.underlying3 (h2 K hk)
    simp [Instr.lookup, run_underlying Tryd.underlying86, MapKept.run_getObj_map hm, hck, hf, Result.andThen]
  | some x =>
    obtain ⟨p, f⟩ := x
    obtain ⟨j, hj⟩ := h1 K p f hk
    have hf : (Instr.findKey 3 (.int .i64 K) es.toList).run Tryd.prog w = .ok (some (j, .agg #[.int .i64 p, .func (.func f) #[] #[]])) w := MapKept.run_findKey Tryd.underlying3 hj
    simp [Instr.lookup, run_underlying Tryd.underlying86, MapKept.run_getObj_map hm, hck, hf, Result.andThen]
end Go.Proofs.YtncejmjicjlanaaDoor.Q
