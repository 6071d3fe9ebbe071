/- The condition of the rows on ops: vector.greater holds its function and ops.kinds its map. -/
import Derived.Test.YtncejmjicjlanaaDoorOpen
import Derived.Test.YtncejmjicjlanaaDoorKinds
import Derived.LaidMore
import Derived.Maps.Keyed
import Derived.Maps.RangeWalk
namespace Go.Proofs.YtncejmjicjlanaaDoor.Q
open Go.RowKit Go.WideElems Go.ChangeShapes Go.WideShapes
abbrev laidK : List (String × DataW Unit) := [("chartroom/vector.greater", Rows.laid_chartroom_vector_greater), ("chartroom/ops.kinds", Rows.laid_chartroom_ops_kinds)]
set_option maxRecDepth 100000 in
theorem globG_ofK {W : World} (h : laidMetH Tryd.prog laidK W) : GlobG W := rule_of globals01.1 globalT.1 names132 (h.funcs (List.mem_cons_self))
theorem global2 : Tryd.prog.globalNamed "chartroom/ops.kinds" = some 2 := by kernel_rfl
theorem global2T : (Tryd.prog.globals[2]?).map (·.type) = some 86 := by kernel_rfl
theorem cells84of : Tryd.prog.cellsOf 84 = 2 := by kernel_rfl
theorem cells46of : Tryd.prog.cellsOf 46 = 1 := by kernel_rfl
/-- The bytes of the names of the functions. -/
def kname (c : UInt8) : List UInt8 := [99, 104, 97, 114, 116, 114, 111, 111, 109, 47, 111, 112, 115, 46, 107, 105, 110, 100, 115, 36, c]
theorem namesK (c : UInt8) (f : Nat) (h : (c, f) ∈ [((49 : UInt8), 134), (50, 136), (51, 138), (52, 139), (53, 140), (54, 141), (55, 142), (56, 143)]) :
    ((List.range Tryd.prog.funcs.size).filter fun f => (Tryd.prog.funcs[f]?).any (·.name.toUTF8.data.toList == kname c)) = [f] := by
  simp only [List.mem_cons, Prod.mk.injEq, List.not_mem_nil, or_false] at h
  rcases h with ⟨rfl, rfl⟩ | ⟨rfl, rfl⟩ | ⟨rfl, rfl⟩ | ⟨rfl, rfl⟩ | ⟨rfl, rfl⟩ | ⟨rfl, rfl⟩ | ⟨rfl, rfl⟩ | ⟨rfl, rfl⟩ <;> kernel_rfl
/-- The map's entries, as laid. -/
def kindRow (K p : Int) (c : UInt8) : Lit × DataW (List UInt8) := (.int .i64 K, .agg [.lit (.int .i64 p), .held (kname c)])
def kindRows : List (Lit × DataW (List UInt8)) := [kindRow 1 1 49, kindRow 2 1 50, kindRow 3 2 51, kindRow 4 2 52, kindRow 5 3 53, kindRow 6 4 54, kindRow 7 4 55, kindRow 8 4 56]
theorem kinds_out : (DataW.map (H := Unit) [(.int .i64 1, .agg [.lit (.int .i64 1), .iface "func" (.lit (.string (kname 49)))]), (.int .i64 2, .agg [.lit (.int .i64 1), .iface "func" (.lit (.string (kname 50)))]), (.int .i64 3, .agg [.lit (.int .i64 2), .iface "func" (.lit (.string (kname 51)))]), (.int .i64 4, .agg [.lit (.int .i64 2), .iface "func" (.lit (.string (kname 52)))]), (.int .i64 5, .agg [.lit (.int .i64 3), .iface "func" (.lit (.string (kname 53)))]), (.int .i64 6, .agg [.lit (.int .i64 4), .iface "func" (.lit (.string (kname 54)))]), (.int .i64 7, .agg [.lit (.int .i64 4), .iface "func" (.lit (.string (kname 55)))]), (.int .i64 8, .agg [.lit (.int .i64 4), .iface "func" (.lit (.string (kname 56)))])]).funcsOut = .map kindRows := by rfl
set_option maxRecDepth 100000 in
/-- An element of the map that reads as a part and a function's name. -/
theorem elem84 {W : World} {n : Nat} {v : Value} {p : Int} {c : UInt8} {f : Nat} {q : List MemPlace} (hf : ((List.range Tryd.prog.funcs.size).filter fun f => (Tryd.prog.funcs[f]?).any (·.name.toUTF8.data.toList == kname c)) = [f])
    (h : elemAt (funcToken Tryd.prog) Tryd.prog W 0 (fun _ => true) true n 84 v = some (.agg [.lit (.int .i64 p), .held (kname c)], q)) : v = .agg #[.int .i64 p, .func (.func f) #[] #[]] := by
  unfold elemAt at h
  split at h
  · rename_i hfm
    obtain ⟨y0, y1, m, e, hl, h0, h1⟩ := trod_struct2 Tryd.underlying84 h
    rw [cells84of] at hl
    simp only [Prod.mk.injEq, DataW.agg.injEq, List.cons.injEq, and_true] at e
    obtain ⟨⟨e0, e1⟩, _⟩ := e
    cases v with
    | agg cs =>
      simp only [Value.cells] at hl h0 h1
      obtain ⟨l⟩ := cs
      match l, hl with
      | [a, b], _ =>
        rw [cells3of] at h0
        rw [cells46of] at h1
        obtain ⟨k, ek, ek2, _⟩ := DataW.trod_int Tryd.underlying3 h0
        rw [ek2] at e0
        simp at e0
        have hb : b = .func (.func f) #[] #[] := by
          obtain ⟨d1, q1⟩ := y1
          subst e1
          exact func_of_trod Tryd.underlying46 hf (show DataW.trod (funcToken Tryd.prog) Tryd.prog W 0 (fun _ => true) true m 46 [b] = some (.held (kname c), q1) from h1)
        simp at ek
        rw [ek, hb, e0]
    | _ => simp [Value.formed, Tryd.underlying84] at hfm
  · cases h
theorem kindRows_at {y : Lit × DataW (List UInt8)} (h : y ∈ kindRows) : ∃ K p c f, y = kindRow K p c ∧ kindAt K = some (p, f) ∧ ((List.range Tryd.prog.funcs.size).filter fun f => (Tryd.prog.funcs[f]?).any (·.name.toUTF8.data.toList == kname c)) = [f] := by
  simp only [kindRows, List.mem_cons, List.not_mem_nil, or_false] at h
  rcases h with rfl | rfl | rfl | rfl | rfl | rfl | rfl | rfl
  · exact ⟨_, _, _, 134, rfl, rfl, namesK _ _ (by simp)⟩
  · exact ⟨_, _, _, 136, rfl, rfl, namesK _ _ (by simp)⟩
  · exact ⟨_, _, _, 138, rfl, rfl, namesK _ _ (by simp)⟩
  · exact ⟨_, _, _, 139, rfl, rfl, namesK _ _ (by simp)⟩
  · exact ⟨_, _, _, 140, rfl, rfl, namesK _ _ (by simp)⟩
  · exact ⟨_, _, _, 141, rfl, rfl, namesK _ _ (by simp)⟩
  · exact ⟨_, _, _, 142, rfl, rfl, namesK _ _ (by simp)⟩
  · exact ⟨_, _, _, 143, rfl, rfl, namesK _ _ (by simp)⟩
theorem kindAt_row {K p : Int} {f : Nat} (h : kindAt K = some (p, f)) : ∃ c, kindRow K p c ∈ kindRows := by
  unfold kindAt at h
  repeat' split at h
  all_goals first
    | (subst_vars; simp only [Option.some.injEq, Prod.mk.injEq] at h; obtain ⟨rfl, rfl⟩ := h; first | exact ⟨49, .head _⟩ | exact ⟨50, .tail _ (.head _)⟩ | exact ⟨51, .tail _ (.tail _ (.head _))⟩ | exact ⟨52, .tail _ (.tail _ (.tail _ (.head _)))⟩ | exact ⟨53, .tail _ (.tail _ (.tail _ (.tail _ (.head _))))⟩ | exact ⟨54, .tail _ (.tail _ (.tail _ (.tail _ (.tail _ (.head _)))))⟩ | exact ⟨55, .tail _ (.tail _ (.tail _ (.tail _ (.tail _ (.tail _ (.head _))))))⟩ | exact ⟨56, .tail _ (.tail _ (.tail _ (.tail _ (.tail _ (.tail _ (.tail _ (.head _)))))))⟩)
    | cases h
set_option maxRecDepth 100000 in
theorem globK_of {W : World} (h : laidMetH Tryd.prog laidK W) : GlobK W := by
  obtain ⟨g, t, cs, fuel, p, hg, ht, hv, hd⟩ := h.funcs (n := "chartroom/ops.kinds") (List.mem_cons_of_mem _ List.mem_cons_self)
  obtain rfl := Option.some.inj (global2.symm.trans hg)
  obtain rfl := Option.some.inj (global2T.symm.trans ht)
  have hd' : DataW.trod (funcToken Tryd.prog) Tryd.prog W 0 (fun _ => true) true fuel 86 cs.toList = some (.map kindRows, p) := by rw [← kinds_out]; exact hd
  rcases open_map Tryd.underlying86 hd' with ⟨_, hx⟩ | ⟨bm, es, clock, m, rfl, hcs, hb, _, F, hx⟩
  · simp at hx
  have hcell : W.cell? ⟨2, 0, none⟩ = some (.map (some bm)) := by
    have := World.var?_cell hg hv 0
    rw [Array.eq_one_of_toList hcs] at this
    simpa using this
  simp only [Prod.mk.injEq, DataW.map.injEq] at hx
  have hperm : kindRows.Perm (es.toList.map (rg Tryd.prog 3 (elemAt (funcToken Tryd.prog) Tryd.prog W 0 (fun _ => true) true m 84))) := by rw [hx.1]; exact sorted_perm _
  have hkeys : ∀ x ∈ es.toList, MapKept.IsKey (.int .i64) x.key := fun x hxm => by
    obtain ⟨y, hy⟩ := F.reads x hxm
    obtain ⟨a, e, _⟩ := Maps.keyOf_int_inv Tryd.underlying3 (rd_key hy)
    rw [e]; simp [MapKept.IsKey]
  have hfound : ∀ K (e0 : MapEntry), e0 ∈ es.toList → e0.key = .int .i64 K → ∃ p f, kindAt K = some (p, f) ∧ e0.val = .agg #[.int .i64 p, .func (.func f) #[] #[]] := fun K e0 hm0 hk0 => by
    obtain ⟨y, hy⟩ := F.reads e0 hm0
    have hym : y ∈ kindRows := hperm.mem_iff.2 (List.mem_map.2 ⟨e0, hm0, rg_of hy⟩)
    obtain ⟨K', p, c, f, rfl, hk, hn⟩ := kindRows_at hym
    obtain ⟨a, e, e2, _⟩ := Maps.keyOf_int_inv Tryd.underlying3 (rd_key hy)
    rw [hk0] at e
    simp only [kindRow, Value.int.injEq, true_and, Lit.int.injEq] at e e2
    obtain rfl := e.trans e2.symm
    obtain ⟨z, hz, hz2⟩ := rd_val hy
    obtain ⟨z1, z2⟩ := z
    simp only [kindRow] at hz2
    subst hz2
    exact ⟨p, f, hk, elem84 hn hz⟩
  refine ⟨bm, es, clock, hcell, hb, fun K p f hk => ?_, fun K hk => ?_⟩
  · rcases MapKept.findNow_spec (d := .int .i64) (k := .int .i64 K) (by simp [MapKept.IsKey]) es.toList 0 hkeys with ⟨_, h2⟩ | ⟨j, e0, h1, h2, h3⟩
    · exfalso
      obtain ⟨c, hc⟩ := kindAt_row hk
      obtain ⟨x, hxm, hx2⟩ := List.mem_map.1 (hperm.mem_iff.1 hc)
      obtain ⟨y, hy⟩ := F.reads x hxm
      rw [rg_of hy] at hx2
      subst hx2
      obtain ⟨a, e, e2, _⟩ := Maps.keyOf_int_inv Tryd.underlying3 (rd_key hy)
      simp only [kindRow, Lit.int.injEq, true_and] at e2
      subst e2
      exact h2 x hxm e
    · obtain ⟨p', f', hk', hv'⟩ := hfound K e0 (List.mem_of_getElem? h2) h3
      rw [hk] at hk'
      obtain ⟨rfl, rfl⟩ := Prod.mk.inj (Option.some.inj hk')
      exact ⟨0 + j, by rw [h1, hv']⟩
  · rcases MapKept.findNow_spec (d := .int .i64) (k := .int .i64 K) (by simp [MapKept.IsKey]) es.toList 0 hkeys with ⟨h1, _⟩ | ⟨j, e0, h1, h2, h3⟩
    · exact h1
    · obtain ⟨p', f', hk', _⟩ := hfound K e0 (List.mem_of_getElem? h2) h3
      rw [hk] at hk'
      cases hk'
/-- The door's own heap meets the condition. -/
theorem door_metK (os : Os) (args : Array Value) : laidMetH Tryd.prog laidK ((World.doorLaid Tryd.prog 400 os).forCall (fun _ _ => 0) ⟨#[], args, []⟩).memory :=
  laidMetH_of_parts3 (fuel := 8) (laidMet_nil _ _) (by kernel_rfl) (by kernel_rfl)
end Go.Proofs.YtncejmjicjlanaaDoor.Q
