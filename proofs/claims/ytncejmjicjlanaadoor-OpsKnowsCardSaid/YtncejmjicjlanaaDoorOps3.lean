/- Contracts of ops.rest and of the reference's uses: the operation without, or with only, the fields that its kind uses; nothing that was there changes. -/
import Derived.Test.YtncejmjicjlanaaDoorOps1
namespace Go.Proofs.YtncejmjicjlanaaDoor.Q
open Go.RowKit Go.Proofs.YtncejmjicjlanaaDoorW.PrintWords Go.Proofs.YtncejmjicjlanaaDoorW.PrintLast Go.Proofs.YtncejmjicjlanaaDoorW.PrintMore
set_option linter.unusedVariables false
set_option linter.unusedSimpArgs false
/-- Cells put into a row from an offset on. -/
def setL (cs : Array Value) : Nat → List Value → Array Value
  | _, [] => cs
  | i, v :: r => setL (cs.setIfInBounds i v) (i + 1) r
theorem setCells_row (g : Nat) (t : TypeId) : ∀ (vs : List Value) (i : Nat) (w : World) (cs : Array Value), w.heap[g]? = some (.cells cs t (0, 0)) → (w.setCells g i vs).heap[g]? = some (.cells (setL cs i vs) t (0, 0)) ∧ (∀ k, k ≠ g → (w.setCells g i vs).heap[k]? = w.heap[k]?) ∧ ∀ B w0, B ≤ g → Below B w0 w → Below B w0 (w.setCells g i vs)
  | [], i, w, cs, h => ⟨h, fun _ _ => rfl, fun _ _ _ h => h⟩
  | v :: r, i, w, cs, h => by
    obtain ⟨h1, h2, h3⟩ := setCells_row g t r (i + 1) (w.setCell ⟨g, i, none⟩ v) (cs.setIfInBounds i v) (blk_set h i v)
    exact ⟨h1, fun k hk => (h2 k hk).trans (Below.heap_setCell w ⟨g, i, none⟩ v k hk), fun B w0 hB hb => h3 B w0 hB (hb.setCell (p := ⟨g, i, none⟩) hB v)⟩
/-- The state of these walks: a block that turns, a source, the result's block. -/
structure T3 (w W : World) (g1 : Nat) (o1 : S45) (A1 : Option Addr) (c1 : Nat) (g2 : Nat) (o2 : S45) (A2 : Option Addr) (c2 : Nat) (g3 : Nat) (o3 : S45) (A3 : Option Addr) (c3 : Nat) : Prop where
  hb : Below w.heap.size w W
  l1 : w.heap.size ≤ g1
  l3 : w.heap.size ≤ g3
  n2 : g2 ≠ g1
  n3 : g3 ≠ g1
  i1 : IsOp W g1 o1 A1 c1
  i2 : IsOp W g2 o2 A2 c2
  i3 : IsOp W g3 o3 A3 c3
/-- A store into the block that turns. -/
theorem put_event {P : Program} {ops : Array Oper} {op : Oper} {rest : List Oper} {a : Act} {Q : Exit → Act → World → Prop} {w W : World} {g1 g2 g3 c1 c2 c3 : Nat} {o1 o2 o3 : S45} {A1 A2 A3 : Option Addr} (hs : T3 w W g1 o1 A1 c1 g2 o2 A2 c2 g3 o3 A3 c3)
    (hw : Region.wanted op (yielded ops a.tmps) = true) (ty : TypeId) (x y : Operand) (ho : op.op = .store ty x y) (off : Nat) (hx : a.eval x = .pointer (some ⟨g1, off, none⟩)) (v : Value) (hy : a.eval y = v) (vs : List Value) (hv : v.cells = vs.toArray) (hi : (P.info? ty).map (·.size) = some vs.length)
    (h1 : ∀ u ∈ vs, u.oneCell' = true) (hoff : off + vs.length ≤ 17) (f : S45 → S45) (A1' : Option Addr) (c1' : Nat) (e : setL (opC o1 A1 c1) off vs = opC (f o1) A1' c1')
    (h : ∀ W1, T3 w W1 g1 (f o1) A1' c1' g2 o2 A2 c2 g3 o3 A3 c3 → wpList P ops Q rest (a.put op.dst undef) W1) : wpList P ops Q (op :: rest) a W := by
  refine wpList_step fun K hK => ?_
  rw [if_pos hw]
  have hrow := setCells_row g1 45 vs off W (opC o1 A1 c1) hs.i1
  rw [e] at hrow
  have hr := run_storeCells_cells (P := P) g1 off vs 0 W
    (fun j hj => by rw [blk_cell hs.i1]; rw [Array.getElem?_eq_getElem (by show _ < 17; omega)]; rfl)
    (fun j hj => blk_frozen hs.i1 _) h1
  have hst : (storeVar ty ⟨g1, off, none⟩ v).run P W = .ok () (W.setCells g1 off vs) := by
    cases hq : P.info? ty with
    | none => simp [hq] at hi
    | some i =>
      have hz : vs.length = i.size := by simp [hq] at hi; omega
      simp only [Nat.add_zero] at hr
      simp [storeVar, sizeOf, typeInfo, hq, hv, hz, hr]
  unfold Oper.wp execOp
  simp only [ho, hx, hy, Instr.storeAt, Instr.sureAddr, Sem.run_bind, Sem.run_pure, Result.andThen_ok, hst]
  exact hK _ _ (h _ ⟨hrow.2.2 _ _ hs.l1 hs.hb, hs.l1, hs.l3, hs.n2, hs.n3, hrow.1, (hrow.2.1 _ hs.n2).trans hs.i2, (hrow.2.1 _ hs.n3).trans hs.i3⟩)
/-- A whole operation into the block that turns. -/
theorem all_event {P : Program} {ops : Array Oper} {op : Oper} {rest : List Oper} {a : Act} {Q : Exit → Act → World → Prop} {w W : World} {g1 g2 g3 c1 c2 c3 : Nat} {o1 o2 o3 : S45} {A1 A2 A3 : Option Addr} (hs : T3 w W g1 o1 A1 c1 g2 o2 A2 c2 g3 o3 A3 c3)
    (hw : Region.wanted op (yielded ops a.tmps) = true) (x y : Operand) (ho : op.op = .store 45 x y) (hx : a.eval x = .pointer (some ⟨g1, 0, none⟩)) (o1' : S45) (A1' : Option Addr) (c1' : Nat) (hy : a.eval y = .agg (opC o1' A1' c1')) (hi : (P.info? 45).map (·.size) = some 17)
    (h : ∀ W1, T3 w W1 g1 o1' A1' c1' g2 o2 A2 c2 g3 o3 A3 c3 → wpList P ops Q rest (a.put op.dst undef) W1) : wpList P ops Q (op :: rest) a W := by
  refine wpList_step fun K hK => ?_
  rw [if_pos hw]
  refine wp_store_row 45 x y ho g1 (opC o1' A1' c1') hx hy 45 (opC o1 A1 c1) hs.i1 hi rfl (by simp [opC, Value.oneCell']) ?_
  exact hK _ _ (h _ ⟨hs.hb.trans ⟨rfl, rfl, rfl, by simp [World.setRow], fun k hk => setRow_other _ _ _ _ (by have := hs.l1; omega)⟩, hs.l1, hs.l3, hs.n2, hs.n3, setRow_heap _ _ _ _ _ _ hs.i1, (setRow_other _ _ _ _ hs.n2).trans hs.i2, (setRow_other _ _ _ _ hs.n3).trans hs.i3⟩)
/-- The whole operation into the result's block. -/
theorem fin_event {P : Program} {ops : Array Oper} {op : Oper} {rest : List Oper} {a : Act} {Q : Exit → Act → World → Prop} {w W : World} {g1 g2 g3 c1 c2 c3 : Nat} {o1 o2 o3 : S45} {A1 A2 A3 : Option Addr} (hs : T3 w W g1 o1 A1 c1 g2 o2 A2 c2 g3 o3 A3 c3)
    (hw : Region.wanted op (yielded ops a.tmps) = true) (x y : Operand) (ho : op.op = .store 45 x y) (hx : a.eval x = .pointer (some ⟨g3, 0, none⟩)) (hy : a.eval y = .agg (opC o1 A1 c1)) (hi : (P.info? 45).map (·.size) = some 17)
    (h : ∀ W1, Below w.heap.size w W1 → IsOp W1 g3 o1 A1 c1 → wpList P ops Q rest (a.put op.dst undef) W1) : wpList P ops Q (op :: rest) a W := by
  refine wpList_step fun K hK => ?_
  rw [if_pos hw]
  refine wp_store_row 45 x y ho g3 (opC o1 A1 c1) hx hy 45 (opC o3 A3 c3) hs.i3 hi rfl (by simp [opC, Value.oneCell']) ?_
  exact hK _ _ (h _ (hs.hb.trans ⟨rfl, rfl, rfl, by simp [World.setRow], fun k hk => setRow_other _ _ _ _ (by have := hs.l3; omega)⟩) (setRow_heap _ _ _ _ _ _ hs.i3))

theorem size3 : (Tryd.prog.info? 3).map (·.size) = some 1 := by kernel_rfl
theorem size22 : (Tryd.prog.info? 22).map (·.size) = some 1 := by kernel_rfl
theorem size9 : (Tryd.prog.info? 9).map (·.size) = some 1 := by kernel_rfl
theorem size4 : (Tryd.prog.info? 4).map (·.size) = some 1 := by kernel_rfl
/-- The empty operation. -/
def z45 : S45 := ⟨⟨0, 0⟩, 0, [], ⟨0, ⟨#[]⟩⟩, 0, ⟨0, 0, 0⟩, ⟨0, 0, 0⟩, ⟨#[]⟩, ⟨#[]⟩, 0, false⟩
/-- What an operation has besides what its kind uses. -/
def restP (o : S45) : S45 := if o.f4 = 8 then ⟨⟨0, 0⟩, 0, [], ⟨0, ⟨#[]⟩⟩, 0, ⟨0, 0, 0⟩, ⟨0, 0, 0⟩, o.f7, o.f8, 0, false⟩ else if o.f4 = 7 then ⟨⟨0, 0⟩, 0, [], ⟨0, ⟨#[]⟩⟩, 0, ⟨0, 0, 0⟩, o.f6, o.f7, o.f8, 0, o.f10⟩ else if o.f4 = 5 then ⟨⟨0, 0⟩, 0, [], ⟨0, ⟨#[]⟩⟩, 0, o.f5, o.f6, o.f7, o.f8, 0, o.f10⟩ else if o.f4 = 1 then ⟨⟨0, 0⟩, 0, [], ⟨0, ⟨#[]⟩⟩, 0, ⟨0, 0, 0⟩, o.f6, o.f7, ⟨#[]⟩, o.f9, o.f10⟩ else if o.f4 = 6 then ⟨⟨0, 0⟩, 0, [], ⟨0, ⟨#[]⟩⟩, 0, ⟨0, 0, 0⟩, o.f6, o.f7, ⟨#[]⟩, o.f9, o.f10⟩ else if o.f4 = 2 then ⟨⟨0, 0⟩, 0, [], ⟨0, ⟨#[]⟩⟩, 0, ⟨0, 0, 0⟩, o.f6, o.f7, o.f8, o.f9, o.f10⟩ else if o.f4 = 3 then ⟨⟨0, 0⟩, 0, [], ⟨0, ⟨#[]⟩⟩, 0, o.f5, o.f6, ⟨#[]⟩, ⟨#[]⟩, o.f9, o.f10⟩ else if o.f4 = 4 then ⟨⟨0, 0⟩, 0, [], ⟨0, ⟨#[]⟩⟩, 0, o.f5, o.f6, ⟨#[]⟩, o.f8, o.f9, o.f10⟩ else ⟨⟨0, 0⟩, 0, [], ⟨0, ⟨#[]⟩⟩, 0, o.f5, o.f6, o.f7, o.f8, o.f9, o.f10⟩
theorem restP_f2 (o : S45) : (restP o).f2 = [] := by
  unfold restP
  repeat' split
  all_goals rfl
set_option maxHeartbeats 4000000 in
set_option maxRecDepth 100000 in
theorem rest_calls (o : S45) (A : Option Addr) (c : Nat) (w : World) :
    Calls Tryd.prog 61 #[.agg (opC o A c)] w fun e w' => e = .returned (.agg (opC (restP o) none 0)) ∧ Below w.heap.size w w' := by
  have hu45 := Tryd.underlying45
  have hu43 := Tryd.underlying43
  have hu41 := Tryd.underlying41
  have hu24 := Tryd.underlying24
  have HB := Aside0.mk (Below.refl w.heap.size w)
  generalize hq : restP o = R
  unfold restP at hq
  by_cases kp : o.f4 = 8
  have b8 : (o.f4 == 8) = true := by rw [kp]; rfl
  have b7 : (o.f4 == 7) = false := by rw [kp]; rfl
  have b5 : (o.f4 == 5) = false := by rw [kp]; rfl
  have b1 : (o.f4 == 1) = false := by rw [kp]; rfl
  have b6 : (o.f4 == 6) = false := by rw [kp]; rfl
  have b2 : (o.f4 == 2) = false := by rw [kp]; rfl
  have b3 : (o.f4 == 3) = false := by rw [kp]; rfl
  have b4 : (o.f4 == 4) = false := by rw [kp]; rfl
  rw [if_pos kp] at hq
  clear kp
  rotate_left
  have b8 : (o.f4 == 8) = false := beq_eq_false_iff_ne.mpr kp
  rw [if_neg kp] at hq
  clear kp
  by_cases kp : o.f4 = 7
  have b7 : (o.f4 == 7) = true := by rw [kp]; rfl
  have b5 : (o.f4 == 5) = false := by rw [kp]; rfl
  have b1 : (o.f4 == 1) = false := by rw [kp]; rfl
  have b6 : (o.f4 == 6) = false := by rw [kp]; rfl
  have b2 : (o.f4 == 2) = false := by rw [kp]; rfl
  have b3 : (o.f4 == 3) = false := by rw [kp]; rfl
  have b4 : (o.f4 == 4) = false := by rw [kp]; rfl
  rw [if_pos kp] at hq
  clear kp
  rotate_left
  have b7 : (o.f4 == 7) = false := beq_eq_false_iff_ne.mpr kp
  rw [if_neg kp] at hq
  clear kp
  by_cases kp : o.f4 = 5
  have b5 : (o.f4 == 5) = true := by rw [kp]; rfl
  have b1 : (o.f4 == 1) = false := by rw [kp]; rfl
  have b6 : (o.f4 == 6) = false := by rw [kp]; rfl
  have b2 : (o.f4 == 2) = false := by rw [kp]; rfl
  have b3 : (o.f4 == 3) = false := by rw [kp]; rfl
  have b4 : (o.f4 == 4) = false := by rw [kp]; rfl
  rw [if_pos kp] at hq
  clear kp
  rotate_left
  have b5 : (o.f4 == 5) = false := beq_eq_false_iff_ne.mpr kp
  rw [if_neg kp] at hq
  clear kp
  by_cases kp : o.f4 = 1
  have b1 : (o.f4 == 1) = true := by rw [kp]; rfl
  have b6 : (o.f4 == 6) = false := by rw [kp]; rfl
  have b2 : (o.f4 == 2) = false := by rw [kp]; rfl
  have b3 : (o.f4 == 3) = false := by rw [kp]; rfl
  have b4 : (o.f4 == 4) = false := by rw [kp]; rfl
  rw [if_pos kp] at hq
  clear kp
  rotate_left
  have b1 : (o.f4 == 1) = false := beq_eq_false_iff_ne.mpr kp
  rw [if_neg kp] at hq
  clear kp
  by_cases kp : o.f4 = 6
  have b6 : (o.f4 == 6) = true := by rw [kp]; rfl
  have b2 : (o.f4 == 2) = false := by rw [kp]; rfl
  have b3 : (o.f4 == 3) = false := by rw [kp]; rfl
  have b4 : (o.f4 == 4) = false := by rw [kp]; rfl
  rw [if_pos kp] at hq
  clear kp
  rotate_left
  have b6 : (o.f4 == 6) = false := beq_eq_false_iff_ne.mpr kp
  rw [if_neg kp] at hq
  clear kp
  by_cases kp : o.f4 = 2
  have b2 : (o.f4 == 2) = true := by rw [kp]; rfl
  have b3 : (o.f4 == 3) = false := by rw [kp]; rfl
  have b4 : (o.f4 == 4) = false := by rw [kp]; rfl
  rw [if_pos kp] at hq
  clear kp
  rotate_left
  have b2 : (o.f4 == 2) = false := beq_eq_false_iff_ne.mpr kp
  rw [if_neg kp] at hq
  clear kp
  by_cases kp : o.f4 = 3
  have b3 : (o.f4 == 3) = true := by rw [kp]; rfl
  have b4 : (o.f4 == 4) = false := by rw [kp]; rfl
  rw [if_pos kp] at hq
  clear kp
  rotate_left
  have b3 : (o.f4 == 3) = false := beq_eq_false_iff_ne.mpr kp
  rw [if_neg kp] at hq
  clear kp
  by_cases kp : o.f4 = 4
  have b4 : (o.f4 == 4) = true := by rw [kp]; rfl
  rw [if_pos kp] at hq
  clear kp
  rotate_left
  have b4 : (o.f4 == 4) = false := beq_eq_false_iff_ne.mpr kp
  rw [if_neg kp] at hq
  clear kp
  all_goals
    subst hq
    go_enter Tryd.func61, Tryd.ntmps61
    go_wp2_with (first | ((with_reducible refine gate_dst (N := 1) rfl ?_); refine box_event ?hg (N := 1) ?hd (cs := opC o A c) (t := 45) ?hr ?_; (case hd => rfl); (case hg => rfl); (case hr => first | (go_simp; done) | (go_simp; rfl)); intro g hg w1 hbox hb; have n1_ := Aside0.mk (below_step HB.out hb); have n2_ := Aside0.mk (by rw [hg]; exact below_size HB.out : w.heap.size ≤ g); clear HB; have HB := n1_; have Gg := n2_; clear n1_ n2_;  have Bg := Aside0.mk hbox; clear hb hbox hg) | ((with_reducible refine gate_dst (N := 2) rfl ?_); refine box_event ?hg (N := 2) ?hd (cs := opC z45 none 0) (t := 45) ?hr ?_; (case hd => rfl); (case hg => rfl); (case hr => first | (go_simp; done) | (go_simp; rfl)); intro g3 hg w1 hbox hb; have n1_ := Aside0.mk (below_step HB.out hb); have n2_ := Aside0.mk (by rw [hg]; exact below_size HB.out : w.heap.size ≤ g3); clear HB; have HB := n1_; have Gg3 := n2_; clear n1_ n2_; have HS := Aside0.mk (show T3 w w1 g o A c g3 z45 none 0 g3 z45 none 0 from ⟨HB.out, Gg.out, Gg3.out, by have := blk_lt Bg.out; omega, by have := blk_lt Bg.out; omega, blk_below Bg.out hb, hbox, hbox⟩); clear HB Gg Gg3 Bg; clear hb hbox hg) | ((with_reducible refine gate_store (t := 24) (p := 5) rfl ?_); refine put_event HS.out (by rfl) 24 _ _ rfl 0 rfl (.agg #[.int .i64 0, .int .i64 0]) rfl [.int .i64 0, .int .i64 0] rfl size24 (by simp [Value.oneCell']) (Nat.le_of_ble_eq_true rfl) (fun x => { x with f0 := ⟨0, 0⟩ }) _ _ rfl ?_; intro W1 hs; clear HS; have HS := Aside0.mk hs; clear hs) | ((with_reducible refine gate_store (t := 3) (p := 6) rfl ?_); refine put_event HS.out (by rfl) 3 _ _ rfl 2 rfl (.int .i64 0) rfl [.int .i64 0] rfl size3 (by simp [Value.oneCell']) (Nat.le_of_ble_eq_true rfl) (fun x => { x with f1 := 0 }) _ _ rfl ?_; intro W1 hs; clear HS; have HS := Aside0.mk hs; clear hs) | ((with_reducible refine gate_store (t := 22) (p := 7) rfl ?_); refine put_event HS.out (by rfl) 22 _ _ rfl 3 rfl (.slice none 0 0) rfl [.slice none 0 0] rfl size22 (by simp [Value.oneCell']) (Nat.le_of_ble_eq_true rfl) (fun x => { x with f2 := [] }) none 0 rfl ?_; intro W1 hs; clear HS; have HS := Aside0.mk hs; clear hs) | ((with_reducible refine gate_store (t := 41) (p := 8) rfl ?_); refine put_event HS.out (by rfl) 41 _ _ rfl 4 rfl (.agg #[.int .i64 0, .string ⟨#[]⟩]) rfl [.int .i64 0, .string ⟨#[]⟩] rfl size41 (by simp [Value.oneCell']) (Nat.le_of_ble_eq_true rfl) (fun x => { x with f3 := ⟨0, ⟨#[]⟩⟩ }) _ _ rfl ?_; intro W1 hs; clear HS; have HS := Aside0.mk hs; have e6 := IsOp.c6 hs.i1; clear hs) | ((with_reducible refine gate_store (t := 43) (p := 27) rfl ?_); refine put_event HS.out (by rfl) 43 _ _ rfl 10 rfl (.agg #[.int .i64 0, .int .i64 0, .int .i64 0]) rfl [.int .i64 0, .int .i64 0, .int .i64 0] rfl size43 (by simp [Value.oneCell']) (Nat.le_of_ble_eq_true rfl) (fun x => { x with f6 := ⟨0, 0, 0⟩ }) _ _ rfl ?_; intro W1 hs; clear HS; have HS := Aside0.mk hs; clear hs) | ((with_reducible refine gate_store (t := 4) (p := 28) rfl ?_); refine put_event HS.out (by rfl) 4 _ _ rfl 16 rfl (.bool false) rfl [.bool false] rfl size4 (by simp [Value.oneCell']) (Nat.le_of_ble_eq_true rfl) (fun x => { x with f10 := false }) _ _ rfl ?_; intro W1 hs; clear HS; have HS := Aside0.mk hs; clear hs) | ((with_reducible refine gate_store (t := 43) (p := 30) rfl ?_); refine put_event HS.out (by rfl) 43 _ _ rfl 7 rfl (.agg #[.int .i64 0, .int .i64 0, .int .i64 0]) rfl [.int .i64 0, .int .i64 0, .int .i64 0] rfl size43 (by simp [Value.oneCell']) (Nat.le_of_ble_eq_true rfl) (fun x => { x with f5 := ⟨0, 0, 0⟩ }) _ _ rfl ?_; intro W1 hs; clear HS; have HS := Aside0.mk hs; clear hs) | ((with_reducible refine gate_store (t := 3) (p := 31) rfl ?_); refine put_event HS.out (by rfl) 3 _ _ rfl 15 rfl (.int .i64 0) rfl [.int .i64 0] rfl size3 (by simp [Value.oneCell']) (Nat.le_of_ble_eq_true rfl) (fun x => { x with f9 := 0 }) _ _ rfl ?_; intro W1 hs; clear HS; have HS := Aside0.mk hs; clear hs) | ((with_reducible refine gate_store (t := 9) (p := 32) rfl ?_); refine put_event HS.out (by rfl) 9 _ _ rfl 14 rfl (.string ⟨#[]⟩) rfl [.string ⟨#[]⟩] rfl size9 (by simp [Value.oneCell']) (Nat.le_of_ble_eq_true rfl) (fun x => { x with f8 := ⟨#[]⟩ }) _ _ rfl ?_; intro W1 hs; clear HS; have HS := Aside0.mk hs; clear hs) | ((with_reducible refine gate_store (t := 43) (p := 34) rfl ?_); refine put_event HS.out (by rfl) 43 _ _ rfl 7 rfl (.agg #[.int .i64 0, .int .i64 0, .int .i64 0]) rfl [.int .i64 0, .int .i64 0, .int .i64 0] rfl size43 (by simp [Value.oneCell']) (Nat.le_of_ble_eq_true rfl) (fun x => { x with f5 := ⟨0, 0, 0⟩ }) _ _ rfl ?_; intro W1 hs; clear HS; have HS := Aside0.mk hs; clear hs) | ((with_reducible refine gate_store (t := 9) (p := 35) rfl ?_); refine put_event HS.out (by rfl) 9 _ _ rfl 14 rfl (.string ⟨#[]⟩) rfl [.string ⟨#[]⟩] rfl size9 (by simp [Value.oneCell']) (Nat.le_of_ble_eq_true rfl) (fun x => { x with f8 := ⟨#[]⟩ }) _ _ rfl ?_; intro W1 hs; clear HS; have HS := Aside0.mk hs; clear hs) | ((with_reducible refine gate_store (t := 9) (p := 36) rfl ?_); refine put_event HS.out (by rfl) 9 _ _ rfl 13 rfl (.string ⟨#[]⟩) rfl [.string ⟨#[]⟩] rfl size9 (by simp [Value.oneCell']) (Nat.le_of_ble_eq_true rfl) (fun x => { x with f7 := ⟨#[]⟩ }) _ _ rfl ?_; intro W1 hs; clear HS; have HS := Aside0.mk hs; clear hs) | ((with_reducible refine gate_store (t := 3) (p := 37) rfl ?_); refine put_event HS.out (by rfl) 3 _ _ rfl 6 rfl (.int .i64 0) rfl [.int .i64 0] rfl size3 (by simp [Value.oneCell']) (Nat.le_of_ble_eq_true rfl) (fun x => { x with f4 := 0 }) _ _ rfl ?_; intro W1 hs; clear HS; have HS := Aside0.mk hs; clear hs) | ((with_reducible refine gate_dst (N := 38) rfl ?_); refine load_event (by rfl) 45 (.tmp 1) rfl _ rfl 45 _ (0, 0) _ HS.out.i1 Tryd.underlying45 rfl size45 ?_) | ((with_reducible refine gate_store (t := 45) (p := 2) rfl ?_); refine fin_event HS.out (by rfl) _ _ rfl rfl rfl size45 ?_; intro W1 hb hx; have HB := Aside0.mk hb; have HX := Aside0.mk hx; clear hb hx HS))
    refine bodyPost_ret (results_cell_row Tryd.results61 _ _ g3 45 _ (0, 0) _ rfl HX.out Tryd.underlying45 rfl size45) rfl ⟨?_, HB.out⟩
    rfl

/-- The operation with only the fields that its kind uses. -/
def usesP (o : S45) : S45 := if o.f4 = 1 then ⟨o.f0, o.f1, o.f2, o.f3, o.f4, o.f5, ⟨0, 0, 0⟩, ⟨#[]⟩, o.f8, 0, false⟩ else if o.f4 = 6 then ⟨o.f0, o.f1, o.f2, o.f3, o.f4, o.f5, ⟨0, 0, 0⟩, ⟨#[]⟩, o.f8, 0, false⟩ else if o.f4 = 2 then ⟨o.f0, o.f1, o.f2, o.f3, o.f4, o.f5, ⟨0, 0, 0⟩, ⟨#[]⟩, ⟨#[]⟩, 0, false⟩ else if o.f4 = 3 then ⟨o.f0, o.f1, o.f2, o.f3, o.f4, ⟨0, 0, 0⟩, ⟨0, 0, 0⟩, o.f7, o.f8, 0, false⟩ else if o.f4 = 4 then ⟨o.f0, o.f1, o.f2, o.f3, o.f4, ⟨0, 0, 0⟩, ⟨0, 0, 0⟩, o.f7, ⟨#[]⟩, 0, false⟩ else if o.f4 = 5 then ⟨o.f0, o.f1, o.f2, o.f3, o.f4, ⟨0, 0, 0⟩, ⟨0, 0, 0⟩, ⟨#[]⟩, ⟨#[]⟩, o.f9, false⟩ else if o.f4 = 7 then ⟨o.f0, o.f1, o.f2, o.f3, o.f4, o.f5, ⟨0, 0, 0⟩, ⟨#[]⟩, ⟨#[]⟩, o.f9, false⟩ else if o.f4 = 8 then ⟨o.f0, o.f1, o.f2, o.f3, o.f4, o.f5, o.f6, ⟨#[]⟩, ⟨#[]⟩, o.f9, o.f10⟩ else ⟨o.f0, o.f1, o.f2, o.f3, o.f4, ⟨0, 0, 0⟩, ⟨0, 0, 0⟩, ⟨#[]⟩, ⟨#[]⟩, 0, false⟩
theorem usesP_f2 (o : S45) : (usesP o).f2 = o.f2 := by
  unfold usesP
  repeat' split
  all_goals rfl
set_option maxHeartbeats 8000000 in
set_option maxRecDepth 100000 in
theorem uses_calls (o : S45) (A : Option Addr) (c : Nat) (w : World) :
    Calls Tryd.prog 64 #[.agg (opC o A c)] w fun e w' => e = .returned (.agg (opC (usesP o) A c)) ∧ Below w.heap.size w w' := by
  have hu45 := Tryd.underlying45
  have hu43 := Tryd.underlying43
  have hu41 := Tryd.underlying41
  have hu24 := Tryd.underlying24
  have HB := Aside0.mk (Below.refl w.heap.size w)
  generalize hq : usesP o = R
  unfold usesP at hq
  by_cases kp : o.f4 = 1
  have b1 : (o.f4 == 1) = true := by rw [kp]; rfl
  have b6 : (o.f4 == 6) = false := by rw [kp]; rfl
  have b2 : (o.f4 == 2) = false := by rw [kp]; rfl
  have b3 : (o.f4 == 3) = false := by rw [kp]; rfl
  have b4 : (o.f4 == 4) = false := by rw [kp]; rfl
  have b5 : (o.f4 == 5) = false := by rw [kp]; rfl
  have b7 : (o.f4 == 7) = false := by rw [kp]; rfl
  have b8 : (o.f4 == 8) = false := by rw [kp]; rfl
  rw [if_pos kp] at hq
  clear kp
  rotate_left
  have b1 : (o.f4 == 1) = false := beq_eq_false_iff_ne.mpr kp
  rw [if_neg kp] at hq
  clear kp
  by_cases kp : o.f4 = 6
  have b6 : (o.f4 == 6) = true := by rw [kp]; rfl
  have b2 : (o.f4 == 2) = false := by rw [kp]; rfl
  have b3 : (o.f4 == 3) = false := by rw [kp]; rfl
  have b4 : (o.f4 == 4) = false := by rw [kp]; rfl
  have b5 : (o.f4 == 5) = false := by rw [kp]; rfl
  have b7 : (o.f4 == 7) = false := by rw [kp]; rfl
  have b8 : (o.f4 == 8) = false := by rw [kp]; rfl
  rw [if_pos kp] at hq
  clear kp
  rotate_left
  have b6 : (o.f4 == 6) = false := beq_eq_false_iff_ne.mpr kp
  rw [if_neg kp] at hq
  clear kp
  by_cases kp : o.f4 = 2
  have b2 : (o.f4 == 2) = true := by rw [kp]; rfl
  have b3 : (o.f4 == 3) = false := by rw [kp]; rfl
  have b4 : (o.f4 == 4) = false := by rw [kp]; rfl
  have b5 : (o.f4 == 5) = false := by rw [kp]; rfl
  have b7 : (o.f4 == 7) = false := by rw [kp]; rfl
  have b8 : (o.f4 == 8) = false := by rw [kp]; rfl
  rw [if_pos kp] at hq
  clear kp
  rotate_left
  have b2 : (o.f4 == 2) = false := beq_eq_false_iff_ne.mpr kp
  rw [if_neg kp] at hq
  clear kp
  by_cases kp : o.f4 = 3
  have b3 : (o.f4 == 3) = true := by rw [kp]; rfl
  have b4 : (o.f4 == 4) = false := by rw [kp]; rfl
  have b5 : (o.f4 == 5) = false := by rw [kp]; rfl
  have b7 : (o.f4 == 7) = false := by rw [kp]; rfl
  have b8 : (o.f4 == 8) = false := by rw [kp]; rfl
  rw [if_pos kp] at hq
  clear kp
  rotate_left
  have b3 : (o.f4 == 3) = false := beq_eq_false_iff_ne.mpr kp
  rw [if_neg kp] at hq
  clear kp
  by_cases kp : o.f4 = 4
  have b4 : (o.f4 == 4) = true := by rw [kp]; rfl
  have b5 : (o.f4 == 5) = false := by rw [kp]; rfl
  have b7 : (o.f4 == 7) = false := by rw [kp]; rfl
  have b8 : (o.f4 == 8) = false := by rw [kp]; rfl
  rw [if_pos kp] at hq
  clear kp
  rotate_left
  have b4 : (o.f4 == 4) = false := beq_eq_false_iff_ne.mpr kp
  rw [if_neg kp] at hq
  clear kp
  by_cases kp : o.f4 = 5
  have b5 : (o.f4 == 5) = true := by rw [kp]; rfl
  have b7 : (o.f4 == 7) = false := by rw [kp]; rfl
  have b8 : (o.f4 == 8) = false := by rw [kp]; rfl
  rw [if_pos kp] at hq
  clear kp
  rotate_left
  have b5 : (o.f4 == 5) = false := beq_eq_false_iff_ne.mpr kp
  rw [if_neg kp] at hq
  clear kp
  by_cases kp : o.f4 = 7
  have b7 : (o.f4 == 7) = true := by rw [kp]; rfl
  have b8 : (o.f4 == 8) = false := by rw [kp]; rfl
  rw [if_pos kp] at hq
  clear kp
  rotate_left
  have b7 : (o.f4 == 7) = false := beq_eq_false_iff_ne.mpr kp
  rw [if_neg kp] at hq
  clear kp
  by_cases kp : o.f4 = 8
  have b8 : (o.f4 == 8) = true := by rw [kp]; rfl
  rw [if_pos kp] at hq
  clear kp
  rotate_left
  have b8 : (o.f4 == 8) = false := beq_eq_false_iff_ne.mpr kp
  rw [if_neg kp] at hq
  clear kp
  all_goals
    subst hq
    go_enter Tryd.func64, Tryd.ntmps64
    go_wp2_with (first | ((with_reducible refine gate_dst (N := 1) rfl ?_); refine box_event ?hg (N := 1) ?hd (cs := opC o A c) (t := 45) ?hr ?_; (case hd => rfl); (case hg => rfl); (case hr => first | (go_simp; done) | (go_simp; rfl)); intro g hg w1 hbox hb; have n1_ := Aside0.mk (below_step HB.out hb); have n2_ := Aside0.mk (by rw [hg]; exact below_size HB.out : w.heap.size ≤ g); clear HB; have HB := n1_; have Gg := n2_; clear n1_ n2_;  have Bg := Aside0.mk hbox; clear hb hbox hg) | ((with_reducible refine gate_dst (N := 2) rfl ?_); refine box_event ?hg (N := 2) ?hd (cs := opC z45 none 0) (t := 45) ?hr ?_; (case hd => rfl); (case hg => rfl); (case hr => first | (go_simp; done) | (go_simp; rfl)); intro g3 hg w1 hbox hb; have n1_ := Aside0.mk (below_step HB.out hb); have n2_ := Aside0.mk (by rw [hg]; exact below_size HB.out : w.heap.size ≤ g3); clear HB; have HB := n1_; have Gg3 := n2_; clear n1_ n2_; have n3_ := Aside0.mk (blk_below Bg.out hb); have n4_ := Aside0.mk (show g ≠ g3 by have := blk_lt Bg.out; omega); clear Bg; have Bg := n3_; have N3 := n4_; clear n3_ n4_; have e0 := IsOp.c0 (A := A) (c := c) Bg.out; have e1 := IsOp.c1 (A := A) (c := c) Bg.out; have e2 := IsOp.c2 (A := A) (c := c) Bg.out; have e3 := IsOp.c3 (A := A) (c := c) Bg.out; have e4 := IsOp.c4 (A := A) (c := c) Bg.out; have e5 := IsOp.c5 (A := A) (c := c) Bg.out; have e6 := IsOp.c6 (A := A) (c := c) Bg.out;  have Bg3 := Aside0.mk hbox; clear hb hbox hg) | ((with_reducible refine gate_dst (N := 3) rfl ?_); refine box_event ?hg (N := 3) ?hd (cs := opC z45 none 0) (t := 45) ?hr ?_; (case hd => rfl); (case hg => rfl); (case hr => first | (go_simp; done) | (go_simp; rfl)); intro g1 hg w1 hbox hb; have n1_ := Aside0.mk (below_step HB.out hb); have n2_ := Aside0.mk (by rw [hg]; exact below_size HB.out : w.heap.size ≤ g1); clear HB; have HB := n1_; have Gg1 := n2_; clear n1_ n2_; clear e0 e1 e2 e3 e4 e5 e6; have HS := Aside0.mk (show T3 w w1 g1 z45 none 0 g o A c g3 z45 none 0 from ⟨HB.out, Gg1.out, Gg3.out, by have := blk_lt Bg.out; omega, by have := blk_lt Bg3.out; omega, hbox, blk_below Bg.out hb, blk_below Bg3.out hb⟩); clear HB Gg Gg1 Gg3 Bg Bg3; clear hb hbox hg) | ((with_reducible refine gate_store (t := 45) (p := 3) rfl ?_); refine all_event HS.out (by rfl) _ _ rfl rfl ⟨o.f0, o.f1, o.f2, o.f3, o.f4, ⟨0, 0, 0⟩, ⟨0, 0, 0⟩, ⟨#[]⟩, ⟨#[]⟩, 0, false⟩ A c rfl size45 ?_; intro W1 hs; clear HS; have HS := Aside0.mk hs; (try clear e6); (try clear e7 e8 e9 e10 e11 e12 e13 e14 e15 e16); have e6 := IsOp.c6 hs.i2; have e7 := IsOp.c7 hs.i2; have e8 := IsOp.c8 hs.i2; have e9 := IsOp.c9 hs.i2; have e10 := IsOp.c10 hs.i2; have e11 := IsOp.c11 hs.i2; have e12 := IsOp.c12 hs.i2; have e13 := IsOp.c13 hs.i2; have e14 := IsOp.c14 hs.i2; have e15 := IsOp.c15 hs.i2; have e16 := IsOp.c16 hs.i2; clear hs) | ((with_reducible refine gate_store (t := 43) (p := 22) rfl ?_); refine put_event HS.out (by rfl) 43 _ _ rfl 7 rfl (.agg #[.int .i64 o.f5.f0, .int .i64 o.f5.f1, .int .i64 o.f5.f2]) rfl [.int .i64 o.f5.f0, .int .i64 o.f5.f1, .int .i64 o.f5.f2] rfl size43 (by simp [Value.oneCell']) (Nat.le_of_ble_eq_true rfl) (fun x => { x with f5 := o.f5 }) _ _ rfl ?_; intro W1 hs; clear HS; have HS := Aside0.mk hs; (try clear e6); (try clear e7 e8 e9 e10 e11 e12 e13 e14 e15 e16); have e6 := IsOp.c6 hs.i2; have e7 := IsOp.c7 hs.i2; have e8 := IsOp.c8 hs.i2; have e9 := IsOp.c9 hs.i2; have e10 := IsOp.c10 hs.i2; have e11 := IsOp.c11 hs.i2; have e12 := IsOp.c12 hs.i2; have e13 := IsOp.c13 hs.i2; have e14 := IsOp.c14 hs.i2; have e15 := IsOp.c15 hs.i2; have e16 := IsOp.c16 hs.i2; clear hs) | ((with_reducible refine gate_store (t := 9) (p := 25) rfl ?_); refine put_event HS.out (by rfl) 9 _ _ rfl 14 rfl (.string o.f8) rfl [.string o.f8] rfl size9 (by simp [Value.oneCell']) (Nat.le_of_ble_eq_true rfl) (fun x => { x with f8 := o.f8 }) _ _ rfl ?_; intro W1 hs; clear HS; have HS := Aside0.mk hs; (try clear e6); (try clear e7 e8 e9 e10 e11 e12 e13 e14 e15 e16); have e6 := IsOp.c6 hs.i2; have e7 := IsOp.c7 hs.i2; have e8 := IsOp.c8 hs.i2; have e9 := IsOp.c9 hs.i2; have e10 := IsOp.c10 hs.i2; have e11 := IsOp.c11 hs.i2; have e12 := IsOp.c12 hs.i2; have e13 := IsOp.c13 hs.i2; have e14 := IsOp.c14 hs.i2; have e15 := IsOp.c15 hs.i2; have e16 := IsOp.c16 hs.i2; clear hs) | ((with_reducible refine gate_store (t := 43) (p := 30) rfl ?_); refine put_event HS.out (by rfl) 43 _ _ rfl 7 rfl (.agg #[.int .i64 o.f5.f0, .int .i64 o.f5.f1, .int .i64 o.f5.f2]) rfl [.int .i64 o.f5.f0, .int .i64 o.f5.f1, .int .i64 o.f5.f2] rfl size43 (by simp [Value.oneCell']) (Nat.le_of_ble_eq_true rfl) (fun x => { x with f5 := o.f5 }) _ _ rfl ?_; intro W1 hs; clear HS; have HS := Aside0.mk hs; (try clear e6); (try clear e7 e8 e9 e10 e11 e12 e13 e14 e15 e16); have e6 := IsOp.c6 hs.i2; have e7 := IsOp.c7 hs.i2; have e8 := IsOp.c8 hs.i2; have e9 := IsOp.c9 hs.i2; have e10 := IsOp.c10 hs.i2; have e11 := IsOp.c11 hs.i2; have e12 := IsOp.c12 hs.i2; have e13 := IsOp.c13 hs.i2; have e14 := IsOp.c14 hs.i2; have e15 := IsOp.c15 hs.i2; have e16 := IsOp.c16 hs.i2; clear hs) | ((with_reducible refine gate_store (t := 9) (p := 35) rfl ?_); refine put_event HS.out (by rfl) 9 _ _ rfl 13 rfl (.string o.f7) rfl [.string o.f7] rfl size9 (by simp [Value.oneCell']) (Nat.le_of_ble_eq_true rfl) (fun x => { x with f7 := o.f7 }) _ _ rfl ?_; intro W1 hs; clear HS; have HS := Aside0.mk hs; (try clear e6); (try clear e7 e8 e9 e10 e11 e12 e13 e14 e15 e16); have e6 := IsOp.c6 hs.i2; have e7 := IsOp.c7 hs.i2; have e8 := IsOp.c8 hs.i2; have e9 := IsOp.c9 hs.i2; have e10 := IsOp.c10 hs.i2; have e11 := IsOp.c11 hs.i2; have e12 := IsOp.c12 hs.i2; have e13 := IsOp.c13 hs.i2; have e14 := IsOp.c14 hs.i2; have e15 := IsOp.c15 hs.i2; have e16 := IsOp.c16 hs.i2; clear hs) | ((with_reducible refine gate_store (t := 9) (p := 38) rfl ?_); refine put_event HS.out (by rfl) 9 _ _ rfl 14 rfl (.string o.f8) rfl [.string o.f8] rfl size9 (by simp [Value.oneCell']) (Nat.le_of_ble_eq_true rfl) (fun x => { x with f8 := o.f8 }) _ _ rfl ?_; intro W1 hs; clear HS; have HS := Aside0.mk hs; (try clear e6); (try clear e7 e8 e9 e10 e11 e12 e13 e14 e15 e16); have e6 := IsOp.c6 hs.i2; have e7 := IsOp.c7 hs.i2; have e8 := IsOp.c8 hs.i2; have e9 := IsOp.c9 hs.i2; have e10 := IsOp.c10 hs.i2; have e11 := IsOp.c11 hs.i2; have e12 := IsOp.c12 hs.i2; have e13 := IsOp.c13 hs.i2; have e14 := IsOp.c14 hs.i2; have e15 := IsOp.c15 hs.i2; have e16 := IsOp.c16 hs.i2; clear hs) | ((with_reducible refine gate_store (t := 9) (p := 43) rfl ?_); refine put_event HS.out (by rfl) 9 _ _ rfl 13 rfl (.string o.f7) rfl [.string o.f7] rfl size9 (by simp [Value.oneCell']) (Nat.le_of_ble_eq_true rfl) (fun x => { x with f7 := o.f7 }) _ _ rfl ?_; intro W1 hs; clear HS; have HS := Aside0.mk hs; (try clear e6); (try clear e7 e8 e9 e10 e11 e12 e13 e14 e15 e16); have e6 := IsOp.c6 hs.i2; have e7 := IsOp.c7 hs.i2; have e8 := IsOp.c8 hs.i2; have e9 := IsOp.c9 hs.i2; have e10 := IsOp.c10 hs.i2; have e11 := IsOp.c11 hs.i2; have e12 := IsOp.c12 hs.i2; have e13 := IsOp.c13 hs.i2; have e14 := IsOp.c14 hs.i2; have e15 := IsOp.c15 hs.i2; have e16 := IsOp.c16 hs.i2; clear hs) | ((with_reducible refine gate_store (t := 3) (p := 48) rfl ?_); refine put_event HS.out (by rfl) 3 _ _ rfl 15 rfl (.int .i64 o.f9) rfl [.int .i64 o.f9] rfl size3 (by simp [Value.oneCell']) (Nat.le_of_ble_eq_true rfl) (fun x => { x with f9 := o.f9 }) _ _ rfl ?_; intro W1 hs; clear HS; have HS := Aside0.mk hs; (try clear e6); (try clear e7 e8 e9 e10 e11 e12 e13 e14 e15 e16); have e6 := IsOp.c6 hs.i2; have e7 := IsOp.c7 hs.i2; have e8 := IsOp.c8 hs.i2; have e9 := IsOp.c9 hs.i2; have e10 := IsOp.c10 hs.i2; have e11 := IsOp.c11 hs.i2; have e12 := IsOp.c12 hs.i2; have e13 := IsOp.c13 hs.i2; have e14 := IsOp.c14 hs.i2; have e15 := IsOp.c15 hs.i2; have e16 := IsOp.c16 hs.i2; clear hs) | ((with_reducible refine gate_store (t := 43) (p := 53) rfl ?_); refine put_event HS.out (by rfl) 43 _ _ rfl 7 rfl (.agg #[.int .i64 o.f5.f0, .int .i64 o.f5.f1, .int .i64 o.f5.f2]) rfl [.int .i64 o.f5.f0, .int .i64 o.f5.f1, .int .i64 o.f5.f2] rfl size43 (by simp [Value.oneCell']) (Nat.le_of_ble_eq_true rfl) (fun x => { x with f5 := o.f5 }) _ _ rfl ?_; intro W1 hs; clear HS; have HS := Aside0.mk hs; (try clear e6); (try clear e7 e8 e9 e10 e11 e12 e13 e14 e15 e16); have e6 := IsOp.c6 hs.i2; have e7 := IsOp.c7 hs.i2; have e8 := IsOp.c8 hs.i2; have e9 := IsOp.c9 hs.i2; have e10 := IsOp.c10 hs.i2; have e11 := IsOp.c11 hs.i2; have e12 := IsOp.c12 hs.i2; have e13 := IsOp.c13 hs.i2; have e14 := IsOp.c14 hs.i2; have e15 := IsOp.c15 hs.i2; have e16 := IsOp.c16 hs.i2; clear hs) | ((with_reducible refine gate_store (t := 3) (p := 56) rfl ?_); refine put_event HS.out (by rfl) 3 _ _ rfl 15 rfl (.int .i64 o.f9) rfl [.int .i64 o.f9] rfl size3 (by simp [Value.oneCell']) (Nat.le_of_ble_eq_true rfl) (fun x => { x with f9 := o.f9 }) _ _ rfl ?_; intro W1 hs; clear HS; have HS := Aside0.mk hs; (try clear e6); (try clear e7 e8 e9 e10 e11 e12 e13 e14 e15 e16); have e6 := IsOp.c6 hs.i2; have e7 := IsOp.c7 hs.i2; have e8 := IsOp.c8 hs.i2; have e9 := IsOp.c9 hs.i2; have e10 := IsOp.c10 hs.i2; have e11 := IsOp.c11 hs.i2; have e12 := IsOp.c12 hs.i2; have e13 := IsOp.c13 hs.i2; have e14 := IsOp.c14 hs.i2; have e15 := IsOp.c15 hs.i2; have e16 := IsOp.c16 hs.i2; clear hs) | ((with_reducible refine gate_store (t := 43) (p := 61) rfl ?_); refine put_event HS.out (by rfl) 43 _ _ rfl 7 rfl (.agg #[.int .i64 o.f5.f0, .int .i64 o.f5.f1, .int .i64 o.f5.f2]) rfl [.int .i64 o.f5.f0, .int .i64 o.f5.f1, .int .i64 o.f5.f2] rfl size43 (by simp [Value.oneCell']) (Nat.le_of_ble_eq_true rfl) (fun x => { x with f5 := o.f5 }) _ _ rfl ?_; intro W1 hs; clear HS; have HS := Aside0.mk hs; (try clear e6); (try clear e7 e8 e9 e10 e11 e12 e13 e14 e15 e16); have e6 := IsOp.c6 hs.i2; have e7 := IsOp.c7 hs.i2; have e8 := IsOp.c8 hs.i2; have e9 := IsOp.c9 hs.i2; have e10 := IsOp.c10 hs.i2; have e11 := IsOp.c11 hs.i2; have e12 := IsOp.c12 hs.i2; have e13 := IsOp.c13 hs.i2; have e14 := IsOp.c14 hs.i2; have e15 := IsOp.c15 hs.i2; have e16 := IsOp.c16 hs.i2; clear hs) | ((with_reducible refine gate_store (t := 43) (p := 64) rfl ?_); refine put_event HS.out (by rfl) 43 _ _ rfl 10 rfl (.agg #[.int .i64 o.f6.f0, .int .i64 o.f6.f1, .int .i64 o.f6.f2]) rfl [.int .i64 o.f6.f0, .int .i64 o.f6.f1, .int .i64 o.f6.f2] rfl size43 (by simp [Value.oneCell']) (Nat.le_of_ble_eq_true rfl) (fun x => { x with f6 := o.f6 }) _ _ rfl ?_; intro W1 hs; clear HS; have HS := Aside0.mk hs; (try clear e6); (try clear e7 e8 e9 e10 e11 e12 e13 e14 e15 e16); have e6 := IsOp.c6 hs.i2; have e7 := IsOp.c7 hs.i2; have e8 := IsOp.c8 hs.i2; have e9 := IsOp.c9 hs.i2; have e10 := IsOp.c10 hs.i2; have e11 := IsOp.c11 hs.i2; have e12 := IsOp.c12 hs.i2; have e13 := IsOp.c13 hs.i2; have e14 := IsOp.c14 hs.i2; have e15 := IsOp.c15 hs.i2; have e16 := IsOp.c16 hs.i2; clear hs) | ((with_reducible refine gate_store (t := 3) (p := 67) rfl ?_); refine put_event HS.out (by rfl) 3 _ _ rfl 15 rfl (.int .i64 o.f9) rfl [.int .i64 o.f9] rfl size3 (by simp [Value.oneCell']) (Nat.le_of_ble_eq_true rfl) (fun x => { x with f9 := o.f9 }) _ _ rfl ?_; intro W1 hs; clear HS; have HS := Aside0.mk hs; (try clear e6); (try clear e7 e8 e9 e10 e11 e12 e13 e14 e15 e16); have e6 := IsOp.c6 hs.i2; have e7 := IsOp.c7 hs.i2; have e8 := IsOp.c8 hs.i2; have e9 := IsOp.c9 hs.i2; have e10 := IsOp.c10 hs.i2; have e11 := IsOp.c11 hs.i2; have e12 := IsOp.c12 hs.i2; have e13 := IsOp.c13 hs.i2; have e14 := IsOp.c14 hs.i2; have e15 := IsOp.c15 hs.i2; have e16 := IsOp.c16 hs.i2; clear hs) | ((with_reducible refine gate_store (t := 4) (p := 70) rfl ?_); refine put_event HS.out (by rfl) 4 _ _ rfl 16 rfl (.bool o.f10) rfl [.bool o.f10] rfl size4 (by simp [Value.oneCell']) (Nat.le_of_ble_eq_true rfl) (fun x => { x with f10 := o.f10 }) _ _ rfl ?_; intro W1 hs; clear HS; have HS := Aside0.mk hs; (try clear e6); (try clear e7 e8 e9 e10 e11 e12 e13 e14 e15 e16); have e6 := IsOp.c6 hs.i2; have e7 := IsOp.c7 hs.i2; have e8 := IsOp.c8 hs.i2; have e9 := IsOp.c9 hs.i2; have e10 := IsOp.c10 hs.i2; have e11 := IsOp.c11 hs.i2; have e12 := IsOp.c12 hs.i2; have e13 := IsOp.c13 hs.i2; have e14 := IsOp.c14 hs.i2; have e15 := IsOp.c15 hs.i2; have e16 := IsOp.c16 hs.i2; clear hs) | ((with_reducible refine gate_dst (N := 71) rfl ?_); refine load_event (by rfl) 45 (.tmp 3) rfl _ rfl 45 _ (0, 0) _ HS.out.i1 Tryd.underlying45 rfl size45 ?_) | ((with_reducible refine gate_store (t := 45) (p := 2) rfl ?_); refine fin_event HS.out (by rfl) _ _ rfl rfl rfl size45 ?_; intro W1 hb hx; have HB := Aside0.mk hb; have HX := Aside0.mk hx; clear hb hx HS))
    refine bodyPost_ret (results_cell_row Tryd.results64 _ _ g3 45 _ (0, 0) _ rfl HX.out Tryd.underlying45 rfl size45) rfl ⟨?_, HB.out⟩
    rfl

end Go.Proofs.YtncejmjicjlanaaDoor.Q
