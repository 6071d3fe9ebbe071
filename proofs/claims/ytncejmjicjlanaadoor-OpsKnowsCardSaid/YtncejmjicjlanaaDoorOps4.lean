/- Contract of ops.Check: the error of an operation that is not valid, or none; nothing that was there changes. Conditions: the context reads as a list of at most 100000, the listed variables hold what their initialisers gave. -/
import Derived.Test.YtncejmjicjlanaaDoorOps2
import Derived.Test.YtncejmjicjlanaaDoorOps3
import Derived.Test.YtncejmjicjlanaaDoorKinds
import Derived.Test.YtncejmjicjlanaaDoorQ9
import Derived.Test.YtncejmjicjlanaaDoorCodB
namespace Go.Proofs.YtncejmjicjlanaaDoor.Q
open Go.RowKit Go.Proofs.YtncejmjicjlanaaDoorW.PrintWords Go.Proofs.YtncejmjicjlanaaDoorW.PrintLast Go.Proofs.YtncejmjicjlanaaDoorW.PrintMore
set_option linter.unusedVariables false
set_option linter.unusedSimpArgs false
/-- What the function of a kind says of the fields. -/
def fieldsP (o : S45) : Bool := if o.f4 = 1 then f1P o else if o.f4 = 2 then knP o o.f5 else if o.f4 = 3 then f3P o else if o.f4 = 4 then decide ((o.f7.size : Int) ≤ 64) else if o.f4 = 5 then f5P o else if o.f4 = 6 then f6P o else if o.f4 = 7 then f7P o else if o.f4 = 8 then f8P o else false
/-- What Check answers. -/
def opChk (o : S45) : Int := if chk2 [] [o.f0] = 0 then (if o.f1 < 1 then 170 else if 1099511627776 < o.f1 then 170 else if chk o.f2 = 0 then (if covP o.f2 o.f0.f0 o.f0.f1 = true then 170 else match kindAt o.f4 with | none => 170 | some pf => if o.f3.f0 = pf.1 then (if 64 < (o.f3.f1.size : Int) then 170 else if fieldsP o = true then (if sameP (restP o) z45 = true then 0 else 170) else 170) else 170) else 170) else 170
theorem kindAt_of {K p : Int} {f : Nat} (hk : kindAt K = some (p, f)) : (K = 1 ∧ f = 134) ∨ (K = 2 ∧ f = 136) ∨ (K = 3 ∧ f = 138) ∨ (K = 4 ∧ f = 139) ∨ (K = 5 ∧ f = 140) ∨ (K = 6 ∧ f = 141) ∨ (K = 7 ∧ f = 142) ∨ (K = 8 ∧ f = 143) := by
  unfold kindAt at hk
  repeat' split at hk
  all_goals first
    | cases hk; done
    | (simp only [Option.some.injEq, Prod.mk.injEq] at hk; obtain ⟨_, rfl⟩ := hk; simp [*])
theorem kind_fn {K p : Int} {f : Nat} (hk : kindAt K = some (p, f)) : ∃ fn, Tryd.prog.funcs[f]? = some fn ∧ (fn.name == "runtime.NumGoroutine") = false ∧ fn.body.isSome = true := by
  rcases kindAt_of hk with ⟨_, rfl⟩ | ⟨_, rfl⟩ | ⟨_, rfl⟩ | ⟨_, rfl⟩ | ⟨_, rfl⟩ | ⟨_, rfl⟩ | ⟨_, rfl⟩ | ⟨_, rfl⟩
  · exact ⟨_, Tryd.func134, by kernel_rfl, by kernel_rfl⟩
  · exact ⟨_, Tryd.func136, by kernel_rfl, by kernel_rfl⟩
  · exact ⟨_, Tryd.func138, by kernel_rfl, by kernel_rfl⟩
  · exact ⟨_, Tryd.func139, by kernel_rfl, by kernel_rfl⟩
  · exact ⟨_, Tryd.func140, by kernel_rfl, by kernel_rfl⟩
  · exact ⟨_, Tryd.func141, by kernel_rfl, by kernel_rfl⟩
  · exact ⟨_, Tryd.func142, by kernel_rfl, by kernel_rfl⟩
  · exact ⟨_, Tryd.func143, by kernel_rfl, by kernel_rfl⟩
theorem fields_calls (o : S45) (A : Option Addr) (c : Nat) (w : World) (hr : Kd.C k24 w A o.f2.length o.f2) (hc : o.f2.length ≤ c) {p : Int} {f : Nat} (hk : kindAt o.f4 = some (p, f)) :
    Calls Tryd.prog f #[.agg (opC o A c)] w fun e w' => e = .returned (.bool (fieldsP o)) ∧ Below w.heap.size w w' := by
  unfold fieldsP
  rcases kindAt_of hk with ⟨h, rfl⟩ | ⟨h, rfl⟩ | ⟨h, rfl⟩ | ⟨h, rfl⟩ | ⟨h, rfl⟩ | ⟨h, rfl⟩ | ⟨h, rfl⟩ | ⟨h, rfl⟩
  · simp only [h, Int.reduceEq, reduceIte]
    exact kinds1_calls o A c w hr hc
  · simp only [h, Int.reduceEq, reduceIte]
    exact kinds2_calls o A c w hr hc
  · simp only [h, Int.reduceEq, reduceIte]
    exact kinds3_calls o A c w hr hc
  · simp only [h, Int.reduceEq, reduceIte]
    exact kinds4_calls o A c w hr hc
  · simp only [h, Int.reduceEq, reduceIte]
    exact kinds5_calls o A c w hr hc
  · simp only [h, Int.reduceEq, reduceIte]
    exact kinds6_calls o A c w hr hc
  · simp only [h, Int.reduceEq, reduceIte]
    exact kinds7_calls o A c w hr hc
  · simp only [h, Int.reduceEq, reduceIte]
    exact kinds8_calls o A c w hr hc
/-- A struct into a whole row. -/
theorem row_event {P : Program} {ops : Array Oper} {op : Oper} {rest : List Oper} {a : Act} {Q : Exit → Act → World → Prop} {W : World} {g : Nat} {cs cs' : Array Value} {t ty : TypeId} (hg : W.heap[g]? = some (.cells cs t (0, 0)))
    (hw : Region.wanted op (yielded ops a.tmps) = true) (x y : Operand) (ho : op.op = .store ty x y) (hx : a.eval x = .pointer (some ⟨g, 0, none⟩)) (hy : a.eval y = .agg cs') (hi : (P.info? ty).map (·.size) = some cs'.size) (hs : cs.size = cs'.size) (h1 : cs'.all (·.oneCell') = true)
    (h : ∀ W1, W1.heap[g]? = some (.cells cs' t (0, 0)) → (∀ k, k ≠ g → W1.heap[k]? = W.heap[k]?) → (∀ B w0, B ≤ g → Below B w0 W → Below B w0 W1) → wpList P ops Q rest (a.put op.dst undef) W1) : wpList P ops Q (op :: rest) a W := by
  refine wpList_step fun K hK => ?_
  rw [if_pos hw]
  refine wp_store_row ty x y ho g cs' hx hy t cs hg hi hs h1 ?_
  exact hK _ _ (h _ (setRow_heap _ _ _ _ _ _ hg) (fun k hk => setRow_other _ _ _ _ hk) (fun B w0 hB hb => hb.trans ⟨rfl, rfl, rfl, by simp [World.setRow], fun k hk => setRow_other _ _ _ _ (by omega)⟩))
/-- A call of a function value, in a plain region. -/
theorem callF_event {P : Program} {ops : Array Oper} {op : Oper} {rest : List Oper} {a : Act} {Q : Exit → Act → World → Prop} {w : World} {f : FuncId} {fn : Func} {asx : Array Operand} {ts : Array TypeId} {x : Operand} {cap : Array Value}
    (hw : Region.wanted op (yielded ops a.tmps) = true) (hf : P.funcs[f]? = some fn) (hname : (fn.name == "runtime.NumGoroutine") = false) (hb : fn.body.isSome = true) (args : Array Value) (hop : op.op = .call { callee := .value x, args := asx, argTypes := ts }) (hx : a.eval x = .func (.func f) #[] cap) (hargs : asx.map a.eval ++ cap = args)
    (h : Calls P f args w fun e w' => ∃ v, e = .returned v ∧ wpList P ops Q rest (a.put op.dst v) w') : wpList P ops Q (op :: rest) a w :=
  wpList_step fun K hK => goesF_ hw rfl hf hname hb args hop hx hargs (h.mono fun e w' ⟨v, he, hk⟩ => ⟨v, he, hK _ _ hk⟩)
theorem size84 : (Tryd.prog.info? 84).map (·.size) = some 2 := by kernel_rfl

set_option maxHeartbeats 8000000 in
set_option maxRecDepth 100000 in
theorem opsCheck_calls (o : S45) (A : Option Addr) (c : Nat) (w : World) (hGG : GlobG w) (hGK : GlobK w) (hr : Kd.C k24 w A o.f2.length o.f2) (hc : o.f2.length ≤ c) (hl : o.f2.length ≤ 100000) :
    Calls Tryd.prog 36 #[.agg (opC o A c)] w fun e w' => e = .returned (.int .i64 (opChk o)) ∧ Below w.heap.size w w' := by
  have hu45 := Tryd.underlying45
  have hu84 := Tryd.underlying84
  have hu41 := Tryd.underlying41
  have hu24 := Tryd.underlying24
  have HR := Aside0.mk hr
  have HC := Aside0.mk hc
  have HG := Aside0.mk hGG
  have HK := Aside0.mk hGK
  have HL := Aside0.mk hl
  clear hr hc hGG hGK hl
  have HB := Aside0.mk (Below.refl w.heap.size w)
  have hW : ∃ r1, vector_With.f 5 [] o.f0.f0 o.f0.f1 = some (r1, chk2 [] [o.f0]) := by
    unfold vector_With.f
    rw [Join_eq 5 [] _ (by decide) (by simp) (by decide) (by simp), Option.bind_some]
    by_cases h : chk2 [] [(⟨o.f0.f0, o.f0.f1⟩ : S24)] = 0
    · exact ⟨_, by rw [if_pos h]; exact congrArg some (congrArg (Prod.mk _) h.symm)⟩
    · exact ⟨_, by rw [if_neg h]⟩
  obtain ⟨r1, hW⟩ := hW
  have HW := Aside0.mk hW
  clear hW
  generalize hq : opChk o = R
  unfold opChk at hq
  have HQ := Aside0.mk hq
  clear hq
  go_enter Tryd.func36, Tryd.ntmps36
  go_wp2_with (first | ((with_reducible refine gate_dst (N := 1) rfl ?_); refine box_event ?hg (N := 1) ?hd (cs := opC o A c) (t := 45) ?hr ?_; (case hd => rfl); (case hg => rfl); (case hr => first | (go_simp; done) | (go_simp; rfl)); intro g hg w1 hbox hb; have n1_ := Aside0.mk (below_step HB.out hb); have n2_ := Aside0.mk (by rw [hg]; exact below_size HB.out : w.heap.size ≤ g); clear HB; have HB := n1_; have Gg := n2_; clear n1_ n2_; have e0 := IsOp.c0 hbox; have e1 := IsOp.c1 hbox; have HO := Aside0.mk (show IsOp w1 g o A c from hbox); clear hb hbox hg))
  clear e0 e1
  refine (vector_With.calls 5 none 0 [] o.f0.f0 o.f0.f1 r1 _ _ (GlobG_below HG.out HB.out) (Kd.C_nil _ _) (Nat.le_refl _) HW.out).mono ?_
  rintro e W1 ⟨v1, rfl, _, hb⟩
  clear HW
  have HO_ := Aside0.mk (IsOp.below HO.out hb)
  have HB_ := Aside0.mk (below_step HB.out hb)
  clear HO HB
  have HO := HO_
  have HB := HB_
  clear HO_ HB_ hb
  have e2 := IsOp.c2 HO.out
  have e3 := IsOp.c3 HO.out
  by_cases k1 : chk2 [] [o.f0] = 0
  rotate_left
  · have b1 : (chk2 [] [o.f0] != 0) = true := bne_iff_ne.mpr k1
    obtain rfl : 170 = R := by have := HQ.out; rw [if_neg k1] at this; exact this
    clear HQ
    go_wp2
    go_ret
    exact ⟨rfl, HB.out⟩
  have b1 : (chk2 [] [o.f0] != 0) = false := bne_eq_false_iff_eq.mpr k1
  have HQ_ := HQ.out
  clear HQ
  rw [if_pos k1] at HQ_
  have HQ := Aside0.mk HQ_
  clear HQ_
  clear k1
  by_cases k2 : o.f1 < 1
  · have b2 := decide_eq_true k2
    obtain rfl : 170 = R := by have := HQ.out; rw [if_pos k2] at this; exact this
    clear HQ
    go_wp2
    go_ret
    exact ⟨rfl, HB.out⟩
  have HQ_ := HQ.out
  clear HQ
  rw [if_neg k2] at HQ_
  have HQ := Aside0.mk HQ_
  clear HQ_
  have b2 := decide_eq_false k2
  clear k2
  by_cases k3 : 1099511627776 < o.f1
  · have b3 := decide_eq_true k3
    obtain rfl : 170 = R := by have := HQ.out; rw [if_pos k3] at this; exact this
    clear HQ
    go_wp2
    go_ret
    exact ⟨rfl, HB.out⟩
  have HQ_ := HQ.out
  clear HQ
  rw [if_neg k3] at HQ_
  have HQ := Aside0.mk HQ_
  clear HQ_
  have b3 := decide_eq_false k3
  clear k3
  go_wp2_with fail
  clear e2 e3
  refine (vector_Check.calls (o.f2.length + 1) A c o.f2 _ _ (Kd.C_below HR.out HB.out) HC.out (vCheck_eq _ _ HL.out (by omega))).mono ?_
  rintro e W2 ⟨rfl, hb⟩
  have HO_ := Aside0.mk (IsOp.below HO.out hb)
  have HB_ := Aside0.mk (below_step HB.out hb)
  clear HO HB
  have HO := HO_
  have HB := HB_
  clear HO_ HB_ hb
  have e0 := IsOp.c0 HO.out
  have e1 := IsOp.c1 HO.out
  have e3 := IsOp.c3 HO.out
  by_cases k4 : chk o.f2 = 0
  rotate_left
  · have b4 : (chk o.f2 != 0) = true := bne_iff_ne.mpr k4
    obtain rfl : 170 = R := by have := HQ.out; rw [if_neg k4] at this; exact this
    clear HQ
    go_wp2
    go_ret
    exact ⟨rfl, HB.out⟩
  have b4 : (chk o.f2 != 0) = false := bne_eq_false_iff_eq.mpr k4
  have HQ_ := HQ.out
  clear HQ
  rw [if_pos k4] at HQ_
  have HQ := Aside0.mk HQ_
  clear HQ_
  clear k4
  go_wp2_with fail
  clear e0 e1 e3
  refine (vector_Covers.calls A c o.f2 o.f0.f0 o.f0.f1 _ _ (Kd.C_below HR.out HB.out) HC.out (covers_eq _ _ _)).mono ?_
  rintro e W3 ⟨rfl, hb⟩
  have HO_ := Aside0.mk (IsOp.below HO.out hb)
  have HB_ := Aside0.mk (below_step HB.out hb)
  clear HO HB
  have HO := HO_
  have HB := HB_
  clear HO_ HB_ hb
  have e4 := IsOp.c4 HO.out
  have e5 := IsOp.c5 HO.out
  have e6 := IsOp.c6 HO.out
  by_cases k5 : covP o.f2 o.f0.f0 o.f0.f1 = true
  · rw [k5]
    obtain rfl : 170 = R := by have := HQ.out; rw [if_pos k5] at this; exact this
    clear HQ
    go_wp2
    go_ret
    exact ⟨rfl, HB.out⟩
  have HQ_ := HQ.out
  clear HQ
  rw [if_neg k5] at HQ_
  have HQ := Aside0.mk HQ_
  clear HQ_
  have k5' : covP o.f2 o.f0.f0 o.f0.f1 = false := by simpa using k5
  rw [k5']
  clear k5 k5'
  obtain ⟨bm, hg2, hlk⟩ := look_some (GlobK_below HK.out HB.out)
  replace hlk := hlk o.f4
  cases hkd : kindAt o.f4 with
  | none =>
    rw [hkd] at hlk
    dsimp only at hlk
    obtain rfl : 170 = R := by have := HQ.out; rw [hkd] at this; exact this
    clear HQ hkd
    go_wp2_with (first | ((with_reducible refine gate_dst (N := 5) rfl ?_); refine box_event ?hg (N := 5) ?hd (cs := #[.int .i64 0, .nilFunc]) (t := 84) ?hr ?_; (case hd => rfl); (case hg => rfl); (case hr => first | (go_simp; done) | (go_simp; rfl)); intro g5 hg w5 hbox hb; have n0_ := Aside0.mk (show g ≠ g5 by have := blk_lt HO.out; omega); have n1_ := Aside0.mk (below_step HB.out hb); have n2_ := Aside0.mk (by rw [hg]; exact below_size HB.out : w.heap.size ≤ g5); have n3_ := Aside0.mk (IsOp.below HO.out hb); clear HB HO; have HB := n1_; have G5 := n2_; have HO := n3_; have N5 := n0_; clear n0_ n1_ n2_ n3_ e4 e5 e6; have e4 := IsOp.c4 HO.out; have e5 := IsOp.c5 HO.out; have B5 := Aside0.mk hbox; clear hb hbox hg) | ((with_reducible refine gate_store (t := 84) (p := 5) rfl ?_); refine row_event B5.out (by rfl) _ _ rfl rfl (cs' := #[.int .i64 0, .nilFunc]) rfl size84 rfl (by simp [Value.oneCell']) ?_; intro w6 h1 h2 h3; have n1_ := Aside0.mk (h3 _ _ G5.out HB.out); have n3_ := Aside0.mk (show IsOp w6 g o A c from (h2 _ N5.out).trans HO.out); clear HB HO B5 e4 e5; have HB := n1_; have HO := n3_; clear n1_ n3_; have e4 := IsOp.c4 HO.out; have e5 := IsOp.c5 HO.out; have d0 := (blk_cell h1 0).trans (show _ = some (.int .i64 0) from rfl); have d1 := (blk_cell h1 1).trans (show _ = some (.nilFunc) from rfl); have B5 := Aside0.mk h1; clear h1 h2 h3))
    go_ret
    exact ⟨rfl, HB.out⟩
  | some pf =>
    obtain ⟨p, f⟩ := pf
    rw [hkd] at hlk
    dsimp only at hlk
    have HKD := Aside0.mk hkd
    have HQ_ := HQ.out
    clear HQ
    rw [hkd] at HQ_
    dsimp only at HQ_
    have HQ := Aside0.mk HQ_
    clear HQ_ hkd
    obtain ⟨fn, hfn1, hfn2, hfn3⟩ := kind_fn HKD.out
    by_cases k6 : o.f3.f0 = p
    rotate_left
    · have b6 : (o.f3.f0 != p) = true := bne_iff_ne.mpr k6
      obtain rfl : 170 = R := by have := HQ.out; rw [if_neg k6] at this; exact this
      clear HQ
      go_wp2_with (first | ((with_reducible refine gate_dst (N := 5) rfl ?_); refine box_event ?hg (N := 5) ?hd (cs := #[.int .i64 0, .nilFunc]) (t := 84) ?hr ?_; (case hd => rfl); (case hg => rfl); (case hr => first | (go_simp; done) | (go_simp; rfl)); intro g5 hg w5 hbox hb; have n0_ := Aside0.mk (show g ≠ g5 by have := blk_lt HO.out; omega); have n1_ := Aside0.mk (below_step HB.out hb); have n2_ := Aside0.mk (by rw [hg]; exact below_size HB.out : w.heap.size ≤ g5); have n3_ := Aside0.mk (IsOp.below HO.out hb); clear HB HO; have HB := n1_; have G5 := n2_; have HO := n3_; have N5 := n0_; clear n0_ n1_ n2_ n3_ e4 e5 e6; have e4 := IsOp.c4 HO.out; have e5 := IsOp.c5 HO.out; have B5 := Aside0.mk hbox; clear hb hbox hg) | ((with_reducible refine gate_store (t := 84) (p := 5) rfl ?_); refine row_event B5.out (by rfl) _ _ rfl rfl (cs' := #[.int .i64 p, .func (.func f) #[] #[]]) rfl size84 rfl (by simp [Value.oneCell']) ?_; intro w6 h1 h2 h3; have n1_ := Aside0.mk (h3 _ _ G5.out HB.out); have n3_ := Aside0.mk (show IsOp w6 g o A c from (h2 _ N5.out).trans HO.out); clear HB HO B5 e4 e5; have HB := n1_; have HO := n3_; clear n1_ n3_; have e4 := IsOp.c4 HO.out; have e5 := IsOp.c5 HO.out; have d0 := (blk_cell h1 0).trans (show _ = some (.int .i64 p) from rfl); have d1 := (blk_cell h1 1).trans (show _ = some (.func (.func f) #[] #[]) from rfl); have B5 := Aside0.mk h1; clear h1 h2 h3))
      go_ret
      exact ⟨rfl, HB.out⟩
    have b6 : (o.f3.f0 != p) = false := bne_eq_false_iff_eq.mpr k6
    have HQ_ := HQ.out
    clear HQ
    rw [if_pos k6] at HQ_
    have HQ := Aside0.mk HQ_
    clear HQ_
    clear k6
    by_cases k7 : 64 < (o.f3.f1.size : Int)
    · have b7 := decide_eq_true k7
      obtain rfl : 170 = R := by have := HQ.out; rw [if_pos k7] at this; exact this
      clear HQ
      go_wp2_with (first | ((with_reducible refine gate_dst (N := 5) rfl ?_); refine box_event ?hg (N := 5) ?hd (cs := #[.int .i64 0, .nilFunc]) (t := 84) ?hr ?_; (case hd => rfl); (case hg => rfl); (case hr => first | (go_simp; done) | (go_simp; rfl)); intro g5 hg w5 hbox hb; have n0_ := Aside0.mk (show g ≠ g5 by have := blk_lt HO.out; omega); have n1_ := Aside0.mk (below_step HB.out hb); have n2_ := Aside0.mk (by rw [hg]; exact below_size HB.out : w.heap.size ≤ g5); have n3_ := Aside0.mk (IsOp.below HO.out hb); clear HB HO; have HB := n1_; have G5 := n2_; have HO := n3_; have N5 := n0_; clear n0_ n1_ n2_ n3_ e4 e5 e6; have e4 := IsOp.c4 HO.out; have e5 := IsOp.c5 HO.out; have B5 := Aside0.mk hbox; clear hb hbox hg) | ((with_reducible refine gate_store (t := 84) (p := 5) rfl ?_); refine row_event B5.out (by rfl) _ _ rfl rfl (cs' := #[.int .i64 p, .func (.func f) #[] #[]]) rfl size84 rfl (by simp [Value.oneCell']) ?_; intro w6 h1 h2 h3; have n1_ := Aside0.mk (h3 _ _ G5.out HB.out); have n3_ := Aside0.mk (show IsOp w6 g o A c from (h2 _ N5.out).trans HO.out); clear HB HO B5 e4 e5; have HB := n1_; have HO := n3_; clear n1_ n3_; have e4 := IsOp.c4 HO.out; have e5 := IsOp.c5 HO.out; have d0 := (blk_cell h1 0).trans (show _ = some (.int .i64 p) from rfl); have d1 := (blk_cell h1 1).trans (show _ = some (.func (.func f) #[] #[]) from rfl); have B5 := Aside0.mk h1; clear h1 h2 h3))
      go_ret
      exact ⟨rfl, HB.out⟩
    have b7 := decide_eq_false k7
    have HQ_ := HQ.out
    clear HQ
    rw [if_neg k7] at HQ_
    have HQ := Aside0.mk HQ_
    clear HQ_
    clear k7
    cases hfp : fieldsP o
    · obtain rfl : 170 = R := by have := HQ.out; rw [if_neg (by rw [hfp]; decide)] at this; exact this
      clear HQ
      go_wp2_with (first | ((with_reducible refine gate_dst (N := 5) rfl ?_); refine box_event ?hg (N := 5) ?hd (cs := #[.int .i64 0, .nilFunc]) (t := 84) ?hr ?_; (case hd => rfl); (case hg => rfl); (case hr => first | (go_simp; done) | (go_simp; rfl)); intro g5 hg w5 hbox hb; have n0_ := Aside0.mk (show g ≠ g5 by have := blk_lt HO.out; omega); have n1_ := Aside0.mk (below_step HB.out hb); have n2_ := Aside0.mk (by rw [hg]; exact below_size HB.out : w.heap.size ≤ g5); have n3_ := Aside0.mk (IsOp.below HO.out hb); clear HB HO; have HB := n1_; have G5 := n2_; have HO := n3_; have N5 := n0_; clear n0_ n1_ n2_ n3_ e4 e5 e6; have e4 := IsOp.c4 HO.out; have e5 := IsOp.c5 HO.out; have B5 := Aside0.mk hbox; clear hb hbox hg) | ((with_reducible refine gate_store (t := 84) (p := 5) rfl ?_); refine row_event B5.out (by rfl) _ _ rfl rfl (cs' := #[.int .i64 p, .func (.func f) #[] #[]]) rfl size84 rfl (by simp [Value.oneCell']) ?_; intro w6 h1 h2 h3; have n1_ := Aside0.mk (h3 _ _ G5.out HB.out); have n3_ := Aside0.mk (show IsOp w6 g o A c from (h2 _ N5.out).trans HO.out); clear HB HO B5 e4 e5; have HB := n1_; have HO := n3_; clear n1_ n3_; have e4 := IsOp.c4 HO.out; have e5 := IsOp.c5 HO.out; have d0 := (blk_cell h1 0).trans (show _ = some (.int .i64 p) from rfl); have d1 := (blk_cell h1 1).trans (show _ = some (.func (.func f) #[] #[]) from rfl); have B5 := Aside0.mk h1; clear h1 h2 h3) | ((with_reducible refine gate_dst (N := 65) rfl ?_); refine load_event (by rfl) 45 (.tmp 1) rfl g rfl 45 (opC o A c) (0, 0) _ HO.out Tryd.underlying45 rfl size45 ?_) | ((with_reducible refine gate_dst (N := 66) rfl ?_); refine callF_event (by rfl) hfn1 hfn2 hfn3 #[.agg (opC o A c)] rfl rfl (by simp only [List.map_toArray, List.map_cons, List.map_nil]; rfl) ((fields_calls o A c _ (Kd.C_below HR.out HB.out) HC.out HKD.out).mono ?_); rw [hfp]; rintro e w7 ⟨rfl, hb⟩; refine ⟨_, rfl, ?_⟩; have n1_ := Aside0.mk (below_step HB.out hb); have n3_ := Aside0.mk (IsOp.below HO.out hb); clear HB HO hb; have HB := n1_; have HO := n3_; clear n1_ n3_))
      go_ret
      exact ⟨rfl, HB.out⟩
    have HQ_ := HQ.out
    clear HQ
    rw [if_pos hfp] at HQ_
    have HQ := Aside0.mk HQ_
    clear HQ_
    go_wp2_with (first | ((with_reducible refine gate_dst (N := 5) rfl ?_); refine box_event ?hg (N := 5) ?hd (cs := #[.int .i64 0, .nilFunc]) (t := 84) ?hr ?_; (case hd => rfl); (case hg => rfl); (case hr => first | (go_simp; done) | (go_simp; rfl)); intro g5 hg w5 hbox hb; have n0_ := Aside0.mk (show g ≠ g5 by have := blk_lt HO.out; omega); have n1_ := Aside0.mk (below_step HB.out hb); have n2_ := Aside0.mk (by rw [hg]; exact below_size HB.out : w.heap.size ≤ g5); have n3_ := Aside0.mk (IsOp.below HO.out hb); clear HB HO; have HB := n1_; have G5 := n2_; have HO := n3_; have N5 := n0_; clear n0_ n1_ n2_ n3_ e4 e5 e6; have e4 := IsOp.c4 HO.out; have e5 := IsOp.c5 HO.out; have B5 := Aside0.mk hbox; clear hb hbox hg) | ((with_reducible refine gate_store (t := 84) (p := 5) rfl ?_); refine row_event B5.out (by rfl) _ _ rfl rfl (cs' := #[.int .i64 p, .func (.func f) #[] #[]]) rfl size84 rfl (by simp [Value.oneCell']) ?_; intro w6 h1 h2 h3; have n1_ := Aside0.mk (h3 _ _ G5.out HB.out); have n3_ := Aside0.mk (show IsOp w6 g o A c from (h2 _ N5.out).trans HO.out); clear HB HO B5 e4 e5; have HB := n1_; have HO := n3_; clear n1_ n3_; have e4 := IsOp.c4 HO.out; have e5 := IsOp.c5 HO.out; have d0 := (blk_cell h1 0).trans (show _ = some (.int .i64 p) from rfl); have d1 := (blk_cell h1 1).trans (show _ = some (.func (.func f) #[] #[]) from rfl); have B5 := Aside0.mk h1; clear h1 h2 h3) | ((with_reducible refine gate_dst (N := 65) rfl ?_); refine load_event (by rfl) 45 (.tmp 1) rfl g rfl 45 (opC o A c) (0, 0) _ HO.out Tryd.underlying45 rfl size45 ?_) | ((with_reducible refine gate_dst (N := 66) rfl ?_); refine callF_event (by rfl) hfn1 hfn2 hfn3 #[.agg (opC o A c)] rfl rfl (by simp only [List.map_toArray, List.map_cons, List.map_nil]; rfl) ((fields_calls o A c _ (Kd.C_below HR.out HB.out) HC.out HKD.out).mono ?_); rw [hfp]; rintro e w7 ⟨rfl, hb⟩; refine ⟨_, rfl, ?_⟩; have n1_ := Aside0.mk (below_step HB.out hb); have n3_ := Aside0.mk (IsOp.below HO.out hb); clear HB HO hb; have HB := n1_; have HO := n3_; clear n1_ n3_) | ((with_reducible refine gate_dst (N := 70) rfl ?_); refine load_event (by rfl) 45 (.tmp 1) rfl g rfl 45 (opC o A c) (0, 0) _ HO.out Tryd.underlying45 rfl size45 ?_))
    refine (rest_calls o A c _).mono ?_
    rintro e W8 ⟨rfl, hb⟩
    have HB_ := Aside0.mk (below_step HB.out hb)
    clear HB HO B5 d0 d1 e4 e5 hb
    have HB := HB_
    clear HB_
    go_wp2_with fail
    refine (oSame_calls (restP o) z45 none none 0 0 _ (by rw [restP_f2]; exact Kd.C_nil _ _) (by rw [restP_f2]; exact Nat.le_refl _) (Kd.C_nil _ _) (Nat.le_refl _) (by rw [restP_f2]; exact Nat.zero_le _)).mono ?_
    rintro e W9 ⟨rfl, hb⟩
    have HB_ := Aside0.mk (below_step HB.out hb)
    clear HB hb
    have HB := HB_
    clear HB_
    cases hs : sameP (restP o) z45
    · obtain rfl : 170 = R := by have := HQ.out; rw [if_neg (by rw [hs]; decide)] at this; exact this
      clear HQ
      go_wp2
      go_ret
      exact ⟨rfl, HB.out⟩
    · obtain rfl : 0 = R := by have := HQ.out; rw [if_pos hs] at this; exact this
      clear HQ
      go_wp2
      go_ret
      exact ⟨rfl, HB.out⟩

end Go.Proofs.YtncejmjicjlanaaDoor.Q
