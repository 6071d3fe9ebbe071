/- Contracts of ops.knows, ops.begins and of the functions of the kinds of operations: what they say of an operation; nothing that was there changes. Conditions: the context reads as the list. -/
import Derived.Test.YtncejmjicjlanaaDoorOps0
import Derived.Test.YtncejmjicjlanaaDoorQ7
namespace Go.Proofs.YtncejmjicjlanaaDoor.Q
open Go.RowKit Go.Proofs.YtncejmjicjlanaaDoorW.PrintWords Go.Proofs.YtncejmjicjlanaaDoorW.PrintLast Go.Proofs.YtncejmjicjlanaaDoorW.PrintMore
set_option linter.unusedVariables false
set_option linter.unusedSimpArgs false
/-- Is a dot covered? -/
def covP (l : List S24) (d s : Int) : Bool := if s ≥ 1 then decide (s ≤ atN l d) else false
theorem covers_eq (l : List S24) (d s : Int) : vector_Covers.f l d s = some (covP l d s) := by
  unfold vector_Covers.f covP vector_At.f
  split <;> rfl
/-- A block that holds an ID. -/
def IsId (w : World) (g : Nat) (x : S43) : Prop := w.heap[g]? = some (.cells #[.int .i64 x.f0, .int .i64 x.f1, .int .i64 x.f2] 43 (0, 0))
theorem IsId.cells {w : World} {g : Nat} {x : S43} (h : IsId w g x) : w.cell? ⟨g, 0, none⟩ = some (.int .i64 x.f0) ∧ w.cell? ⟨g, 1, none⟩ = some (.int .i64 x.f1) ∧ w.cell? ⟨g, 2, none⟩ = some (.int .i64 x.f2) := ⟨(blk_cell h 0).trans rfl, (blk_cell h 1).trans rfl, (blk_cell h 2).trans rfl⟩
theorem IsId.below {w w1 : World} {g : Nat} {x : S43} (h : IsId w g x) (hb : Below w.heap.size w w1) : IsId w1 g x := blk_below h hb
/-- A load of a whole struct, in a plain region. -/
theorem load_event {P : Program} {ops : Array Oper} {o : Oper} {rest : List Oper} {a : Act} {w : World} {Q : Exit → Act → World → Prop} (hw : Region.wanted o (yielded ops a.tmps) = true) (ty : TypeId) (x : Operand) (ho : o.op = .load ty x)
    (g : Nat) (hx : a.eval x = .pointer (some ⟨g, 0, none⟩)) (t : TypeId) (cs : Array Value) (fr : Nat × Nat) (d : TypeDesc) (hg : w.heap[g]? = some (.cells cs t fr))
    (hu : P.underlying ty = some d) (hd : (match d with | .struct _ | .array _ _ => true | _ => false) = true) (hi : (P.info? ty).map (·.size) = some cs.size)
    (h : wpList P ops Q rest (a.put o.dst (.agg cs)) w) : wpList P ops Q (o :: rest) a w :=
  wpList_step fun K hK => by rw [if_pos hw]; exact wp_load_row ty x ho g hx t cs fr d hg hu hd hi (hK _ _ h)
theorem eqA41 (d : Nat) (w : World) (x0 y0 : Int) (x1 y1 : ByteArray) :
    (Op.equalIn (d + 2) 41 (.agg #[.int .i64 x0, .string x1]) (.agg #[.int .i64 y0, .string y1])).run Tryd.prog w = .ok (x0 == y0 && (x1.toList == y1.toList)) w := by
  refine eqA_of Tryd.underlying41 (by kernel_rfl) ?_
  refine eqf_cons (by rfl) (by go_simp; rfl) (by go_simp; rfl) (by go_simp) ?_
  exact eqf_last (by rfl) (by go_simp; rfl) (by go_simp; rfl) (by go_simp)
theorem eqA43 (d : Nat) (w : World) (x0 y0 : Int) (x1 y1 : Int) (x2 y2 : Int) :
    (Op.equalIn (d + 2) 43 (.agg #[.int .i64 x0, .int .i64 x1, .int .i64 x2]) (.agg #[.int .i64 y0, .int .i64 y1, .int .i64 y2])).run Tryd.prog w = .ok (x0 == y0 && (x1 == y1 && (x2 == y2))) w := by
  refine eqA_of Tryd.underlying43 (by kernel_rfl) ?_
  refine eqf_cons (by rfl) (by go_simp; rfl) (by go_simp; rfl) (by go_simp) ?_
  refine eqf_cons (by rfl) (by go_simp; rfl) (by go_simp; rfl) (by go_simp) ?_
  exact eqf_last (by rfl) (by go_simp; rfl) (by go_simp; rfl) (by go_simp)
/-- Does an operation know an ID? -/
def knP (o : S45) (x : S43) : Bool := if x.f0 < 0 then false else if 512 ≤ x.f0 then false else if x.f1 < 1 then false else if 1048576 < x.f1 then false else if x.f2 < 0 then false else if 63 < x.f2 then false else if covP o.f2 x.f0 x.f1 = true then true else if x.f0 = o.f0.f0 then decide (x.f1 < o.f0.f1) else false
theorem knP_at {o : S45} {x : S43} (h : knP o x = true) : 0 ≤ x.f2 ∧ x.f2 ≤ 63 := by
  unfold knP at h
  repeat' split at h
  all_goals first
    | cases h; done
    | omega
/-- Is there no cell? -/
def noId (x : S43) : Bool := x.f0 == 0 && (x.f1 == 0 && x.f2 == 0)
def beP (o : S45) : Bool := if noId o.f5 = true then true else knP o o.f5

set_option maxHeartbeats 4000000 in
set_option maxRecDepth 100000 in
theorem knows_calls (o : S45) (A : Option Addr) (c : Nat) (x : S43) (w : World) (hr : Kd.C k24 w A o.f2.length o.f2) (hc : o.f2.length ≤ c) :
    Calls Tryd.prog 137 #[.agg (opC o A c), idV x] w fun e w' => e = .returned (.bool (knP o x)) ∧ Below w.heap.size w w' := by
  have hu45 := Tryd.underlying45
  have hu43 := Tryd.underlying43
  have hu24 := Tryd.underlying24
  have HR := Aside0.mk hr
  have HC := Aside0.mk hc
  clear hr hc
  have HB := Aside0.mk (Below.refl w.heap.size w)
  unfold idV knP
  by_cases kp : x.f0 < 0
  rotate_left
  rw [if_neg kp]
  have d0 := decide_eq_false kp
  clear kp
  by_cases kp : 512 ≤ x.f0
  rotate_left
  rw [if_neg kp]
  have d1 := decide_eq_false kp
  clear kp
  by_cases kp : x.f1 < 1
  rotate_left
  rw [if_neg kp]
  have d2 := decide_eq_false kp
  clear kp
  by_cases kp : 1048576 < x.f1
  rotate_left
  rw [if_neg kp]
  have d3 := decide_eq_false kp
  clear kp
  by_cases kp : x.f2 < 0
  rotate_left
  rw [if_neg kp]
  have d4 := decide_eq_false kp
  clear kp
  by_cases kp : 63 < x.f2
  rotate_left
  rw [if_neg kp]
  have d5 := decide_eq_false kp
  clear kp
  · generalize hq : (if covP o.f2 x.f0 x.f1 = true then true else if x.f0 = o.f0.f0 then decide (x.f1 < o.f0.f1) else false) = R
    have HQ := Aside0.mk hq
    clear hq
    go_enter Tryd.func137, Tryd.ntmps137
    go_wp2_with (first | ((with_reducible refine gate_dst (N := 2) rfl ?_); refine box_event ?hg (N := 2) ?hd (cs := opC o A c) (t := 45) ?hr ?_; (case hd => rfl); (case hg => rfl); (case hr => first | (go_simp; done) | (go_simp; rfl)); intro g hg w1 hbox hb; have n1_ := Aside0.mk (below_step HB.out hb); have n2_ := Aside0.mk (by rw [hg]; exact below_size HB.out : w.heap.size ≤ g); clear HB; have HB := n1_; have Gg := n2_; clear n1_ n2_;  have Bg := Aside0.mk hbox; clear hb hbox hg) | ((with_reducible refine gate_dst (N := 3) rfl ?_); refine box_event ?hg (N := 3) ?hd (cs := #[.int .i64 x.f0, .int .i64 x.f1, .int .i64 x.f2]) (t := 43) ?hr ?_; (case hd => rfl); (case hg => rfl); (case hr => first | (go_simp; done) | (go_simp; rfl)); intro g2 hg w1 hbox hb; have n1_ := Aside0.mk (below_step HB.out hb); have n2_ := Aside0.mk (by rw [hg]; exact below_size HB.out : w.heap.size ≤ g2); clear HB; have HB := n1_; have Gg2 := n2_; clear n1_ n2_; have n3_ := Aside0.mk (blk_below Bg.out hb); clear Bg; have Bg := n3_; clear n3_; obtain ⟨c0, c1, c2⟩ := IsId.cells hbox; have e0 := IsOp.c0 Bg.out; have e1 := IsOp.c1 Bg.out; have e3 := IsOp.c3 Bg.out; have Bg2 := Aside0.mk hbox; clear hb hbox hg))
    clear d0 d1 d2 d3 d4 d5 c0 c1 c2 e0 e1 e3
    refine (vector_Covers.calls A c o.f2 x.f0 x.f1 _ _ (Kd.C_below HR.out HB.out) HC.out (covers_eq _ _ _)).mono ?_
    rintro e W2 ⟨rfl, hb⟩
    have H2 := Aside0.mk (below_step HB.out hb)
    obtain ⟨c0, c1, c2⟩ := IsId.cells (IsId.below Bg2.out hb)
    have e0 := IsOp.c0 (IsOp.below Bg.out hb)
    have e1 := IsOp.c1 (IsOp.below Bg.out hb)
    clear hb HB Bg Bg2
    by_cases q1 : covP o.f2 x.f0 x.f1 = true
    · rw [q1]
      obtain rfl : true = R := by rw [← HQ.out, if_pos q1]
      go_wp2
      go_ret
      exact ⟨rfl, H2.out⟩
    · have q0 : covP o.f2 x.f0 x.f1 = false := by simpa using q1
      rw [q0]
      by_cases q2 : x.f0 = o.f0.f0
      · have b2 : (x.f0 == o.f0.f0) = true := beq_iff_eq.mpr q2
        obtain rfl : decide (x.f1 < o.f0.f1) = R := by rw [← HQ.out, if_neg q1, if_pos q2]
        clear q2 q1 HQ
        go_wp2
        go_ret
        exact ⟨rfl, H2.out⟩
      · have b2 : (x.f0 == o.f0.f0) = false := beq_eq_false_iff_ne.mpr q2
        obtain rfl : false = R := by rw [← HQ.out, if_neg q1, if_neg q2]
        clear q2 q1 HQ
        go_wp2
        go_ret
        exact ⟨rfl, H2.out⟩
  all_goals
    rw [if_pos kp]
    have dp := decide_eq_true kp
    clear kp
    go_enter Tryd.func137, Tryd.ntmps137
    go_wp2_with (first | ((with_reducible refine gate_dst (N := 2) rfl ?_); refine box_event ?hg (N := 2) ?hd (cs := opC o A c) (t := 45) ?hr ?_; (case hd => rfl); (case hg => rfl); (case hr => first | (go_simp; done) | (go_simp; rfl)); intro g hg w1 hbox hb; have n1_ := Aside0.mk (below_step HB.out hb); have n2_ := Aside0.mk (by rw [hg]; exact below_size HB.out : w.heap.size ≤ g); clear HB; have HB := n1_; have Gg := n2_; clear n1_ n2_;  have Bg := Aside0.mk hbox; clear hb hbox hg) | ((with_reducible refine gate_dst (N := 3) rfl ?_); refine box_event ?hg (N := 3) ?hd (cs := #[.int .i64 x.f0, .int .i64 x.f1, .int .i64 x.f2]) (t := 43) ?hr ?_; (case hd => rfl); (case hg => rfl); (case hr => first | (go_simp; done) | (go_simp; rfl)); intro g2 hg w1 hbox hb; have n1_ := Aside0.mk (below_step HB.out hb); have n2_ := Aside0.mk (by rw [hg]; exact below_size HB.out : w.heap.size ≤ g2); clear HB; have HB := n1_; have Gg2 := n2_; clear n1_ n2_; have n3_ := Aside0.mk (blk_below Bg.out hb); clear Bg; have Bg := n3_; clear n3_; obtain ⟨c0, c1, c2⟩ := IsId.cells hbox; have e0 := IsOp.c0 Bg.out; have e1 := IsOp.c1 Bg.out; have e3 := IsOp.c3 Bg.out; have Bg2 := Aside0.mk hbox; clear hb hbox hg))
    go_ret
    exact ⟨rfl, HB.out⟩

set_option maxHeartbeats 4000000 in
set_option maxRecDepth 100000 in
theorem begins_calls (o : S45) (A : Option Addr) (c : Nat) (w : World) (hr : Kd.C k24 w A o.f2.length o.f2) (hc : o.f2.length ≤ c) :
    Calls Tryd.prog 135 #[.agg (opC o A c)] w fun e w' => e = .returned (.bool (beP o)) ∧ Below w.heap.size w w' := by
  have hu45 := Tryd.underlying45
  have hu43 := Tryd.underlying43
  have HR := Aside0.mk hr
  have HC := Aside0.mk hc
  clear hr hc
  have HB := Aside0.mk (Below.refl w.heap.size w)
  generalize hq : beP o = R
  have HQ := Aside0.mk hq
  clear hq
  have q43 := eqA43
  cases hz : noId o.f5
  · obtain rfl : knP o o.f5 = R := by rw [← HQ.out]; simp [beP, hz]
    unfold noId at hz
    go_enter Tryd.func135, Tryd.ntmps135
    go_wp2_with (first | ((with_reducible refine gate_dst (N := 1) rfl ?_); refine box_event ?hg (N := 1) ?hd (cs := opC o A c) (t := 45) ?hr ?_; (case hd => rfl); (case hg => rfl); (case hr => first | (go_simp; done) | (go_simp; rfl)); intro g hg w1 hbox hb; have n1_ := Aside0.mk (below_step HB.out hb); have n2_ := Aside0.mk (by rw [hg]; exact below_size HB.out : w.heap.size ≤ g); clear HB; have HB := n1_; have Gg := n2_; clear n1_ n2_; have e7 := IsOp.c7 hbox; have e8 := IsOp.c8 hbox; have e9 := IsOp.c9 hbox;  have Bg := Aside0.mk hbox; clear hb hbox hg) | ((with_reducible refine gate_dst (N := 8) rfl ?_); refine load_event (by rfl) 45 (.tmp 1) rfl g rfl 45 (opC o A c) (0, 0) _ Bg.out Tryd.underlying45 rfl size45 ?_))
    clear e7 e8 e9
    refine (knows_calls o A c o.f5 _ (Kd.C_below HR.out HB.out) HC.out).mono ?_
    rintro e W2 ⟨rfl, hb⟩
    have H2 := Aside0.mk (below_step HB.out hb)
    clear hb HB Bg
    go_wp2
    go_ret
    exact ⟨rfl, H2.out⟩
  · obtain rfl : true = R := by rw [← HQ.out]; simp [beP, hz]
    unfold noId at hz
    go_enter Tryd.func135, Tryd.ntmps135
    go_wp2_with (first | ((with_reducible refine gate_dst (N := 1) rfl ?_); refine box_event ?hg (N := 1) ?hd (cs := opC o A c) (t := 45) ?hr ?_; (case hd => rfl); (case hg => rfl); (case hr => first | (go_simp; done) | (go_simp; rfl)); intro g hg w1 hbox hb; have n1_ := Aside0.mk (below_step HB.out hb); have n2_ := Aside0.mk (by rw [hg]; exact below_size HB.out : w.heap.size ≤ g); clear HB; have HB := n1_; have Gg := n2_; clear n1_ n2_; have e7 := IsOp.c7 hbox; have e8 := IsOp.c8 hbox; have e9 := IsOp.c9 hbox;  have Bg := Aside0.mk hbox; clear hb hbox hg) | ((with_reducible refine gate_dst (N := 8) rfl ?_); refine load_event (by rfl) 45 (.tmp 1) rfl g rfl 45 (opC o A c) (0, 0) _ Bg.out Tryd.underlying45 rfl size45 ?_))
    go_ret
    exact ⟨rfl, HB.out⟩

/-- What the functions of the kinds say. -/
def f1P (o : S45) : Bool := if beP o = true then decide ((o.f8.size : Int) ≤ 4096) else false
def f3P (o : S45) : Bool := if (o.f7.size : Int) ≤ 64 then decide ((o.f8.size : Int) ≤ 4096) else false
def f5P (o : S45) : Bool := if -1125899906842624 ≤ o.f9 then decide (o.f9 ≤ 1125899906842624) else false
def f6P (o : S45) : Bool := if beP o = true then (if 1 ≤ (o.f8.size : Int) then decide ((o.f8.size : Int) ≤ 64) else false) else false
def f7P (o : S45) : Bool := if knP o o.f5 = true then (if 1 ≤ o.f9 then decide (o.f9 ≤ 64 - o.f5.f2) else false) else false
def f8P (o : S45) : Bool := if knP o o.f5 = true then (if knP o o.f6 = true then (if 0 ≤ o.f9 then decide (o.f9 ≤ 15) else false) else false) else false

set_option maxHeartbeats 4000000 in
set_option maxRecDepth 100000 in
theorem kinds1_calls (o : S45) (A : Option Addr) (c : Nat) (w : World) (hr : Kd.C k24 w A o.f2.length o.f2) (hc : o.f2.length ≤ c) :
    Calls Tryd.prog 134 #[.agg (opC o A c)] w fun e w' => e = .returned (.bool (f1P o)) ∧ Below w.heap.size w w' := by
  have hu45 := Tryd.underlying45
  have hu43 := Tryd.underlying43
  have HR := Aside0.mk hr
  have HC := Aside0.mk hc
  clear hr hc
  have HB := Aside0.mk (Below.refl w.heap.size w)
  generalize hq : f1P o = R
  have HQ := Aside0.mk hq
  clear hq
  go_enter Tryd.func134, Tryd.ntmps134
  go_wp2_with (first | ((with_reducible refine gate_dst (N := 1) rfl ?_); refine box_event ?hg (N := 1) ?hd (cs := opC o A c) (t := 45) ?hr ?_; (case hd => rfl); (case hg => rfl); (case hr => first | (go_simp; done) | (go_simp; rfl)); intro g hg w1 hbox hb; have n1_ := Aside0.mk (below_step HB.out hb); have n2_ := Aside0.mk (by rw [hg]; exact below_size HB.out : w.heap.size ≤ g); clear HB; have HB := n1_; have Gg := n2_; clear n1_ n2_; have e14 := IsOp.c14 hbox;  have Bg := Aside0.mk hbox; clear hb hbox hg) | ((with_reducible refine gate_dst (N := 3) rfl ?_); refine load_event (by rfl) 45 (.tmp 1) rfl g rfl 45 (opC o A c) (0, 0) _ Bg.out Tryd.underlying45 rfl size45 ?_))
  clear e14
  refine (begins_calls o A c _ (Kd.C_below HR.out HB.out) HC.out).mono ?_
  rintro e W2 ⟨rfl, hb⟩
  have H2 := Aside0.mk (below_step HB.out hb)
  have e14 := IsOp.c14 (IsOp.below Bg.out hb)
  clear hb HB Bg
  cases hz : beP o
  · obtain rfl : false = R := by rw [← HQ.out]; simp [f1P, hz]
    go_wp2
    go_ret
    exact ⟨rfl, H2.out⟩
  · obtain rfl : decide ((o.f8.size : Int) ≤ 4096) = R := by rw [← HQ.out]; simp [f1P, hz]
    go_wp2
    go_ret
    exact ⟨rfl, H2.out⟩

set_option maxHeartbeats 4000000 in
set_option maxRecDepth 100000 in
theorem kinds2_calls (o : S45) (A : Option Addr) (c : Nat) (w : World) (hr : Kd.C k24 w A o.f2.length o.f2) (hc : o.f2.length ≤ c) :
    Calls Tryd.prog 136 #[.agg (opC o A c)] w fun e w' => e = .returned (.bool (knP o o.f5)) ∧ Below w.heap.size w w' := by
  have hu45 := Tryd.underlying45
  have hu43 := Tryd.underlying43
  have HR := Aside0.mk hr
  have HC := Aside0.mk hc
  clear hr hc
  have HB := Aside0.mk (Below.refl w.heap.size w)
  generalize hq : knP o o.f5 = R
  have HQ := Aside0.mk hq
  clear hq
  go_enter Tryd.func136, Tryd.ntmps136
  go_wp2_with (first | ((with_reducible refine gate_dst (N := 1) rfl ?_); refine box_event ?hg (N := 1) ?hd (cs := opC o A c) (t := 45) ?hr ?_; (case hd => rfl); (case hg => rfl); (case hr => first | (go_simp; done) | (go_simp; rfl)); intro g hg w1 hbox hb; have n1_ := Aside0.mk (below_step HB.out hb); have n2_ := Aside0.mk (by rw [hg]; exact below_size HB.out : w.heap.size ≤ g); clear HB; have HB := n1_; have Gg := n2_; clear n1_ n2_; have e7 := IsOp.c7 hbox; have e8 := IsOp.c8 hbox; have e9 := IsOp.c9 hbox;  have Bg := Aside0.mk hbox; clear hb hbox hg) | ((with_reducible refine gate_dst (N := 3) rfl ?_); refine load_event (by rfl) 45 (.tmp 1) rfl g rfl 45 (opC o A c) (0, 0) _ Bg.out Tryd.underlying45 rfl size45 ?_))
  clear e7 e8 e9
  refine (knows_calls o A c o.f5 _ (Kd.C_below HR.out HB.out) HC.out).mono ?_
  rintro e W2 ⟨rfl, hb⟩
  have H2 := Aside0.mk (below_step HB.out hb)
  clear hb HB Bg
  obtain rfl := HQ.out
  go_wp2
  go_ret
  exact ⟨rfl, H2.out⟩

set_option maxHeartbeats 4000000 in
set_option maxRecDepth 100000 in
theorem kinds3_calls (o : S45) (A : Option Addr) (c : Nat) (w : World) (hr : Kd.C k24 w A o.f2.length o.f2) (hc : o.f2.length ≤ c) :
    Calls Tryd.prog 138 #[.agg (opC o A c)] w fun e w' => e = .returned (.bool (f3P o)) ∧ Below w.heap.size w w' := by
  have hu45 := Tryd.underlying45
  have hu43 := Tryd.underlying43
  have HR := Aside0.mk hr
  have HC := Aside0.mk hc
  clear hr hc
  have HB := Aside0.mk (Below.refl w.heap.size w)
  generalize hq : f3P o = R
  have HQ := Aside0.mk hq
  clear hq
  by_cases h1 : (o.f7.size : Int) ≤ 64
  · obtain rfl : decide ((o.f8.size : Int) ≤ 4096) = R := by rw [← HQ.out]; simp [f3P, h1]
    have b1 := decide_eq_true h1
    clear h1
    go_enter Tryd.func138, Tryd.ntmps138
    go_wp2_with (first | ((with_reducible refine gate_dst (N := 1) rfl ?_); refine box_event ?hg (N := 1) ?hd (cs := opC o A c) (t := 45) ?hr ?_; (case hd => rfl); (case hg => rfl); (case hr => first | (go_simp; done) | (go_simp; rfl)); intro g hg w1 hbox hb; have n1_ := Aside0.mk (below_step HB.out hb); have n2_ := Aside0.mk (by rw [hg]; exact below_size HB.out : w.heap.size ≤ g); clear HB; have HB := n1_; have Gg := n2_; clear n1_ n2_; have e13 := IsOp.c13 hbox; have e14 := IsOp.c14 hbox;  have Bg := Aside0.mk hbox; clear hb hbox hg))
    go_ret
    exact ⟨rfl, HB.out⟩
  · obtain rfl : false = R := by rw [← HQ.out]; simp [f3P, h1]
    have b1 := decide_eq_false h1
    clear h1
    go_enter Tryd.func138, Tryd.ntmps138
    go_wp2_with (first | ((with_reducible refine gate_dst (N := 1) rfl ?_); refine box_event ?hg (N := 1) ?hd (cs := opC o A c) (t := 45) ?hr ?_; (case hd => rfl); (case hg => rfl); (case hr => first | (go_simp; done) | (go_simp; rfl)); intro g hg w1 hbox hb; have n1_ := Aside0.mk (below_step HB.out hb); have n2_ := Aside0.mk (by rw [hg]; exact below_size HB.out : w.heap.size ≤ g); clear HB; have HB := n1_; have Gg := n2_; clear n1_ n2_; have e13 := IsOp.c13 hbox; have e14 := IsOp.c14 hbox;  have Bg := Aside0.mk hbox; clear hb hbox hg))
    go_ret
    exact ⟨rfl, HB.out⟩

set_option maxHeartbeats 4000000 in
set_option maxRecDepth 100000 in
theorem kinds4_calls (o : S45) (A : Option Addr) (c : Nat) (w : World) (hr : Kd.C k24 w A o.f2.length o.f2) (hc : o.f2.length ≤ c) :
    Calls Tryd.prog 139 #[.agg (opC o A c)] w fun e w' => e = .returned (.bool (decide ((o.f7.size : Int) ≤ 64))) ∧ Below w.heap.size w w' := by
  have hu45 := Tryd.underlying45
  have hu43 := Tryd.underlying43
  have HR := Aside0.mk hr
  have HC := Aside0.mk hc
  clear hr hc
  have HB := Aside0.mk (Below.refl w.heap.size w)
  generalize hq : decide ((o.f7.size : Int) ≤ 64) = R
  have HQ := Aside0.mk hq
  clear hq
  obtain rfl := HQ.out
  go_enter Tryd.func139, Tryd.ntmps139
  go_wp2_with (first | ((with_reducible refine gate_dst (N := 1) rfl ?_); refine box_event ?hg (N := 1) ?hd (cs := opC o A c) (t := 45) ?hr ?_; (case hd => rfl); (case hg => rfl); (case hr => first | (go_simp; done) | (go_simp; rfl)); intro g hg w1 hbox hb; have n1_ := Aside0.mk (below_step HB.out hb); have n2_ := Aside0.mk (by rw [hg]; exact below_size HB.out : w.heap.size ≤ g); clear HB; have HB := n1_; have Gg := n2_; clear n1_ n2_; have e13 := IsOp.c13 hbox;  have Bg := Aside0.mk hbox; clear hb hbox hg))
  go_ret
  exact ⟨rfl, HB.out⟩

set_option maxHeartbeats 4000000 in
set_option maxRecDepth 100000 in
theorem kinds5_calls (o : S45) (A : Option Addr) (c : Nat) (w : World) (hr : Kd.C k24 w A o.f2.length o.f2) (hc : o.f2.length ≤ c) :
    Calls Tryd.prog 140 #[.agg (opC o A c)] w fun e w' => e = .returned (.bool (f5P o)) ∧ Below w.heap.size w w' := by
  have hu45 := Tryd.underlying45
  have hu43 := Tryd.underlying43
  have HR := Aside0.mk hr
  have HC := Aside0.mk hc
  clear hr hc
  have HB := Aside0.mk (Below.refl w.heap.size w)
  generalize hq : f5P o = R
  have HQ := Aside0.mk hq
  clear hq
  by_cases h1 : -1125899906842624 ≤ o.f9
  · obtain rfl : decide (o.f9 ≤ 1125899906842624) = R := by rw [← HQ.out]; simp [f5P, h1]
    have b1 := decide_eq_true h1
    clear h1
    go_enter Tryd.func140, Tryd.ntmps140
    go_wp2_with (first | ((with_reducible refine gate_dst (N := 1) rfl ?_); refine box_event ?hg (N := 1) ?hd (cs := opC o A c) (t := 45) ?hr ?_; (case hd => rfl); (case hg => rfl); (case hr => first | (go_simp; done) | (go_simp; rfl)); intro g hg w1 hbox hb; have n1_ := Aside0.mk (below_step HB.out hb); have n2_ := Aside0.mk (by rw [hg]; exact below_size HB.out : w.heap.size ≤ g); clear HB; have HB := n1_; have Gg := n2_; clear n1_ n2_; have e15 := IsOp.c15 hbox;  have Bg := Aside0.mk hbox; clear hb hbox hg))
    go_ret
    exact ⟨rfl, HB.out⟩
  · obtain rfl : false = R := by rw [← HQ.out]; simp [f5P, h1]
    have b1 := decide_eq_false h1
    clear h1
    go_enter Tryd.func140, Tryd.ntmps140
    go_wp2_with (first | ((with_reducible refine gate_dst (N := 1) rfl ?_); refine box_event ?hg (N := 1) ?hd (cs := opC o A c) (t := 45) ?hr ?_; (case hd => rfl); (case hg => rfl); (case hr => first | (go_simp; done) | (go_simp; rfl)); intro g hg w1 hbox hb; have n1_ := Aside0.mk (below_step HB.out hb); have n2_ := Aside0.mk (by rw [hg]; exact below_size HB.out : w.heap.size ≤ g); clear HB; have HB := n1_; have Gg := n2_; clear n1_ n2_; have e15 := IsOp.c15 hbox;  have Bg := Aside0.mk hbox; clear hb hbox hg))
    go_ret
    exact ⟨rfl, HB.out⟩

set_option maxHeartbeats 4000000 in
set_option maxRecDepth 100000 in
theorem kinds6_calls (o : S45) (A : Option Addr) (c : Nat) (w : World) (hr : Kd.C k24 w A o.f2.length o.f2) (hc : o.f2.length ≤ c) :
    Calls Tryd.prog 141 #[.agg (opC o A c)] w fun e w' => e = .returned (.bool (f6P o)) ∧ Below w.heap.size w w' := by
  have hu45 := Tryd.underlying45
  have hu43 := Tryd.underlying43
  have HR := Aside0.mk hr
  have HC := Aside0.mk hc
  clear hr hc
  have HB := Aside0.mk (Below.refl w.heap.size w)
  generalize hq : f6P o = R
  have HQ := Aside0.mk hq
  clear hq
  go_enter Tryd.func141, Tryd.ntmps141
  go_wp2_with (first | ((with_reducible refine gate_dst (N := 1) rfl ?_); refine box_event ?hg (N := 1) ?hd (cs := opC o A c) (t := 45) ?hr ?_; (case hd => rfl); (case hg => rfl); (case hr => first | (go_simp; done) | (go_simp; rfl)); intro g hg w1 hbox hb; have n1_ := Aside0.mk (below_step HB.out hb); have n2_ := Aside0.mk (by rw [hg]; exact below_size HB.out : w.heap.size ≤ g); clear HB; have HB := n1_; have Gg := n2_; clear n1_ n2_; have e14 := IsOp.c14 hbox;  have Bg := Aside0.mk hbox; clear hb hbox hg) | ((with_reducible refine gate_dst (N := 3) rfl ?_); refine load_event (by rfl) 45 (.tmp 1) rfl g rfl 45 (opC o A c) (0, 0) _ Bg.out Tryd.underlying45 rfl size45 ?_))
  clear e14
  refine (begins_calls o A c _ (Kd.C_below HR.out HB.out) HC.out).mono ?_
  rintro e W2 ⟨rfl, hb⟩
  have H2 := Aside0.mk (below_step HB.out hb)
  have e14 := IsOp.c14 (IsOp.below Bg.out hb)
  clear hb HB Bg
  cases hz : beP o
  · obtain rfl : false = R := by rw [← HQ.out]; simp [f6P, hz]
    go_wp2
    go_ret
    exact ⟨rfl, H2.out⟩
  · by_cases h1 : 1 ≤ (o.f8.size : Int)
    · obtain rfl : decide ((o.f8.size : Int) ≤ 64) = R := by rw [← HQ.out]; simp [f6P, hz, h1]
      have b1 := decide_eq_true h1
      clear h1
      go_wp2
      go_ret
      exact ⟨rfl, H2.out⟩
    · obtain rfl : false = R := by rw [← HQ.out]; simp [f6P, hz, h1]
      have b1 := decide_eq_false h1
      clear h1
      go_wp2
      go_ret
      exact ⟨rfl, H2.out⟩

set_option maxHeartbeats 4000000 in
set_option maxRecDepth 100000 in
theorem kinds7_calls (o : S45) (A : Option Addr) (c : Nat) (w : World) (hr : Kd.C k24 w A o.f2.length o.f2) (hc : o.f2.length ≤ c) :
    Calls Tryd.prog 142 #[.agg (opC o A c)] w fun e w' => e = .returned (.bool (f7P o)) ∧ Below w.heap.size w w' := by
  have hu45 := Tryd.underlying45
  have hu43 := Tryd.underlying43
  have HR := Aside0.mk hr
  have HC := Aside0.mk hc
  clear hr hc
  have HB := Aside0.mk (Below.refl w.heap.size w)
  generalize hq : f7P o = R
  have HQ := Aside0.mk hq
  clear hq
  go_enter Tryd.func142, Tryd.ntmps142
  go_wp2_with (first | ((with_reducible refine gate_dst (N := 1) rfl ?_); refine box_event ?hg (N := 1) ?hd (cs := opC o A c) (t := 45) ?hr ?_; (case hd => rfl); (case hg => rfl); (case hr => first | (go_simp; done) | (go_simp; rfl)); intro g hg w1 hbox hb; have n1_ := Aside0.mk (below_step HB.out hb); have n2_ := Aside0.mk (by rw [hg]; exact below_size HB.out : w.heap.size ≤ g); clear HB; have HB := n1_; have Gg := n2_; clear n1_ n2_; have e7 := IsOp.c7 hbox; have e8 := IsOp.c8 hbox; have e9 := IsOp.c9 hbox;  have Bg := Aside0.mk hbox; clear hb hbox hg) | ((with_reducible refine gate_dst (N := 3) rfl ?_); refine load_event (by rfl) 45 (.tmp 1) rfl g rfl 45 (opC o A c) (0, 0) _ Bg.out Tryd.underlying45 rfl size45 ?_))
  clear e7 e8 e9
  refine (knows_calls o A c o.f5 _ (Kd.C_below HR.out HB.out) HC.out).mono ?_
  rintro e W2 ⟨rfl, hb⟩
  have H2 := Aside0.mk (below_step HB.out hb)
  have e9 := IsOp.c9 (IsOp.below Bg.out hb)
  have e15 := IsOp.c15 (IsOp.below Bg.out hb)
  clear hb HB Bg
  cases hz : knP o o.f5
  · obtain rfl : false = R := by rw [← HQ.out]; simp [f7P, hz]
    go_wp2
    go_ret
    exact ⟨rfl, H2.out⟩
  · have hw : wrap64 (64 - o.f5.f2) = 64 - o.f5.f2 := by have := knP_at hz; unfold wrap64; omega
    by_cases h1 : 1 ≤ o.f9
    · obtain rfl : decide (o.f9 ≤ 64 - o.f5.f2) = R := by rw [← HQ.out]; simp [f7P, hz, h1]
      have b1 := decide_eq_true h1
      clear h1
      go_wp2
      go_ret
      exact ⟨rfl, H2.out⟩
    · obtain rfl : false = R := by rw [← HQ.out]; simp [f7P, hz, h1]
      have b1 := decide_eq_false h1
      clear h1
      go_wp2
      go_ret
      exact ⟨rfl, H2.out⟩

set_option maxHeartbeats 4000000 in
set_option maxRecDepth 100000 in
theorem kinds8_calls (o : S45) (A : Option Addr) (c : Nat) (w : World) (hr : Kd.C k24 w A o.f2.length o.f2) (hc : o.f2.length ≤ c) :
    Calls Tryd.prog 143 #[.agg (opC o A c)] w fun e w' => e = .returned (.bool (f8P o)) ∧ Below w.heap.size w w' := by
  have hu45 := Tryd.underlying45
  have hu43 := Tryd.underlying43
  have HR := Aside0.mk hr
  have HC := Aside0.mk hc
  clear hr hc
  have HB := Aside0.mk (Below.refl w.heap.size w)
  generalize hq : f8P o = R
  have HQ := Aside0.mk hq
  clear hq
  go_enter Tryd.func143, Tryd.ntmps143
  go_wp2_with (first | ((with_reducible refine gate_dst (N := 1) rfl ?_); refine box_event ?hg (N := 1) ?hd (cs := opC o A c) (t := 45) ?hr ?_; (case hd => rfl); (case hg => rfl); (case hr => first | (go_simp; done) | (go_simp; rfl)); intro g hg w1 hbox hb; have n1_ := Aside0.mk (below_step HB.out hb); have n2_ := Aside0.mk (by rw [hg]; exact below_size HB.out : w.heap.size ≤ g); clear HB; have HB := n1_; have Gg := n2_; clear n1_ n2_; have e7 := IsOp.c7 hbox; have e8 := IsOp.c8 hbox; have e9 := IsOp.c9 hbox;  have Bg := Aside0.mk hbox; clear hb hbox hg) | ((with_reducible refine gate_dst (N := 3) rfl ?_); refine load_event (by rfl) 45 (.tmp 1) rfl g rfl 45 (opC o A c) (0, 0) _ Bg.out Tryd.underlying45 rfl size45 ?_))
  clear e7 e8 e9
  refine (knows_calls o A c o.f5 _ (Kd.C_below HR.out HB.out) HC.out).mono ?_
  rintro e W2 ⟨rfl, hb⟩
  have H2 := Aside0.mk (below_step HB.out hb)
  have e10 := IsOp.c10 (IsOp.below Bg.out hb)
  have e11 := IsOp.c11 (IsOp.below Bg.out hb)
  have e12 := IsOp.c12 (IsOp.below Bg.out hb)
  have B2 := Aside0.mk (IsOp.below Bg.out hb)
  clear hb HB Bg
  cases hz : knP o o.f5
  · obtain rfl : false = R := by rw [← HQ.out]; simp [f8P, hz]
    go_wp2
    go_ret
    exact ⟨rfl, H2.out⟩
  · go_wp2_with ((with_reducible refine gate_dst (N := 8) rfl ?_); refine load_event (by rfl) 45 (.tmp 1) rfl g rfl 45 (opC o A c) (0, 0) _ B2.out Tryd.underlying45 rfl size45 ?_)
    clear e10 e11 e12
    refine (knows_calls o A c o.f6 _ (Kd.C_below HR.out H2.out) HC.out).mono ?_
    rintro e W3 ⟨rfl, hb⟩
    have H3 := Aside0.mk (below_step H2.out hb)
    have e15 := IsOp.c15 (IsOp.below B2.out hb)
    clear hb H2 B2
    cases hy : knP o o.f6
    · obtain rfl : false = R := by rw [← HQ.out]; simp [f8P, hz, hy]
      go_wp2
      go_ret
      exact ⟨rfl, H3.out⟩
    · by_cases h1 : 0 ≤ o.f9
      · obtain rfl : decide (o.f9 ≤ 15) = R := by rw [← HQ.out]; simp [f8P, hz, hy, h1]
        have b1 := decide_eq_true h1
        clear h1
        go_wp2
        go_ret
        exact ⟨rfl, H3.out⟩
      · obtain rfl : false = R := by rw [← HQ.out]; simp [f8P, hz, hy, h1]
        have b1 := decide_eq_false h1
        clear h1
        go_wp2
        go_ret
        exact ⟨rfl, H3.out⟩

end Go.Proofs.YtncejmjicjlanaaDoor.Q
