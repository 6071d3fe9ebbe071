/- Contracts of ops.Same and of the reference's Same: whether two operations are equal, field by field; nothing that was there changes. Conditions: the contexts read as lists of at most 100000. -/
import Derived.Test.YtncejmjicjlanaaDoorOps1
import Derived.Test.YtncejmjicjlanaaDoorEval
namespace Go.Proofs.YtncejmjicjlanaaDoor.Q
open Go.RowKit Go.Proofs.YtncejmjicjlanaaDoorW.PrintWords Go.Proofs.YtncejmjicjlanaaDoorW.PrintLast Go.Proofs.YtncejmjicjlanaaDoorW.PrintMore
set_option linter.unusedVariables false
set_option linter.unusedSimpArgs false
theorem slEq_loop (a b : List S24) (hl : a.length ≤ 100000) (hab : a.length = b.length) : ∀ (m k i : Nat), a.length - i = m → i ≤ a.length → m < k →
    api_Dot.l0 k a b (a.length : Int) i = some (decide (a.drop i = b.drop i))
  | 0, k + 1, i, hm, hi, hk => by
    have : i = a.length := by omega
    subst this
    rw [api_Dot.l0, if_neg (by omega), List.drop_length, hab, List.drop_length]
    rfl
  | m + 1, k + 1, i, hm, hi, hk => by
    have hlt : i < a.length := by omega
    have ih := slEq_loop a b hl hab m k (i + 1) (by omega) (by omega) (by omega)
    rw [api_Dot.l0, if_pos (by omega), if_pos (by omega), if_pos (by omega), if_pos (by omega), w_add _ (by omega), ih, drop_rd a i hlt, drop_rd b i (by omega)]
    generalize rd_T24 a i = x
    generalize rd_T24 b i = y
    cases x; cases y
    simp
    split
    · rename_i h
      congr 1
      symm
      simp
      intro h1 h2
      simp [h1, h2] at h
    · rename_i h
      simp at h
      simp [h]
theorem slEq_eq (a b : List S24) (hl : a.length ≤ 100000) : api_Dot.f (a.length + 1) a b = some (decide (a = b)) := by
  unfold api_Dot.f
  by_cases hab : a.length = b.length
  · rw [if_pos (by omega)]
    have := slEq_loop a b hl hab a.length (a.length + 1) 0 (by omega) (by omega) (by omega)
    rwa [List.drop_zero, List.drop_zero] at this
  · rw [if_neg (by omega)]
    congr 1
    symm
    simp
    intro h
    exact hab (by rw [h])
/-- Are two operations equal? -/
def sameP (o p : S45) : Bool := (o.f0.f0 == p.f0.f0 && (o.f0.f1 == p.f0.f1)) && ((o.f1 == p.f1) && (decide (o.f2 = p.f2) && ((o.f3.f0 == p.f3.f0 && (o.f3.f1.toList == p.f3.f1.toList)) && ((o.f4 == p.f4) && ((o.f5.f0 == p.f5.f0 && (o.f5.f1 == p.f5.f1 && (o.f5.f2 == p.f5.f2))) && ((o.f6.f0 == p.f6.f0 && (o.f6.f1 == p.f6.f1 && (o.f6.f2 == p.f6.f2))) && ((o.f7.toList == p.f7.toList) && ((o.f8.toList == p.f8.toList) && ((o.f9 == p.f9) && (o.f10 == p.f10))))))))))

attribute [local go_sem high] eqA24 eqA41 eqA43 in
set_option maxHeartbeats 8000000 in
set_option maxRecDepth 100000 in
theorem oSame_calls (o p : S45) (A A2 : Option Addr) (c c2 : Nat) (w : World) (hr : Kd.C k24 w A o.f2.length o.f2) (hc : o.f2.length ≤ c) (hr2 : Kd.C k24 w A2 p.f2.length p.f2) (hc2 : p.f2.length ≤ c2) (hl : o.f2.length ≤ 100000) :
    Calls Tryd.prog 41 #[.agg (opC o A c), .agg (opC p A2 c2)] w fun e w' => e = .returned (.bool (sameP o p)) ∧ Below w.heap.size w w' := by
  have hu45 := Tryd.underlying45
  have HR := Aside0.mk hr
  have HC := Aside0.mk hc
  have HR2 := Aside0.mk hr2
  have HC2 := Aside0.mk hc2
  have HL := Aside0.mk hl
  clear hr hc hr2 hc2 hl
  have HB := Aside0.mk (Below.refl w.heap.size w)
  generalize hq : sameP o p = R
  unfold sameP at hq
  cases b0 : o.f0.f0 == p.f0.f0 && (o.f0.f1 == p.f0.f1)
  rotate_left
  cases b1 : o.f1 == p.f1
  rotate_left
  · simp only [b0, b1, Bool.true_and] at hq
    have HQ := Aside0.mk hq
    clear hq
    go_enter Tryd.func41, Tryd.ntmps41
    go_wp2_with (first | ((with_reducible refine gate_dst (N := 2) rfl ?_); refine box_event ?hg (N := 2) ?hd (cs := opC o A c) (t := 45) ?hr ?_; (case hd => rfl); (case hg => rfl); (case hr => first | (go_simp; done) | (go_simp; rfl)); intro g hg w1 hbox hb; have n1_ := Aside0.mk (below_step HB.out hb); have n2_ := Aside0.mk (by rw [hg]; exact below_size HB.out : w.heap.size ≤ g); clear HB; have HB := n1_; have Gg := n2_; clear n1_ n2_;  have Bg := Aside0.mk hbox; clear hb hbox hg) | ((with_reducible refine gate_dst (N := 3) rfl ?_); refine box_event ?hg (N := 3) ?hd (cs := opC p A2 c2) (t := 45) ?hr ?_; (case hd => rfl); (case hg => rfl); (case hr => first | (go_simp; done) | (go_simp; rfl)); intro g2 hg w1 hbox hb; have n1_ := Aside0.mk (below_step HB.out hb); have n2_ := Aside0.mk (by rw [hg]; exact below_size HB.out : w.heap.size ≤ g2); clear HB; have HB := n1_; have Gg2 := n2_; clear n1_ n2_; have n3_ := Aside0.mk (blk_below Bg.out hb); clear Bg; have Bg := n3_; clear n3_; have d0 := IsOp.c0 (A := A2) (c := c2) hbox; have d1 := IsOp.c1 (A := A2) (c := c2) hbox; have d2 := IsOp.c2 (A := A2) (c := c2) hbox; have d3 := IsOp.c3 (A := A2) (c := c2) hbox; have e0 := IsOp.c0 (A := A) (c := c) Bg.out; have e1 := IsOp.c1 (A := A) (c := c) Bg.out; have e2 := IsOp.c2 (A := A) (c := c) Bg.out; have e3 := IsOp.c3 (A := A) (c := c) Bg.out;  have Bg2 := Aside0.mk hbox; clear hb hbox hg))
    clear b0 b1 d0 d1 d2 d3 e0 e1 e2 e3
    refine (api_Dot.calls (o.f2.length + 1) A c o.f2 A2 c2 p.f2 _ _ (Kd.C_below HR.out HB.out) HC.out (Kd.C_below HR2.out HB.out) HC2.out (slEq_eq _ _ HL.out)).mono ?_
    rintro e W2 ⟨rfl, hd⟩
    have hb := hd.below
    have H2 := Aside0.mk (below_step HB.out hb)
    have e4 := IsOp.c4 (IsOp.below Bg.out hb)
    have d4 := IsOp.c4 (IsOp.below Bg2.out hb)
    have e5 := IsOp.c5 (IsOp.below Bg.out hb)
    have d5 := IsOp.c5 (IsOp.below Bg2.out hb)
    have e6 := IsOp.c6 (IsOp.below Bg.out hb)
    have d6 := IsOp.c6 (IsOp.below Bg2.out hb)
    have e7 := IsOp.c7 (IsOp.below Bg.out hb)
    have d7 := IsOp.c7 (IsOp.below Bg2.out hb)
    have e8 := IsOp.c8 (IsOp.below Bg.out hb)
    have d8 := IsOp.c8 (IsOp.below Bg2.out hb)
    have e9 := IsOp.c9 (IsOp.below Bg.out hb)
    have d9 := IsOp.c9 (IsOp.below Bg2.out hb)
    have e10 := IsOp.c10 (IsOp.below Bg.out hb)
    have d10 := IsOp.c10 (IsOp.below Bg2.out hb)
    have e11 := IsOp.c11 (IsOp.below Bg.out hb)
    have d11 := IsOp.c11 (IsOp.below Bg2.out hb)
    have e12 := IsOp.c12 (IsOp.below Bg.out hb)
    have d12 := IsOp.c12 (IsOp.below Bg2.out hb)
    have e13 := IsOp.c13 (IsOp.below Bg.out hb)
    have d13 := IsOp.c13 (IsOp.below Bg2.out hb)
    have e14 := IsOp.c14 (IsOp.below Bg.out hb)
    have d14 := IsOp.c14 (IsOp.below Bg2.out hb)
    have e15 := IsOp.c15 (IsOp.below Bg.out hb)
    have d15 := IsOp.c15 (IsOp.below Bg2.out hb)
    have e16 := IsOp.c16 (IsOp.below Bg.out hb)
    have d16 := IsOp.c16 (IsOp.below Bg2.out hb)
    clear hd hb HB Bg Bg2
    have hq := HQ.out
    clear HQ
    cases b2 : decide (o.f2 = p.f2)
    rotate_left
    cases b3 : o.f3.f0 == p.f3.f0 && (o.f3.f1.toList == p.f3.f1.toList)
    rotate_left
    cases b4 : o.f4 == p.f4
    rotate_left
    cases b5 : o.f5.f0 == p.f5.f0 && (o.f5.f1 == p.f5.f1 && (o.f5.f2 == p.f5.f2))
    rotate_left
    cases b6 : o.f6.f0 == p.f6.f0 && (o.f6.f1 == p.f6.f1 && (o.f6.f2 == p.f6.f2))
    rotate_left
    cases b7 : o.f7.toList == p.f7.toList
    rotate_left
    cases b8 : o.f8.toList == p.f8.toList
    rotate_left
    cases b9 : o.f9 == p.f9
    rotate_left
    · simp only [b2, b3, b4, b5, b6, b7, b8, b9, Bool.true_and] at hq
      subst hq
      go_wp2
      go_ret
      exact ⟨rfl, H2.out⟩
    all_goals
      obtain rfl : false = R := by simp only [*, Bool.true_and, Bool.false_and] at hq; exact hq
      clear hq
      go_wp2
      go_ret
      exact ⟨rfl, H2.out⟩
  all_goals
    obtain rfl : false = R := by simp only [*, Bool.true_and, Bool.false_and] at hq; exact hq
    clear hq
    go_enter Tryd.func41, Tryd.ntmps41
    go_wp2_with (first | ((with_reducible refine gate_dst (N := 2) rfl ?_); refine box_event ?hg (N := 2) ?hd (cs := opC o A c) (t := 45) ?hr ?_; (case hd => rfl); (case hg => rfl); (case hr => first | (go_simp; done) | (go_simp; rfl)); intro g hg w1 hbox hb; have n1_ := Aside0.mk (below_step HB.out hb); have n2_ := Aside0.mk (by rw [hg]; exact below_size HB.out : w.heap.size ≤ g); clear HB; have HB := n1_; have Gg := n2_; clear n1_ n2_;  have Bg := Aside0.mk hbox; clear hb hbox hg) | ((with_reducible refine gate_dst (N := 3) rfl ?_); refine box_event ?hg (N := 3) ?hd (cs := opC p A2 c2) (t := 45) ?hr ?_; (case hd => rfl); (case hg => rfl); (case hr => first | (go_simp; done) | (go_simp; rfl)); intro g2 hg w1 hbox hb; have n1_ := Aside0.mk (below_step HB.out hb); have n2_ := Aside0.mk (by rw [hg]; exact below_size HB.out : w.heap.size ≤ g2); clear HB; have HB := n1_; have Gg2 := n2_; clear n1_ n2_; have n3_ := Aside0.mk (blk_below Bg.out hb); clear Bg; have Bg := n3_; clear n3_; have d0 := IsOp.c0 (A := A2) (c := c2) hbox; have d1 := IsOp.c1 (A := A2) (c := c2) hbox; have d2 := IsOp.c2 (A := A2) (c := c2) hbox; have d3 := IsOp.c3 (A := A2) (c := c2) hbox; have e0 := IsOp.c0 (A := A) (c := c) Bg.out; have e1 := IsOp.c1 (A := A) (c := c) Bg.out; have e2 := IsOp.c2 (A := A) (c := c) Bg.out; have e3 := IsOp.c3 (A := A) (c := c) Bg.out;  have Bg2 := Aside0.mk hbox; clear hb hbox hg))
    go_ret
    exact ⟨rfl, HB.out⟩

end Go.Proofs.YtncejmjicjlanaaDoor.Q
