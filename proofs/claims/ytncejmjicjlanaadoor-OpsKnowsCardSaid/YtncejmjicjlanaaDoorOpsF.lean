/- Contract of ref17.Few: whether an operation is small; nothing that was there changes. -/
import Derived.Test.YtncejmjicjlanaaDoorOps1
namespace Go.Proofs.YtncejmjicjlanaaDoor.Q
open Go.RowKit Go.Proofs.YtncejmjicjlanaaDoorW.PrintWords Go.Proofs.YtncejmjicjlanaaDoorW.PrintLast Go.Proofs.YtncejmjicjlanaaDoorW.PrintMore
set_option linter.unusedVariables false
set_option linter.unusedSimpArgs false
/-- Is an operation small? -/
def fewO (o : S45) : Bool := if (o.f2.length : Int) ≤ 600 then decide (wrap64 (wrap64 ((o.f7.size : Int) + o.f8.size) + o.f3.f1.size) ≤ 20000) else false
theorem fewO_len {o : S45} (h : fewO o = true) : o.f2.length ≤ 600 := by
  unfold fewO at h
  split at h
  · omega
  · cases h
set_option maxHeartbeats 4000000 in
set_option maxRecDepth 100000 in
theorem fewO_calls (o : S45) (A : Option Addr) (c : Nat) (w : World) : Calls Tryd.prog 35 #[.agg (opC o A c)] w fun e w' => e = .returned (.bool (fewO o)) ∧ Below w.heap.size w w' := by
  have hu45 := Tryd.underlying45
  have hu41 := Tryd.underlying41
  have HB := Aside0.mk (Below.refl w.heap.size w)
  generalize hq : fewO o = R
  unfold fewO at hq
  have HQ := Aside0.mk hq
  clear hq
  by_cases k1 : (o.f2.length : Int) ≤ 600
  rotate_left
  · have b1 := decide_eq_false k1
    obtain rfl : false = R := by have := HQ.out; rw [if_neg k1] at this; exact this
    clear HQ k1
    go_enter Tryd.func35, Tryd.ntmps35
    go_wp2_with ((with_reducible refine gate_dst (N := 1) rfl ?_); refine box_event ?hg (N := 1) ?hd (cs := opC o A c) (t := 45) ?hr ?_; (case hd => rfl); (case hg => rfl); (case hr => first | (go_simp; done) | (go_simp; rfl)); intro g hg w1 hbox hb; have n1_ := Aside0.mk (below_step HB.out hb); have n2_ := Aside0.mk (by rw [hg]; exact below_size HB.out : w.heap.size ≤ g); clear HB; have HB := n1_; have Gg := n2_; clear n1_ n2_; have e3 := IsOp.c3 hbox; have e13 := IsOp.c13 hbox; have e14 := IsOp.c14 hbox; have e5 := IsOp.c5 hbox; have Bg := Aside0.mk hbox; clear hb hbox hg)
    go_ret
    exact ⟨rfl, HB.out⟩
  · have b1 := decide_eq_true k1
    have HQ_ := HQ.out
    clear HQ
    rw [if_pos k1] at HQ_
    subst HQ_
    clear k1
    go_enter Tryd.func35, Tryd.ntmps35
    go_wp2_with ((with_reducible refine gate_dst (N := 1) rfl ?_); refine box_event ?hg (N := 1) ?hd (cs := opC o A c) (t := 45) ?hr ?_; (case hd => rfl); (case hg => rfl); (case hr => first | (go_simp; done) | (go_simp; rfl)); intro g hg w1 hbox hb; have n1_ := Aside0.mk (below_step HB.out hb); have n2_ := Aside0.mk (by rw [hg]; exact below_size HB.out : w.heap.size ≤ g); clear HB; have HB := n1_; have Gg := n2_; clear n1_ n2_; have e3 := IsOp.c3 hbox; have e13 := IsOp.c13 hbox; have e14 := IsOp.c14 hbox; have e5 := IsOp.c5 hbox; have Bg := Aside0.mk hbox; clear hb hbox hg)
    go_ret
    exact ⟨rfl, HB.out⟩

end Go.Proofs.YtncejmjicjlanaaDoor.Q
