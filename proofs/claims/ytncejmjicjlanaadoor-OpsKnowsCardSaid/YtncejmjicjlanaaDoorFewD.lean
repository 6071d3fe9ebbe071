/- Contract of ref12.Few on a list of dots: whether it has at most 600. -/
import Derived.Test.YtncejmjicjlanaaDoorQ0
namespace Go.Proofs.YtncejmjicjlanaaDoor.Q
open Go.RowKit Go.Proofs.YtncejmjicjlanaaDoorW.PrintWords Go.Proofs.YtncejmjicjlanaaDoorW.PrintLast Go.Proofs.YtncejmjicjlanaaDoorW.PrintMore
set_option linter.unusedVariables false
set_option linter.unusedSimpArgs false
set_option maxRecDepth 100000 in
theorem fewD_calls (A0 : Option Addr) (c0 : Nat) (l0 : List S24) (w : World) : Calls Tryd.prog 18 #[.slice A0 l0.length c0] w fun e w' => e = .returned (.bool (decide ((l0.length : Int) ≤ 600))) ∧ Below w.heap.size w w' := by
  have HB := Aside0.mk (Below.refl w.heap.size w)
  go_enter Tryd.func18, Tryd.ntmps18
  go_wp2
  go_ret
  exact ⟨rfl, HB.out⟩
end Go.Proofs.YtncejmjicjlanaaDoor.Q
