/- Written by a program of this session (a turn of the kit's print, see wip/tools/pp.py): contracts of Go functions, each over the functions that it calls. Lean checks every line. -/
import Derived.Test.YtncejmjicjlanaaDoorProg
import Derived.Below
import Derived.Deep.Draws
import Derived.Deep.AppendLies
import Derived.Maps.AppendAt
import Derived.OwnWalk
import Derived.Laws.BytesArg
import Derived.Laws.MakeOwn
import Derived.Laws.OwnMore
import Derived.Deep.OwnRows
import Derived.Tactics
import Derived.Lib.ConvBytes
import Derived.Laws.Slices
import Derived.WalkKit
import Derived.KernelRfl
import Derived.RowKit3
import Derived.Deep.LoopGhost
import Derived.Deep.QuietTactic
import Derived.BigQuiet
import Derived.WideLaws
import Derived.Deep.DeepCutAuto
import Derived.Deep.CutBlock
import Derived.Deep.RegionHeld3
import Derived.Laws.Rows
import Derived.Lib.AppendStr
import Derived.ArgAppend
import Derived.Laws.IdiomCopy
import Derived.OrdersHeld
import Derived.Laws.BitsLemmas
import Derived.RowKit
import Derived.Test.YtncejmjicjlanaaDoorWWords
import Derived.Test.YtncejmjicjlanaaDoorWLast
import Derived.Test.YtncejmjicjlanaaDoorWTab
import Derived.Test.YtncejmjicjlanaaDoorWFour
import Derived.Test.YtncejmjicjlanaaDoorWQPut
import Derived.Test.YtncejmjicjlanaaDoorWApart
import Derived.Test.YtncejmjicjlanaaDoorWArr
import Derived.Test.YtncejmjicjlanaaDoorWZeros
import Derived.Test.YtncejmjicjlanaaDoorWFoot
import Derived.Test.YtncejmjicjlanaaDoorWKept
import Derived.Test.YtncejmjicjlanaaDoorWShare
import Derived.Test.YtncejmjicjlanaaDoorWN
import Derived.Test.YtncejmjicjlanaaDoorWFootNe
import Derived.Test.YtncejmjicjlanaaDoorWAt
import Derived.Test.YtncejmjicjlanaaDoorWEqStruct
import Derived.Test.YtncejmjicjlanaaDoorWRepsOne
import Derived.Test.YtncejmjicjlanaaDoorWInv
import Derived.Test.YtncejmjicjlanaaDoorWInvWords
import Derived.Test.YtncejmjicjlanaaDoorWGuard
import Derived.Test.YtncejmjicjlanaaDoorWNEv
import Derived.Test.YtncejmjicjlanaaDoorWMore
namespace Go.Proofs.YtncejmjicjlanaaDoor.Q
open Go.RowKit Go.Proofs.YtncejmjicjlanaaDoorW.PrintWords Go.Proofs.YtncejmjicjlanaaDoorW.PrintLast Go.Proofs.YtncejmjicjlanaaDoorW.PrintMore
attribute [local go_sem] max2_int min2_int max_two min_two max_three min_three max_four min_four   -- for this text's walks alone
set_option linter.unusedVariables false
set_option linter.unusedSimpArgs false



def errW : Option Int → Value
  | none => .nilIface
  | some c => .iface 0 (.int .i64 c)
theorem errW_none : errW none = .nilIface := rfl
theorem errW_some (c : Int) : errW (some c) = .iface 0 (.int .i64 c) := rfl

theorem info3 : (Tryd.prog.info? 3).map (fun i => (i.zero, i.size, i.bytes)) = some (some (.int .i64 0), 1, 8) := by kernel_rfl
theorem info24 : (Tryd.prog.info? 24).map (fun i => (i.zero, i.size, i.bytes)) = some (some (.agg #[(.int .i64 0), (.int .i64 0)]), 2, 16) := by kernel_rfl
-- the values' own types
/-! #### struct type 24 -/
structure S24 where
  f0 : Int
  f1 : Int
def z24 : S24 := ⟨(0 : Int), (0 : Int)⟩
def k24 : Kd S24 := Kd.iso (Kd.pair (Kd.int .i64) (Kd.int .i64)) (fun x : S24 => (x.f0, x.f1))
theorem k24_open {w : World} {x : S24} {cs : List Value} (h : k24.K w x cs) : cs = [.int .i64 x.f0, .int .i64 x.f1] := by
  obtain ⟨_, _, rfl, rfl, rfl⟩ := h
  exact rfl
theorem k24_openM {w : World} {base : Nat} {ok : Nat → Prop} {x : S24} {cs : List Value} (h : k24.M w base ok x cs) : cs = [.int .i64 x.f0, .int .i64 x.f1] := by
  obtain ⟨_, _, rfl, rfl, rfl⟩ := h
  exact rfl
theorem k24_mk (w : World) (x : S24)  : k24.K w x [.int .i64 x.f0, .int .i64 x.f1] := ⟨[.int .i64 x.f0], [.int .i64 x.f1], rfl, rfl, rfl⟩
theorem k24_mkM (w : World) (base : Nat) (ok : Nat → Prop) (x : S24)  : k24.M w base ok x [.int .i64 x.f0, .int .i64 x.f1] := ⟨[.int .i64 x.f0], [.int .i64 x.f1], rfl, rfl, rfl⟩
def rd_T24 (xs : List S24) (i : Int) : S24 := xs.getD i.toNat z24
theorem at_T24 {w : World} {A : Option Addr} {n : Nat} {xs : List S24} (h : Kd.C k24 w A n xs) (i : Int) (h0 : 0 ≤ i) (h1 : i < n) : ∃ ad , A = some ad ∧ w.cell? (ad.add (i.toNat * 2)) = some (.int .i64 (rd_T24 xs i).f0) ∧ w.cell? ⟨(ad.add (i.toNat * 2)).block, (ad.add (i.toNat * 2)).off + 1, none⟩ = some (.int .i64 (rd_T24 xs i).f1) := by
  obtain ⟨ad, c, e, _, hK, hc0⟩ := Kd.C_get h z24 i h0 h1
  have hc : ∀ j u, c[j]? = some u → w.cell? (ad.add (i.toNat * 2 + j)) = some u := hc0
  obtain rfl := k24_open hK
  exact ⟨ad, e, hc 0 _ rfl, by rw [← add_field _ _ 1 (by omega)]; exact hc 1 _ rfl⟩

end Go.Proofs.YtncejmjicjlanaaDoor.Q
