/-
  NARROWER THAN 'FOR EVERY INPUT', by the rows' own cells (each row's printed sentence says how): VectorSpec: laid · VectorJoinsSpec: laid · VectorCovers: laid · VectorLattice: laid · OpsKnows: laid · VectorOrder: laid · OpsFields: laid · VectorLeast: laid · VectorAdds: laid · OpsCheckSpec: laid · OpsEncodeSpec: laid · OpsBack: laid · OpsContents: laid · OpsOrder: laid.
  DERIVED. THE GIVEN ROWS OF THIS SEAT. 14 by the template 'for every input the law returns true; each argument reads behind the call as it read before'; 0 by the template 'total and deterministic' (their statements: YtncejmjicjlanaaDoorTotals.lean).
  GIVEN WITH THE SEED: the statements are not yours to turn. If you find one false, say at which input.
  Laid BY PROGRAM, IN A SANDBOX (cutbox-rows.mjs): the forced cells as the released guide's own fill.sh prints them over the translation dfb73e9d3fce0b2b… (all of the seat's roots in one cut). By AI agents, Wed Nov 11 2026. No macro, syntax, notation, axiom, sorry.
-/
import Derived.Test.YtncejmjicjlanaaDoorChecked
import GoSem.Claim
import GoSem.ClaimJoined
import GoSem.ClaimMapViews
import Derived.JoinedTies
import Derived.KernelRfl
namespace Go.Proofs.YtncejmjicjlanaaDoor
/- THE CELL 'sum', in the pinned program and in every row, IS THE sha256 OF THE DUMP (.gsa) THAT YtncejmjicjlanaaDoorProg.lean LOADS. Nothing in Lean hashes anything: it is a label: what it is worth is what the hold of that sum in a sandbox is worth. -/
noncomputable def Tryd.pinned : Pinned := { name := "ytncejmjicjlanaadoor", sum := "dfb73e9d3fce0b2b20e6e52c64d6e30b3b3987d1913f37328e30b6e4b6542647", checked := Tryd.checked }
namespace Rows
def none {H : Type} : Left H := { results := [], args := [] }

/- WHAT THE LISTED PACKAGE-LEVEL VARIABLES READ AS WHEN THE CALL BEGINS. Each datum BY PROGRAM (the guide's laid-datum.mjs) off the statement by which the dump's own 'gosem.cut.vars' lays the variable. In a bare row this is a premise. The card (YtncejmjicjlanaaDoorCards.lean) ties it to the program's text. -/
def laid_chartroom_vector_greater {H : Type} : DataW H := .iface "func table" (.agg [.iface "func" (.lit (.string [99, 104, 97, 114, 116, 114, 111, 111, 109, 47, 118, 101, 99, 116, 111, 114, 46, 103, 114, 101, 97, 116, 101, 114, 36, 49]))])
def laid_chartroom_vector_lesser {H : Type} : DataW H := .iface "func table" (.agg [.iface "func" (.lit (.string [99, 104, 97, 114, 116, 114, 111, 111, 109, 47, 118, 101, 99, 116, 111, 114, 46, 108, 101, 115, 115, 101, 114, 36, 49]))])
def laid_chartroom_ops_kinds {H : Type} : DataW H := .iface "func table" (.map [(.int .i64 1, .agg [.lit (.int .i64 1), .iface "func" (.lit (.string [99, 104, 97, 114, 116, 114, 111, 111, 109, 47, 111, 112, 115, 46, 107, 105, 110, 100, 115, 36, 49]))]), (.int .i64 2, .agg [.lit (.int .i64 1), .iface "func" (.lit (.string [99, 104, 97, 114, 116, 114, 111, 111, 109, 47, 111, 112, 115, 46, 107, 105, 110, 100, 115, 36, 50]))]), (.int .i64 3, .agg [.lit (.int .i64 2), .iface "func" (.lit (.string [99, 104, 97, 114, 116, 114, 111, 111, 109, 47, 111, 112, 115, 46, 107, 105, 110, 100, 115, 36, 51]))]), (.int .i64 4, .agg [.lit (.int .i64 2), .iface "func" (.lit (.string [99, 104, 97, 114, 116, 114, 111, 111, 109, 47, 111, 112, 115, 46, 107, 105, 110, 100, 115, 36, 52]))]), (.int .i64 5, .agg [.lit (.int .i64 3), .iface "func" (.lit (.string [99, 104, 97, 114, 116, 114, 111, 111, 109, 47, 111, 112, 115, 46, 107, 105, 110, 100, 115, 36, 53]))]), (.int .i64 6, .agg [.lit (.int .i64 4), .iface "func" (.lit (.string [99, 104, 97, 114, 116, 114, 111, 111, 109, 47, 111, 112, 115, 46, 107, 105, 110, 100, 115, 36, 54]))]), (.int .i64 7, .agg [.lit (.int .i64 4), .iface "func" (.lit (.string [99, 104, 97, 114, 116, 114, 111, 111, 109, 47, 111, 112, 115, 46, 107, 105, 110, 100, 115, 36, 55]))]), (.int .i64 8, .agg [.lit (.int .i64 4), .iface "func" (.lit (.string [99, 104, 97, 114, 116, 114, 111, 111, 109, 47, 111, 112, 115, 46, 107, 105, 110, 100, 115, 36, 56]))])])

/-- 'chartroomlaw12.VectorSpec': WHATEVER THE INPUT: true; the input reads as it did. -/
def vectorSpecSpec : ChangeSpec := { name := "vectorSpec", fn := fun _ => fun
  | [d1, d2, d3] => { results := [.lit (.bool true)], args := [d1, d2, d3] }
  | _ => none }
def vectorSpecRow : OpenClaim := { program := "ytncejmjicjlanaadoor", sum := "dfb73e9d3fce0b2b20e6e52c64d6e30b3b3987d1913f37328e30b6e4b6542647", func := "chartroom/chartroomlaw12.VectorSpec", spec := "vectorSpec", unfollowed := true, recurses := true, named := ["chartroom/vector.greater", "chartroom/vector.lesser"], apart := false, laid := [("chartroom/vector.greater", laid_chartroom_vector_greater), ("chartroom/vector.lesser", laid_chartroom_vector_lesser)] }
def VectorSpecSaid : Prop := vectorSpecRow.holds Tryd.pinned (OpenSpec.ofChange vectorSpecSpec)

/-- ITS FALSE NEIGHBOUR: 'it returns false'. Refute it at one input. -/
def vectorSpecWrong : ChangeSpec := { name := "vectorSpec", fn := fun _ => fun
  | [d1, d2, d3] => { results := [.lit (.bool false)], args := [d1, d2, d3] }
  | _ => none }
def VectorSpecWrongFalsely : Prop := vectorSpecRow.holds Tryd.pinned (OpenSpec.ofChange vectorSpecWrong)

/-- 'chartroomlaw12.VectorJoinsSpec': WHATEVER THE INPUT: true; the input reads as it did. -/
def vectorJoinsSpecSpec : ChangeSpec := { name := "vectorJoinsSpec", fn := fun _ => fun
  | [d1, d2] => { results := [.lit (.bool true)], args := [d1, d2] }
  | _ => none }
def vectorJoinsSpecRow : OpenClaim := { program := "ytncejmjicjlanaadoor", sum := "dfb73e9d3fce0b2b20e6e52c64d6e30b3b3987d1913f37328e30b6e4b6542647", func := "chartroom/chartroomlaw12.VectorJoinsSpec", spec := "vectorJoinsSpec", unfollowed := true, recurses := true, named := ["chartroom/vector.greater", "chartroom/vector.lesser"], apart := false, laid := [("chartroom/vector.greater", laid_chartroom_vector_greater), ("chartroom/vector.lesser", laid_chartroom_vector_lesser)] }
def VectorJoinsSpecSaid : Prop := vectorJoinsSpecRow.holds Tryd.pinned (OpenSpec.ofChange vectorJoinsSpecSpec)

/-- ITS FALSE NEIGHBOUR: 'it returns false'. Refute it at one input. -/
def vectorJoinsSpecWrong : ChangeSpec := { name := "vectorJoinsSpec", fn := fun _ => fun
  | [d1, d2] => { results := [.lit (.bool false)], args := [d1, d2] }
  | _ => none }
def VectorJoinsSpecWrongFalsely : Prop := vectorJoinsSpecRow.holds Tryd.pinned (OpenSpec.ofChange vectorJoinsSpecWrong)

/-- 'chartroomlaw12.VectorCovers': WHATEVER THE INPUT: true; the input reads as it did. -/
def vectorCoversSpec : ChangeSpec := { name := "vectorCovers", fn := fun _ => fun
  | [d1, d2, d3] => { results := [.lit (.bool true)], args := [d1, d2, d3] }
  | _ => none }
def vectorCoversRow : OpenClaim := { program := "ytncejmjicjlanaadoor", sum := "dfb73e9d3fce0b2b20e6e52c64d6e30b3b3987d1913f37328e30b6e4b6542647", func := "chartroom/chartroomlaw12.VectorCovers", spec := "vectorCovers", unfollowed := true, recurses := true, named := ["chartroom/vector.greater", "chartroom/vector.lesser"], apart := false, laid := [("chartroom/vector.greater", laid_chartroom_vector_greater), ("chartroom/vector.lesser", laid_chartroom_vector_lesser)] }
def VectorCoversSaid : Prop := vectorCoversRow.holds Tryd.pinned (OpenSpec.ofChange vectorCoversSpec)

/-- ITS FALSE NEIGHBOUR: 'it returns false'. Refute it at one input. -/
def vectorCoversWrong : ChangeSpec := { name := "vectorCovers", fn := fun _ => fun
  | [d1, d2, d3] => { results := [.lit (.bool false)], args := [d1, d2, d3] }
  | _ => none }
def VectorCoversWrongFalsely : Prop := vectorCoversRow.holds Tryd.pinned (OpenSpec.ofChange vectorCoversWrong)

/-- 'chartroomlaw12.VectorLattice': WHATEVER THE INPUT: true; the input reads as it did. -/
def vectorLatticeSpec : ChangeSpec := { name := "vectorLattice", fn := fun _ => fun
  | [d1, d2, d3] => { results := [.lit (.bool true)], args := [d1, d2, d3] }
  | _ => none }
def vectorLatticeRow : OpenClaim := { program := "ytncejmjicjlanaadoor", sum := "dfb73e9d3fce0b2b20e6e52c64d6e30b3b3987d1913f37328e30b6e4b6542647", func := "chartroom/chartroomlaw12.VectorLattice", spec := "vectorLattice", unfollowed := true, recurses := true, named := ["chartroom/vector.greater", "chartroom/vector.lesser"], apart := false, laid := [("chartroom/vector.greater", laid_chartroom_vector_greater), ("chartroom/vector.lesser", laid_chartroom_vector_lesser)] }
def VectorLatticeSaid : Prop := vectorLatticeRow.holds Tryd.pinned (OpenSpec.ofChange vectorLatticeSpec)

/-- ITS FALSE NEIGHBOUR: 'it returns false'. Refute it at one input. -/
def vectorLatticeWrong : ChangeSpec := { name := "vectorLattice", fn := fun _ => fun
  | [d1, d2, d3] => { results := [.lit (.bool false)], args := [d1, d2, d3] }
  | _ => none }
def VectorLatticeWrongFalsely : Prop := vectorLatticeRow.holds Tryd.pinned (OpenSpec.ofChange vectorLatticeWrong)

/-- 'chartroomlaw17.OpsKnows': WHATEVER THE INPUT: true; the input reads as it did. -/
def opsKnowsSpec : ChangeSpec := { name := "opsKnows", fn := fun _ => fun
  | [d1, d2] => { results := [.lit (.bool true)], args := [d1, d2] }
  | _ => none }
def opsKnowsRow : OpenClaim := { program := "ytncejmjicjlanaadoor", sum := "dfb73e9d3fce0b2b20e6e52c64d6e30b3b3987d1913f37328e30b6e4b6542647", func := "chartroom/chartroomlaw17.OpsKnows", spec := "opsKnows", inPlace := ["internal/bytealg.Compare"], unfollowed := true, recurses := true, named := ["chartroom/ops.kinds", "chartroom/vector.greater"], apart := false, laid := [("chartroom/vector.greater", laid_chartroom_vector_greater), ("chartroom/ops.kinds", laid_chartroom_ops_kinds)] }
def OpsKnowsSaid : Prop := opsKnowsRow.holds Tryd.pinned (OpenSpec.ofChange opsKnowsSpec)

/-- ITS FALSE NEIGHBOUR: 'it returns false'. Refute it at one input. -/
def opsKnowsWrong : ChangeSpec := { name := "opsKnows", fn := fun _ => fun
  | [d1, d2] => { results := [.lit (.bool false)], args := [d1, d2] }
  | _ => none }
def OpsKnowsWrongFalsely : Prop := opsKnowsRow.holds Tryd.pinned (OpenSpec.ofChange opsKnowsWrong)

/-- 'chartroomlaw12.VectorOrder': WHATEVER THE INPUT: true; the input reads as it did. -/
def vectorOrderSpec : ChangeSpec := { name := "vectorOrder", fn := fun _ => fun
  | [d1, d2, d3] => { results := [.lit (.bool true)], args := [d1, d2, d3] }
  | _ => none }
def vectorOrderRow : OpenClaim := { program := "ytncejmjicjlanaadoor", sum := "dfb73e9d3fce0b2b20e6e52c64d6e30b3b3987d1913f37328e30b6e4b6542647", func := "chartroom/chartroomlaw12.VectorOrder", spec := "vectorOrder", unfollowed := true, recurses := true, named := ["chartroom/vector.greater", "chartroom/vector.lesser"], apart := false, laid := [("chartroom/vector.greater", laid_chartroom_vector_greater), ("chartroom/vector.lesser", laid_chartroom_vector_lesser)] }
def VectorOrderSaid : Prop := vectorOrderRow.holds Tryd.pinned (OpenSpec.ofChange vectorOrderSpec)

/-- ITS FALSE NEIGHBOUR: 'it returns false'. Refute it at one input. -/
def vectorOrderWrong : ChangeSpec := { name := "vectorOrder", fn := fun _ => fun
  | [d1, d2, d3] => { results := [.lit (.bool false)], args := [d1, d2, d3] }
  | _ => none }
def VectorOrderWrongFalsely : Prop := vectorOrderRow.holds Tryd.pinned (OpenSpec.ofChange vectorOrderWrong)

/-- 'chartroomlaw17.OpsFields': WHATEVER THE INPUT: true; the input reads as it did. -/
def opsFieldsSpec : ChangeSpec := { name := "opsFields", fn := fun _ => fun
  | [d1, d2] => { results := [.lit (.bool true)], args := [d1, d2] }
  | _ => none }
def opsFieldsRow : OpenClaim := { program := "ytncejmjicjlanaadoor", sum := "dfb73e9d3fce0b2b20e6e52c64d6e30b3b3987d1913f37328e30b6e4b6542647", func := "chartroom/chartroomlaw17.OpsFields", spec := "opsFields", inPlace := ["internal/bytealg.Compare"], unfollowed := true, recurses := true, named := ["chartroom/ops.kinds", "chartroom/vector.greater"], apart := false, laid := [("chartroom/vector.greater", laid_chartroom_vector_greater), ("chartroom/ops.kinds", laid_chartroom_ops_kinds)] }
def OpsFieldsSaid : Prop := opsFieldsRow.holds Tryd.pinned (OpenSpec.ofChange opsFieldsSpec)

/-- ITS FALSE NEIGHBOUR: 'it returns false'. Refute it at one input. -/
def opsFieldsWrong : ChangeSpec := { name := "opsFields", fn := fun _ => fun
  | [d1, d2] => { results := [.lit (.bool false)], args := [d1, d2] }
  | _ => none }
def OpsFieldsWrongFalsely : Prop := opsFieldsRow.holds Tryd.pinned (OpenSpec.ofChange opsFieldsWrong)

/-- 'chartroomlaw12.VectorLeast': WHATEVER THE INPUT: true; the input reads as it did. -/
def vectorLeastSpec : ChangeSpec := { name := "vectorLeast", fn := fun _ => fun
  | [d1, d2, d3] => { results := [.lit (.bool true)], args := [d1, d2, d3] }
  | _ => none }
def vectorLeastRow : OpenClaim := { program := "ytncejmjicjlanaadoor", sum := "dfb73e9d3fce0b2b20e6e52c64d6e30b3b3987d1913f37328e30b6e4b6542647", func := "chartroom/chartroomlaw12.VectorLeast", spec := "vectorLeast", unfollowed := true, recurses := true, named := ["chartroom/vector.greater", "chartroom/vector.lesser"], apart := false, laid := [("chartroom/vector.greater", laid_chartroom_vector_greater), ("chartroom/vector.lesser", laid_chartroom_vector_lesser)] }
def VectorLeastSaid : Prop := vectorLeastRow.holds Tryd.pinned (OpenSpec.ofChange vectorLeastSpec)

/-- ITS FALSE NEIGHBOUR: 'it returns false'. Refute it at one input. -/
def vectorLeastWrong : ChangeSpec := { name := "vectorLeast", fn := fun _ => fun
  | [d1, d2, d3] => { results := [.lit (.bool false)], args := [d1, d2, d3] }
  | _ => none }
def VectorLeastWrongFalsely : Prop := vectorLeastRow.holds Tryd.pinned (OpenSpec.ofChange vectorLeastWrong)

/-- 'chartroomlaw12.VectorAdds': WHATEVER THE INPUT: true; the input reads as it did. -/
def vectorAddsSpec : ChangeSpec := { name := "vectorAdds", fn := fun _ => fun
  | [d1, d2, d3] => { results := [.lit (.bool true)], args := [d1, d2, d3] }
  | _ => none }
def vectorAddsRow : OpenClaim := { program := "ytncejmjicjlanaadoor", sum := "dfb73e9d3fce0b2b20e6e52c64d6e30b3b3987d1913f37328e30b6e4b6542647", func := "chartroom/chartroomlaw12.VectorAdds", spec := "vectorAdds", unfollowed := true, recurses := true, named := ["chartroom/vector.greater", "chartroom/vector.lesser"], apart := false, laid := [("chartroom/vector.greater", laid_chartroom_vector_greater), ("chartroom/vector.lesser", laid_chartroom_vector_lesser)] }
def VectorAddsSaid : Prop := vectorAddsRow.holds Tryd.pinned (OpenSpec.ofChange vectorAddsSpec)

/-- ITS FALSE NEIGHBOUR: 'it returns false'. Refute it at one input. -/
def vectorAddsWrong : ChangeSpec := { name := "vectorAdds", fn := fun _ => fun
  | [d1, d2, d3] => { results := [.lit (.bool false)], args := [d1, d2, d3] }
  | _ => none }
def VectorAddsWrongFalsely : Prop := vectorAddsRow.holds Tryd.pinned (OpenSpec.ofChange vectorAddsWrong)

/-- 'chartroomlaw17.OpsCheckSpec': WHATEVER THE INPUT: true; the input reads as it did. -/
def opsCheckSpecSpec : ChangeSpec := { name := "opsCheckSpec", fn := fun _ => fun
  | [d1, d2] => { results := [.lit (.bool true)], args := [d1, d2] }
  | _ => none }
def opsCheckSpecRow : OpenClaim := { program := "ytncejmjicjlanaadoor", sum := "dfb73e9d3fce0b2b20e6e52c64d6e30b3b3987d1913f37328e30b6e4b6542647", func := "chartroom/chartroomlaw17.OpsCheckSpec", spec := "opsCheckSpec", inPlace := ["internal/bytealg.Compare"], unfollowed := true, recurses := true, named := ["chartroom/ops.kinds", "chartroom/vector.greater"], apart := false, laid := [("chartroom/vector.greater", laid_chartroom_vector_greater), ("chartroom/ops.kinds", laid_chartroom_ops_kinds)] }
def OpsCheckSpecSaid : Prop := opsCheckSpecRow.holds Tryd.pinned (OpenSpec.ofChange opsCheckSpecSpec)

/-- ITS FALSE NEIGHBOUR: 'it returns false'. Refute it at one input. -/
def opsCheckSpecWrong : ChangeSpec := { name := "opsCheckSpec", fn := fun _ => fun
  | [d1, d2] => { results := [.lit (.bool false)], args := [d1, d2] }
  | _ => none }
def OpsCheckSpecWrongFalsely : Prop := opsCheckSpecRow.holds Tryd.pinned (OpenSpec.ofChange opsCheckSpecWrong)

/-- 'chartroomlaw17.OpsEncodeSpec': WHATEVER THE INPUT: true; the input reads as it did. -/
def opsEncodeSpecSpec : ChangeSpec := { name := "opsEncodeSpec", fn := fun _ => fun
  | [d1, d2] => { results := [.lit (.bool true)], args := [d1, d2] }
  | _ => none }
def opsEncodeSpecRow : OpenClaim := { program := "ytncejmjicjlanaadoor", sum := "dfb73e9d3fce0b2b20e6e52c64d6e30b3b3987d1913f37328e30b6e4b6542647", func := "chartroom/chartroomlaw17.OpsEncodeSpec", spec := "opsEncodeSpec", inPlace := ["internal/bytealg.Compare"], unfollowed := true, recurses := true, named := ["chartroom/ops.kinds", "chartroom/vector.greater"], apart := false, laid := [("chartroom/vector.greater", laid_chartroom_vector_greater), ("chartroom/ops.kinds", laid_chartroom_ops_kinds)] }
def OpsEncodeSpecSaid : Prop := opsEncodeSpecRow.holds Tryd.pinned (OpenSpec.ofChange opsEncodeSpecSpec)

/-- ITS FALSE NEIGHBOUR: 'it returns false'. Refute it at one input. -/
def opsEncodeSpecWrong : ChangeSpec := { name := "opsEncodeSpec", fn := fun _ => fun
  | [d1, d2] => { results := [.lit (.bool false)], args := [d1, d2] }
  | _ => none }
def OpsEncodeSpecWrongFalsely : Prop := opsEncodeSpecRow.holds Tryd.pinned (OpenSpec.ofChange opsEncodeSpecWrong)

/-- 'chartroomlaw17.OpsBack': WHATEVER THE INPUT: true; the input reads as it did. -/
def opsBackSpec : ChangeSpec := { name := "opsBack", fn := fun _ => fun
  | [d1, d2] => { results := [.lit (.bool true)], args := [d1, d2] }
  | _ => none }
def opsBackRow : OpenClaim := { program := "ytncejmjicjlanaadoor", sum := "dfb73e9d3fce0b2b20e6e52c64d6e30b3b3987d1913f37328e30b6e4b6542647", func := "chartroom/chartroomlaw17.OpsBack", spec := "opsBack", inPlace := ["internal/bytealg.Compare"], unfollowed := true, recurses := true, named := ["chartroom/ops.kinds", "chartroom/vector.greater"], apart := false, laid := [("chartroom/vector.greater", laid_chartroom_vector_greater), ("chartroom/ops.kinds", laid_chartroom_ops_kinds)] }
def OpsBackSaid : Prop := opsBackRow.holds Tryd.pinned (OpenSpec.ofChange opsBackSpec)

/-- ITS FALSE NEIGHBOUR: 'it returns false'. Refute it at one input. -/
def opsBackWrong : ChangeSpec := { name := "opsBack", fn := fun _ => fun
  | [d1, d2] => { results := [.lit (.bool false)], args := [d1, d2] }
  | _ => none }
def OpsBackWrongFalsely : Prop := opsBackRow.holds Tryd.pinned (OpenSpec.ofChange opsBackWrong)

/-- 'chartroomlaw17.OpsContents': WHATEVER THE INPUT: true; the input reads as it did. -/
def opsContentsSpec : ChangeSpec := { name := "opsContents", fn := fun _ => fun
  | [d] => { results := [.lit (.bool true)], args := [d] }
  | _ => none }
def opsContentsRow : OpenClaim := { program := "ytncejmjicjlanaadoor", sum := "dfb73e9d3fce0b2b20e6e52c64d6e30b3b3987d1913f37328e30b6e4b6542647", func := "chartroom/chartroomlaw17.OpsContents", spec := "opsContents", inPlace := ["internal/bytealg.Compare"], unfollowed := true, recurses := true, named := ["chartroom/ops.kinds", "chartroom/vector.greater"], apart := false, laid := [("chartroom/vector.greater", laid_chartroom_vector_greater), ("chartroom/ops.kinds", laid_chartroom_ops_kinds)] }
def OpsContentsSaid : Prop := opsContentsRow.holds Tryd.pinned (OpenSpec.ofChange opsContentsSpec)

/-- ITS FALSE NEIGHBOUR: 'it returns false'. Refute it at one input. -/
def opsContentsWrong : ChangeSpec := { name := "opsContents", fn := fun _ => fun
  | [d] => { results := [.lit (.bool false)], args := [d] }
  | _ => none }
def OpsContentsWrongFalsely : Prop := opsContentsRow.holds Tryd.pinned (OpenSpec.ofChange opsContentsWrong)

/-- 'chartroomlaw17.OpsOrder': WHATEVER THE INPUT: true; the input reads as it did. -/
def opsOrderSpec : ChangeSpec := { name := "opsOrder", fn := fun _ => fun
  | [d1, d2, d3] => { results := [.lit (.bool true)], args := [d1, d2, d3] }
  | _ => none }
def opsOrderRow : OpenClaim := { program := "ytncejmjicjlanaadoor", sum := "dfb73e9d3fce0b2b20e6e52c64d6e30b3b3987d1913f37328e30b6e4b6542647", func := "chartroom/chartroomlaw17.OpsOrder", spec := "opsOrder", inPlace := ["internal/bytealg.Compare"], unfollowed := true, recurses := true, named := ["chartroom/ops.kinds", "chartroom/vector.greater"], apart := false, laid := [("chartroom/vector.greater", laid_chartroom_vector_greater), ("chartroom/ops.kinds", laid_chartroom_ops_kinds)] }
def OpsOrderSaid : Prop := opsOrderRow.holds Tryd.pinned (OpenSpec.ofChange opsOrderSpec)

/-- ITS FALSE NEIGHBOUR: 'it returns false'. Refute it at one input. -/
def opsOrderWrong : ChangeSpec := { name := "opsOrder", fn := fun _ => fun
  | [d1, d2, d3] => { results := [.lit (.bool false)], args := [d1, d2, d3] }
  | _ => none }
def OpsOrderWrongFalsely : Prop := opsOrderRow.holds Tryd.pinned (OpenSpec.ofChange opsOrderWrong)

/- THE SECOND FORM. 'bulk': how many values and letters a reading holds, each counted each time it is reached (what is shared counts as often as it is met; a slice's spare places count too). A statement '..UptoSaid' is the law's where the arguments, and the package variables that the reading takes, are together of bulk at most 1048576: NARROWER than '..Said'. Prove '..Said' where nothing that the law and all that it calls make is longer than what came in: it says more and counts as full. Else prove '..UptoSaid'. A law counts once. -/
mutual
def uptoBulk {H : Type} : DataW H → Nat
  | .lit (.string bytes) => bytes.length + 1
  | .lit _ => 1
  | .nil => 1
  | .ptr d => uptoBulk d + 1
  | .slice elems spare => uptoBulkAll elems + uptoBulkAll spare + 1
  | .agg parts => uptoBulkAll parts + 1
  | .iface _ d => uptoBulk d + 1
  | .map entries => uptoBulkEntries entries + 1
  | .held _ => 1
def uptoBulkAll {H : Type} : List (DataW H) → Nat
  | [] => 0
  | d :: r => uptoBulk d + uptoBulkAll r
def uptoBulkEntries {H : Type} : List (Lit × DataW H) → Nat
  | [] => 0
  | x :: r => uptoBulkEntry x + uptoBulkEntries r
def uptoBulkEntry {H : Type} : Lit × DataW H → Nat
  | (.string bytes, d) => bytes.length + uptoBulk d + 1
  | (_, d) => uptoBulk d + 1
 end
def uptoSmall : (H : Type) → List (DataW H) → Bool := fun _ ds => decide (uptoBulkAll ds ≤ 1048576)
def OpenSpec.upto (s : _root_.Go.ChangeSpec) : _root_.Go.OpenSpec := { _root_.Go.OpenSpec.ofChange s with cond := some uptoSmall }

/-- 'chartroomlaw12.VectorSpec', WHERE WHAT IT READS IS OF BULK AT MOST 1048576: true; the input reads as it did. -/
def vectorSpecUptoRow : OpenClaim := { program := "ytncejmjicjlanaadoor", sum := "dfb73e9d3fce0b2b20e6e52c64d6e30b3b3987d1913f37328e30b6e4b6542647", func := "chartroom/chartroomlaw12.VectorSpec", spec := "vectorSpec", unfollowed := true, recurses := true, named := ["chartroom/vector.greater", "chartroom/vector.lesser"], apart := false, laid := [("chartroom/vector.greater", laid_chartroom_vector_greater), ("chartroom/vector.lesser", laid_chartroom_vector_lesser)], narrowed := true }
def VectorSpecUptoSaid : Prop := vectorSpecUptoRow.holds Tryd.pinned (OpenSpec.upto vectorSpecSpec)

/-- 'chartroomlaw12.VectorJoinsSpec', WHERE WHAT IT READS IS OF BULK AT MOST 1048576: true; the input reads as it did. -/
def vectorJoinsSpecUptoRow : OpenClaim := { program := "ytncejmjicjlanaadoor", sum := "dfb73e9d3fce0b2b20e6e52c64d6e30b3b3987d1913f37328e30b6e4b6542647", func := "chartroom/chartroomlaw12.VectorJoinsSpec", spec := "vectorJoinsSpec", unfollowed := true, recurses := true, named := ["chartroom/vector.greater", "chartroom/vector.lesser"], apart := false, laid := [("chartroom/vector.greater", laid_chartroom_vector_greater), ("chartroom/vector.lesser", laid_chartroom_vector_lesser)], narrowed := true }
def VectorJoinsSpecUptoSaid : Prop := vectorJoinsSpecUptoRow.holds Tryd.pinned (OpenSpec.upto vectorJoinsSpecSpec)

/-- 'chartroomlaw12.VectorCovers', WHERE WHAT IT READS IS OF BULK AT MOST 1048576: true; the input reads as it did. -/
def vectorCoversUptoRow : OpenClaim := { program := "ytncejmjicjlanaadoor", sum := "dfb73e9d3fce0b2b20e6e52c64d6e30b3b3987d1913f37328e30b6e4b6542647", func := "chartroom/chartroomlaw12.VectorCovers", spec := "vectorCovers", unfollowed := true, recurses := true, named := ["chartroom/vector.greater", "chartroom/vector.lesser"], apart := false, laid := [("chartroom/vector.greater", laid_chartroom_vector_greater), ("chartroom/vector.lesser", laid_chartroom_vector_lesser)], narrowed := true }
def VectorCoversUptoSaid : Prop := vectorCoversUptoRow.holds Tryd.pinned (OpenSpec.upto vectorCoversSpec)

/-- 'chartroomlaw12.VectorLattice', WHERE WHAT IT READS IS OF BULK AT MOST 1048576: true; the input reads as it did. -/
def vectorLatticeUptoRow : OpenClaim := { program := "ytncejmjicjlanaadoor", sum := "dfb73e9d3fce0b2b20e6e52c64d6e30b3b3987d1913f37328e30b6e4b6542647", func := "chartroom/chartroomlaw12.VectorLattice", spec := "vectorLattice", unfollowed := true, recurses := true, named := ["chartroom/vector.greater", "chartroom/vector.lesser"], apart := false, laid := [("chartroom/vector.greater", laid_chartroom_vector_greater), ("chartroom/vector.lesser", laid_chartroom_vector_lesser)], narrowed := true }
def VectorLatticeUptoSaid : Prop := vectorLatticeUptoRow.holds Tryd.pinned (OpenSpec.upto vectorLatticeSpec)

/-- 'chartroomlaw17.OpsKnows', WHERE WHAT IT READS IS OF BULK AT MOST 1048576: true; the input reads as it did. -/
def opsKnowsUptoRow : OpenClaim := { program := "ytncejmjicjlanaadoor", sum := "dfb73e9d3fce0b2b20e6e52c64d6e30b3b3987d1913f37328e30b6e4b6542647", func := "chartroom/chartroomlaw17.OpsKnows", spec := "opsKnows", inPlace := ["internal/bytealg.Compare"], unfollowed := true, recurses := true, named := ["chartroom/ops.kinds", "chartroom/vector.greater"], apart := false, laid := [("chartroom/vector.greater", laid_chartroom_vector_greater), ("chartroom/ops.kinds", laid_chartroom_ops_kinds)], narrowed := true }
def OpsKnowsUptoSaid : Prop := opsKnowsUptoRow.holds Tryd.pinned (OpenSpec.upto opsKnowsSpec)

/-- 'chartroomlaw12.VectorOrder', WHERE WHAT IT READS IS OF BULK AT MOST 1048576: true; the input reads as it did. -/
def vectorOrderUptoRow : OpenClaim := { program := "ytncejmjicjlanaadoor", sum := "dfb73e9d3fce0b2b20e6e52c64d6e30b3b3987d1913f37328e30b6e4b6542647", func := "chartroom/chartroomlaw12.VectorOrder", spec := "vectorOrder", unfollowed := true, recurses := true, named := ["chartroom/vector.greater", "chartroom/vector.lesser"], apart := false, laid := [("chartroom/vector.greater", laid_chartroom_vector_greater), ("chartroom/vector.lesser", laid_chartroom_vector_lesser)], narrowed := true }
def VectorOrderUptoSaid : Prop := vectorOrderUptoRow.holds Tryd.pinned (OpenSpec.upto vectorOrderSpec)

/-- 'chartroomlaw17.OpsFields', WHERE WHAT IT READS IS OF BULK AT MOST 1048576: true; the input reads as it did. -/
def opsFieldsUptoRow : OpenClaim := { program := "ytncejmjicjlanaadoor", sum := "dfb73e9d3fce0b2b20e6e52c64d6e30b3b3987d1913f37328e30b6e4b6542647", func := "chartroom/chartroomlaw17.OpsFields", spec := "opsFields", inPlace := ["internal/bytealg.Compare"], unfollowed := true, recurses := true, named := ["chartroom/ops.kinds", "chartroom/vector.greater"], apart := false, laid := [("chartroom/vector.greater", laid_chartroom_vector_greater), ("chartroom/ops.kinds", laid_chartroom_ops_kinds)], narrowed := true }
def OpsFieldsUptoSaid : Prop := opsFieldsUptoRow.holds Tryd.pinned (OpenSpec.upto opsFieldsSpec)

/-- 'chartroomlaw12.VectorLeast', WHERE WHAT IT READS IS OF BULK AT MOST 1048576: true; the input reads as it did. -/
def vectorLeastUptoRow : OpenClaim := { program := "ytncejmjicjlanaadoor", sum := "dfb73e9d3fce0b2b20e6e52c64d6e30b3b3987d1913f37328e30b6e4b6542647", func := "chartroom/chartroomlaw12.VectorLeast", spec := "vectorLeast", unfollowed := true, recurses := true, named := ["chartroom/vector.greater", "chartroom/vector.lesser"], apart := false, laid := [("chartroom/vector.greater", laid_chartroom_vector_greater), ("chartroom/vector.lesser", laid_chartroom_vector_lesser)], narrowed := true }
def VectorLeastUptoSaid : Prop := vectorLeastUptoRow.holds Tryd.pinned (OpenSpec.upto vectorLeastSpec)

/-- 'chartroomlaw12.VectorAdds', WHERE WHAT IT READS IS OF BULK AT MOST 1048576: true; the input reads as it did. -/
def vectorAddsUptoRow : OpenClaim := { program := "ytncejmjicjlanaadoor", sum := "dfb73e9d3fce0b2b20e6e52c64d6e30b3b3987d1913f37328e30b6e4b6542647", func := "chartroom/chartroomlaw12.VectorAdds", spec := "vectorAdds", unfollowed := true, recurses := true, named := ["chartroom/vector.greater", "chartroom/vector.lesser"], apart := false, laid := [("chartroom/vector.greater", laid_chartroom_vector_greater), ("chartroom/vector.lesser", laid_chartroom_vector_lesser)], narrowed := true }
def VectorAddsUptoSaid : Prop := vectorAddsUptoRow.holds Tryd.pinned (OpenSpec.upto vectorAddsSpec)

/-- 'chartroomlaw17.OpsCheckSpec', WHERE WHAT IT READS IS OF BULK AT MOST 1048576: true; the input reads as it did. -/
def opsCheckSpecUptoRow : OpenClaim := { program := "ytncejmjicjlanaadoor", sum := "dfb73e9d3fce0b2b20e6e52c64d6e30b3b3987d1913f37328e30b6e4b6542647", func := "chartroom/chartroomlaw17.OpsCheckSpec", spec := "opsCheckSpec", inPlace := ["internal/bytealg.Compare"], unfollowed := true, recurses := true, named := ["chartroom/ops.kinds", "chartroom/vector.greater"], apart := false, laid := [("chartroom/vector.greater", laid_chartroom_vector_greater), ("chartroom/ops.kinds", laid_chartroom_ops_kinds)], narrowed := true }
def OpsCheckSpecUptoSaid : Prop := opsCheckSpecUptoRow.holds Tryd.pinned (OpenSpec.upto opsCheckSpecSpec)

/-- 'chartroomlaw17.OpsEncodeSpec', WHERE WHAT IT READS IS OF BULK AT MOST 1048576: true; the input reads as it did. -/
def opsEncodeSpecUptoRow : OpenClaim := { program := "ytncejmjicjlanaadoor", sum := "dfb73e9d3fce0b2b20e6e52c64d6e30b3b3987d1913f37328e30b6e4b6542647", func := "chartroom/chartroomlaw17.OpsEncodeSpec", spec := "opsEncodeSpec", inPlace := ["internal/bytealg.Compare"], unfollowed := true, recurses := true, named := ["chartroom/ops.kinds", "chartroom/vector.greater"], apart := false, laid := [("chartroom/vector.greater", laid_chartroom_vector_greater), ("chartroom/ops.kinds", laid_chartroom_ops_kinds)], narrowed := true }
def OpsEncodeSpecUptoSaid : Prop := opsEncodeSpecUptoRow.holds Tryd.pinned (OpenSpec.upto opsEncodeSpecSpec)

/-- 'chartroomlaw17.OpsBack', WHERE WHAT IT READS IS OF BULK AT MOST 1048576: true; the input reads as it did. -/
def opsBackUptoRow : OpenClaim := { program := "ytncejmjicjlanaadoor", sum := "dfb73e9d3fce0b2b20e6e52c64d6e30b3b3987d1913f37328e30b6e4b6542647", func := "chartroom/chartroomlaw17.OpsBack", spec := "opsBack", inPlace := ["internal/bytealg.Compare"], unfollowed := true, recurses := true, named := ["chartroom/ops.kinds", "chartroom/vector.greater"], apart := false, laid := [("chartroom/vector.greater", laid_chartroom_vector_greater), ("chartroom/ops.kinds", laid_chartroom_ops_kinds)], narrowed := true }
def OpsBackUptoSaid : Prop := opsBackUptoRow.holds Tryd.pinned (OpenSpec.upto opsBackSpec)

/-- 'chartroomlaw17.OpsContents', WHERE WHAT IT READS IS OF BULK AT MOST 1048576: true; the input reads as it did. -/
def opsContentsUptoRow : OpenClaim := { program := "ytncejmjicjlanaadoor", sum := "dfb73e9d3fce0b2b20e6e52c64d6e30b3b3987d1913f37328e30b6e4b6542647", func := "chartroom/chartroomlaw17.OpsContents", spec := "opsContents", inPlace := ["internal/bytealg.Compare"], unfollowed := true, recurses := true, named := ["chartroom/ops.kinds", "chartroom/vector.greater"], apart := false, laid := [("chartroom/vector.greater", laid_chartroom_vector_greater), ("chartroom/ops.kinds", laid_chartroom_ops_kinds)], narrowed := true }
def OpsContentsUptoSaid : Prop := opsContentsUptoRow.holds Tryd.pinned (OpenSpec.upto opsContentsSpec)

/-- 'chartroomlaw17.OpsOrder', WHERE WHAT IT READS IS OF BULK AT MOST 1048576: true; the input reads as it did. -/
def opsOrderUptoRow : OpenClaim := { program := "ytncejmjicjlanaadoor", sum := "dfb73e9d3fce0b2b20e6e52c64d6e30b3b3987d1913f37328e30b6e4b6542647", func := "chartroom/chartroomlaw17.OpsOrder", spec := "opsOrder", inPlace := ["internal/bytealg.Compare"], unfollowed := true, recurses := true, named := ["chartroom/ops.kinds", "chartroom/vector.greater"], apart := false, laid := [("chartroom/vector.greater", laid_chartroom_vector_greater), ("chartroom/ops.kinds", laid_chartroom_ops_kinds)], narrowed := true }
def OpsOrderUptoSaid : Prop := opsOrderUptoRow.holds Tryd.pinned (OpenSpec.upto opsOrderSpec)

end Rows
end Go.Proofs.YtncejmjicjlanaaDoor
