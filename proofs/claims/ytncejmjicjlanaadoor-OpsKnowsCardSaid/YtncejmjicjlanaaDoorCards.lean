/-
  DERIVED. GIVEN WITH THE SEED: THE CARDS: each row of YtncejmjicjlanaaDoorRows.lean that lists a variable, with what it lists TIED to the program's text (the seventh form; the later family's looks); each row that meets fmt, with fmt's text TOLD by the authors' own Lean function (tested against real Go, not proved from fmt's source: count such statements apart). THE CARD IS WHAT COUNTS. Prove the row's statement (the work); the ties are given (YtncejmjicjlanaaDoorTie.lean); close each card by the builder's one call (the guide's Derived/Test/ToyasCard.lean, 'card_holds'). Laid BY PROGRAM, IN A SANDBOX (cutbox-door.mjs). By AI agents, Wed Nov 11 2026. No macro, syntax, notation, axiom, sorry.
-/
import Derived.Test.YtncejmjicjlanaaDoorRows
import GoSem.ClaimSeven
namespace Go.Proofs.YtncejmjicjlanaaDoor
namespace Rows

/-- THE TIED CARD OF 'chartroomlaw12.VectorSpec'. -/
def vectorSpecCard : Claim7 := { stood := { row := vectorSpecRow, standIns := [], harness := (true, "6f89ab7e600e1c24921937a7e7e29a06d98f8d54ce1b48b93bba96239dbf37b2"), looks := true }, kinds := [], alts := [], laidByText := true, laidKinds := [.funcs, .funcs], laidTests := true, laidLooks := .later }
def VectorSpecCardSaid : Prop := Claim7.holds Tryd.pinned (.plain (OpenSpec.ofChange vectorSpecSpec)) vectorSpecCard

/-- THE TIED CARD OF 'chartroomlaw12.VectorJoinsSpec'. -/
def vectorJoinsSpecCard : Claim7 := { stood := { row := vectorJoinsSpecRow, standIns := [], harness := (true, "6f89ab7e600e1c24921937a7e7e29a06d98f8d54ce1b48b93bba96239dbf37b2"), looks := true }, kinds := [], alts := [], laidByText := true, laidKinds := [.funcs, .funcs], laidTests := true, laidLooks := .later }
def VectorJoinsSpecCardSaid : Prop := Claim7.holds Tryd.pinned (.plain (OpenSpec.ofChange vectorJoinsSpecSpec)) vectorJoinsSpecCard

/-- THE TIED CARD OF 'chartroomlaw12.VectorCovers'. -/
def vectorCoversCard : Claim7 := { stood := { row := vectorCoversRow, standIns := [], harness := (true, "6f89ab7e600e1c24921937a7e7e29a06d98f8d54ce1b48b93bba96239dbf37b2"), looks := true }, kinds := [], alts := [], laidByText := true, laidKinds := [.funcs, .funcs], laidTests := true, laidLooks := .later }
def VectorCoversCardSaid : Prop := Claim7.holds Tryd.pinned (.plain (OpenSpec.ofChange vectorCoversSpec)) vectorCoversCard

/-- THE TIED CARD OF 'chartroomlaw12.VectorLattice'. -/
def vectorLatticeCard : Claim7 := { stood := { row := vectorLatticeRow, standIns := [], harness := (true, "6f89ab7e600e1c24921937a7e7e29a06d98f8d54ce1b48b93bba96239dbf37b2"), looks := true }, kinds := [], alts := [], laidByText := true, laidKinds := [.funcs, .funcs], laidTests := true, laidLooks := .later }
def VectorLatticeCardSaid : Prop := Claim7.holds Tryd.pinned (.plain (OpenSpec.ofChange vectorLatticeSpec)) vectorLatticeCard

/-- THE TIED CARD OF 'chartroomlaw17.OpsKnows'. -/
def opsKnowsCard : Claim7 := { stood := { row := opsKnowsRow, standIns := [], harness := (true, "6f89ab7e600e1c24921937a7e7e29a06d98f8d54ce1b48b93bba96239dbf37b2"), looks := true }, kinds := [], alts := [], laidByText := true, laidKinds := [.funcs, .funcs], laidTests := true, laidLooks := .later }
def OpsKnowsCardSaid : Prop := Claim7.holds Tryd.pinned (.plain (OpenSpec.ofChange opsKnowsSpec)) opsKnowsCard

/-- THE TIED CARD OF 'chartroomlaw12.VectorOrder'. -/
def vectorOrderCard : Claim7 := { stood := { row := vectorOrderRow, standIns := [], harness := (true, "6f89ab7e600e1c24921937a7e7e29a06d98f8d54ce1b48b93bba96239dbf37b2"), looks := true }, kinds := [], alts := [], laidByText := true, laidKinds := [.funcs, .funcs], laidTests := true, laidLooks := .later }
def VectorOrderCardSaid : Prop := Claim7.holds Tryd.pinned (.plain (OpenSpec.ofChange vectorOrderSpec)) vectorOrderCard

/-- THE TIED CARD OF 'chartroomlaw17.OpsFields'. -/
def opsFieldsCard : Claim7 := { stood := { row := opsFieldsRow, standIns := [], harness := (true, "6f89ab7e600e1c24921937a7e7e29a06d98f8d54ce1b48b93bba96239dbf37b2"), looks := true }, kinds := [], alts := [], laidByText := true, laidKinds := [.funcs, .funcs], laidTests := true, laidLooks := .later }
def OpsFieldsCardSaid : Prop := Claim7.holds Tryd.pinned (.plain (OpenSpec.ofChange opsFieldsSpec)) opsFieldsCard

/-- THE TIED CARD OF 'chartroomlaw12.VectorLeast'. -/
def vectorLeastCard : Claim7 := { stood := { row := vectorLeastRow, standIns := [], harness := (true, "6f89ab7e600e1c24921937a7e7e29a06d98f8d54ce1b48b93bba96239dbf37b2"), looks := true }, kinds := [], alts := [], laidByText := true, laidKinds := [.funcs, .funcs], laidTests := true, laidLooks := .later }
def VectorLeastCardSaid : Prop := Claim7.holds Tryd.pinned (.plain (OpenSpec.ofChange vectorLeastSpec)) vectorLeastCard

/-- THE TIED CARD OF 'chartroomlaw12.VectorAdds'. -/
def vectorAddsCard : Claim7 := { stood := { row := vectorAddsRow, standIns := [], harness := (true, "6f89ab7e600e1c24921937a7e7e29a06d98f8d54ce1b48b93bba96239dbf37b2"), looks := true }, kinds := [], alts := [], laidByText := true, laidKinds := [.funcs, .funcs], laidTests := true, laidLooks := .later }
def VectorAddsCardSaid : Prop := Claim7.holds Tryd.pinned (.plain (OpenSpec.ofChange vectorAddsSpec)) vectorAddsCard

/-- THE TIED CARD OF 'chartroomlaw17.OpsCheckSpec'. -/
def opsCheckSpecCard : Claim7 := { stood := { row := opsCheckSpecRow, standIns := [], harness := (true, "6f89ab7e600e1c24921937a7e7e29a06d98f8d54ce1b48b93bba96239dbf37b2"), looks := true }, kinds := [], alts := [], laidByText := true, laidKinds := [.funcs, .funcs], laidTests := true, laidLooks := .later }
def OpsCheckSpecCardSaid : Prop := Claim7.holds Tryd.pinned (.plain (OpenSpec.ofChange opsCheckSpecSpec)) opsCheckSpecCard

/-- THE TIED CARD OF 'chartroomlaw17.OpsEncodeSpec'. -/
def opsEncodeSpecCard : Claim7 := { stood := { row := opsEncodeSpecRow, standIns := [], harness := (true, "6f89ab7e600e1c24921937a7e7e29a06d98f8d54ce1b48b93bba96239dbf37b2"), looks := true }, kinds := [], alts := [], laidByText := true, laidKinds := [.funcs, .funcs], laidTests := true, laidLooks := .later }
def OpsEncodeSpecCardSaid : Prop := Claim7.holds Tryd.pinned (.plain (OpenSpec.ofChange opsEncodeSpecSpec)) opsEncodeSpecCard

/-- THE TIED CARD OF 'chartroomlaw17.OpsBack'. -/
def opsBackCard : Claim7 := { stood := { row := opsBackRow, standIns := [], harness := (true, "6f89ab7e600e1c24921937a7e7e29a06d98f8d54ce1b48b93bba96239dbf37b2"), looks := true }, kinds := [], alts := [], laidByText := true, laidKinds := [.funcs, .funcs], laidTests := true, laidLooks := .later }
def OpsBackCardSaid : Prop := Claim7.holds Tryd.pinned (.plain (OpenSpec.ofChange opsBackSpec)) opsBackCard

/-- THE TIED CARD OF 'chartroomlaw17.OpsContents'. -/
def opsContentsCard : Claim7 := { stood := { row := opsContentsRow, standIns := [], harness := (true, "6f89ab7e600e1c24921937a7e7e29a06d98f8d54ce1b48b93bba96239dbf37b2"), looks := true }, kinds := [], alts := [], laidByText := true, laidKinds := [.funcs, .funcs], laidTests := true, laidLooks := .later }
def OpsContentsCardSaid : Prop := Claim7.holds Tryd.pinned (.plain (OpenSpec.ofChange opsContentsSpec)) opsContentsCard

/-- THE TIED CARD OF 'chartroomlaw17.OpsOrder'. -/
def opsOrderCard : Claim7 := { stood := { row := opsOrderRow, standIns := [], harness := (true, "6f89ab7e600e1c24921937a7e7e29a06d98f8d54ce1b48b93bba96239dbf37b2"), looks := true }, kinds := [], alts := [], laidByText := true, laidKinds := [.funcs, .funcs], laidTests := true, laidLooks := .later }
def OpsOrderCardSaid : Prop := Claim7.holds Tryd.pinned (.plain (OpenSpec.ofChange opsOrderSpec)) opsOrderCard

/-- THE SECOND FORM's CARD OF 'chartroomlaw12.VectorSpec'. -/
def vectorSpecUptoCard : Claim7 := { stood := { row := vectorSpecUptoRow, standIns := [], harness := (true, "6f89ab7e600e1c24921937a7e7e29a06d98f8d54ce1b48b93bba96239dbf37b2"), looks := true }, kinds := [], alts := [], laidByText := true, laidKinds := [.funcs, .funcs], laidTests := true, laidLooks := .later }
def VectorSpecUptoCardSaid : Prop := Claim7.holds Tryd.pinned (.plain (OpenSpec.upto vectorSpecSpec)) vectorSpecUptoCard

/-- THE SECOND FORM's CARD OF 'chartroomlaw12.VectorJoinsSpec'. -/
def vectorJoinsSpecUptoCard : Claim7 := { stood := { row := vectorJoinsSpecUptoRow, standIns := [], harness := (true, "6f89ab7e600e1c24921937a7e7e29a06d98f8d54ce1b48b93bba96239dbf37b2"), looks := true }, kinds := [], alts := [], laidByText := true, laidKinds := [.funcs, .funcs], laidTests := true, laidLooks := .later }
def VectorJoinsSpecUptoCardSaid : Prop := Claim7.holds Tryd.pinned (.plain (OpenSpec.upto vectorJoinsSpecSpec)) vectorJoinsSpecUptoCard

/-- THE SECOND FORM's CARD OF 'chartroomlaw12.VectorCovers'. -/
def vectorCoversUptoCard : Claim7 := { stood := { row := vectorCoversUptoRow, standIns := [], harness := (true, "6f89ab7e600e1c24921937a7e7e29a06d98f8d54ce1b48b93bba96239dbf37b2"), looks := true }, kinds := [], alts := [], laidByText := true, laidKinds := [.funcs, .funcs], laidTests := true, laidLooks := .later }
def VectorCoversUptoCardSaid : Prop := Claim7.holds Tryd.pinned (.plain (OpenSpec.upto vectorCoversSpec)) vectorCoversUptoCard

/-- THE SECOND FORM's CARD OF 'chartroomlaw12.VectorLattice'. -/
def vectorLatticeUptoCard : Claim7 := { stood := { row := vectorLatticeUptoRow, standIns := [], harness := (true, "6f89ab7e600e1c24921937a7e7e29a06d98f8d54ce1b48b93bba96239dbf37b2"), looks := true }, kinds := [], alts := [], laidByText := true, laidKinds := [.funcs, .funcs], laidTests := true, laidLooks := .later }
def VectorLatticeUptoCardSaid : Prop := Claim7.holds Tryd.pinned (.plain (OpenSpec.upto vectorLatticeSpec)) vectorLatticeUptoCard

/-- THE SECOND FORM's CARD OF 'chartroomlaw17.OpsKnows'. -/
def opsKnowsUptoCard : Claim7 := { stood := { row := opsKnowsUptoRow, standIns := [], harness := (true, "6f89ab7e600e1c24921937a7e7e29a06d98f8d54ce1b48b93bba96239dbf37b2"), looks := true }, kinds := [], alts := [], laidByText := true, laidKinds := [.funcs, .funcs], laidTests := true, laidLooks := .later }
def OpsKnowsUptoCardSaid : Prop := Claim7.holds Tryd.pinned (.plain (OpenSpec.upto opsKnowsSpec)) opsKnowsUptoCard

/-- THE SECOND FORM's CARD OF 'chartroomlaw12.VectorOrder'. -/
def vectorOrderUptoCard : Claim7 := { stood := { row := vectorOrderUptoRow, standIns := [], harness := (true, "6f89ab7e600e1c24921937a7e7e29a06d98f8d54ce1b48b93bba96239dbf37b2"), looks := true }, kinds := [], alts := [], laidByText := true, laidKinds := [.funcs, .funcs], laidTests := true, laidLooks := .later }
def VectorOrderUptoCardSaid : Prop := Claim7.holds Tryd.pinned (.plain (OpenSpec.upto vectorOrderSpec)) vectorOrderUptoCard

/-- THE SECOND FORM's CARD OF 'chartroomlaw17.OpsFields'. -/
def opsFieldsUptoCard : Claim7 := { stood := { row := opsFieldsUptoRow, standIns := [], harness := (true, "6f89ab7e600e1c24921937a7e7e29a06d98f8d54ce1b48b93bba96239dbf37b2"), looks := true }, kinds := [], alts := [], laidByText := true, laidKinds := [.funcs, .funcs], laidTests := true, laidLooks := .later }
def OpsFieldsUptoCardSaid : Prop := Claim7.holds Tryd.pinned (.plain (OpenSpec.upto opsFieldsSpec)) opsFieldsUptoCard

/-- THE SECOND FORM's CARD OF 'chartroomlaw12.VectorLeast'. -/
def vectorLeastUptoCard : Claim7 := { stood := { row := vectorLeastUptoRow, standIns := [], harness := (true, "6f89ab7e600e1c24921937a7e7e29a06d98f8d54ce1b48b93bba96239dbf37b2"), looks := true }, kinds := [], alts := [], laidByText := true, laidKinds := [.funcs, .funcs], laidTests := true, laidLooks := .later }
def VectorLeastUptoCardSaid : Prop := Claim7.holds Tryd.pinned (.plain (OpenSpec.upto vectorLeastSpec)) vectorLeastUptoCard

/-- THE SECOND FORM's CARD OF 'chartroomlaw12.VectorAdds'. -/
def vectorAddsUptoCard : Claim7 := { stood := { row := vectorAddsUptoRow, standIns := [], harness := (true, "6f89ab7e600e1c24921937a7e7e29a06d98f8d54ce1b48b93bba96239dbf37b2"), looks := true }, kinds := [], alts := [], laidByText := true, laidKinds := [.funcs, .funcs], laidTests := true, laidLooks := .later }
def VectorAddsUptoCardSaid : Prop := Claim7.holds Tryd.pinned (.plain (OpenSpec.upto vectorAddsSpec)) vectorAddsUptoCard

/-- THE SECOND FORM's CARD OF 'chartroomlaw17.OpsCheckSpec'. -/
def opsCheckSpecUptoCard : Claim7 := { stood := { row := opsCheckSpecUptoRow, standIns := [], harness := (true, "6f89ab7e600e1c24921937a7e7e29a06d98f8d54ce1b48b93bba96239dbf37b2"), looks := true }, kinds := [], alts := [], laidByText := true, laidKinds := [.funcs, .funcs], laidTests := true, laidLooks := .later }
def OpsCheckSpecUptoCardSaid : Prop := Claim7.holds Tryd.pinned (.plain (OpenSpec.upto opsCheckSpecSpec)) opsCheckSpecUptoCard

/-- THE SECOND FORM's CARD OF 'chartroomlaw17.OpsEncodeSpec'. -/
def opsEncodeSpecUptoCard : Claim7 := { stood := { row := opsEncodeSpecUptoRow, standIns := [], harness := (true, "6f89ab7e600e1c24921937a7e7e29a06d98f8d54ce1b48b93bba96239dbf37b2"), looks := true }, kinds := [], alts := [], laidByText := true, laidKinds := [.funcs, .funcs], laidTests := true, laidLooks := .later }
def OpsEncodeSpecUptoCardSaid : Prop := Claim7.holds Tryd.pinned (.plain (OpenSpec.upto opsEncodeSpecSpec)) opsEncodeSpecUptoCard

/-- THE SECOND FORM's CARD OF 'chartroomlaw17.OpsBack'. -/
def opsBackUptoCard : Claim7 := { stood := { row := opsBackUptoRow, standIns := [], harness := (true, "6f89ab7e600e1c24921937a7e7e29a06d98f8d54ce1b48b93bba96239dbf37b2"), looks := true }, kinds := [], alts := [], laidByText := true, laidKinds := [.funcs, .funcs], laidTests := true, laidLooks := .later }
def OpsBackUptoCardSaid : Prop := Claim7.holds Tryd.pinned (.plain (OpenSpec.upto opsBackSpec)) opsBackUptoCard

/-- THE SECOND FORM's CARD OF 'chartroomlaw17.OpsContents'. -/
def opsContentsUptoCard : Claim7 := { stood := { row := opsContentsUptoRow, standIns := [], harness := (true, "6f89ab7e600e1c24921937a7e7e29a06d98f8d54ce1b48b93bba96239dbf37b2"), looks := true }, kinds := [], alts := [], laidByText := true, laidKinds := [.funcs, .funcs], laidTests := true, laidLooks := .later }
def OpsContentsUptoCardSaid : Prop := Claim7.holds Tryd.pinned (.plain (OpenSpec.upto opsContentsSpec)) opsContentsUptoCard

/-- THE SECOND FORM's CARD OF 'chartroomlaw17.OpsOrder'. -/
def opsOrderUptoCard : Claim7 := { stood := { row := opsOrderUptoRow, standIns := [], harness := (true, "6f89ab7e600e1c24921937a7e7e29a06d98f8d54ce1b48b93bba96239dbf37b2"), looks := true }, kinds := [], alts := [], laidByText := true, laidKinds := [.funcs, .funcs], laidTests := true, laidLooks := .later }
def OpsOrderUptoCardSaid : Prop := Claim7.holds Tryd.pinned (.plain (OpenSpec.upto opsOrderSpec)) opsOrderUptoCard
end Rows
end Go.Proofs.YtncejmjicjlanaaDoor
