/-
  DERIVED. GIVEN WITH THE SEED: THE CARDS: each row of YtklnbcofmhlkdaaDoorRows.lean that lists a variable, with what it lists TIED to the program's text (the seventh form; the later family's looks); each row that meets fmt, with fmt's text TOLD by the authors' own Lean function (tested against real Go, not proved from fmt's source: count such statements apart). THE CARD IS WHAT COUNTS. Prove the row's statement (the work); the ties are given (YtklnbcofmhlkdaaDoorTie.lean); close each card by the builder's one call (the guide's Derived/Test/ToyasCard.lean, 'card_holds'). Laid BY PROGRAM, IN A SANDBOX (cutbox-door.mjs). By AI agents, Wed Nov 11 2026. No macro, syntax, notation, axiom, sorry.
-/
import Derived.Test.YtklnbcofmhlkdaaDoorRows
import GoSem.ClaimSeven
namespace Go.Proofs.YtklnbcofmhlkdaaDoor
namespace Rows

/-- THE TIED CARD OF 'coblelaw10.RelaySettles'. -/
def relaySettlesCard : Claim7 := { stood := { row := relaySettlesRow, standIns := [], harness := (true, "de4e48010a2ca8f5a55a3dfb1bdabea3ddc14f12b60014b7cf115920d07ff396"), looks := false }, kinds := [], alts := [], laidByText := true, laidKinds := [.data, .pinned], laidTests := true, laidLooks := .later }
def RelaySettlesCardSaid : Prop := Claim7.holds Tryd.pinned (.plain (OpenSpec.ofChange relaySettlesSpec)) relaySettlesCard

/-- THE TIED CARD OF 'coblelaw10.RelayEnds'. -/
def relayEndsCard : Claim7 := { stood := { row := relayEndsRow, standIns := [], harness := (true, "de4e48010a2ca8f5a55a3dfb1bdabea3ddc14f12b60014b7cf115920d07ff396"), looks := false }, kinds := [], alts := [], laidByText := true, laidKinds := [.data, .pinned], laidTests := true, laidLooks := .later }
def RelayEndsCardSaid : Prop := Claim7.holds Tryd.pinned (.plain (OpenSpec.ofChange relayEndsSpec)) relayEndsCard

/-- THE SECOND FORM's CARD OF 'coblelaw10.RelaySettles'. -/
def relaySettlesUptoCard : Claim7 := { stood := { row := relaySettlesUptoRow, standIns := [], harness := (true, "de4e48010a2ca8f5a55a3dfb1bdabea3ddc14f12b60014b7cf115920d07ff396"), looks := false }, kinds := [], alts := [], laidByText := true, laidKinds := [.data, .pinned], laidTests := true, laidLooks := .later }
def RelaySettlesUptoCardSaid : Prop := Claim7.holds Tryd.pinned (.plain (OpenSpec.upto relaySettlesSpec)) relaySettlesUptoCard

/-- THE SECOND FORM's CARD OF 'coblelaw10.RelayEnds'. -/
def relayEndsUptoCard : Claim7 := { stood := { row := relayEndsUptoRow, standIns := [], harness := (true, "de4e48010a2ca8f5a55a3dfb1bdabea3ddc14f12b60014b7cf115920d07ff396"), looks := false }, kinds := [], alts := [], laidByText := true, laidKinds := [.data, .pinned], laidTests := true, laidLooks := .later }
def RelayEndsUptoCardSaid : Prop := Claim7.holds Tryd.pinned (.plain (OpenSpec.upto relayEndsSpec)) relayEndsUptoCard
end Rows
end Go.Proofs.YtklnbcofmhlkdaaDoor
