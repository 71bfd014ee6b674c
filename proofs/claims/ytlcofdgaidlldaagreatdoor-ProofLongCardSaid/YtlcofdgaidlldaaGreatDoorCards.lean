/-
  DERIVED. GIVEN WITH THE SEED: THE CARDS: each row of YtlcofdgaidlldaaGreatDoorRows.lean that lists a variable, with what it lists TIED to the program's text (the seventh form; the later family's looks); each row that meets fmt, with fmt's text TOLD by the authors' own Lean function (tested against real Go, not proved from fmt's source: count such statements apart). THE CARD IS WHAT COUNTS. Prove the row's statement (the work); the ties are given (YtlcofdgaidlldaaGreatDoorTie.lean); close each card by the builder's one call (the guide's Derived/Test/ToyasCard.lean, 'card_holds'). Laid BY PROGRAM, IN A SANDBOX (cutbox-door.mjs). By AI agents, Wed Nov 11 2026. No macro, syntax, notation, axiom, sorry.
-/
import Derived.Test.YtlcofdgaidlldaaGreatDoorRows
import GoSem.ClaimSeven
namespace Go.Proofs.YtlcofdgaidlldaaGreatDoor
namespace Rows

/-- THE TIED CARD OF 'pavanelaw12.ProofLong'. -/
def proofLongCard : Claim7 := { stood := { row := proofLongRow, standIns := [], harness := (true, "0eb9b8a9781060f9e62a24be4592f305406d387b26a59ae50af4c9635a077673"), looks := false }, kinds := [], alts := [], laidByText := true, laidKinds := [.data, .data, .data], laidTests := true, laidLooks := .later }
def ProofLongCardSaid : Prop := Claim7.holds Tryz.pinned (.plain (OpenSpec.ofChange proofLongSpec)) proofLongCard

/-- THE SECOND FORM's CARD OF 'pavanelaw12.ProofLong'. -/
def proofLongUptoCard : Claim7 := { stood := { row := proofLongUptoRow, standIns := [], harness := (true, "0eb9b8a9781060f9e62a24be4592f305406d387b26a59ae50af4c9635a077673"), looks := false }, kinds := [], alts := [], laidByText := true, laidKinds := [.data, .data, .data], laidTests := true, laidLooks := .later }
def ProofLongUptoCardSaid : Prop := Claim7.holds Tryz.pinned (.plain (OpenSpec.upto proofLongSpec)) proofLongUptoCard
end Rows
end Go.Proofs.YtlcofdgaidlldaaGreatDoor
