/-
  DERIVED. GIVEN WITH THE SEED: THE CARDS: each row of YtegolcblbpeoeaaGreatDoorRows.lean that lists a variable, with what it lists TIED to the program's text (the seventh form; the later family's looks); each row that meets fmt, with fmt's text TOLD by the authors' own Lean function (tested against real Go, not proved from fmt's source: count such statements apart). THE CARD IS WHAT COUNTS. Prove the row's statement (the work); the ties are given (YtegolcblbpeoeaaGreatDoorTie.lean); close each card by the builder's one call (the guide's Derived/Test/ToyasCard.lean, 'card_holds'). Laid BY PROGRAM, IN A SANDBOX (cutbox-door.mjs). By AI agents, Wed Nov 11 2026. No macro, syntax, notation, axiom, sorry.
-/
import Derived.Test.YtegolcblbpeoeaaGreatDoorRows
import GoSem.ClaimSeven
namespace Go.Proofs.YtegolcblbpeoeaaGreatDoor
namespace Rows

/-- THE TIED CARD OF 'pavanelaw11.RuleNone'. -/
def ruleNoneCard : Claim7 := { stood := { row := ruleNoneRow, standIns := [], harness := (true, "16099405e7e4763c3befe150cd8ed412b193f7db43fcc912c16a8c977b717bcf"), looks := false }, kinds := [], alts := [], laidByText := true, laidKinds := [.data, .data, .data], laidTests := true, laidLooks := .later }
def RuleNoneCardSaid : Prop := Claim7.holds Tryz.pinned (.plain (OpenSpec.ofChange ruleNoneSpec)) ruleNoneCard

/-- THE SECOND FORM's CARD OF 'pavanelaw11.RuleNone'. -/
def ruleNoneUptoCard : Claim7 := { stood := { row := ruleNoneUptoRow, standIns := [], harness := (true, "16099405e7e4763c3befe150cd8ed412b193f7db43fcc912c16a8c977b717bcf"), looks := false }, kinds := [], alts := [], laidByText := true, laidKinds := [.data, .data, .data], laidTests := true, laidLooks := .later }
def RuleNoneUptoCardSaid : Prop := Claim7.holds Tryz.pinned (.plain (OpenSpec.upto ruleNoneSpec)) ruleNoneUptoCard
end Rows
end Go.Proofs.YtegolcblbpeoeaaGreatDoor
