/-
  DERIVED. GIVEN WITH THE SEED: THE CARDS: each row of YtkbjnlcongjokaaGreatDoorRows.lean that lists a variable, with what it lists TIED to the program's text (the seventh form; the later family's looks); each row that meets fmt, with fmt's text TOLD by the authors' own Lean function (tested against real Go, not proved from fmt's source: count such statements apart). THE CARD IS WHAT COUNTS. Prove the row's statement (the work); the ties are given (YtkbjnlcongjokaaGreatDoorTie.lean); close each card by the builder's one call (the guide's Derived/Test/ToyasCard.lean, 'card_holds'). Laid BY PROGRAM, IN A SANDBOX (cutbox-door.mjs). By AI agents, Wed Nov 11 2026. No macro, syntax, notation, axiom, sorry.
-/
import Derived.Test.YtkbjnlcongjokaaGreatDoorRows
import GoSem.ClaimSeven
namespace Go.Proofs.YtkbjnlcongjokaaGreatDoor
namespace Rows

/-- THE TIED CARD OF 'quaymasterlaw.FullRefuses'. -/
def fullRefusesCard : Claim7 := { stood := { row := fullRefusesRow, standIns := [], harness := (true, "c5843d5be5276ea6cc21378a802f2d39e4ca491ae3ef72f4764e0b65a715e498"), looks := true }, kinds := [], alts := [], laidByText := true, laidKinds := [.data, .data, .data, .data, .handle, .sentinel, .sentinel, .listed, .data, .pinned, .pinned], laidTests := true, laidLooks := .later }
def FullRefusesCardSaid : Prop := Claim7.holds Tryz.pinned (.plain (OpenSpec.ofChange fullRefusesSpec)) fullRefusesCard

/-- THE SECOND FORM's CARD OF 'quaymasterlaw.FullRefuses'. -/
def fullRefusesUptoCard : Claim7 := { stood := { row := fullRefusesUptoRow, standIns := [], harness := (true, "c5843d5be5276ea6cc21378a802f2d39e4ca491ae3ef72f4764e0b65a715e498"), looks := true }, kinds := [], alts := [], laidByText := true, laidKinds := [.data, .data, .data, .data, .handle, .sentinel, .sentinel, .listed, .data, .pinned, .pinned], laidTests := true, laidLooks := .later }
def FullRefusesUptoCardSaid : Prop := Claim7.holds Tryz.pinned (.plain (OpenSpec.upto fullRefusesSpec)) fullRefusesUptoCard
end Rows
end Go.Proofs.YtkbjnlcongjokaaGreatDoor
