/-
  DERIVED. GIVEN WITH THE SEED: THE CARDS: each row of YtlhmbbpkhahbeaaGreatDoorRows.lean that lists a variable, with what it lists TIED to the program's text (the seventh form; the later family's looks); each row that meets fmt, with fmt's text TOLD by the authors' own Lean function (tested against real Go, not proved from fmt's source: count such statements apart). THE CARD IS WHAT COUNTS. Prove the row's statement (the work); the ties are given (YtlhmbbpkhahbeaaGreatDoorTie.lean); close each card by the builder's one call (the guide's Derived/Test/ToyasCard.lean, 'card_holds'). Laid BY PROGRAM, IN A SANDBOX (cutbox-door.mjs). By AI agents, Wed Nov 11 2026. No macro, syntax, notation, axiom, sorry.
-/
import Derived.Test.YtlhmbbpkhahbeaaGreatDoorRows
import GoSem.ClaimSeven
namespace Go.Proofs.YtlhmbbpkhahbeaaGreatDoor
namespace Rows

/-- THE TIED CARD OF 'zermelolaw01.NumTextsBack'. -/
def numTextsBackCard : Claim7 := { stood := { row := numTextsBackRow, standIns := [], harness := (true, "90403c41e4aaf4689ed31cbc24285a46ae8a181e7f75410a110245dd2ca62049"), looks := true }, kinds := [], alts := [], laidByText := true, laidKinds := [.data, .data, .pinned, .pinned], laidTests := true, laidLooks := .later }
def NumTextsBackCardSaid : Prop := Claim7.holds Tryz.pinned (.plain (OpenSpec.ofChange numTextsBackSpec)) numTextsBackCard

/-- THE SECOND FORM's CARD OF 'zermelolaw01.NumTextsBack'. -/
def numTextsBackUptoCard : Claim7 := { stood := { row := numTextsBackUptoRow, standIns := [], harness := (true, "90403c41e4aaf4689ed31cbc24285a46ae8a181e7f75410a110245dd2ca62049"), looks := true }, kinds := [], alts := [], laidByText := true, laidKinds := [.data, .data, .pinned, .pinned], laidTests := true, laidLooks := .later }
def NumTextsBackUptoCardSaid : Prop := Claim7.holds Tryz.pinned (.plain (OpenSpec.upto numTextsBackSpec)) numTextsBackUptoCard
end Rows
end Go.Proofs.YtlhmbbpkhahbeaaGreatDoor
