/-
  DERIVED. GIVEN WITH THE SEED: THE CARDS: each row of YtlhmbbpkhahbeaaDoorRows.lean that lists a variable, with what it lists TIED to the program's text (the seventh form; the later family's looks); each row that meets fmt, with fmt's text TOLD by the authors' own Lean function (tested against real Go, not proved from fmt's source: count such statements apart). THE CARD IS WHAT COUNTS. Prove the row's statement (the work); the ties are given (YtlhmbbpkhahbeaaDoorTie.lean); close each card by the builder's one call (the guide's Derived/Test/ToyasCard.lean, 'card_holds'). Laid BY PROGRAM, IN A SANDBOX (cutbox-door.mjs). By AI agents, Wed Nov 11 2026. No macro, syntax, notation, axiom, sorry.
-/
import Derived.Test.YtlhmbbpkhahbeaaDoorRows
import GoSem.ClaimSeven
namespace Go.Proofs.YtlhmbbpkhahbeaaDoor
namespace Rows

/-- THE TIED CARD OF 'zermelolaw01.NumDivides'. -/
def numDividesCard : Claim7 := { stood := { row := numDividesRow, standIns := [], harness := (true, "81631b405a98d3f071c31393904156c9da5fef14bbd5c556ce9417642a36c1bb"), looks := true }, kinds := [], alts := [], laidByText := true, laidKinds := [.data], laidTests := true, laidLooks := .later }
def NumDividesCardSaid : Prop := Claim7.holds Tryd.pinned (.plain (OpenSpec.ofChange numDividesSpec)) numDividesCard

/-- THE TIED CARD OF 'zermelolaw01.NumPowers'. -/
def numPowersCard : Claim7 := { stood := { row := numPowersRow, standIns := [], harness := (true, "81631b405a98d3f071c31393904156c9da5fef14bbd5c556ce9417642a36c1bb"), looks := true }, kinds := [], alts := [], laidByText := true, laidKinds := [.data], laidTests := true, laidLooks := .later }
def NumPowersCardSaid : Prop := Claim7.holds Tryd.pinned (.plain (OpenSpec.ofChange numPowersSpec)) numPowersCard

/-- THE TIED CARD OF 'zermelolaw01.NumGcds'. -/
def numGcdsCard : Claim7 := { stood := { row := numGcdsRow, standIns := [], harness := (true, "81631b405a98d3f071c31393904156c9da5fef14bbd5c556ce9417642a36c1bb"), looks := true }, kinds := [], alts := [], laidByText := true, laidKinds := [.data], laidTests := true, laidLooks := .later }
def NumGcdsCardSaid : Prop := Claim7.holds Tryd.pinned (.plain (OpenSpec.ofChange numGcdsSpec)) numGcdsCard

/-- THE TIED CARD OF 'zermelolaw01.NumTexts'. -/
def numTextsCard : Claim7 := { stood := { row := numTextsRow, standIns := [], harness := (true, "81631b405a98d3f071c31393904156c9da5fef14bbd5c556ce9417642a36c1bb"), looks := true }, kinds := [], alts := [], laidByText := true, laidKinds := [.data], laidTests := true, laidLooks := .later }
def NumTextsCardSaid : Prop := Claim7.holds Tryd.pinned (.plain (OpenSpec.ofChange numTextsSpec)) numTextsCard

/-- THE TIED CARD OF 'zermelolaw01.NumDivision'. -/
def numDivisionCard : Claim7 := { stood := { row := numDivisionRow, standIns := [], harness := (true, "81631b405a98d3f071c31393904156c9da5fef14bbd5c556ce9417642a36c1bb"), looks := true }, kinds := [], alts := [], laidByText := true, laidKinds := [.data], laidTests := true, laidLooks := .later }
def NumDivisionCardSaid : Prop := Claim7.holds Tryd.pinned (.plain (OpenSpec.ofChange numDivisionSpec)) numDivisionCard

/-- THE TIED CARD OF 'zermelolaw01.NumDivisors'. -/
def numDivisorsCard : Claim7 := { stood := { row := numDivisorsRow, standIns := [], harness := (true, "81631b405a98d3f071c31393904156c9da5fef14bbd5c556ce9417642a36c1bb"), looks := true }, kinds := [], alts := [], laidByText := true, laidKinds := [.data], laidTests := true, laidLooks := .later }
def NumDivisorsCardSaid : Prop := Claim7.holds Tryd.pinned (.plain (OpenSpec.ofChange numDivisorsSpec)) numDivisorsCard

/-- THE TIED CARD OF 'zermelolaw01.NumShifts'. -/
def numShiftsCard : Claim7 := { stood := { row := numShiftsRow, standIns := [], harness := (true, "81631b405a98d3f071c31393904156c9da5fef14bbd5c556ce9417642a36c1bb"), looks := true }, kinds := [], alts := [], laidByText := true, laidKinds := [.data], laidTests := true, laidLooks := .later }
def NumShiftsCardSaid : Prop := Claim7.holds Tryd.pinned (.plain (OpenSpec.ofChange numShiftsSpec)) numShiftsCard

/-- THE TIED CARD OF 'zermelolaw01.NumSums'. -/
def numSumsCard : Claim7 := { stood := { row := numSumsRow, standIns := [], harness := (true, "81631b405a98d3f071c31393904156c9da5fef14bbd5c556ce9417642a36c1bb"), looks := true }, kinds := [], alts := [], laidByText := true, laidKinds := [.data], laidTests := true, laidLooks := .later }
def NumSumsCardSaid : Prop := Claim7.holds Tryd.pinned (.plain (OpenSpec.ofChange numSumsSpec)) numSumsCard

/-- THE TIED CARD OF 'zermelolaw01.NumRings'. -/
def numRingsCard : Claim7 := { stood := { row := numRingsRow, standIns := [], harness := (true, "81631b405a98d3f071c31393904156c9da5fef14bbd5c556ce9417642a36c1bb"), looks := true }, kinds := [], alts := [], laidByText := true, laidKinds := [.data], laidTests := true, laidLooks := .later }
def NumRingsCardSaid : Prop := Claim7.holds Tryd.pinned (.plain (OpenSpec.ofChange numRingsSpec)) numRingsCard

/-- THE TIED CARD OF 'zermelolaw01.NumOrder'. -/
def numOrderCard : Claim7 := { stood := { row := numOrderRow, standIns := [], harness := (true, "81631b405a98d3f071c31393904156c9da5fef14bbd5c556ce9417642a36c1bb"), looks := true }, kinds := [], alts := [], laidByText := true, laidKinds := [.data], laidTests := true, laidLooks := .later }
def NumOrderCardSaid : Prop := Claim7.holds Tryd.pinned (.plain (OpenSpec.ofChange numOrderSpec)) numOrderCard

/-- THE TIED CARD OF 'zermelolaw01.NumPowersAdd'. -/
def numPowersAddCard : Claim7 := { stood := { row := numPowersAddRow, standIns := [], harness := (true, "81631b405a98d3f071c31393904156c9da5fef14bbd5c556ce9417642a36c1bb"), looks := true }, kinds := [], alts := [], laidByText := true, laidKinds := [.data], laidTests := true, laidLooks := .later }
def NumPowersAddCardSaid : Prop := Claim7.holds Tryd.pinned (.plain (OpenSpec.ofChange numPowersAddSpec)) numPowersAddCard

/-- THE TIED CARD OF 'zermelolaw01.NumTells'. -/
def numTellsCard : Claim7 := { stood := { row := numTellsRow, standIns := [], harness := (true, "81631b405a98d3f071c31393904156c9da5fef14bbd5c556ce9417642a36c1bb"), looks := true }, kinds := [], alts := [], laidByText := true, laidKinds := [.data], laidTests := true, laidLooks := .later }
def NumTellsCardSaid : Prop := Claim7.holds Tryd.pinned (.plain (OpenSpec.ofChange numTellsSpec)) numTellsCard

/-- THE SECOND FORM's CARD OF 'zermelolaw01.NumDivides'. -/
def numDividesUptoCard : Claim7 := { stood := { row := numDividesUptoRow, standIns := [], harness := (true, "81631b405a98d3f071c31393904156c9da5fef14bbd5c556ce9417642a36c1bb"), looks := true }, kinds := [], alts := [], laidByText := true, laidKinds := [.data], laidTests := true, laidLooks := .later }
def NumDividesUptoCardSaid : Prop := Claim7.holds Tryd.pinned (.plain (OpenSpec.upto numDividesSpec)) numDividesUptoCard

/-- THE SECOND FORM's CARD OF 'zermelolaw01.NumPowers'. -/
def numPowersUptoCard : Claim7 := { stood := { row := numPowersUptoRow, standIns := [], harness := (true, "81631b405a98d3f071c31393904156c9da5fef14bbd5c556ce9417642a36c1bb"), looks := true }, kinds := [], alts := [], laidByText := true, laidKinds := [.data], laidTests := true, laidLooks := .later }
def NumPowersUptoCardSaid : Prop := Claim7.holds Tryd.pinned (.plain (OpenSpec.upto numPowersSpec)) numPowersUptoCard

/-- THE SECOND FORM's CARD OF 'zermelolaw01.NumGcds'. -/
def numGcdsUptoCard : Claim7 := { stood := { row := numGcdsUptoRow, standIns := [], harness := (true, "81631b405a98d3f071c31393904156c9da5fef14bbd5c556ce9417642a36c1bb"), looks := true }, kinds := [], alts := [], laidByText := true, laidKinds := [.data], laidTests := true, laidLooks := .later }
def NumGcdsUptoCardSaid : Prop := Claim7.holds Tryd.pinned (.plain (OpenSpec.upto numGcdsSpec)) numGcdsUptoCard

/-- THE SECOND FORM's CARD OF 'zermelolaw01.NumTexts'. -/
def numTextsUptoCard : Claim7 := { stood := { row := numTextsUptoRow, standIns := [], harness := (true, "81631b405a98d3f071c31393904156c9da5fef14bbd5c556ce9417642a36c1bb"), looks := true }, kinds := [], alts := [], laidByText := true, laidKinds := [.data], laidTests := true, laidLooks := .later }
def NumTextsUptoCardSaid : Prop := Claim7.holds Tryd.pinned (.plain (OpenSpec.upto numTextsSpec)) numTextsUptoCard

/-- THE SECOND FORM's CARD OF 'zermelolaw01.NumDivision'. -/
def numDivisionUptoCard : Claim7 := { stood := { row := numDivisionUptoRow, standIns := [], harness := (true, "81631b405a98d3f071c31393904156c9da5fef14bbd5c556ce9417642a36c1bb"), looks := true }, kinds := [], alts := [], laidByText := true, laidKinds := [.data], laidTests := true, laidLooks := .later }
def NumDivisionUptoCardSaid : Prop := Claim7.holds Tryd.pinned (.plain (OpenSpec.upto numDivisionSpec)) numDivisionUptoCard

/-- THE SECOND FORM's CARD OF 'zermelolaw01.NumDivisors'. -/
def numDivisorsUptoCard : Claim7 := { stood := { row := numDivisorsUptoRow, standIns := [], harness := (true, "81631b405a98d3f071c31393904156c9da5fef14bbd5c556ce9417642a36c1bb"), looks := true }, kinds := [], alts := [], laidByText := true, laidKinds := [.data], laidTests := true, laidLooks := .later }
def NumDivisorsUptoCardSaid : Prop := Claim7.holds Tryd.pinned (.plain (OpenSpec.upto numDivisorsSpec)) numDivisorsUptoCard

/-- THE SECOND FORM's CARD OF 'zermelolaw01.NumShifts'. -/
def numShiftsUptoCard : Claim7 := { stood := { row := numShiftsUptoRow, standIns := [], harness := (true, "81631b405a98d3f071c31393904156c9da5fef14bbd5c556ce9417642a36c1bb"), looks := true }, kinds := [], alts := [], laidByText := true, laidKinds := [.data], laidTests := true, laidLooks := .later }
def NumShiftsUptoCardSaid : Prop := Claim7.holds Tryd.pinned (.plain (OpenSpec.upto numShiftsSpec)) numShiftsUptoCard

/-- THE SECOND FORM's CARD OF 'zermelolaw01.NumSums'. -/
def numSumsUptoCard : Claim7 := { stood := { row := numSumsUptoRow, standIns := [], harness := (true, "81631b405a98d3f071c31393904156c9da5fef14bbd5c556ce9417642a36c1bb"), looks := true }, kinds := [], alts := [], laidByText := true, laidKinds := [.data], laidTests := true, laidLooks := .later }
def NumSumsUptoCardSaid : Prop := Claim7.holds Tryd.pinned (.plain (OpenSpec.upto numSumsSpec)) numSumsUptoCard

/-- THE SECOND FORM's CARD OF 'zermelolaw01.NumRings'. -/
def numRingsUptoCard : Claim7 := { stood := { row := numRingsUptoRow, standIns := [], harness := (true, "81631b405a98d3f071c31393904156c9da5fef14bbd5c556ce9417642a36c1bb"), looks := true }, kinds := [], alts := [], laidByText := true, laidKinds := [.data], laidTests := true, laidLooks := .later }
def NumRingsUptoCardSaid : Prop := Claim7.holds Tryd.pinned (.plain (OpenSpec.upto numRingsSpec)) numRingsUptoCard

/-- THE SECOND FORM's CARD OF 'zermelolaw01.NumOrder'. -/
def numOrderUptoCard : Claim7 := { stood := { row := numOrderUptoRow, standIns := [], harness := (true, "81631b405a98d3f071c31393904156c9da5fef14bbd5c556ce9417642a36c1bb"), looks := true }, kinds := [], alts := [], laidByText := true, laidKinds := [.data], laidTests := true, laidLooks := .later }
def NumOrderUptoCardSaid : Prop := Claim7.holds Tryd.pinned (.plain (OpenSpec.upto numOrderSpec)) numOrderUptoCard

/-- THE SECOND FORM's CARD OF 'zermelolaw01.NumPowersAdd'. -/
def numPowersAddUptoCard : Claim7 := { stood := { row := numPowersAddUptoRow, standIns := [], harness := (true, "81631b405a98d3f071c31393904156c9da5fef14bbd5c556ce9417642a36c1bb"), looks := true }, kinds := [], alts := [], laidByText := true, laidKinds := [.data], laidTests := true, laidLooks := .later }
def NumPowersAddUptoCardSaid : Prop := Claim7.holds Tryd.pinned (.plain (OpenSpec.upto numPowersAddSpec)) numPowersAddUptoCard

/-- THE SECOND FORM's CARD OF 'zermelolaw01.NumTells'. -/
def numTellsUptoCard : Claim7 := { stood := { row := numTellsUptoRow, standIns := [], harness := (true, "81631b405a98d3f071c31393904156c9da5fef14bbd5c556ce9417642a36c1bb"), looks := true }, kinds := [], alts := [], laidByText := true, laidKinds := [.data], laidTests := true, laidLooks := .later }
def NumTellsUptoCardSaid : Prop := Claim7.holds Tryd.pinned (.plain (OpenSpec.upto numTellsSpec)) numTellsUptoCard
end Rows
end Go.Proofs.YtlhmbbpkhahbeaaDoor
