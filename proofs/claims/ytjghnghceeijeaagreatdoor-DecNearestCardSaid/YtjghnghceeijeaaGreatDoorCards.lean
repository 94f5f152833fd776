/-
  DERIVED. GIVEN WITH THE SEED: THE CARDS: each row of YtjghnghceeijeaaGreatDoorRows.lean that lists a variable, with what it lists TIED to the program's text (the seventh form; the later family's looks); each row that meets fmt, with fmt's text TOLD by the authors' own Lean function (tested against real Go, not proved from fmt's source: count such statements apart). THE CARD IS WHAT COUNTS. Prove the row's statement (the work); the ties are given (YtjghnghceeijeaaGreatDoorTie.lean); close each card by the builder's one call (the guide's Derived/Test/ToyasCard.lean, 'card_holds'). Laid BY PROGRAM, IN A SANDBOX (cutbox-door.mjs). By AI agents, Wed Nov 11 2026. No macro, syntax, notation, axiom, sorry.
-/
import Derived.Test.YtjghnghceeijeaaGreatDoorRows
import GoSem.ClaimSeven
namespace Go.Proofs.YtjghnghceeijeaaGreatDoor
namespace Rows

/-- THE TIED CARD OF 'zermelolaw02.DecPowers'. -/
def decPowersCard : Claim7 := { stood := { row := decPowersRow, standIns := [], harness := (true, "d6093be7b94b526dcae63f52f789418065038e76f0a45984e310c6ca67156d60"), looks := true }, kinds := [], alts := [], laidByText := true, laidKinds := [.data, .data, .pinned], laidTests := true, laidLooks := .later }
def DecPowersCardSaid : Prop := Claim7.holds Tryz.pinned (.plain (OpenSpec.ofChange decPowersSpec)) decPowersCard

/-- THE TIED CARD OF 'zermelolaw02.DecTexts'. -/
def decTextsCard : Claim7 := { stood := { row := decTextsRow, standIns := [], harness := (true, "d6093be7b94b526dcae63f52f789418065038e76f0a45984e310c6ca67156d60"), looks := true }, kinds := [], alts := [], laidByText := true, laidKinds := [.data, .data, .pinned], laidTests := true, laidLooks := .later }
def DecTextsCardSaid : Prop := Claim7.holds Tryz.pinned (.plain (OpenSpec.ofChange decTextsSpec)) decTextsCard

/-- THE TIED CARD OF 'zermelolaw02.DecZeros'. -/
def decZerosCard : Claim7 := { stood := { row := decZerosRow, standIns := [], harness := (true, "d6093be7b94b526dcae63f52f789418065038e76f0a45984e310c6ca67156d60"), looks := true }, kinds := [], alts := [], laidByText := true, laidKinds := [.data, .data, .pinned], laidTests := true, laidLooks := .later }
def DecZerosCardSaid : Prop := Claim7.holds Tryz.pinned (.plain (OpenSpec.ofChange decZerosSpec)) decZerosCard

/-- THE TIED CARD OF 'zermelolaw02.DecNearest'. -/
def decNearestCard : Claim7 := { stood := { row := decNearestRow, standIns := [], harness := (true, "d6093be7b94b526dcae63f52f789418065038e76f0a45984e310c6ca67156d60"), looks := true }, kinds := [], alts := [], laidByText := true, laidKinds := [.data, .data, .pinned], laidTests := true, laidLooks := .later }
def DecNearestCardSaid : Prop := Claim7.holds Tryz.pinned (.plain (OpenSpec.ofChange decNearestSpec)) decNearestCard

/-- THE TIED CARD OF 'zermelolaw02.DecSums'. -/
def decSumsCard : Claim7 := { stood := { row := decSumsRow, standIns := [], harness := (true, "d6093be7b94b526dcae63f52f789418065038e76f0a45984e310c6ca67156d60"), looks := true }, kinds := [], alts := [], laidByText := true, laidKinds := [.data, .data, .pinned], laidTests := true, laidLooks := .later }
def DecSumsCardSaid : Prop := Claim7.holds Tryz.pinned (.plain (OpenSpec.ofChange decSumsSpec)) decSumsCard

/-- THE TIED CARD OF 'zermelolaw02.DecExact'. -/
def decExactCard : Claim7 := { stood := { row := decExactRow, standIns := [], harness := (true, "d6093be7b94b526dcae63f52f789418065038e76f0a45984e310c6ca67156d60"), looks := true }, kinds := [], alts := [], laidByText := true, laidKinds := [.data, .data, .pinned], laidTests := true, laidLooks := .later }
def DecExactCardSaid : Prop := Claim7.holds Tryz.pinned (.plain (OpenSpec.ofChange decExactSpec)) decExactCard

/-- THE TIED CARD OF 'zermelolaw02.DecRoots'. -/
def decRootsCard : Claim7 := { stood := { row := decRootsRow, standIns := [], harness := (true, "d6093be7b94b526dcae63f52f789418065038e76f0a45984e310c6ca67156d60"), looks := true }, kinds := [], alts := [], laidByText := true, laidKinds := [.data, .data, .pinned], laidTests := true, laidLooks := .later }
def DecRootsCardSaid : Prop := Claim7.holds Tryz.pinned (.plain (OpenSpec.ofChange decRootsSpec)) decRootsCard

/-- THE TIED CARD OF 'zermelolaw02.DecRounds'. -/
def decRoundsCard : Claim7 := { stood := { row := decRoundsRow, standIns := [], harness := (true, "d6093be7b94b526dcae63f52f789418065038e76f0a45984e310c6ca67156d60"), looks := true }, kinds := [], alts := [], laidByText := true, laidKinds := [.data, .data, .pinned], laidTests := true, laidLooks := .later }
def DecRoundsCardSaid : Prop := Claim7.holds Tryz.pinned (.plain (OpenSpec.ofChange decRoundsSpec)) decRoundsCard

/-- THE TIED CARD OF 'zermelolaw02.DecTells'. -/
def decTellsCard : Claim7 := { stood := { row := decTellsRow, standIns := [], harness := (true, "d6093be7b94b526dcae63f52f789418065038e76f0a45984e310c6ca67156d60"), looks := true }, kinds := [], alts := [], laidByText := true, laidKinds := [.data, .data, .pinned], laidTests := true, laidLooks := .later }
def DecTellsCardSaid : Prop := Claim7.holds Tryz.pinned (.plain (OpenSpec.ofChange decTellsSpec)) decTellsCard

/-- THE TIED CARD OF 'zermelolaw02.DecRatios'. -/
def decRatiosCard : Claim7 := { stood := { row := decRatiosRow, standIns := [], harness := (true, "d6093be7b94b526dcae63f52f789418065038e76f0a45984e310c6ca67156d60"), looks := true }, kinds := [], alts := [], laidByText := true, laidKinds := [.data, .data, .pinned], laidTests := true, laidLooks := .later }
def DecRatiosCardSaid : Prop := Claim7.holds Tryz.pinned (.plain (OpenSpec.ofChange decRatiosSpec)) decRatiosCard

/-- THE TIED CARD OF 'zermelolaw02.DecCertificates'. -/
def decCertificatesCard : Claim7 := { stood := { row := decCertificatesRow, standIns := [], harness := (true, "d6093be7b94b526dcae63f52f789418065038e76f0a45984e310c6ca67156d60"), looks := true }, kinds := [], alts := [], laidByText := true, laidKinds := [.data, .data, .pinned], laidTests := true, laidLooks := .later }
def DecCertificatesCardSaid : Prop := Claim7.holds Tryz.pinned (.plain (OpenSpec.ofChange decCertificatesSpec)) decCertificatesCard

/-- THE TIED CARD OF 'zermelolaw02.DecOrder'. -/
def decOrderCard : Claim7 := { stood := { row := decOrderRow, standIns := [], harness := (true, "d6093be7b94b526dcae63f52f789418065038e76f0a45984e310c6ca67156d60"), looks := true }, kinds := [], alts := [], laidByText := true, laidKinds := [.data, .data, .pinned], laidTests := true, laidLooks := .later }
def DecOrderCardSaid : Prop := Claim7.holds Tryz.pinned (.plain (OpenSpec.ofChange decOrderSpec)) decOrderCard

/-- THE TIED CARD OF 'zermelolaw02.DecWhole'. -/
def decWholeCard : Claim7 := { stood := { row := decWholeRow, standIns := [], harness := (true, "d6093be7b94b526dcae63f52f789418065038e76f0a45984e310c6ca67156d60"), looks := true }, kinds := [], alts := [], laidByText := true, laidKinds := [.data, .data, .pinned], laidTests := true, laidLooks := .later }
def DecWholeCardSaid : Prop := Claim7.holds Tryz.pinned (.plain (OpenSpec.ofChange decWholeSpec)) decWholeCard

/-- THE SECOND FORM's CARD OF 'zermelolaw02.DecPowers'. -/
def decPowersUptoCard : Claim7 := { stood := { row := decPowersUptoRow, standIns := [], harness := (true, "d6093be7b94b526dcae63f52f789418065038e76f0a45984e310c6ca67156d60"), looks := true }, kinds := [], alts := [], laidByText := true, laidKinds := [.data, .data, .pinned], laidTests := true, laidLooks := .later }
def DecPowersUptoCardSaid : Prop := Claim7.holds Tryz.pinned (.plain (OpenSpec.upto decPowersSpec)) decPowersUptoCard

/-- THE SECOND FORM's CARD OF 'zermelolaw02.DecTexts'. -/
def decTextsUptoCard : Claim7 := { stood := { row := decTextsUptoRow, standIns := [], harness := (true, "d6093be7b94b526dcae63f52f789418065038e76f0a45984e310c6ca67156d60"), looks := true }, kinds := [], alts := [], laidByText := true, laidKinds := [.data, .data, .pinned], laidTests := true, laidLooks := .later }
def DecTextsUptoCardSaid : Prop := Claim7.holds Tryz.pinned (.plain (OpenSpec.upto decTextsSpec)) decTextsUptoCard

/-- THE SECOND FORM's CARD OF 'zermelolaw02.DecZeros'. -/
def decZerosUptoCard : Claim7 := { stood := { row := decZerosUptoRow, standIns := [], harness := (true, "d6093be7b94b526dcae63f52f789418065038e76f0a45984e310c6ca67156d60"), looks := true }, kinds := [], alts := [], laidByText := true, laidKinds := [.data, .data, .pinned], laidTests := true, laidLooks := .later }
def DecZerosUptoCardSaid : Prop := Claim7.holds Tryz.pinned (.plain (OpenSpec.upto decZerosSpec)) decZerosUptoCard

/-- THE SECOND FORM's CARD OF 'zermelolaw02.DecNearest'. -/
def decNearestUptoCard : Claim7 := { stood := { row := decNearestUptoRow, standIns := [], harness := (true, "d6093be7b94b526dcae63f52f789418065038e76f0a45984e310c6ca67156d60"), looks := true }, kinds := [], alts := [], laidByText := true, laidKinds := [.data, .data, .pinned], laidTests := true, laidLooks := .later }
def DecNearestUptoCardSaid : Prop := Claim7.holds Tryz.pinned (.plain (OpenSpec.upto decNearestSpec)) decNearestUptoCard

/-- THE SECOND FORM's CARD OF 'zermelolaw02.DecSums'. -/
def decSumsUptoCard : Claim7 := { stood := { row := decSumsUptoRow, standIns := [], harness := (true, "d6093be7b94b526dcae63f52f789418065038e76f0a45984e310c6ca67156d60"), looks := true }, kinds := [], alts := [], laidByText := true, laidKinds := [.data, .data, .pinned], laidTests := true, laidLooks := .later }
def DecSumsUptoCardSaid : Prop := Claim7.holds Tryz.pinned (.plain (OpenSpec.upto decSumsSpec)) decSumsUptoCard

/-- THE SECOND FORM's CARD OF 'zermelolaw02.DecExact'. -/
def decExactUptoCard : Claim7 := { stood := { row := decExactUptoRow, standIns := [], harness := (true, "d6093be7b94b526dcae63f52f789418065038e76f0a45984e310c6ca67156d60"), looks := true }, kinds := [], alts := [], laidByText := true, laidKinds := [.data, .data, .pinned], laidTests := true, laidLooks := .later }
def DecExactUptoCardSaid : Prop := Claim7.holds Tryz.pinned (.plain (OpenSpec.upto decExactSpec)) decExactUptoCard

/-- THE SECOND FORM's CARD OF 'zermelolaw02.DecRoots'. -/
def decRootsUptoCard : Claim7 := { stood := { row := decRootsUptoRow, standIns := [], harness := (true, "d6093be7b94b526dcae63f52f789418065038e76f0a45984e310c6ca67156d60"), looks := true }, kinds := [], alts := [], laidByText := true, laidKinds := [.data, .data, .pinned], laidTests := true, laidLooks := .later }
def DecRootsUptoCardSaid : Prop := Claim7.holds Tryz.pinned (.plain (OpenSpec.upto decRootsSpec)) decRootsUptoCard

/-- THE SECOND FORM's CARD OF 'zermelolaw02.DecRounds'. -/
def decRoundsUptoCard : Claim7 := { stood := { row := decRoundsUptoRow, standIns := [], harness := (true, "d6093be7b94b526dcae63f52f789418065038e76f0a45984e310c6ca67156d60"), looks := true }, kinds := [], alts := [], laidByText := true, laidKinds := [.data, .data, .pinned], laidTests := true, laidLooks := .later }
def DecRoundsUptoCardSaid : Prop := Claim7.holds Tryz.pinned (.plain (OpenSpec.upto decRoundsSpec)) decRoundsUptoCard

/-- THE SECOND FORM's CARD OF 'zermelolaw02.DecTells'. -/
def decTellsUptoCard : Claim7 := { stood := { row := decTellsUptoRow, standIns := [], harness := (true, "d6093be7b94b526dcae63f52f789418065038e76f0a45984e310c6ca67156d60"), looks := true }, kinds := [], alts := [], laidByText := true, laidKinds := [.data, .data, .pinned], laidTests := true, laidLooks := .later }
def DecTellsUptoCardSaid : Prop := Claim7.holds Tryz.pinned (.plain (OpenSpec.upto decTellsSpec)) decTellsUptoCard

/-- THE SECOND FORM's CARD OF 'zermelolaw02.DecRatios'. -/
def decRatiosUptoCard : Claim7 := { stood := { row := decRatiosUptoRow, standIns := [], harness := (true, "d6093be7b94b526dcae63f52f789418065038e76f0a45984e310c6ca67156d60"), looks := true }, kinds := [], alts := [], laidByText := true, laidKinds := [.data, .data, .pinned], laidTests := true, laidLooks := .later }
def DecRatiosUptoCardSaid : Prop := Claim7.holds Tryz.pinned (.plain (OpenSpec.upto decRatiosSpec)) decRatiosUptoCard

/-- THE SECOND FORM's CARD OF 'zermelolaw02.DecCertificates'. -/
def decCertificatesUptoCard : Claim7 := { stood := { row := decCertificatesUptoRow, standIns := [], harness := (true, "d6093be7b94b526dcae63f52f789418065038e76f0a45984e310c6ca67156d60"), looks := true }, kinds := [], alts := [], laidByText := true, laidKinds := [.data, .data, .pinned], laidTests := true, laidLooks := .later }
def DecCertificatesUptoCardSaid : Prop := Claim7.holds Tryz.pinned (.plain (OpenSpec.upto decCertificatesSpec)) decCertificatesUptoCard

/-- THE SECOND FORM's CARD OF 'zermelolaw02.DecOrder'. -/
def decOrderUptoCard : Claim7 := { stood := { row := decOrderUptoRow, standIns := [], harness := (true, "d6093be7b94b526dcae63f52f789418065038e76f0a45984e310c6ca67156d60"), looks := true }, kinds := [], alts := [], laidByText := true, laidKinds := [.data, .data, .pinned], laidTests := true, laidLooks := .later }
def DecOrderUptoCardSaid : Prop := Claim7.holds Tryz.pinned (.plain (OpenSpec.upto decOrderSpec)) decOrderUptoCard

/-- THE SECOND FORM's CARD OF 'zermelolaw02.DecWhole'. -/
def decWholeUptoCard : Claim7 := { stood := { row := decWholeUptoRow, standIns := [], harness := (true, "d6093be7b94b526dcae63f52f789418065038e76f0a45984e310c6ca67156d60"), looks := true }, kinds := [], alts := [], laidByText := true, laidKinds := [.data, .data, .pinned], laidTests := true, laidLooks := .later }
def DecWholeUptoCardSaid : Prop := Claim7.holds Tryz.pinned (.plain (OpenSpec.upto decWholeSpec)) decWholeUptoCard
end Rows
end Go.Proofs.YtjghnghceeijeaaGreatDoor
