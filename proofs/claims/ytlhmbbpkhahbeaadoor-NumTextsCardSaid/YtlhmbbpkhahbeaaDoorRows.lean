/-
  NARROWER THAN 'FOR EVERY INPUT', by the rows' own cells (each row's printed sentence says how): NumDivides: laid · NumPowers: laid · NumGcds: laid · NumTexts: laid · NumDivision: laid · NumDivisors: laid · NumShifts: laid · NumSums: laid · NumRings: laid · NumOrder: laid · NumPowersAdd: laid · NumTells: laid.
  DERIVED. THE GIVEN ROWS OF THIS SEAT. 12 by the template 'for every input the law returns true; each argument reads behind the call as it read before'; 0 by the template 'total and deterministic' (their statements: YtlhmbbpkhahbeaaDoorTotals.lean).
  GIVEN WITH THE SEED: the statements are not yours to turn. If you find one false, say at which input.
  Laid BY PROGRAM, IN A SANDBOX (cutbox-rows.mjs): the forced cells as the released guide's own fill.sh prints them over the translation c7499d9944198b06… (all of the seat's roots in one cut). By AI agents, Wed Nov 11 2026. No macro, syntax, notation, axiom, sorry.
-/
import Derived.Test.YtlhmbbpkhahbeaaDoorChecked
import GoSem.Claim
import GoSem.ClaimJoined
import GoSem.ClaimMapViews
import Derived.JoinedTies
import Derived.KernelRfl
namespace Go.Proofs.YtlhmbbpkhahbeaaDoor
/- THE CELL 'sum', in the pinned program and in every row, IS THE sha256 OF THE DUMP (.gsa) THAT YtlhmbbpkhahbeaaDoorProg.lean LOADS. Nothing in Lean hashes anything: it is a label: what it is worth is what the hold of that sum in a sandbox is worth. -/
noncomputable def Tryd.pinned : Pinned := { name := "ytlhmbbpkhahbeaadoor", sum := "c7499d9944198b069210efff574c14878488c2f4d8264d1b48eeb09deb71806b", checked := Tryd.checked }
namespace Rows
def none {H : Type} : Left H := { results := [], args := [] }

/- WHAT THE LISTED PACKAGE-LEVEL VARIABLES READ AS WHEN THE CALL BEGINS. Each datum BY PROGRAM (the guide's laid-datum.mjs) off the statement by which the dump's own 'gosem.cut.vars' lays the variable. In a bare row this is a premise. The card (YtlhmbbpkhahbeaaDoorCards.lean) ties it to the program's text. -/
def laid_zermelo_num_digits {H : Type} : DataW H := .agg [.lit (.int .u8 48), .lit (.int .u8 49), .lit (.int .u8 50), .lit (.int .u8 51), .lit (.int .u8 52), .lit (.int .u8 53), .lit (.int .u8 54), .lit (.int .u8 55), .lit (.int .u8 56), .lit (.int .u8 57), .lit (.int .u8 97), .lit (.int .u8 98), .lit (.int .u8 99), .lit (.int .u8 100), .lit (.int .u8 101), .lit (.int .u8 102), .lit (.int .u8 103), .lit (.int .u8 104), .lit (.int .u8 105), .lit (.int .u8 106), .lit (.int .u8 107), .lit (.int .u8 108), .lit (.int .u8 109), .lit (.int .u8 110), .lit (.int .u8 111), .lit (.int .u8 112), .lit (.int .u8 113), .lit (.int .u8 114), .lit (.int .u8 115), .lit (.int .u8 116), .lit (.int .u8 117), .lit (.int .u8 118), .lit (.int .u8 119), .lit (.int .u8 120), .lit (.int .u8 121), .lit (.int .u8 122)]

/-- 'zermelolaw01.NumDivides': WHATEVER THE INPUT: true; the input reads as it did. -/
def numDividesSpec : ChangeSpec := { name := "numDivides", fn := fun _ => fun
  | [d1, d2] => { results := [.lit (.bool true)], args := [d1, d2] }
  | _ => none }
def numDividesRow : OpenClaim := { program := "ytlhmbbpkhahbeaadoor", sum := "c7499d9944198b069210efff574c14878488c2f4d8264d1b48eeb09deb71806b", func := "zermelo/zermelolaw01.NumDivides", spec := "numDivides", unfollowed := true, recurses := true, named := ["zermelo/num.digits"], apart := false, laid := [("zermelo/num.digits", laid_zermelo_num_digits)] }
def NumDividesSaid : Prop := numDividesRow.holds Tryd.pinned (OpenSpec.ofChange numDividesSpec)

/-- ITS FALSE NEIGHBOUR: 'it returns false'. Refute it at one input. -/
def numDividesWrong : ChangeSpec := { name := "numDivides", fn := fun _ => fun
  | [d1, d2] => { results := [.lit (.bool false)], args := [d1, d2] }
  | _ => none }
def NumDividesWrongFalsely : Prop := numDividesRow.holds Tryd.pinned (OpenSpec.ofChange numDividesWrong)

/-- 'zermelolaw01.NumPowers': WHATEVER THE INPUT: true; the input reads as it did. -/
def numPowersSpec : ChangeSpec := { name := "numPowers", fn := fun _ => fun
  | [d1, d2, d3] => { results := [.lit (.bool true)], args := [d1, d2, d3] }
  | _ => none }
def numPowersRow : OpenClaim := { program := "ytlhmbbpkhahbeaadoor", sum := "c7499d9944198b069210efff574c14878488c2f4d8264d1b48eeb09deb71806b", func := "zermelo/zermelolaw01.NumPowers", spec := "numPowers", unfollowed := true, recurses := true, named := ["zermelo/num.digits"], apart := false, laid := [("zermelo/num.digits", laid_zermelo_num_digits)] }
def NumPowersSaid : Prop := numPowersRow.holds Tryd.pinned (OpenSpec.ofChange numPowersSpec)

/-- ITS FALSE NEIGHBOUR: 'it returns false'. Refute it at one input. -/
def numPowersWrong : ChangeSpec := { name := "numPowers", fn := fun _ => fun
  | [d1, d2, d3] => { results := [.lit (.bool false)], args := [d1, d2, d3] }
  | _ => none }
def NumPowersWrongFalsely : Prop := numPowersRow.holds Tryd.pinned (OpenSpec.ofChange numPowersWrong)

/-- 'zermelolaw01.NumGcds': WHATEVER THE INPUT: true; the input reads as it did. -/
def numGcdsSpec : ChangeSpec := { name := "numGcds", fn := fun _ => fun
  | [d1, d2] => { results := [.lit (.bool true)], args := [d1, d2] }
  | _ => none }
def numGcdsRow : OpenClaim := { program := "ytlhmbbpkhahbeaadoor", sum := "c7499d9944198b069210efff574c14878488c2f4d8264d1b48eeb09deb71806b", func := "zermelo/zermelolaw01.NumGcds", spec := "numGcds", unfollowed := true, recurses := true, named := ["zermelo/num.digits"], apart := false, laid := [("zermelo/num.digits", laid_zermelo_num_digits)] }
def NumGcdsSaid : Prop := numGcdsRow.holds Tryd.pinned (OpenSpec.ofChange numGcdsSpec)

/-- ITS FALSE NEIGHBOUR: 'it returns false'. Refute it at one input. -/
def numGcdsWrong : ChangeSpec := { name := "numGcds", fn := fun _ => fun
  | [d1, d2] => { results := [.lit (.bool false)], args := [d1, d2] }
  | _ => none }
def NumGcdsWrongFalsely : Prop := numGcdsRow.holds Tryd.pinned (OpenSpec.ofChange numGcdsWrong)

/-- 'zermelolaw01.NumTexts': WHATEVER THE INPUT: true; the input reads as it did. -/
def numTextsSpec : ChangeSpec := { name := "numTexts", fn := fun _ => fun
  | [d1, d2, d3] => { results := [.lit (.bool true)], args := [d1, d2, d3] }
  | _ => none }
def numTextsRow : OpenClaim := { program := "ytlhmbbpkhahbeaadoor", sum := "c7499d9944198b069210efff574c14878488c2f4d8264d1b48eeb09deb71806b", func := "zermelo/zermelolaw01.NumTexts", spec := "numTexts", unfollowed := true, recurses := true, named := ["zermelo/num.digits"], apart := false, laid := [("zermelo/num.digits", laid_zermelo_num_digits)] }
def NumTextsSaid : Prop := numTextsRow.holds Tryd.pinned (OpenSpec.ofChange numTextsSpec)

/-- ITS FALSE NEIGHBOUR: 'it returns false'. Refute it at one input. -/
def numTextsWrong : ChangeSpec := { name := "numTexts", fn := fun _ => fun
  | [d1, d2, d3] => { results := [.lit (.bool false)], args := [d1, d2, d3] }
  | _ => none }
def NumTextsWrongFalsely : Prop := numTextsRow.holds Tryd.pinned (OpenSpec.ofChange numTextsWrong)

/-- 'zermelolaw01.NumDivision': WHATEVER THE INPUT: true; the input reads as it did. -/
def numDivisionSpec : ChangeSpec := { name := "numDivision", fn := fun _ => fun
  | [d1, d2, d3] => { results := [.lit (.bool true)], args := [d1, d2, d3] }
  | _ => none }
def numDivisionRow : OpenClaim := { program := "ytlhmbbpkhahbeaadoor", sum := "c7499d9944198b069210efff574c14878488c2f4d8264d1b48eeb09deb71806b", func := "zermelo/zermelolaw01.NumDivision", spec := "numDivision", unfollowed := true, recurses := true, named := ["zermelo/num.digits"], apart := false, laid := [("zermelo/num.digits", laid_zermelo_num_digits)] }
def NumDivisionSaid : Prop := numDivisionRow.holds Tryd.pinned (OpenSpec.ofChange numDivisionSpec)

/-- ITS FALSE NEIGHBOUR: 'it returns false'. Refute it at one input. -/
def numDivisionWrong : ChangeSpec := { name := "numDivision", fn := fun _ => fun
  | [d1, d2, d3] => { results := [.lit (.bool false)], args := [d1, d2, d3] }
  | _ => none }
def NumDivisionWrongFalsely : Prop := numDivisionRow.holds Tryd.pinned (OpenSpec.ofChange numDivisionWrong)

/-- 'zermelolaw01.NumDivisors': WHATEVER THE INPUT: true; the input reads as it did. -/
def numDivisorsSpec : ChangeSpec := { name := "numDivisors", fn := fun _ => fun
  | [d1, d2, d3] => { results := [.lit (.bool true)], args := [d1, d2, d3] }
  | _ => none }
def numDivisorsRow : OpenClaim := { program := "ytlhmbbpkhahbeaadoor", sum := "c7499d9944198b069210efff574c14878488c2f4d8264d1b48eeb09deb71806b", func := "zermelo/zermelolaw01.NumDivisors", spec := "numDivisors", unfollowed := true, recurses := true, named := ["zermelo/num.digits"], apart := false, laid := [("zermelo/num.digits", laid_zermelo_num_digits)] }
def NumDivisorsSaid : Prop := numDivisorsRow.holds Tryd.pinned (OpenSpec.ofChange numDivisorsSpec)

/-- ITS FALSE NEIGHBOUR: 'it returns false'. Refute it at one input. -/
def numDivisorsWrong : ChangeSpec := { name := "numDivisors", fn := fun _ => fun
  | [d1, d2, d3] => { results := [.lit (.bool false)], args := [d1, d2, d3] }
  | _ => none }
def NumDivisorsWrongFalsely : Prop := numDivisorsRow.holds Tryd.pinned (OpenSpec.ofChange numDivisorsWrong)

/-- 'zermelolaw01.NumShifts': WHATEVER THE INPUT: true; the input reads as it did. -/
def numShiftsSpec : ChangeSpec := { name := "numShifts", fn := fun _ => fun
  | [d1, d2] => { results := [.lit (.bool true)], args := [d1, d2] }
  | _ => none }
def numShiftsRow : OpenClaim := { program := "ytlhmbbpkhahbeaadoor", sum := "c7499d9944198b069210efff574c14878488c2f4d8264d1b48eeb09deb71806b", func := "zermelo/zermelolaw01.NumShifts", spec := "numShifts", unfollowed := true, recurses := true, named := ["zermelo/num.digits"], apart := false, laid := [("zermelo/num.digits", laid_zermelo_num_digits)] }
def NumShiftsSaid : Prop := numShiftsRow.holds Tryd.pinned (OpenSpec.ofChange numShiftsSpec)

/-- ITS FALSE NEIGHBOUR: 'it returns false'. Refute it at one input. -/
def numShiftsWrong : ChangeSpec := { name := "numShifts", fn := fun _ => fun
  | [d1, d2] => { results := [.lit (.bool false)], args := [d1, d2] }
  | _ => none }
def NumShiftsWrongFalsely : Prop := numShiftsRow.holds Tryd.pinned (OpenSpec.ofChange numShiftsWrong)

/-- 'zermelolaw01.NumSums': WHATEVER THE INPUT: true; the input reads as it did. -/
def numSumsSpec : ChangeSpec := { name := "numSums", fn := fun _ => fun
  | [d1, d2] => { results := [.lit (.bool true)], args := [d1, d2] }
  | _ => none }
def numSumsRow : OpenClaim := { program := "ytlhmbbpkhahbeaadoor", sum := "c7499d9944198b069210efff574c14878488c2f4d8264d1b48eeb09deb71806b", func := "zermelo/zermelolaw01.NumSums", spec := "numSums", unfollowed := true, recurses := true, named := ["zermelo/num.digits"], apart := false, laid := [("zermelo/num.digits", laid_zermelo_num_digits)] }
def NumSumsSaid : Prop := numSumsRow.holds Tryd.pinned (OpenSpec.ofChange numSumsSpec)

/-- ITS FALSE NEIGHBOUR: 'it returns false'. Refute it at one input. -/
def numSumsWrong : ChangeSpec := { name := "numSums", fn := fun _ => fun
  | [d1, d2] => { results := [.lit (.bool false)], args := [d1, d2] }
  | _ => none }
def NumSumsWrongFalsely : Prop := numSumsRow.holds Tryd.pinned (OpenSpec.ofChange numSumsWrong)

/-- 'zermelolaw01.NumRings': WHATEVER THE INPUT: true; the input reads as it did. -/
def numRingsSpec : ChangeSpec := { name := "numRings", fn := fun _ => fun
  | [d1, d2, d3] => { results := [.lit (.bool true)], args := [d1, d2, d3] }
  | _ => none }
def numRingsRow : OpenClaim := { program := "ytlhmbbpkhahbeaadoor", sum := "c7499d9944198b069210efff574c14878488c2f4d8264d1b48eeb09deb71806b", func := "zermelo/zermelolaw01.NumRings", spec := "numRings", unfollowed := true, recurses := true, named := ["zermelo/num.digits"], apart := false, laid := [("zermelo/num.digits", laid_zermelo_num_digits)] }
def NumRingsSaid : Prop := numRingsRow.holds Tryd.pinned (OpenSpec.ofChange numRingsSpec)

/-- ITS FALSE NEIGHBOUR: 'it returns false'. Refute it at one input. -/
def numRingsWrong : ChangeSpec := { name := "numRings", fn := fun _ => fun
  | [d1, d2, d3] => { results := [.lit (.bool false)], args := [d1, d2, d3] }
  | _ => none }
def NumRingsWrongFalsely : Prop := numRingsRow.holds Tryd.pinned (OpenSpec.ofChange numRingsWrong)

/-- 'zermelolaw01.NumOrder': WHATEVER THE INPUT: true; the input reads as it did. -/
def numOrderSpec : ChangeSpec := { name := "numOrder", fn := fun _ => fun
  | [d1, d2, d3] => { results := [.lit (.bool true)], args := [d1, d2, d3] }
  | _ => none }
def numOrderRow : OpenClaim := { program := "ytlhmbbpkhahbeaadoor", sum := "c7499d9944198b069210efff574c14878488c2f4d8264d1b48eeb09deb71806b", func := "zermelo/zermelolaw01.NumOrder", spec := "numOrder", unfollowed := true, recurses := true, named := ["zermelo/num.digits"], apart := false, laid := [("zermelo/num.digits", laid_zermelo_num_digits)] }
def NumOrderSaid : Prop := numOrderRow.holds Tryd.pinned (OpenSpec.ofChange numOrderSpec)

/-- ITS FALSE NEIGHBOUR: 'it returns false'. Refute it at one input. -/
def numOrderWrong : ChangeSpec := { name := "numOrder", fn := fun _ => fun
  | [d1, d2, d3] => { results := [.lit (.bool false)], args := [d1, d2, d3] }
  | _ => none }
def NumOrderWrongFalsely : Prop := numOrderRow.holds Tryd.pinned (OpenSpec.ofChange numOrderWrong)

/-- 'zermelolaw01.NumPowersAdd': WHATEVER THE INPUT: true; the input reads as it did. -/
def numPowersAddSpec : ChangeSpec := { name := "numPowersAdd", fn := fun _ => fun
  | [d1, d2, d3] => { results := [.lit (.bool true)], args := [d1, d2, d3] }
  | _ => none }
def numPowersAddRow : OpenClaim := { program := "ytlhmbbpkhahbeaadoor", sum := "c7499d9944198b069210efff574c14878488c2f4d8264d1b48eeb09deb71806b", func := "zermelo/zermelolaw01.NumPowersAdd", spec := "numPowersAdd", unfollowed := true, recurses := true, named := ["zermelo/num.digits"], apart := false, laid := [("zermelo/num.digits", laid_zermelo_num_digits)] }
def NumPowersAddSaid : Prop := numPowersAddRow.holds Tryd.pinned (OpenSpec.ofChange numPowersAddSpec)

/-- ITS FALSE NEIGHBOUR: 'it returns false'. Refute it at one input. -/
def numPowersAddWrong : ChangeSpec := { name := "numPowersAdd", fn := fun _ => fun
  | [d1, d2, d3] => { results := [.lit (.bool false)], args := [d1, d2, d3] }
  | _ => none }
def NumPowersAddWrongFalsely : Prop := numPowersAddRow.holds Tryd.pinned (OpenSpec.ofChange numPowersAddWrong)

/-- 'zermelolaw01.NumTells': WHATEVER THE INPUT: true; the input reads as it did. -/
def numTellsSpec : ChangeSpec := { name := "numTells", fn := fun _ => fun
  | [d1, d2, d3] => { results := [.lit (.bool true)], args := [d1, d2, d3] }
  | _ => none }
def numTellsRow : OpenClaim := { program := "ytlhmbbpkhahbeaadoor", sum := "c7499d9944198b069210efff574c14878488c2f4d8264d1b48eeb09deb71806b", func := "zermelo/zermelolaw01.NumTells", spec := "numTells", unfollowed := true, recurses := true, named := ["zermelo/num.digits"], apart := false, laid := [("zermelo/num.digits", laid_zermelo_num_digits)] }
def NumTellsSaid : Prop := numTellsRow.holds Tryd.pinned (OpenSpec.ofChange numTellsSpec)

/-- ITS FALSE NEIGHBOUR: 'it returns false'. Refute it at one input. -/
def numTellsWrong : ChangeSpec := { name := "numTells", fn := fun _ => fun
  | [d1, d2, d3] => { results := [.lit (.bool false)], args := [d1, d2, d3] }
  | _ => none }
def NumTellsWrongFalsely : Prop := numTellsRow.holds Tryd.pinned (OpenSpec.ofChange numTellsWrong)

/- THE SECOND FORM. 'bulk': how many values and letters a reading holds, each counted each time it is reached (what is shared counts as often as it is met; a slice's spare places count too). A statement '..UptoSaid' is the law's where the arguments, and the package variables that the reading takes, are together of bulk at most 1048576: NARROWER than '..Said'. Prove '..Said' where nothing that the law and all that it calls make is longer than what came in: it says more and counts as full. Else prove '..UptoSaid'. A law counts once. -/
mutual
def uptoBulk {H : Type} : DataW H → Nat
  | .lit (.string bytes) => bytes.length + 1
  | .lit _ => 1
  | .nil => 1
  | .ptr d => uptoBulk d + 1
  | .slice elems spare => uptoBulkAll elems + uptoBulkAll spare + 1
  | .agg parts => uptoBulkAll parts + 1
  | .iface _ d => uptoBulk d + 1
  | .map entries => uptoBulkEntries entries + 1
  | .held _ => 1
def uptoBulkAll {H : Type} : List (DataW H) → Nat
  | [] => 0
  | d :: r => uptoBulk d + uptoBulkAll r
def uptoBulkEntries {H : Type} : List (Lit × DataW H) → Nat
  | [] => 0
  | x :: r => uptoBulkEntry x + uptoBulkEntries r
def uptoBulkEntry {H : Type} : Lit × DataW H → Nat
  | (.string bytes, d) => bytes.length + uptoBulk d + 1
  | (_, d) => uptoBulk d + 1
 end
def uptoSmall : (H : Type) → List (DataW H) → Bool := fun _ ds => decide (uptoBulkAll ds ≤ 1048576)
def OpenSpec.upto (s : _root_.Go.ChangeSpec) : _root_.Go.OpenSpec := { _root_.Go.OpenSpec.ofChange s with cond := some uptoSmall }

/-- 'zermelolaw01.NumDivides', WHERE WHAT IT READS IS OF BULK AT MOST 1048576: true; the input reads as it did. -/
def numDividesUptoRow : OpenClaim := { program := "ytlhmbbpkhahbeaadoor", sum := "c7499d9944198b069210efff574c14878488c2f4d8264d1b48eeb09deb71806b", func := "zermelo/zermelolaw01.NumDivides", spec := "numDivides", unfollowed := true, recurses := true, named := ["zermelo/num.digits"], apart := false, laid := [("zermelo/num.digits", laid_zermelo_num_digits)], narrowed := true }
def NumDividesUptoSaid : Prop := numDividesUptoRow.holds Tryd.pinned (OpenSpec.upto numDividesSpec)

/-- 'zermelolaw01.NumPowers', WHERE WHAT IT READS IS OF BULK AT MOST 1048576: true; the input reads as it did. -/
def numPowersUptoRow : OpenClaim := { program := "ytlhmbbpkhahbeaadoor", sum := "c7499d9944198b069210efff574c14878488c2f4d8264d1b48eeb09deb71806b", func := "zermelo/zermelolaw01.NumPowers", spec := "numPowers", unfollowed := true, recurses := true, named := ["zermelo/num.digits"], apart := false, laid := [("zermelo/num.digits", laid_zermelo_num_digits)], narrowed := true }
def NumPowersUptoSaid : Prop := numPowersUptoRow.holds Tryd.pinned (OpenSpec.upto numPowersSpec)

/-- 'zermelolaw01.NumGcds', WHERE WHAT IT READS IS OF BULK AT MOST 1048576: true; the input reads as it did. -/
def numGcdsUptoRow : OpenClaim := { program := "ytlhmbbpkhahbeaadoor", sum := "c7499d9944198b069210efff574c14878488c2f4d8264d1b48eeb09deb71806b", func := "zermelo/zermelolaw01.NumGcds", spec := "numGcds", unfollowed := true, recurses := true, named := ["zermelo/num.digits"], apart := false, laid := [("zermelo/num.digits", laid_zermelo_num_digits)], narrowed := true }
def NumGcdsUptoSaid : Prop := numGcdsUptoRow.holds Tryd.pinned (OpenSpec.upto numGcdsSpec)

/-- 'zermelolaw01.NumTexts', WHERE WHAT IT READS IS OF BULK AT MOST 1048576: true; the input reads as it did. -/
def numTextsUptoRow : OpenClaim := { program := "ytlhmbbpkhahbeaadoor", sum := "c7499d9944198b069210efff574c14878488c2f4d8264d1b48eeb09deb71806b", func := "zermelo/zermelolaw01.NumTexts", spec := "numTexts", unfollowed := true, recurses := true, named := ["zermelo/num.digits"], apart := false, laid := [("zermelo/num.digits", laid_zermelo_num_digits)], narrowed := true }
def NumTextsUptoSaid : Prop := numTextsUptoRow.holds Tryd.pinned (OpenSpec.upto numTextsSpec)

/-- 'zermelolaw01.NumDivision', WHERE WHAT IT READS IS OF BULK AT MOST 1048576: true; the input reads as it did. -/
def numDivisionUptoRow : OpenClaim := { program := "ytlhmbbpkhahbeaadoor", sum := "c7499d9944198b069210efff574c14878488c2f4d8264d1b48eeb09deb71806b", func := "zermelo/zermelolaw01.NumDivision", spec := "numDivision", unfollowed := true, recurses := true, named := ["zermelo/num.digits"], apart := false, laid := [("zermelo/num.digits", laid_zermelo_num_digits)], narrowed := true }
def NumDivisionUptoSaid : Prop := numDivisionUptoRow.holds Tryd.pinned (OpenSpec.upto numDivisionSpec)

/-- 'zermelolaw01.NumDivisors', WHERE WHAT IT READS IS OF BULK AT MOST 1048576: true; the input reads as it did. -/
def numDivisorsUptoRow : OpenClaim := { program := "ytlhmbbpkhahbeaadoor", sum := "c7499d9944198b069210efff574c14878488c2f4d8264d1b48eeb09deb71806b", func := "zermelo/zermelolaw01.NumDivisors", spec := "numDivisors", unfollowed := true, recurses := true, named := ["zermelo/num.digits"], apart := false, laid := [("zermelo/num.digits", laid_zermelo_num_digits)], narrowed := true }
def NumDivisorsUptoSaid : Prop := numDivisorsUptoRow.holds Tryd.pinned (OpenSpec.upto numDivisorsSpec)

/-- 'zermelolaw01.NumShifts', WHERE WHAT IT READS IS OF BULK AT MOST 1048576: true; the input reads as it did. -/
def numShiftsUptoRow : OpenClaim := { program := "ytlhmbbpkhahbeaadoor", sum := "c7499d9944198b069210efff574c14878488c2f4d8264d1b48eeb09deb71806b", func := "zermelo/zermelolaw01.NumShifts", spec := "numShifts", unfollowed := true, recurses := true, named := ["zermelo/num.digits"], apart := false, laid := [("zermelo/num.digits", laid_zermelo_num_digits)], narrowed := true }
def NumShiftsUptoSaid : Prop := numShiftsUptoRow.holds Tryd.pinned (OpenSpec.upto numShiftsSpec)

/-- 'zermelolaw01.NumSums', WHERE WHAT IT READS IS OF BULK AT MOST 1048576: true; the input reads as it did. -/
def numSumsUptoRow : OpenClaim := { program := "ytlhmbbpkhahbeaadoor", sum := "c7499d9944198b069210efff574c14878488c2f4d8264d1b48eeb09deb71806b", func := "zermelo/zermelolaw01.NumSums", spec := "numSums", unfollowed := true, recurses := true, named := ["zermelo/num.digits"], apart := false, laid := [("zermelo/num.digits", laid_zermelo_num_digits)], narrowed := true }
def NumSumsUptoSaid : Prop := numSumsUptoRow.holds Tryd.pinned (OpenSpec.upto numSumsSpec)

/-- 'zermelolaw01.NumRings', WHERE WHAT IT READS IS OF BULK AT MOST 1048576: true; the input reads as it did. -/
def numRingsUptoRow : OpenClaim := { program := "ytlhmbbpkhahbeaadoor", sum := "c7499d9944198b069210efff574c14878488c2f4d8264d1b48eeb09deb71806b", func := "zermelo/zermelolaw01.NumRings", spec := "numRings", unfollowed := true, recurses := true, named := ["zermelo/num.digits"], apart := false, laid := [("zermelo/num.digits", laid_zermelo_num_digits)], narrowed := true }
def NumRingsUptoSaid : Prop := numRingsUptoRow.holds Tryd.pinned (OpenSpec.upto numRingsSpec)

/-- 'zermelolaw01.NumOrder', WHERE WHAT IT READS IS OF BULK AT MOST 1048576: true; the input reads as it did. -/
def numOrderUptoRow : OpenClaim := { program := "ytlhmbbpkhahbeaadoor", sum := "c7499d9944198b069210efff574c14878488c2f4d8264d1b48eeb09deb71806b", func := "zermelo/zermelolaw01.NumOrder", spec := "numOrder", unfollowed := true, recurses := true, named := ["zermelo/num.digits"], apart := false, laid := [("zermelo/num.digits", laid_zermelo_num_digits)], narrowed := true }
def NumOrderUptoSaid : Prop := numOrderUptoRow.holds Tryd.pinned (OpenSpec.upto numOrderSpec)

/-- 'zermelolaw01.NumPowersAdd', WHERE WHAT IT READS IS OF BULK AT MOST 1048576: true; the input reads as it did. -/
def numPowersAddUptoRow : OpenClaim := { program := "ytlhmbbpkhahbeaadoor", sum := "c7499d9944198b069210efff574c14878488c2f4d8264d1b48eeb09deb71806b", func := "zermelo/zermelolaw01.NumPowersAdd", spec := "numPowersAdd", unfollowed := true, recurses := true, named := ["zermelo/num.digits"], apart := false, laid := [("zermelo/num.digits", laid_zermelo_num_digits)], narrowed := true }
def NumPowersAddUptoSaid : Prop := numPowersAddUptoRow.holds Tryd.pinned (OpenSpec.upto numPowersAddSpec)

/-- 'zermelolaw01.NumTells', WHERE WHAT IT READS IS OF BULK AT MOST 1048576: true; the input reads as it did. -/
def numTellsUptoRow : OpenClaim := { program := "ytlhmbbpkhahbeaadoor", sum := "c7499d9944198b069210efff574c14878488c2f4d8264d1b48eeb09deb71806b", func := "zermelo/zermelolaw01.NumTells", spec := "numTells", unfollowed := true, recurses := true, named := ["zermelo/num.digits"], apart := false, laid := [("zermelo/num.digits", laid_zermelo_num_digits)], narrowed := true }
def NumTellsUptoSaid : Prop := numTellsUptoRow.holds Tryd.pinned (OpenSpec.upto numTellsSpec)

end Rows
end Go.Proofs.YtlhmbbpkhahbeaaDoor
