/-
  NARROWER THAN 'FOR EVERY INPUT', by the rows' own cells (each row's printed sentence says how): DecPowers: loops, laid · DecTexts: loops, laid · DecZeros: loops, laid · DecNearest: loops, laid · DecSums: loops, laid · DecExact: loops, laid · DecRoots: loops, laid · DecRounds: loops, laid · DecTells: loops, laid · DecRatios: loops, laid · DecCertificates: loops, laid · DecOrder: loops, laid · DecWhole: loops, laid.
  DERIVED. THE GIVEN ROWS OF THIS SEAT. 13 by the template 'for every input the law returns true; each argument reads behind the call as it read before'; 0 by the template 'total and deterministic' (their statements: YtjghnghceeijeaaGreatDoorTotals.lean).
  GIVEN WITH THE SEED: the statements are not yours to turn. If you find one false, say at which input.
  Laid BY PROGRAM, IN A SANDBOX (cutbox-rows.mjs): the forced cells as the released guide's own fill.sh prints them over the translation 04e00d8305691326… (all of the seat's roots in one cut). By AI agents, Wed Nov 11 2026. No macro, syntax, notation, axiom, sorry.
-/
import Derived.Test.YtjghnghceeijeaaGreatDoorChecked
import GoSem.PinnedTables
import GoSem.Claim
import GoSem.ClaimJoined
import GoSem.ClaimMapViews
import Derived.JoinedTies
import Derived.KernelRfl
namespace Go.Proofs.YtjghnghceeijeaaGreatDoor
/- THE CELL 'sum', in the pinned program and in every row, IS THE sha256 OF THE DUMP (.gsa) THAT YtjghnghceeijeaaGreatDoorProg.lean LOADS. Nothing in Lean hashes anything: it is a label: what it is worth is what the hold of that sum in a sandbox is worth. -/
noncomputable def Tryz.pinned : Pinned := { name := "ytjghnghceeijeaagreatdoor", sum := "04e00d83056913260f9f99cae80d94cfeb2a1d62f0b069aab05cf358e0c2720a", checked := Tryz.checked }
namespace Rows
def none {H : Type} : Left H := { results := [], args := [] }

/- WHAT THE LISTED PACKAGE-LEVEL VARIABLES READ AS WHEN THE CALL BEGINS. Each datum BY PROGRAM (the guide's laid-datum.mjs) off the statement by which the dump's own 'gosem.cut.vars' lays the variable. In a bare row this is a premise. The card (YtjghnghceeijeaaGreatDoorCards.lean) ties it to the program's text. -/
def laid_unicode_utf8_acceptRanges {H : Type} : DataW H := .agg [.agg [.lit (.int .u8 128), .lit (.int .u8 191)], .agg [.lit (.int .u8 160), .lit (.int .u8 191)], .agg [.lit (.int .u8 128), .lit (.int .u8 159)], .agg [.lit (.int .u8 144), .lit (.int .u8 191)], .agg [.lit (.int .u8 128), .lit (.int .u8 143)], .agg [.lit (.int .u8 0), .lit (.int .u8 0)], .agg [.lit (.int .u8 0), .lit (.int .u8 0)], .agg [.lit (.int .u8 0), .lit (.int .u8 0)], .agg [.lit (.int .u8 0), .lit (.int .u8 0)], .agg [.lit (.int .u8 0), .lit (.int .u8 0)], .agg [.lit (.int .u8 0), .lit (.int .u8 0)], .agg [.lit (.int .u8 0), .lit (.int .u8 0)], .agg [.lit (.int .u8 0), .lit (.int .u8 0)], .agg [.lit (.int .u8 0), .lit (.int .u8 0)], .agg [.lit (.int .u8 0), .lit (.int .u8 0)], .agg [.lit (.int .u8 0), .lit (.int .u8 0)]]
def laid_zermelo_num_digits {H : Type} : DataW H := .agg [.lit (.int .u8 48), .lit (.int .u8 49), .lit (.int .u8 50), .lit (.int .u8 51), .lit (.int .u8 52), .lit (.int .u8 53), .lit (.int .u8 54), .lit (.int .u8 55), .lit (.int .u8 56), .lit (.int .u8 57), .lit (.int .u8 97), .lit (.int .u8 98), .lit (.int .u8 99), .lit (.int .u8 100), .lit (.int .u8 101), .lit (.int .u8 102), .lit (.int .u8 103), .lit (.int .u8 104), .lit (.int .u8 105), .lit (.int .u8 106), .lit (.int .u8 107), .lit (.int .u8 108), .lit (.int .u8 109), .lit (.int .u8 110), .lit (.int .u8 111), .lit (.int .u8 112), .lit (.int .u8 113), .lit (.int .u8 114), .lit (.int .u8 115), .lit (.int .u8 116), .lit (.int .u8 117), .lit (.int .u8 118), .lit (.int .u8 119), .lit (.int .u8 120), .lit (.int .u8 121), .lit (.int .u8 122)]
/-- One of Go's own tables, pinned by name: the form's constant. -/
def laid_unicode_utf8_first : DataW Unit := Go.Pinned.utf8First

/-- 'zermelolaw02.DecPowers': WHATEVER THE INPUT: true; the input reads as it did. -/
def decPowersSpec : ChangeSpec := { name := "decPowers", fn := fun _ => fun
  | [d1, d2] => { results := [.lit (.bool true)], args := [d1, d2] }
  | _ => none }
def decPowersRow : OpenClaim := { program := "ytjghnghceeijeaagreatdoor", sum := "04e00d83056913260f9f99cae80d94cfeb2a1d62f0b069aab05cf358e0c2720a", func := "zermelo/zermelolaw02.DecPowers", spec := "decPowers", inPlace := ["internal/abi.NoEscape", "internal/bytealg.MakeNoZero", "internal/bytealg.IndexByteString", "internal/bytealg.IndexString"], unfollowed := true, recurses := true, named := ["zermelo/num.digits", "internal/bytealg.MaxLen", "unicode/utf8.first", "unicode/utf8.acceptRanges"], loops := true, apart := false, laid := [("unicode/utf8.acceptRanges", laid_unicode_utf8_acceptRanges), ("zermelo/num.digits", laid_zermelo_num_digits), ("unicode/utf8.first", laid_unicode_utf8_first)] }
def DecPowersSaid : Prop := decPowersRow.holds Tryz.pinned (OpenSpec.ofChange decPowersSpec)

/-- ITS FALSE NEIGHBOUR: 'it returns false'. Refute it at one input. -/
def decPowersWrong : ChangeSpec := { name := "decPowers", fn := fun _ => fun
  | [d1, d2] => { results := [.lit (.bool false)], args := [d1, d2] }
  | _ => none }
def DecPowersWrongFalsely : Prop := decPowersRow.holds Tryz.pinned (OpenSpec.ofChange decPowersWrong)

/-- 'zermelolaw02.DecTexts': WHATEVER THE INPUT: true; the input reads as it did. -/
def decTextsSpec : ChangeSpec := { name := "decTexts", fn := fun _ => fun
  | [d1, d2] => { results := [.lit (.bool true)], args := [d1, d2] }
  | _ => none }
def decTextsRow : OpenClaim := { program := "ytjghnghceeijeaagreatdoor", sum := "04e00d83056913260f9f99cae80d94cfeb2a1d62f0b069aab05cf358e0c2720a", func := "zermelo/zermelolaw02.DecTexts", spec := "decTexts", inPlace := ["internal/abi.NoEscape", "internal/bytealg.MakeNoZero", "internal/bytealg.IndexByteString", "internal/bytealg.IndexString"], unfollowed := true, recurses := true, named := ["zermelo/num.digits", "internal/bytealg.MaxLen", "unicode/utf8.first", "unicode/utf8.acceptRanges"], loops := true, apart := false, laid := [("unicode/utf8.acceptRanges", laid_unicode_utf8_acceptRanges), ("zermelo/num.digits", laid_zermelo_num_digits), ("unicode/utf8.first", laid_unicode_utf8_first)] }
def DecTextsSaid : Prop := decTextsRow.holds Tryz.pinned (OpenSpec.ofChange decTextsSpec)

/-- ITS FALSE NEIGHBOUR: 'it returns false'. Refute it at one input. -/
def decTextsWrong : ChangeSpec := { name := "decTexts", fn := fun _ => fun
  | [d1, d2] => { results := [.lit (.bool false)], args := [d1, d2] }
  | _ => none }
def DecTextsWrongFalsely : Prop := decTextsRow.holds Tryz.pinned (OpenSpec.ofChange decTextsWrong)

/-- 'zermelolaw02.DecZeros': WHATEVER THE INPUT: true; the input reads as it did. -/
def decZerosSpec : ChangeSpec := { name := "decZeros", fn := fun _ => fun
  | [d1, d2, d3] => { results := [.lit (.bool true)], args := [d1, d2, d3] }
  | _ => none }
def decZerosRow : OpenClaim := { program := "ytjghnghceeijeaagreatdoor", sum := "04e00d83056913260f9f99cae80d94cfeb2a1d62f0b069aab05cf358e0c2720a", func := "zermelo/zermelolaw02.DecZeros", spec := "decZeros", inPlace := ["internal/abi.NoEscape", "internal/bytealg.MakeNoZero", "internal/bytealg.IndexByteString", "internal/bytealg.IndexString"], unfollowed := true, recurses := true, named := ["zermelo/num.digits", "internal/bytealg.MaxLen", "unicode/utf8.first", "unicode/utf8.acceptRanges"], loops := true, apart := false, laid := [("unicode/utf8.acceptRanges", laid_unicode_utf8_acceptRanges), ("zermelo/num.digits", laid_zermelo_num_digits), ("unicode/utf8.first", laid_unicode_utf8_first)] }
def DecZerosSaid : Prop := decZerosRow.holds Tryz.pinned (OpenSpec.ofChange decZerosSpec)

/-- ITS FALSE NEIGHBOUR: 'it returns false'. Refute it at one input. -/
def decZerosWrong : ChangeSpec := { name := "decZeros", fn := fun _ => fun
  | [d1, d2, d3] => { results := [.lit (.bool false)], args := [d1, d2, d3] }
  | _ => none }
def DecZerosWrongFalsely : Prop := decZerosRow.holds Tryz.pinned (OpenSpec.ofChange decZerosWrong)

/-- 'zermelolaw02.DecNearest': WHATEVER THE INPUT: true; the input reads as it did. -/
def decNearestSpec : ChangeSpec := { name := "decNearest", fn := fun _ => fun
  | [d1, d2] => { results := [.lit (.bool true)], args := [d1, d2] }
  | _ => none }
def decNearestRow : OpenClaim := { program := "ytjghnghceeijeaagreatdoor", sum := "04e00d83056913260f9f99cae80d94cfeb2a1d62f0b069aab05cf358e0c2720a", func := "zermelo/zermelolaw02.DecNearest", spec := "decNearest", inPlace := ["internal/abi.NoEscape", "internal/bytealg.MakeNoZero", "internal/bytealg.IndexByteString", "internal/bytealg.IndexString"], unfollowed := true, recurses := true, named := ["zermelo/num.digits", "internal/bytealg.MaxLen", "unicode/utf8.first", "unicode/utf8.acceptRanges"], loops := true, apart := false, laid := [("unicode/utf8.acceptRanges", laid_unicode_utf8_acceptRanges), ("zermelo/num.digits", laid_zermelo_num_digits), ("unicode/utf8.first", laid_unicode_utf8_first)] }
def DecNearestSaid : Prop := decNearestRow.holds Tryz.pinned (OpenSpec.ofChange decNearestSpec)

/-- ITS FALSE NEIGHBOUR: 'it returns false'. Refute it at one input. -/
def decNearestWrong : ChangeSpec := { name := "decNearest", fn := fun _ => fun
  | [d1, d2] => { results := [.lit (.bool false)], args := [d1, d2] }
  | _ => none }
def DecNearestWrongFalsely : Prop := decNearestRow.holds Tryz.pinned (OpenSpec.ofChange decNearestWrong)

/-- 'zermelolaw02.DecSums': WHATEVER THE INPUT: true; the input reads as it did. -/
def decSumsSpec : ChangeSpec := { name := "decSums", fn := fun _ => fun
  | [d1, d2] => { results := [.lit (.bool true)], args := [d1, d2] }
  | _ => none }
def decSumsRow : OpenClaim := { program := "ytjghnghceeijeaagreatdoor", sum := "04e00d83056913260f9f99cae80d94cfeb2a1d62f0b069aab05cf358e0c2720a", func := "zermelo/zermelolaw02.DecSums", spec := "decSums", inPlace := ["internal/abi.NoEscape", "internal/bytealg.MakeNoZero", "internal/bytealg.IndexByteString", "internal/bytealg.IndexString"], unfollowed := true, recurses := true, named := ["zermelo/num.digits", "internal/bytealg.MaxLen", "unicode/utf8.first", "unicode/utf8.acceptRanges"], loops := true, apart := false, laid := [("unicode/utf8.acceptRanges", laid_unicode_utf8_acceptRanges), ("zermelo/num.digits", laid_zermelo_num_digits), ("unicode/utf8.first", laid_unicode_utf8_first)] }
def DecSumsSaid : Prop := decSumsRow.holds Tryz.pinned (OpenSpec.ofChange decSumsSpec)

/-- ITS FALSE NEIGHBOUR: 'it returns false'. Refute it at one input. -/
def decSumsWrong : ChangeSpec := { name := "decSums", fn := fun _ => fun
  | [d1, d2] => { results := [.lit (.bool false)], args := [d1, d2] }
  | _ => none }
def DecSumsWrongFalsely : Prop := decSumsRow.holds Tryz.pinned (OpenSpec.ofChange decSumsWrong)

/-- 'zermelolaw02.DecExact': WHATEVER THE INPUT: true; the input reads as it did. -/
def decExactSpec : ChangeSpec := { name := "decExact", fn := fun _ => fun
  | [d1, d2, d3] => { results := [.lit (.bool true)], args := [d1, d2, d3] }
  | _ => none }
def decExactRow : OpenClaim := { program := "ytjghnghceeijeaagreatdoor", sum := "04e00d83056913260f9f99cae80d94cfeb2a1d62f0b069aab05cf358e0c2720a", func := "zermelo/zermelolaw02.DecExact", spec := "decExact", inPlace := ["internal/abi.NoEscape", "internal/bytealg.MakeNoZero", "internal/bytealg.IndexByteString", "internal/bytealg.IndexString"], unfollowed := true, recurses := true, named := ["zermelo/num.digits", "internal/bytealg.MaxLen", "unicode/utf8.first", "unicode/utf8.acceptRanges"], loops := true, apart := false, laid := [("unicode/utf8.acceptRanges", laid_unicode_utf8_acceptRanges), ("zermelo/num.digits", laid_zermelo_num_digits), ("unicode/utf8.first", laid_unicode_utf8_first)] }
def DecExactSaid : Prop := decExactRow.holds Tryz.pinned (OpenSpec.ofChange decExactSpec)

/-- ITS FALSE NEIGHBOUR: 'it returns false'. Refute it at one input. -/
def decExactWrong : ChangeSpec := { name := "decExact", fn := fun _ => fun
  | [d1, d2, d3] => { results := [.lit (.bool false)], args := [d1, d2, d3] }
  | _ => none }
def DecExactWrongFalsely : Prop := decExactRow.holds Tryz.pinned (OpenSpec.ofChange decExactWrong)

/-- 'zermelolaw02.DecRoots': WHATEVER THE INPUT: true; the input reads as it did. -/
def decRootsSpec : ChangeSpec := { name := "decRoots", fn := fun _ => fun
  | [d1, d2] => { results := [.lit (.bool true)], args := [d1, d2] }
  | _ => none }
def decRootsRow : OpenClaim := { program := "ytjghnghceeijeaagreatdoor", sum := "04e00d83056913260f9f99cae80d94cfeb2a1d62f0b069aab05cf358e0c2720a", func := "zermelo/zermelolaw02.DecRoots", spec := "decRoots", inPlace := ["internal/abi.NoEscape", "internal/bytealg.MakeNoZero", "internal/bytealg.IndexByteString", "internal/bytealg.IndexString"], unfollowed := true, recurses := true, named := ["zermelo/num.digits", "internal/bytealg.MaxLen", "unicode/utf8.first", "unicode/utf8.acceptRanges"], loops := true, apart := false, laid := [("unicode/utf8.acceptRanges", laid_unicode_utf8_acceptRanges), ("zermelo/num.digits", laid_zermelo_num_digits), ("unicode/utf8.first", laid_unicode_utf8_first)] }
def DecRootsSaid : Prop := decRootsRow.holds Tryz.pinned (OpenSpec.ofChange decRootsSpec)

/-- ITS FALSE NEIGHBOUR: 'it returns false'. Refute it at one input. -/
def decRootsWrong : ChangeSpec := { name := "decRoots", fn := fun _ => fun
  | [d1, d2] => { results := [.lit (.bool false)], args := [d1, d2] }
  | _ => none }
def DecRootsWrongFalsely : Prop := decRootsRow.holds Tryz.pinned (OpenSpec.ofChange decRootsWrong)

/-- 'zermelolaw02.DecRounds': WHATEVER THE INPUT: true; the input reads as it did. -/
def decRoundsSpec : ChangeSpec := { name := "decRounds", fn := fun _ => fun
  | [d1, d2] => { results := [.lit (.bool true)], args := [d1, d2] }
  | _ => none }
def decRoundsRow : OpenClaim := { program := "ytjghnghceeijeaagreatdoor", sum := "04e00d83056913260f9f99cae80d94cfeb2a1d62f0b069aab05cf358e0c2720a", func := "zermelo/zermelolaw02.DecRounds", spec := "decRounds", inPlace := ["internal/abi.NoEscape", "internal/bytealg.MakeNoZero", "internal/bytealg.IndexByteString", "internal/bytealg.IndexString"], unfollowed := true, recurses := true, named := ["zermelo/num.digits", "internal/bytealg.MaxLen", "unicode/utf8.first", "unicode/utf8.acceptRanges"], loops := true, apart := false, laid := [("unicode/utf8.acceptRanges", laid_unicode_utf8_acceptRanges), ("zermelo/num.digits", laid_zermelo_num_digits), ("unicode/utf8.first", laid_unicode_utf8_first)] }
def DecRoundsSaid : Prop := decRoundsRow.holds Tryz.pinned (OpenSpec.ofChange decRoundsSpec)

/-- ITS FALSE NEIGHBOUR: 'it returns false'. Refute it at one input. -/
def decRoundsWrong : ChangeSpec := { name := "decRounds", fn := fun _ => fun
  | [d1, d2] => { results := [.lit (.bool false)], args := [d1, d2] }
  | _ => none }
def DecRoundsWrongFalsely : Prop := decRoundsRow.holds Tryz.pinned (OpenSpec.ofChange decRoundsWrong)

/-- 'zermelolaw02.DecTells': WHATEVER THE INPUT: true; the input reads as it did. -/
def decTellsSpec : ChangeSpec := { name := "decTells", fn := fun _ => fun
  | [d1, d2, d3, d4] => { results := [.lit (.bool true)], args := [d1, d2, d3, d4] }
  | _ => none }
def decTellsRow : OpenClaim := { program := "ytjghnghceeijeaagreatdoor", sum := "04e00d83056913260f9f99cae80d94cfeb2a1d62f0b069aab05cf358e0c2720a", func := "zermelo/zermelolaw02.DecTells", spec := "decTells", inPlace := ["internal/abi.NoEscape", "internal/bytealg.MakeNoZero", "internal/bytealg.IndexByteString", "internal/bytealg.IndexString"], unfollowed := true, recurses := true, named := ["zermelo/num.digits", "internal/bytealg.MaxLen", "unicode/utf8.first", "unicode/utf8.acceptRanges"], loops := true, apart := false, laid := [("unicode/utf8.acceptRanges", laid_unicode_utf8_acceptRanges), ("zermelo/num.digits", laid_zermelo_num_digits), ("unicode/utf8.first", laid_unicode_utf8_first)] }
def DecTellsSaid : Prop := decTellsRow.holds Tryz.pinned (OpenSpec.ofChange decTellsSpec)

/-- ITS FALSE NEIGHBOUR: 'it returns false'. Refute it at one input. -/
def decTellsWrong : ChangeSpec := { name := "decTells", fn := fun _ => fun
  | [d1, d2, d3, d4] => { results := [.lit (.bool false)], args := [d1, d2, d3, d4] }
  | _ => none }
def DecTellsWrongFalsely : Prop := decTellsRow.holds Tryz.pinned (OpenSpec.ofChange decTellsWrong)

/-- 'zermelolaw02.DecRatios': WHATEVER THE INPUT: true; the input reads as it did. -/
def decRatiosSpec : ChangeSpec := { name := "decRatios", fn := fun _ => fun
  | [d1, d2, d3, d4] => { results := [.lit (.bool true)], args := [d1, d2, d3, d4] }
  | _ => none }
def decRatiosRow : OpenClaim := { program := "ytjghnghceeijeaagreatdoor", sum := "04e00d83056913260f9f99cae80d94cfeb2a1d62f0b069aab05cf358e0c2720a", func := "zermelo/zermelolaw02.DecRatios", spec := "decRatios", inPlace := ["internal/abi.NoEscape", "internal/bytealg.MakeNoZero", "internal/bytealg.IndexByteString", "internal/bytealg.IndexString"], unfollowed := true, recurses := true, named := ["zermelo/num.digits", "internal/bytealg.MaxLen", "unicode/utf8.first", "unicode/utf8.acceptRanges"], loops := true, apart := false, laid := [("unicode/utf8.acceptRanges", laid_unicode_utf8_acceptRanges), ("zermelo/num.digits", laid_zermelo_num_digits), ("unicode/utf8.first", laid_unicode_utf8_first)] }
def DecRatiosSaid : Prop := decRatiosRow.holds Tryz.pinned (OpenSpec.ofChange decRatiosSpec)

/-- ITS FALSE NEIGHBOUR: 'it returns false'. Refute it at one input. -/
def decRatiosWrong : ChangeSpec := { name := "decRatios", fn := fun _ => fun
  | [d1, d2, d3, d4] => { results := [.lit (.bool false)], args := [d1, d2, d3, d4] }
  | _ => none }
def DecRatiosWrongFalsely : Prop := decRatiosRow.holds Tryz.pinned (OpenSpec.ofChange decRatiosWrong)

/-- 'zermelolaw02.DecCertificates': WHATEVER THE INPUT: true; the input reads as it did. -/
def decCertificatesSpec : ChangeSpec := { name := "decCertificates", fn := fun _ => fun
  | [d1, d2, d3, d4, d5] => { results := [.lit (.bool true)], args := [d1, d2, d3, d4, d5] }
  | _ => none }
def decCertificatesRow : OpenClaim := { program := "ytjghnghceeijeaagreatdoor", sum := "04e00d83056913260f9f99cae80d94cfeb2a1d62f0b069aab05cf358e0c2720a", func := "zermelo/zermelolaw02.DecCertificates", spec := "decCertificates", inPlace := ["internal/abi.NoEscape", "internal/bytealg.MakeNoZero", "internal/bytealg.IndexByteString", "internal/bytealg.IndexString"], unfollowed := true, recurses := true, named := ["zermelo/num.digits", "internal/bytealg.MaxLen", "unicode/utf8.first", "unicode/utf8.acceptRanges"], loops := true, apart := false, laid := [("unicode/utf8.acceptRanges", laid_unicode_utf8_acceptRanges), ("zermelo/num.digits", laid_zermelo_num_digits), ("unicode/utf8.first", laid_unicode_utf8_first)] }
def DecCertificatesSaid : Prop := decCertificatesRow.holds Tryz.pinned (OpenSpec.ofChange decCertificatesSpec)

/-- ITS FALSE NEIGHBOUR: 'it returns false'. Refute it at one input. -/
def decCertificatesWrong : ChangeSpec := { name := "decCertificates", fn := fun _ => fun
  | [d1, d2, d3, d4, d5] => { results := [.lit (.bool false)], args := [d1, d2, d3, d4, d5] }
  | _ => none }
def DecCertificatesWrongFalsely : Prop := decCertificatesRow.holds Tryz.pinned (OpenSpec.ofChange decCertificatesWrong)

/-- 'zermelolaw02.DecOrder': WHATEVER THE INPUT: true; the input reads as it did. -/
def decOrderSpec : ChangeSpec := { name := "decOrder", fn := fun _ => fun
  | [d1, d2, d3, d4] => { results := [.lit (.bool true)], args := [d1, d2, d3, d4] }
  | _ => none }
def decOrderRow : OpenClaim := { program := "ytjghnghceeijeaagreatdoor", sum := "04e00d83056913260f9f99cae80d94cfeb2a1d62f0b069aab05cf358e0c2720a", func := "zermelo/zermelolaw02.DecOrder", spec := "decOrder", inPlace := ["internal/abi.NoEscape", "internal/bytealg.MakeNoZero", "internal/bytealg.IndexByteString", "internal/bytealg.IndexString"], unfollowed := true, recurses := true, named := ["zermelo/num.digits", "internal/bytealg.MaxLen", "unicode/utf8.first", "unicode/utf8.acceptRanges"], loops := true, apart := false, laid := [("unicode/utf8.acceptRanges", laid_unicode_utf8_acceptRanges), ("zermelo/num.digits", laid_zermelo_num_digits), ("unicode/utf8.first", laid_unicode_utf8_first)] }
def DecOrderSaid : Prop := decOrderRow.holds Tryz.pinned (OpenSpec.ofChange decOrderSpec)

/-- ITS FALSE NEIGHBOUR: 'it returns false'. Refute it at one input. -/
def decOrderWrong : ChangeSpec := { name := "decOrder", fn := fun _ => fun
  | [d1, d2, d3, d4] => { results := [.lit (.bool false)], args := [d1, d2, d3, d4] }
  | _ => none }
def DecOrderWrongFalsely : Prop := decOrderRow.holds Tryz.pinned (OpenSpec.ofChange decOrderWrong)

/-- 'zermelolaw02.DecWhole': WHATEVER THE INPUT: true; the input reads as it did. -/
def decWholeSpec : ChangeSpec := { name := "decWhole", fn := fun _ => fun
  | [d1, d2] => { results := [.lit (.bool true)], args := [d1, d2] }
  | _ => none }
def decWholeRow : OpenClaim := { program := "ytjghnghceeijeaagreatdoor", sum := "04e00d83056913260f9f99cae80d94cfeb2a1d62f0b069aab05cf358e0c2720a", func := "zermelo/zermelolaw02.DecWhole", spec := "decWhole", inPlace := ["internal/abi.NoEscape", "internal/bytealg.MakeNoZero", "internal/bytealg.IndexByteString", "internal/bytealg.IndexString"], unfollowed := true, recurses := true, named := ["zermelo/num.digits", "internal/bytealg.MaxLen", "unicode/utf8.first", "unicode/utf8.acceptRanges"], loops := true, apart := false, laid := [("unicode/utf8.acceptRanges", laid_unicode_utf8_acceptRanges), ("zermelo/num.digits", laid_zermelo_num_digits), ("unicode/utf8.first", laid_unicode_utf8_first)] }
def DecWholeSaid : Prop := decWholeRow.holds Tryz.pinned (OpenSpec.ofChange decWholeSpec)

/-- ITS FALSE NEIGHBOUR: 'it returns false'. Refute it at one input. -/
def decWholeWrong : ChangeSpec := { name := "decWhole", fn := fun _ => fun
  | [d1, d2] => { results := [.lit (.bool false)], args := [d1, d2] }
  | _ => none }
def DecWholeWrongFalsely : Prop := decWholeRow.holds Tryz.pinned (OpenSpec.ofChange decWholeWrong)

/- THE SECOND FORM. 'bulk': how many values and letters a reading holds, each counted each time it is reached (what is shared counts as often as it is met; a slice's spare places count too). A statement '..UptoSaid' is the law's where the arguments, and the package variables that the reading takes, are together of bulk at most 1048576: NARROWER than '..Said'. Prove '..Said' where nothing that the law and all that it calls make is longer than what came in: it says more and counts as full. Else prove '..UptoSaid'. A law counts once. -/
mutual
def uptoBulk {H : Type} : DataW H → Nat
  | .lit (.string bytes) => bytes.length + 1
  | .lit _ => 1
  | .nil => 1
  | .ptr d => uptoBulk d + 1
  | .slice elems spare => uptoBulkAll elems + uptoBulkAll spare + 1
  | .agg parts => uptoBulkAll parts + 1
  | .iface _ d => uptoBulk d + 1
  | .map entries => uptoBulkEntries entries + 1
  | .held _ => 1
def uptoBulkAll {H : Type} : List (DataW H) → Nat
  | [] => 0
  | d :: r => uptoBulk d + uptoBulkAll r
def uptoBulkEntries {H : Type} : List (Lit × DataW H) → Nat
  | [] => 0
  | x :: r => uptoBulkEntry x + uptoBulkEntries r
def uptoBulkEntry {H : Type} : Lit × DataW H → Nat
  | (.string bytes, d) => bytes.length + uptoBulk d + 1
  | (_, d) => uptoBulk d + 1
 end
def uptoSmall : (H : Type) → List (DataW H) → Bool := fun _ ds => decide (uptoBulkAll ds ≤ 1048576)
def OpenSpec.upto (s : _root_.Go.ChangeSpec) : _root_.Go.OpenSpec := { _root_.Go.OpenSpec.ofChange s with cond := some uptoSmall }

/-- 'zermelolaw02.DecPowers', WHERE WHAT IT READS IS OF BULK AT MOST 1048576: true; the input reads as it did. -/
def decPowersUptoRow : OpenClaim := { program := "ytjghnghceeijeaagreatdoor", sum := "04e00d83056913260f9f99cae80d94cfeb2a1d62f0b069aab05cf358e0c2720a", func := "zermelo/zermelolaw02.DecPowers", spec := "decPowers", inPlace := ["internal/abi.NoEscape", "internal/bytealg.MakeNoZero", "internal/bytealg.IndexByteString", "internal/bytealg.IndexString"], unfollowed := true, recurses := true, named := ["zermelo/num.digits", "internal/bytealg.MaxLen", "unicode/utf8.first", "unicode/utf8.acceptRanges"], loops := true, apart := false, laid := [("unicode/utf8.acceptRanges", laid_unicode_utf8_acceptRanges), ("zermelo/num.digits", laid_zermelo_num_digits), ("unicode/utf8.first", laid_unicode_utf8_first)], narrowed := true }
def DecPowersUptoSaid : Prop := decPowersUptoRow.holds Tryz.pinned (OpenSpec.upto decPowersSpec)

/-- 'zermelolaw02.DecTexts', WHERE WHAT IT READS IS OF BULK AT MOST 1048576: true; the input reads as it did. -/
def decTextsUptoRow : OpenClaim := { program := "ytjghnghceeijeaagreatdoor", sum := "04e00d83056913260f9f99cae80d94cfeb2a1d62f0b069aab05cf358e0c2720a", func := "zermelo/zermelolaw02.DecTexts", spec := "decTexts", inPlace := ["internal/abi.NoEscape", "internal/bytealg.MakeNoZero", "internal/bytealg.IndexByteString", "internal/bytealg.IndexString"], unfollowed := true, recurses := true, named := ["zermelo/num.digits", "internal/bytealg.MaxLen", "unicode/utf8.first", "unicode/utf8.acceptRanges"], loops := true, apart := false, laid := [("unicode/utf8.acceptRanges", laid_unicode_utf8_acceptRanges), ("zermelo/num.digits", laid_zermelo_num_digits), ("unicode/utf8.first", laid_unicode_utf8_first)], narrowed := true }
def DecTextsUptoSaid : Prop := decTextsUptoRow.holds Tryz.pinned (OpenSpec.upto decTextsSpec)

/-- 'zermelolaw02.DecZeros', WHERE WHAT IT READS IS OF BULK AT MOST 1048576: true; the input reads as it did. -/
def decZerosUptoRow : OpenClaim := { program := "ytjghnghceeijeaagreatdoor", sum := "04e00d83056913260f9f99cae80d94cfeb2a1d62f0b069aab05cf358e0c2720a", func := "zermelo/zermelolaw02.DecZeros", spec := "decZeros", inPlace := ["internal/abi.NoEscape", "internal/bytealg.MakeNoZero", "internal/bytealg.IndexByteString", "internal/bytealg.IndexString"], unfollowed := true, recurses := true, named := ["zermelo/num.digits", "internal/bytealg.MaxLen", "unicode/utf8.first", "unicode/utf8.acceptRanges"], loops := true, apart := false, laid := [("unicode/utf8.acceptRanges", laid_unicode_utf8_acceptRanges), ("zermelo/num.digits", laid_zermelo_num_digits), ("unicode/utf8.first", laid_unicode_utf8_first)], narrowed := true }
def DecZerosUptoSaid : Prop := decZerosUptoRow.holds Tryz.pinned (OpenSpec.upto decZerosSpec)

/-- 'zermelolaw02.DecNearest', WHERE WHAT IT READS IS OF BULK AT MOST 1048576: true; the input reads as it did. -/
def decNearestUptoRow : OpenClaim := { program := "ytjghnghceeijeaagreatdoor", sum := "04e00d83056913260f9f99cae80d94cfeb2a1d62f0b069aab05cf358e0c2720a", func := "zermelo/zermelolaw02.DecNearest", spec := "decNearest", inPlace := ["internal/abi.NoEscape", "internal/bytealg.MakeNoZero", "internal/bytealg.IndexByteString", "internal/bytealg.IndexString"], unfollowed := true, recurses := true, named := ["zermelo/num.digits", "internal/bytealg.MaxLen", "unicode/utf8.first", "unicode/utf8.acceptRanges"], loops := true, apart := false, laid := [("unicode/utf8.acceptRanges", laid_unicode_utf8_acceptRanges), ("zermelo/num.digits", laid_zermelo_num_digits), ("unicode/utf8.first", laid_unicode_utf8_first)], narrowed := true }
def DecNearestUptoSaid : Prop := decNearestUptoRow.holds Tryz.pinned (OpenSpec.upto decNearestSpec)

/-- 'zermelolaw02.DecSums', WHERE WHAT IT READS IS OF BULK AT MOST 1048576: true; the input reads as it did. -/
def decSumsUptoRow : OpenClaim := { program := "ytjghnghceeijeaagreatdoor", sum := "04e00d83056913260f9f99cae80d94cfeb2a1d62f0b069aab05cf358e0c2720a", func := "zermelo/zermelolaw02.DecSums", spec := "decSums", inPlace := ["internal/abi.NoEscape", "internal/bytealg.MakeNoZero", "internal/bytealg.IndexByteString", "internal/bytealg.IndexString"], unfollowed := true, recurses := true, named := ["zermelo/num.digits", "internal/bytealg.MaxLen", "unicode/utf8.first", "unicode/utf8.acceptRanges"], loops := true, apart := false, laid := [("unicode/utf8.acceptRanges", laid_unicode_utf8_acceptRanges), ("zermelo/num.digits", laid_zermelo_num_digits), ("unicode/utf8.first", laid_unicode_utf8_first)], narrowed := true }
def DecSumsUptoSaid : Prop := decSumsUptoRow.holds Tryz.pinned (OpenSpec.upto decSumsSpec)

/-- 'zermelolaw02.DecExact', WHERE WHAT IT READS IS OF BULK AT MOST 1048576: true; the input reads as it did. -/
def decExactUptoRow : OpenClaim := { program := "ytjghnghceeijeaagreatdoor", sum := "04e00d83056913260f9f99cae80d94cfeb2a1d62f0b069aab05cf358e0c2720a", func := "zermelo/zermelolaw02.DecExact", spec := "decExact", inPlace := ["internal/abi.NoEscape", "internal/bytealg.MakeNoZero", "internal/bytealg.IndexByteString", "internal/bytealg.IndexString"], unfollowed := true, recurses := true, named := ["zermelo/num.digits", "internal/bytealg.MaxLen", "unicode/utf8.first", "unicode/utf8.acceptRanges"], loops := true, apart := false, laid := [("unicode/utf8.acceptRanges", laid_unicode_utf8_acceptRanges), ("zermelo/num.digits", laid_zermelo_num_digits), ("unicode/utf8.first", laid_unicode_utf8_first)], narrowed := true }
def DecExactUptoSaid : Prop := decExactUptoRow.holds Tryz.pinned (OpenSpec.upto decExactSpec)

/-- 'zermelolaw02.DecRoots', WHERE WHAT IT READS IS OF BULK AT MOST 1048576: true; the input reads as it did. -/
def decRootsUptoRow : OpenClaim := { program := "ytjghnghceeijeaagreatdoor", sum := "04e00d83056913260f9f99cae80d94cfeb2a1d62f0b069aab05cf358e0c2720a", func := "zermelo/zermelolaw02.DecRoots", spec := "decRoots", inPlace := ["internal/abi.NoEscape", "internal/bytealg.MakeNoZero", "internal/bytealg.IndexByteString", "internal/bytealg.IndexString"], unfollowed := true, recurses := true, named := ["zermelo/num.digits", "internal/bytealg.MaxLen", "unicode/utf8.first", "unicode/utf8.acceptRanges"], loops := true, apart := false, laid := [("unicode/utf8.acceptRanges", laid_unicode_utf8_acceptRanges), ("zermelo/num.digits", laid_zermelo_num_digits), ("unicode/utf8.first", laid_unicode_utf8_first)], narrowed := true }
def DecRootsUptoSaid : Prop := decRootsUptoRow.holds Tryz.pinned (OpenSpec.upto decRootsSpec)

/-- 'zermelolaw02.DecRounds', WHERE WHAT IT READS IS OF BULK AT MOST 1048576: true; the input reads as it did. -/
def decRoundsUptoRow : OpenClaim := { program := "ytjghnghceeijeaagreatdoor", sum := "04e00d83056913260f9f99cae80d94cfeb2a1d62f0b069aab05cf358e0c2720a", func := "zermelo/zermelolaw02.DecRounds", spec := "decRounds", inPlace := ["internal/abi.NoEscape", "internal/bytealg.MakeNoZero", "internal/bytealg.IndexByteString", "internal/bytealg.IndexString"], unfollowed := true, recurses := true, named := ["zermelo/num.digits", "internal/bytealg.MaxLen", "unicode/utf8.first", "unicode/utf8.acceptRanges"], loops := true, apart := false, laid := [("unicode/utf8.acceptRanges", laid_unicode_utf8_acceptRanges), ("zermelo/num.digits", laid_zermelo_num_digits), ("unicode/utf8.first", laid_unicode_utf8_first)], narrowed := true }
def DecRoundsUptoSaid : Prop := decRoundsUptoRow.holds Tryz.pinned (OpenSpec.upto decRoundsSpec)

/-- 'zermelolaw02.DecTells', WHERE WHAT IT READS IS OF BULK AT MOST 1048576: true; the input reads as it did. -/
def decTellsUptoRow : OpenClaim := { program := "ytjghnghceeijeaagreatdoor", sum := "04e00d83056913260f9f99cae80d94cfeb2a1d62f0b069aab05cf358e0c2720a", func := "zermelo/zermelolaw02.DecTells", spec := "decTells", inPlace := ["internal/abi.NoEscape", "internal/bytealg.MakeNoZero", "internal/bytealg.IndexByteString", "internal/bytealg.IndexString"], unfollowed := true, recurses := true, named := ["zermelo/num.digits", "internal/bytealg.MaxLen", "unicode/utf8.first", "unicode/utf8.acceptRanges"], loops := true, apart := false, laid := [("unicode/utf8.acceptRanges", laid_unicode_utf8_acceptRanges), ("zermelo/num.digits", laid_zermelo_num_digits), ("unicode/utf8.first", laid_unicode_utf8_first)], narrowed := true }
def DecTellsUptoSaid : Prop := decTellsUptoRow.holds Tryz.pinned (OpenSpec.upto decTellsSpec)

/-- 'zermelolaw02.DecRatios', WHERE WHAT IT READS IS OF BULK AT MOST 1048576: true; the input reads as it did. -/
def decRatiosUptoRow : OpenClaim := { program := "ytjghnghceeijeaagreatdoor", sum := "04e00d83056913260f9f99cae80d94cfeb2a1d62f0b069aab05cf358e0c2720a", func := "zermelo/zermelolaw02.DecRatios", spec := "decRatios", inPlace := ["internal/abi.NoEscape", "internal/bytealg.MakeNoZero", "internal/bytealg.IndexByteString", "internal/bytealg.IndexString"], unfollowed := true, recurses := true, named := ["zermelo/num.digits", "internal/bytealg.MaxLen", "unicode/utf8.first", "unicode/utf8.acceptRanges"], loops := true, apart := false, laid := [("unicode/utf8.acceptRanges", laid_unicode_utf8_acceptRanges), ("zermelo/num.digits", laid_zermelo_num_digits), ("unicode/utf8.first", laid_unicode_utf8_first)], narrowed := true }
def DecRatiosUptoSaid : Prop := decRatiosUptoRow.holds Tryz.pinned (OpenSpec.upto decRatiosSpec)

/-- 'zermelolaw02.DecCertificates', WHERE WHAT IT READS IS OF BULK AT MOST 1048576: true; the input reads as it did. -/
def decCertificatesUptoRow : OpenClaim := { program := "ytjghnghceeijeaagreatdoor", sum := "04e00d83056913260f9f99cae80d94cfeb2a1d62f0b069aab05cf358e0c2720a", func := "zermelo/zermelolaw02.DecCertificates", spec := "decCertificates", inPlace := ["internal/abi.NoEscape", "internal/bytealg.MakeNoZero", "internal/bytealg.IndexByteString", "internal/bytealg.IndexString"], unfollowed := true, recurses := true, named := ["zermelo/num.digits", "internal/bytealg.MaxLen", "unicode/utf8.first", "unicode/utf8.acceptRanges"], loops := true, apart := false, laid := [("unicode/utf8.acceptRanges", laid_unicode_utf8_acceptRanges), ("zermelo/num.digits", laid_zermelo_num_digits), ("unicode/utf8.first", laid_unicode_utf8_first)], narrowed := true }
def DecCertificatesUptoSaid : Prop := decCertificatesUptoRow.holds Tryz.pinned (OpenSpec.upto decCertificatesSpec)

/-- 'zermelolaw02.DecOrder', WHERE WHAT IT READS IS OF BULK AT MOST 1048576: true; the input reads as it did. -/
def decOrderUptoRow : OpenClaim := { program := "ytjghnghceeijeaagreatdoor", sum := "04e00d83056913260f9f99cae80d94cfeb2a1d62f0b069aab05cf358e0c2720a", func := "zermelo/zermelolaw02.DecOrder", spec := "decOrder", inPlace := ["internal/abi.NoEscape", "internal/bytealg.MakeNoZero", "internal/bytealg.IndexByteString", "internal/bytealg.IndexString"], unfollowed := true, recurses := true, named := ["zermelo/num.digits", "internal/bytealg.MaxLen", "unicode/utf8.first", "unicode/utf8.acceptRanges"], loops := true, apart := false, laid := [("unicode/utf8.acceptRanges", laid_unicode_utf8_acceptRanges), ("zermelo/num.digits", laid_zermelo_num_digits), ("unicode/utf8.first", laid_unicode_utf8_first)], narrowed := true }
def DecOrderUptoSaid : Prop := decOrderUptoRow.holds Tryz.pinned (OpenSpec.upto decOrderSpec)

/-- 'zermelolaw02.DecWhole', WHERE WHAT IT READS IS OF BULK AT MOST 1048576: true; the input reads as it did. -/
def decWholeUptoRow : OpenClaim := { program := "ytjghnghceeijeaagreatdoor", sum := "04e00d83056913260f9f99cae80d94cfeb2a1d62f0b069aab05cf358e0c2720a", func := "zermelo/zermelolaw02.DecWhole", spec := "decWhole", inPlace := ["internal/abi.NoEscape", "internal/bytealg.MakeNoZero", "internal/bytealg.IndexByteString", "internal/bytealg.IndexString"], unfollowed := true, recurses := true, named := ["zermelo/num.digits", "internal/bytealg.MaxLen", "unicode/utf8.first", "unicode/utf8.acceptRanges"], loops := true, apart := false, laid := [("unicode/utf8.acceptRanges", laid_unicode_utf8_acceptRanges), ("zermelo/num.digits", laid_zermelo_num_digits), ("unicode/utf8.first", laid_unicode_utf8_first)], narrowed := true }
def DecWholeUptoSaid : Prop := decWholeUptoRow.holds Tryz.pinned (OpenSpec.upto decWholeSpec)

end Rows
end Go.Proofs.YtjghnghceeijeaaGreatDoor
