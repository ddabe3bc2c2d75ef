/-
  NARROWER THAN 'FOR EVERY INPUT', by the rows' own cells (each row's printed sentence says how): IpPrint: laid · IpParse: laid · IpBytes: laid · IpAdd: laid · IpBits: laid · CidrPrint: laid · CidrParse: laid · CidrCovers: laid · CidrBlock: laid · CidrSplit: laid · CidrHas: laid · NamesNets: laid · NamesOf: laid · NamesFit: laid · NamesNamed: laid.
  DERIVED. THE GIVEN ROWS OF THIS SEAT. 15 by the template 'for every input the law returns true; each argument reads behind the call as it read before'; 0 by the template 'total and deterministic' (their statements: YtcdopgkkieenjaaDoorTotals.lean).
  GIVEN WITH THE SEED: the statements are not yours to turn. If you find one false, say at which input.
  Laid BY PROGRAM, IN A SANDBOX (cutbox-rows.mjs): the forced cells as the released guide's own fill.sh prints them over the translation 73bf0ecd1d15b0b7… (all of the seat's roots in one cut). By AI agents, Wed Nov 11 2026. No macro, syntax, notation, axiom, sorry.
-/
import Derived.Test.YtcdopgkkieenjaaDoorChecked
import GoSem.PinnedTables
import GoSem.Claim
import GoSem.ClaimJoined
import GoSem.ClaimMapViews
import Derived.JoinedTies
import Derived.KernelRfl
namespace Go.Proofs.YtcdopgkkieenjaaDoor
/- THE CELL 'sum', in the pinned program and in every row, IS THE sha256 OF THE DUMP (.gsa) THAT YtcdopgkkieenjaaDoorProg.lean LOADS. Nothing in Lean hashes anything: it is a label: what it is worth is what the hold of that sum in a sandbox is worth. -/
noncomputable def Tryd.pinned : Pinned := { name := "ytcdopgkkieenjaadoor", sum := "73bf0ecd1d15b0b7e7a797d7f860c396fec32201137c1718f9b75adcd75da44d", checked := Tryd.checked }
namespace Rows
def none {H : Type} : Left H := { results := [], args := [] }

/- WHAT THE LISTED PACKAGE-LEVEL VARIABLES READ AS WHEN THE CALL BEGINS. Each datum BY PROGRAM (the guide's laid-datum.mjs) off the statement by which the dump's own 'gosem.cut.vars' lays the variable. In a bare row this is a premise. The card (YtcdopgkkieenjaaDoorCards.lean) ties it to the program's text. -/
def laid_unicode_utf8_acceptRanges {H : Type} : DataW H := .agg [.agg [.lit (.int .u8 128), .lit (.int .u8 191)], .agg [.lit (.int .u8 160), .lit (.int .u8 191)], .agg [.lit (.int .u8 128), .lit (.int .u8 159)], .agg [.lit (.int .u8 144), .lit (.int .u8 191)], .agg [.lit (.int .u8 128), .lit (.int .u8 143)], .agg [.lit (.int .u8 0), .lit (.int .u8 0)], .agg [.lit (.int .u8 0), .lit (.int .u8 0)], .agg [.lit (.int .u8 0), .lit (.int .u8 0)], .agg [.lit (.int .u8 0), .lit (.int .u8 0)], .agg [.lit (.int .u8 0), .lit (.int .u8 0)], .agg [.lit (.int .u8 0), .lit (.int .u8 0)], .agg [.lit (.int .u8 0), .lit (.int .u8 0)], .agg [.lit (.int .u8 0), .lit (.int .u8 0)], .agg [.lit (.int .u8 0), .lit (.int .u8 0)], .agg [.lit (.int .u8 0), .lit (.int .u8 0)], .agg [.lit (.int .u8 0), .lit (.int .u8 0)]]
/-- One of Go's own tables, pinned by name: the form's constant. -/
def laid_unicode_utf8_first : DataW Unit := Go.Pinned.utf8First

/-- 'virgatelaw01.IpPrint': WHATEVER THE INPUT: true; the input reads as it did. -/
def ipPrintSpec : ChangeSpec := { name := "ipPrint", fn := fun _ => fun
  | [d] => { results := [.lit (.bool true)], args := [d] }
  | _ => none }
def ipPrintRow : OpenClaim := { program := "ytcdopgkkieenjaadoor", sum := "73bf0ecd1d15b0b7e7a797d7f860c396fec32201137c1718f9b75adcd75da44d", func := "virgate/virgatelaw01.IpPrint", spec := "ipPrint", inPlace := ["internal/abi.NoEscape", "internal/bytealg.MakeNoZero", "internal/bytealg.CountString", "internal/bytealg.IndexByteString", "internal/bytealg.IndexString"], recurses := true, named := ["unicode/utf8.first", "unicode/utf8.acceptRanges", "internal/bytealg.MaxLen"], apart := false, laid := [("unicode/utf8.acceptRanges", laid_unicode_utf8_acceptRanges), ("unicode/utf8.first", laid_unicode_utf8_first)] }
def IpPrintSaid : Prop := ipPrintRow.holds Tryd.pinned (OpenSpec.ofChange ipPrintSpec)

/-- ITS FALSE NEIGHBOUR: 'it returns false'. Refute it at one input. -/
def ipPrintWrong : ChangeSpec := { name := "ipPrint", fn := fun _ => fun
  | [d] => { results := [.lit (.bool false)], args := [d] }
  | _ => none }
def IpPrintWrongFalsely : Prop := ipPrintRow.holds Tryd.pinned (OpenSpec.ofChange ipPrintWrong)

/-- 'virgatelaw01.IpParse': WHATEVER THE INPUT: true; the input reads as it did. -/
def ipParseSpec : ChangeSpec := { name := "ipParse", fn := fun _ => fun
  | [d] => { results := [.lit (.bool true)], args := [d] }
  | _ => none }
def ipParseRow : OpenClaim := { program := "ytcdopgkkieenjaadoor", sum := "73bf0ecd1d15b0b7e7a797d7f860c396fec32201137c1718f9b75adcd75da44d", func := "virgate/virgatelaw01.IpParse", spec := "ipParse", inPlace := ["internal/bytealg.CountString", "internal/bytealg.IndexByteString", "internal/bytealg.IndexString", "internal/abi.NoEscape", "internal/bytealg.MakeNoZero"], recurses := true, named := ["unicode/utf8.first", "unicode/utf8.acceptRanges", "internal/bytealg.MaxLen"], apart := false, laid := [("unicode/utf8.acceptRanges", laid_unicode_utf8_acceptRanges), ("unicode/utf8.first", laid_unicode_utf8_first)] }
def IpParseSaid : Prop := ipParseRow.holds Tryd.pinned (OpenSpec.ofChange ipParseSpec)

/-- ITS FALSE NEIGHBOUR: 'it returns false'. Refute it at one input. -/
def ipParseWrong : ChangeSpec := { name := "ipParse", fn := fun _ => fun
  | [d] => { results := [.lit (.bool false)], args := [d] }
  | _ => none }
def IpParseWrongFalsely : Prop := ipParseRow.holds Tryd.pinned (OpenSpec.ofChange ipParseWrong)

/-- 'virgatelaw01.IpBytes': WHATEVER THE INPUT: true; the input reads as it did. -/
def ipBytesSpec : ChangeSpec := { name := "ipBytes", fn := fun _ => fun
  | [d1, d2] => { results := [.lit (.bool true)], args := [d1, d2] }
  | _ => none }
def ipBytesRow : OpenClaim := { program := "ytcdopgkkieenjaadoor", sum := "73bf0ecd1d15b0b7e7a797d7f860c396fec32201137c1718f9b75adcd75da44d", func := "virgate/virgatelaw01.IpBytes", spec := "ipBytes", inPlace := ["internal/bytealg.CountString", "internal/bytealg.IndexByteString", "internal/bytealg.IndexString", "internal/abi.NoEscape", "internal/bytealg.MakeNoZero"], named := ["unicode/utf8.first", "unicode/utf8.acceptRanges", "internal/bytealg.MaxLen"], apart := false, laid := [("unicode/utf8.acceptRanges", laid_unicode_utf8_acceptRanges), ("unicode/utf8.first", laid_unicode_utf8_first)] }
def IpBytesSaid : Prop := ipBytesRow.holds Tryd.pinned (OpenSpec.ofChange ipBytesSpec)

/-- ITS FALSE NEIGHBOUR: 'it returns false'. Refute it at one input. -/
def ipBytesWrong : ChangeSpec := { name := "ipBytes", fn := fun _ => fun
  | [d1, d2] => { results := [.lit (.bool false)], args := [d1, d2] }
  | _ => none }
def IpBytesWrongFalsely : Prop := ipBytesRow.holds Tryd.pinned (OpenSpec.ofChange ipBytesWrong)

/-- 'virgatelaw01.IpAdd': WHATEVER THE INPUT: true; the input reads as it did. -/
def ipAddSpec : ChangeSpec := { name := "ipAdd", fn := fun _ => fun
  | [d1, d2, d3] => { results := [.lit (.bool true)], args := [d1, d2, d3] }
  | _ => none }
def ipAddRow : OpenClaim := { program := "ytcdopgkkieenjaadoor", sum := "73bf0ecd1d15b0b7e7a797d7f860c396fec32201137c1718f9b75adcd75da44d", func := "virgate/virgatelaw01.IpAdd", spec := "ipAdd", inPlace := ["internal/bytealg.CountString", "internal/bytealg.IndexByteString", "internal/bytealg.IndexString", "internal/abi.NoEscape", "internal/bytealg.MakeNoZero"], named := ["unicode/utf8.first", "unicode/utf8.acceptRanges", "internal/bytealg.MaxLen"], apart := false, laid := [("unicode/utf8.acceptRanges", laid_unicode_utf8_acceptRanges), ("unicode/utf8.first", laid_unicode_utf8_first)] }
def IpAddSaid : Prop := ipAddRow.holds Tryd.pinned (OpenSpec.ofChange ipAddSpec)

/-- ITS FALSE NEIGHBOUR: 'it returns false'. Refute it at one input. -/
def ipAddWrong : ChangeSpec := { name := "ipAdd", fn := fun _ => fun
  | [d1, d2, d3] => { results := [.lit (.bool false)], args := [d1, d2, d3] }
  | _ => none }
def IpAddWrongFalsely : Prop := ipAddRow.holds Tryd.pinned (OpenSpec.ofChange ipAddWrong)

/-- 'virgatelaw01.IpBits': WHATEVER THE INPUT: true; the input reads as it did. -/
def ipBitsSpec : ChangeSpec := { name := "ipBits", fn := fun _ => fun
  | [d1, d2, d3] => { results := [.lit (.bool true)], args := [d1, d2, d3] }
  | _ => none }
def ipBitsRow : OpenClaim := { program := "ytcdopgkkieenjaadoor", sum := "73bf0ecd1d15b0b7e7a797d7f860c396fec32201137c1718f9b75adcd75da44d", func := "virgate/virgatelaw01.IpBits", spec := "ipBits", inPlace := ["internal/bytealg.CountString", "internal/bytealg.IndexByteString", "internal/bytealg.IndexString", "internal/abi.NoEscape", "internal/bytealg.MakeNoZero"], named := ["unicode/utf8.first", "unicode/utf8.acceptRanges", "internal/bytealg.MaxLen"], apart := false, laid := [("unicode/utf8.acceptRanges", laid_unicode_utf8_acceptRanges), ("unicode/utf8.first", laid_unicode_utf8_first)] }
def IpBitsSaid : Prop := ipBitsRow.holds Tryd.pinned (OpenSpec.ofChange ipBitsSpec)

/-- ITS FALSE NEIGHBOUR: 'it returns false'. Refute it at one input. -/
def ipBitsWrong : ChangeSpec := { name := "ipBits", fn := fun _ => fun
  | [d1, d2, d3] => { results := [.lit (.bool false)], args := [d1, d2, d3] }
  | _ => none }
def IpBitsWrongFalsely : Prop := ipBitsRow.holds Tryd.pinned (OpenSpec.ofChange ipBitsWrong)

/-- 'virgatelaw02.CidrPrint': WHATEVER THE INPUT: true; the input reads as it did. -/
def cidrPrintSpec : ChangeSpec := { name := "cidrPrint", fn := fun _ => fun
  | [d] => { results := [.lit (.bool true)], args := [d] }
  | _ => none }
def cidrPrintRow : OpenClaim := { program := "ytcdopgkkieenjaadoor", sum := "73bf0ecd1d15b0b7e7a797d7f860c396fec32201137c1718f9b75adcd75da44d", func := "virgate/virgatelaw02.CidrPrint", spec := "cidrPrint", inPlace := ["internal/abi.NoEscape", "internal/bytealg.MakeNoZero", "internal/bytealg.IndexByteString", "internal/bytealg.IndexString", "internal/bytealg.CountString"], recurses := true, named := ["internal/bytealg.MaxLen", "unicode/utf8.first", "unicode/utf8.acceptRanges"], apart := false, laid := [("unicode/utf8.acceptRanges", laid_unicode_utf8_acceptRanges), ("unicode/utf8.first", laid_unicode_utf8_first)] }
def CidrPrintSaid : Prop := cidrPrintRow.holds Tryd.pinned (OpenSpec.ofChange cidrPrintSpec)

/-- ITS FALSE NEIGHBOUR: 'it returns false'. Refute it at one input. -/
def cidrPrintWrong : ChangeSpec := { name := "cidrPrint", fn := fun _ => fun
  | [d] => { results := [.lit (.bool false)], args := [d] }
  | _ => none }
def CidrPrintWrongFalsely : Prop := cidrPrintRow.holds Tryd.pinned (OpenSpec.ofChange cidrPrintWrong)

/-- 'virgatelaw02.CidrParse': WHATEVER THE INPUT: true; the input reads as it did. -/
def cidrParseSpec : ChangeSpec := { name := "cidrParse", fn := fun _ => fun
  | [d] => { results := [.lit (.bool true)], args := [d] }
  | _ => none }
def cidrParseRow : OpenClaim := { program := "ytcdopgkkieenjaadoor", sum := "73bf0ecd1d15b0b7e7a797d7f860c396fec32201137c1718f9b75adcd75da44d", func := "virgate/virgatelaw02.CidrParse", spec := "cidrParse", inPlace := ["internal/bytealg.IndexByteString", "internal/bytealg.IndexString", "internal/bytealg.CountString", "internal/abi.NoEscape", "internal/bytealg.MakeNoZero"], recurses := true, named := ["internal/bytealg.MaxLen", "unicode/utf8.first", "unicode/utf8.acceptRanges"], apart := false, laid := [("unicode/utf8.acceptRanges", laid_unicode_utf8_acceptRanges), ("unicode/utf8.first", laid_unicode_utf8_first)] }
def CidrParseSaid : Prop := cidrParseRow.holds Tryd.pinned (OpenSpec.ofChange cidrParseSpec)

/-- ITS FALSE NEIGHBOUR: 'it returns false'. Refute it at one input. -/
def cidrParseWrong : ChangeSpec := { name := "cidrParse", fn := fun _ => fun
  | [d] => { results := [.lit (.bool false)], args := [d] }
  | _ => none }
def CidrParseWrongFalsely : Prop := cidrParseRow.holds Tryd.pinned (OpenSpec.ofChange cidrParseWrong)

/-- 'virgatelaw02.CidrCovers': WHATEVER THE INPUT: true; the input reads as it did. -/
def cidrCoversSpec : ChangeSpec := { name := "cidrCovers", fn := fun _ => fun
  | [d1, d2] => { results := [.lit (.bool true)], args := [d1, d2] }
  | _ => none }
def cidrCoversRow : OpenClaim := { program := "ytcdopgkkieenjaadoor", sum := "73bf0ecd1d15b0b7e7a797d7f860c396fec32201137c1718f9b75adcd75da44d", func := "virgate/virgatelaw02.CidrCovers", spec := "cidrCovers", inPlace := ["internal/bytealg.IndexByteString", "internal/bytealg.IndexString", "internal/bytealg.CountString", "internal/abi.NoEscape", "internal/bytealg.MakeNoZero"], recurses := true, named := ["internal/bytealg.MaxLen", "unicode/utf8.first", "unicode/utf8.acceptRanges"], apart := false, laid := [("unicode/utf8.acceptRanges", laid_unicode_utf8_acceptRanges), ("unicode/utf8.first", laid_unicode_utf8_first)] }
def CidrCoversSaid : Prop := cidrCoversRow.holds Tryd.pinned (OpenSpec.ofChange cidrCoversSpec)

/-- ITS FALSE NEIGHBOUR: 'it returns false'. Refute it at one input. -/
def cidrCoversWrong : ChangeSpec := { name := "cidrCovers", fn := fun _ => fun
  | [d1, d2] => { results := [.lit (.bool false)], args := [d1, d2] }
  | _ => none }
def CidrCoversWrongFalsely : Prop := cidrCoversRow.holds Tryd.pinned (OpenSpec.ofChange cidrCoversWrong)

/-- 'virgatelaw02.CidrBlock': WHATEVER THE INPUT: true; the input reads as it did. -/
def cidrBlockSpec : ChangeSpec := { name := "cidrBlock", fn := fun _ => fun
  | [d1, d2] => { results := [.lit (.bool true)], args := [d1, d2] }
  | _ => none }
def cidrBlockRow : OpenClaim := { program := "ytcdopgkkieenjaadoor", sum := "73bf0ecd1d15b0b7e7a797d7f860c396fec32201137c1718f9b75adcd75da44d", func := "virgate/virgatelaw02.CidrBlock", spec := "cidrBlock", inPlace := ["internal/bytealg.IndexByteString", "internal/bytealg.IndexString", "internal/bytealg.CountString", "internal/abi.NoEscape", "internal/bytealg.MakeNoZero"], recurses := true, named := ["internal/bytealg.MaxLen", "unicode/utf8.first", "unicode/utf8.acceptRanges"], apart := false, laid := [("unicode/utf8.acceptRanges", laid_unicode_utf8_acceptRanges), ("unicode/utf8.first", laid_unicode_utf8_first)] }
def CidrBlockSaid : Prop := cidrBlockRow.holds Tryd.pinned (OpenSpec.ofChange cidrBlockSpec)

/-- ITS FALSE NEIGHBOUR: 'it returns false'. Refute it at one input. -/
def cidrBlockWrong : ChangeSpec := { name := "cidrBlock", fn := fun _ => fun
  | [d1, d2] => { results := [.lit (.bool false)], args := [d1, d2] }
  | _ => none }
def CidrBlockWrongFalsely : Prop := cidrBlockRow.holds Tryd.pinned (OpenSpec.ofChange cidrBlockWrong)

/-- 'virgatelaw02.CidrSplit': WHATEVER THE INPUT: true; the input reads as it did. -/
def cidrSplitSpec : ChangeSpec := { name := "cidrSplit", fn := fun _ => fun
  | [d1, d2, d3] => { results := [.lit (.bool true)], args := [d1, d2, d3] }
  | _ => none }
def cidrSplitRow : OpenClaim := { program := "ytcdopgkkieenjaadoor", sum := "73bf0ecd1d15b0b7e7a797d7f860c396fec32201137c1718f9b75adcd75da44d", func := "virgate/virgatelaw02.CidrSplit", spec := "cidrSplit", inPlace := ["internal/bytealg.IndexByteString", "internal/bytealg.IndexString", "internal/bytealg.CountString", "internal/abi.NoEscape", "internal/bytealg.MakeNoZero"], recurses := true, named := ["internal/bytealg.MaxLen", "unicode/utf8.first", "unicode/utf8.acceptRanges"], apart := false, laid := [("unicode/utf8.acceptRanges", laid_unicode_utf8_acceptRanges), ("unicode/utf8.first", laid_unicode_utf8_first)] }
def CidrSplitSaid : Prop := cidrSplitRow.holds Tryd.pinned (OpenSpec.ofChange cidrSplitSpec)

/-- ITS FALSE NEIGHBOUR: 'it returns false'. Refute it at one input. -/
def cidrSplitWrong : ChangeSpec := { name := "cidrSplit", fn := fun _ => fun
  | [d1, d2, d3] => { results := [.lit (.bool false)], args := [d1, d2, d3] }
  | _ => none }
def CidrSplitWrongFalsely : Prop := cidrSplitRow.holds Tryd.pinned (OpenSpec.ofChange cidrSplitWrong)

/-- 'virgatelaw02.CidrHas': WHATEVER THE INPUT: true; the input reads as it did. -/
def cidrHasSpec : ChangeSpec := { name := "cidrHas", fn := fun _ => fun
  | [d1, d2, d3] => { results := [.lit (.bool true)], args := [d1, d2, d3] }
  | _ => none }
def cidrHasRow : OpenClaim := { program := "ytcdopgkkieenjaadoor", sum := "73bf0ecd1d15b0b7e7a797d7f860c396fec32201137c1718f9b75adcd75da44d", func := "virgate/virgatelaw02.CidrHas", spec := "cidrHas", inPlace := ["internal/bytealg.IndexByteString", "internal/bytealg.IndexString", "internal/bytealg.CountString", "internal/abi.NoEscape", "internal/bytealg.MakeNoZero"], recurses := true, named := ["internal/bytealg.MaxLen", "unicode/utf8.first", "unicode/utf8.acceptRanges"], apart := false, laid := [("unicode/utf8.acceptRanges", laid_unicode_utf8_acceptRanges), ("unicode/utf8.first", laid_unicode_utf8_first)] }
def CidrHasSaid : Prop := cidrHasRow.holds Tryd.pinned (OpenSpec.ofChange cidrHasSpec)

/-- ITS FALSE NEIGHBOUR: 'it returns false'. Refute it at one input. -/
def cidrHasWrong : ChangeSpec := { name := "cidrHas", fn := fun _ => fun
  | [d1, d2, d3] => { results := [.lit (.bool false)], args := [d1, d2, d3] }
  | _ => none }
def CidrHasWrongFalsely : Prop := cidrHasRow.holds Tryd.pinned (OpenSpec.ofChange cidrHasWrong)

/-- 'virgatelaw12.NamesNets': WHATEVER THE INPUT: true; the input reads as it did. -/
def namesNetsSpec : ChangeSpec := { name := "namesNets", fn := fun _ => fun
  | [d1, d2] => { results := [.lit (.bool true)], args := [d1, d2] }
  | _ => none }
def namesNetsRow : OpenClaim := { program := "ytcdopgkkieenjaadoor", sum := "73bf0ecd1d15b0b7e7a797d7f860c396fec32201137c1718f9b75adcd75da44d", func := "virgate/virgatelaw12.NamesNets", spec := "namesNets", inPlace := ["internal/abi.NoEscape", "internal/bytealg.MakeNoZero", "internal/bytealg.CountString", "internal/bytealg.IndexByteString", "internal/bytealg.IndexString"], recurses := true, named := ["internal/bytealg.MaxLen", "unicode/utf8.first", "unicode/utf8.acceptRanges"], apart := false, laid := [("unicode/utf8.acceptRanges", laid_unicode_utf8_acceptRanges), ("unicode/utf8.first", laid_unicode_utf8_first)] }
def NamesNetsSaid : Prop := namesNetsRow.holds Tryd.pinned (OpenSpec.ofChange namesNetsSpec)

/-- ITS FALSE NEIGHBOUR: 'it returns false'. Refute it at one input. -/
def namesNetsWrong : ChangeSpec := { name := "namesNets", fn := fun _ => fun
  | [d1, d2] => { results := [.lit (.bool false)], args := [d1, d2] }
  | _ => none }
def NamesNetsWrongFalsely : Prop := namesNetsRow.holds Tryd.pinned (OpenSpec.ofChange namesNetsWrong)

/-- 'virgatelaw12.NamesOf': WHATEVER THE INPUT: true; the input reads as it did. -/
def namesOfSpec : ChangeSpec := { name := "namesOf", fn := fun _ => fun
  | [d] => { results := [.lit (.bool true)], args := [d] }
  | _ => none }
def namesOfRow : OpenClaim := { program := "ytcdopgkkieenjaadoor", sum := "73bf0ecd1d15b0b7e7a797d7f860c396fec32201137c1718f9b75adcd75da44d", func := "virgate/virgatelaw12.NamesOf", spec := "namesOf", inPlace := ["internal/bytealg.IndexByteString", "internal/bytealg.IndexString", "internal/bytealg.CountString", "internal/abi.NoEscape", "internal/bytealg.MakeNoZero"], recurses := true, named := ["internal/bytealg.MaxLen", "unicode/utf8.first", "unicode/utf8.acceptRanges"], apart := false, laid := [("unicode/utf8.acceptRanges", laid_unicode_utf8_acceptRanges), ("unicode/utf8.first", laid_unicode_utf8_first)] }
def NamesOfSaid : Prop := namesOfRow.holds Tryd.pinned (OpenSpec.ofChange namesOfSpec)

/-- ITS FALSE NEIGHBOUR: 'it returns false'. Refute it at one input. -/
def namesOfWrong : ChangeSpec := { name := "namesOf", fn := fun _ => fun
  | [d] => { results := [.lit (.bool false)], args := [d] }
  | _ => none }
def NamesOfWrongFalsely : Prop := namesOfRow.holds Tryd.pinned (OpenSpec.ofChange namesOfWrong)

/-- 'virgatelaw12.NamesFit': WHATEVER THE INPUT: true; the input reads as it did. -/
def namesFitSpec : ChangeSpec := { name := "namesFit", fn := fun _ => fun
  | [d1, d2, d3] => { results := [.lit (.bool true)], args := [d1, d2, d3] }
  | _ => none }
def namesFitRow : OpenClaim := { program := "ytcdopgkkieenjaadoor", sum := "73bf0ecd1d15b0b7e7a797d7f860c396fec32201137c1718f9b75adcd75da44d", func := "virgate/virgatelaw12.NamesFit", spec := "namesFit", inPlace := ["internal/abi.NoEscape", "internal/bytealg.MakeNoZero", "internal/bytealg.CountString", "internal/bytealg.IndexByteString", "internal/bytealg.IndexString"], recurses := true, named := ["internal/bytealg.MaxLen", "unicode/utf8.first", "unicode/utf8.acceptRanges"], apart := false, laid := [("unicode/utf8.acceptRanges", laid_unicode_utf8_acceptRanges), ("unicode/utf8.first", laid_unicode_utf8_first)] }
def NamesFitSaid : Prop := namesFitRow.holds Tryd.pinned (OpenSpec.ofChange namesFitSpec)

/-- ITS FALSE NEIGHBOUR: 'it returns false'. Refute it at one input. -/
def namesFitWrong : ChangeSpec := { name := "namesFit", fn := fun _ => fun
  | [d1, d2, d3] => { results := [.lit (.bool false)], args := [d1, d2, d3] }
  | _ => none }
def NamesFitWrongFalsely : Prop := namesFitRow.holds Tryd.pinned (OpenSpec.ofChange namesFitWrong)

/-- 'virgatelaw12.NamesNamed': WHATEVER THE INPUT: true; the input reads as it did. -/
def namesNamedSpec : ChangeSpec := { name := "namesNamed", fn := fun _ => fun
  | [d1, d2] => { results := [.lit (.bool true)], args := [d1, d2] }
  | _ => none }
def namesNamedRow : OpenClaim := { program := "ytcdopgkkieenjaadoor", sum := "73bf0ecd1d15b0b7e7a797d7f860c396fec32201137c1718f9b75adcd75da44d", func := "virgate/virgatelaw12.NamesNamed", spec := "namesNamed", inPlace := ["internal/abi.NoEscape", "internal/bytealg.MakeNoZero", "internal/bytealg.CountString", "internal/bytealg.IndexByteString", "internal/bytealg.IndexString"], recurses := true, named := ["internal/bytealg.MaxLen", "unicode/utf8.first", "unicode/utf8.acceptRanges"], apart := false, laid := [("unicode/utf8.acceptRanges", laid_unicode_utf8_acceptRanges), ("unicode/utf8.first", laid_unicode_utf8_first)] }
def NamesNamedSaid : Prop := namesNamedRow.holds Tryd.pinned (OpenSpec.ofChange namesNamedSpec)

/-- ITS FALSE NEIGHBOUR: 'it returns false'. Refute it at one input. -/
def namesNamedWrong : ChangeSpec := { name := "namesNamed", fn := fun _ => fun
  | [d1, d2] => { results := [.lit (.bool false)], args := [d1, d2] }
  | _ => none }
def NamesNamedWrongFalsely : Prop := namesNamedRow.holds Tryd.pinned (OpenSpec.ofChange namesNamedWrong)

/- THE SECOND FORM. 'bulk': how many values and letters a reading holds, each counted each time it is reached (what is shared counts as often as it is met; a slice's spare places count too). A statement '..UptoSaid' is the law's where the arguments, and the package variables that the reading takes, are together of bulk at most 1048576: NARROWER than '..Said'. Prove '..Said' where nothing that the law and all that it calls make is longer than what came in: it says more and counts as full. Else prove '..UptoSaid'. A law counts once. -/
mutual
def uptoBulk {H : Type} : DataW H → Nat
  | .lit (.string bytes) => bytes.length + 1
  | .lit _ => 1
  | .nil => 1
  | .ptr d => uptoBulk d + 1
  | .slice elems spare => uptoBulkAll elems + uptoBulkAll spare + 1
  | .agg parts => uptoBulkAll parts + 1
  | .iface _ d => uptoBulk d + 1
  | .map entries => uptoBulkEntries entries + 1
  | .held _ => 1
def uptoBulkAll {H : Type} : List (DataW H) → Nat
  | [] => 0
  | d :: r => uptoBulk d + uptoBulkAll r
def uptoBulkEntries {H : Type} : List (Lit × DataW H) → Nat
  | [] => 0
  | x :: r => uptoBulkEntry x + uptoBulkEntries r
def uptoBulkEntry {H : Type} : Lit × DataW H → Nat
  | (.string bytes, d) => bytes.length + uptoBulk d + 1
  | (_, d) => uptoBulk d + 1
 end
def uptoSmall : (H : Type) → List (DataW H) → Bool := fun _ ds => decide (uptoBulkAll ds ≤ 1048576)
def OpenSpec.upto (s : _root_.Go.ChangeSpec) : _root_.Go.OpenSpec := { _root_.Go.OpenSpec.ofChange s with cond := some uptoSmall }

/-- 'virgatelaw01.IpPrint', WHERE WHAT IT READS IS OF BULK AT MOST 1048576: true; the input reads as it did. -/
def ipPrintUptoRow : OpenClaim := { program := "ytcdopgkkieenjaadoor", sum := "73bf0ecd1d15b0b7e7a797d7f860c396fec32201137c1718f9b75adcd75da44d", func := "virgate/virgatelaw01.IpPrint", spec := "ipPrint", inPlace := ["internal/abi.NoEscape", "internal/bytealg.MakeNoZero", "internal/bytealg.CountString", "internal/bytealg.IndexByteString", "internal/bytealg.IndexString"], recurses := true, named := ["unicode/utf8.first", "unicode/utf8.acceptRanges", "internal/bytealg.MaxLen"], apart := false, laid := [("unicode/utf8.acceptRanges", laid_unicode_utf8_acceptRanges), ("unicode/utf8.first", laid_unicode_utf8_first)], narrowed := true }
def IpPrintUptoSaid : Prop := ipPrintUptoRow.holds Tryd.pinned (OpenSpec.upto ipPrintSpec)

/-- 'virgatelaw01.IpParse', WHERE WHAT IT READS IS OF BULK AT MOST 1048576: true; the input reads as it did. -/
def ipParseUptoRow : OpenClaim := { program := "ytcdopgkkieenjaadoor", sum := "73bf0ecd1d15b0b7e7a797d7f860c396fec32201137c1718f9b75adcd75da44d", func := "virgate/virgatelaw01.IpParse", spec := "ipParse", inPlace := ["internal/bytealg.CountString", "internal/bytealg.IndexByteString", "internal/bytealg.IndexString", "internal/abi.NoEscape", "internal/bytealg.MakeNoZero"], recurses := true, named := ["unicode/utf8.first", "unicode/utf8.acceptRanges", "internal/bytealg.MaxLen"], apart := false, laid := [("unicode/utf8.acceptRanges", laid_unicode_utf8_acceptRanges), ("unicode/utf8.first", laid_unicode_utf8_first)], narrowed := true }
def IpParseUptoSaid : Prop := ipParseUptoRow.holds Tryd.pinned (OpenSpec.upto ipParseSpec)

/-- 'virgatelaw01.IpBytes', WHERE WHAT IT READS IS OF BULK AT MOST 1048576: true; the input reads as it did. -/
def ipBytesUptoRow : OpenClaim := { program := "ytcdopgkkieenjaadoor", sum := "73bf0ecd1d15b0b7e7a797d7f860c396fec32201137c1718f9b75adcd75da44d", func := "virgate/virgatelaw01.IpBytes", spec := "ipBytes", inPlace := ["internal/bytealg.CountString", "internal/bytealg.IndexByteString", "internal/bytealg.IndexString", "internal/abi.NoEscape", "internal/bytealg.MakeNoZero"], named := ["unicode/utf8.first", "unicode/utf8.acceptRanges", "internal/bytealg.MaxLen"], apart := false, laid := [("unicode/utf8.acceptRanges", laid_unicode_utf8_acceptRanges), ("unicode/utf8.first", laid_unicode_utf8_first)], narrowed := true }
def IpBytesUptoSaid : Prop := ipBytesUptoRow.holds Tryd.pinned (OpenSpec.upto ipBytesSpec)

/-- 'virgatelaw01.IpAdd', WHERE WHAT IT READS IS OF BULK AT MOST 1048576: true; the input reads as it did. -/
def ipAddUptoRow : OpenClaim := { program := "ytcdopgkkieenjaadoor", sum := "73bf0ecd1d15b0b7e7a797d7f860c396fec32201137c1718f9b75adcd75da44d", func := "virgate/virgatelaw01.IpAdd", spec := "ipAdd", inPlace := ["internal/bytealg.CountString", "internal/bytealg.IndexByteString", "internal/bytealg.IndexString", "internal/abi.NoEscape", "internal/bytealg.MakeNoZero"], named := ["unicode/utf8.first", "unicode/utf8.acceptRanges", "internal/bytealg.MaxLen"], apart := false, laid := [("unicode/utf8.acceptRanges", laid_unicode_utf8_acceptRanges), ("unicode/utf8.first", laid_unicode_utf8_first)], narrowed := true }
def IpAddUptoSaid : Prop := ipAddUptoRow.holds Tryd.pinned (OpenSpec.upto ipAddSpec)

/-- 'virgatelaw01.IpBits', WHERE WHAT IT READS IS OF BULK AT MOST 1048576: true; the input reads as it did. -/
def ipBitsUptoRow : OpenClaim := { program := "ytcdopgkkieenjaadoor", sum := "73bf0ecd1d15b0b7e7a797d7f860c396fec32201137c1718f9b75adcd75da44d", func := "virgate/virgatelaw01.IpBits", spec := "ipBits", inPlace := ["internal/bytealg.CountString", "internal/bytealg.IndexByteString", "internal/bytealg.IndexString", "internal/abi.NoEscape", "internal/bytealg.MakeNoZero"], named := ["unicode/utf8.first", "unicode/utf8.acceptRanges", "internal/bytealg.MaxLen"], apart := false, laid := [("unicode/utf8.acceptRanges", laid_unicode_utf8_acceptRanges), ("unicode/utf8.first", laid_unicode_utf8_first)], narrowed := true }
def IpBitsUptoSaid : Prop := ipBitsUptoRow.holds Tryd.pinned (OpenSpec.upto ipBitsSpec)

/-- 'virgatelaw02.CidrPrint', WHERE WHAT IT READS IS OF BULK AT MOST 1048576: true; the input reads as it did. -/
def cidrPrintUptoRow : OpenClaim := { program := "ytcdopgkkieenjaadoor", sum := "73bf0ecd1d15b0b7e7a797d7f860c396fec32201137c1718f9b75adcd75da44d", func := "virgate/virgatelaw02.CidrPrint", spec := "cidrPrint", inPlace := ["internal/abi.NoEscape", "internal/bytealg.MakeNoZero", "internal/bytealg.IndexByteString", "internal/bytealg.IndexString", "internal/bytealg.CountString"], recurses := true, named := ["internal/bytealg.MaxLen", "unicode/utf8.first", "unicode/utf8.acceptRanges"], apart := false, laid := [("unicode/utf8.acceptRanges", laid_unicode_utf8_acceptRanges), ("unicode/utf8.first", laid_unicode_utf8_first)], narrowed := true }
def CidrPrintUptoSaid : Prop := cidrPrintUptoRow.holds Tryd.pinned (OpenSpec.upto cidrPrintSpec)

/-- 'virgatelaw02.CidrParse', WHERE WHAT IT READS IS OF BULK AT MOST 1048576: true; the input reads as it did. -/
def cidrParseUptoRow : OpenClaim := { program := "ytcdopgkkieenjaadoor", sum := "73bf0ecd1d15b0b7e7a797d7f860c396fec32201137c1718f9b75adcd75da44d", func := "virgate/virgatelaw02.CidrParse", spec := "cidrParse", inPlace := ["internal/bytealg.IndexByteString", "internal/bytealg.IndexString", "internal/bytealg.CountString", "internal/abi.NoEscape", "internal/bytealg.MakeNoZero"], recurses := true, named := ["internal/bytealg.MaxLen", "unicode/utf8.first", "unicode/utf8.acceptRanges"], apart := false, laid := [("unicode/utf8.acceptRanges", laid_unicode_utf8_acceptRanges), ("unicode/utf8.first", laid_unicode_utf8_first)], narrowed := true }
def CidrParseUptoSaid : Prop := cidrParseUptoRow.holds Tryd.pinned (OpenSpec.upto cidrParseSpec)

/-- 'virgatelaw02.CidrCovers', WHERE WHAT IT READS IS OF BULK AT MOST 1048576: true; the input reads as it did. -/
def cidrCoversUptoRow : OpenClaim := { program := "ytcdopgkkieenjaadoor", sum := "73bf0ecd1d15b0b7e7a797d7f860c396fec32201137c1718f9b75adcd75da44d", func := "virgate/virgatelaw02.CidrCovers", spec := "cidrCovers", inPlace := ["internal/bytealg.IndexByteString", "internal/bytealg.IndexString", "internal/bytealg.CountString", "internal/abi.NoEscape", "internal/bytealg.MakeNoZero"], recurses := true, named := ["internal/bytealg.MaxLen", "unicode/utf8.first", "unicode/utf8.acceptRanges"], apart := false, laid := [("unicode/utf8.acceptRanges", laid_unicode_utf8_acceptRanges), ("unicode/utf8.first", laid_unicode_utf8_first)], narrowed := true }
def CidrCoversUptoSaid : Prop := cidrCoversUptoRow.holds Tryd.pinned (OpenSpec.upto cidrCoversSpec)

/-- 'virgatelaw02.CidrBlock', WHERE WHAT IT READS IS OF BULK AT MOST 1048576: true; the input reads as it did. -/
def cidrBlockUptoRow : OpenClaim := { program := "ytcdopgkkieenjaadoor", sum := "73bf0ecd1d15b0b7e7a797d7f860c396fec32201137c1718f9b75adcd75da44d", func := "virgate/virgatelaw02.CidrBlock", spec := "cidrBlock", inPlace := ["internal/bytealg.IndexByteString", "internal/bytealg.IndexString", "internal/bytealg.CountString", "internal/abi.NoEscape", "internal/bytealg.MakeNoZero"], recurses := true, named := ["internal/bytealg.MaxLen", "unicode/utf8.first", "unicode/utf8.acceptRanges"], apart := false, laid := [("unicode/utf8.acceptRanges", laid_unicode_utf8_acceptRanges), ("unicode/utf8.first", laid_unicode_utf8_first)], narrowed := true }
def CidrBlockUptoSaid : Prop := cidrBlockUptoRow.holds Tryd.pinned (OpenSpec.upto cidrBlockSpec)

/-- 'virgatelaw02.CidrSplit', WHERE WHAT IT READS IS OF BULK AT MOST 1048576: true; the input reads as it did. -/
def cidrSplitUptoRow : OpenClaim := { program := "ytcdopgkkieenjaadoor", sum := "73bf0ecd1d15b0b7e7a797d7f860c396fec32201137c1718f9b75adcd75da44d", func := "virgate/virgatelaw02.CidrSplit", spec := "cidrSplit", inPlace := ["internal/bytealg.IndexByteString", "internal/bytealg.IndexString", "internal/bytealg.CountString", "internal/abi.NoEscape", "internal/bytealg.MakeNoZero"], recurses := true, named := ["internal/bytealg.MaxLen", "unicode/utf8.first", "unicode/utf8.acceptRanges"], apart := false, laid := [("unicode/utf8.acceptRanges", laid_unicode_utf8_acceptRanges), ("unicode/utf8.first", laid_unicode_utf8_first)], narrowed := true }
def CidrSplitUptoSaid : Prop := cidrSplitUptoRow.holds Tryd.pinned (OpenSpec.upto cidrSplitSpec)

/-- 'virgatelaw02.CidrHas', WHERE WHAT IT READS IS OF BULK AT MOST 1048576: true; the input reads as it did. -/
def cidrHasUptoRow : OpenClaim := { program := "ytcdopgkkieenjaadoor", sum := "73bf0ecd1d15b0b7e7a797d7f860c396fec32201137c1718f9b75adcd75da44d", func := "virgate/virgatelaw02.CidrHas", spec := "cidrHas", inPlace := ["internal/bytealg.IndexByteString", "internal/bytealg.IndexString", "internal/bytealg.CountString", "internal/abi.NoEscape", "internal/bytealg.MakeNoZero"], recurses := true, named := ["internal/bytealg.MaxLen", "unicode/utf8.first", "unicode/utf8.acceptRanges"], apart := false, laid := [("unicode/utf8.acceptRanges", laid_unicode_utf8_acceptRanges), ("unicode/utf8.first", laid_unicode_utf8_first)], narrowed := true }
def CidrHasUptoSaid : Prop := cidrHasUptoRow.holds Tryd.pinned (OpenSpec.upto cidrHasSpec)

/-- 'virgatelaw12.NamesNets', WHERE WHAT IT READS IS OF BULK AT MOST 1048576: true; the input reads as it did. -/
def namesNetsUptoRow : OpenClaim := { program := "ytcdopgkkieenjaadoor", sum := "73bf0ecd1d15b0b7e7a797d7f860c396fec32201137c1718f9b75adcd75da44d", func := "virgate/virgatelaw12.NamesNets", spec := "namesNets", inPlace := ["internal/abi.NoEscape", "internal/bytealg.MakeNoZero", "internal/bytealg.CountString", "internal/bytealg.IndexByteString", "internal/bytealg.IndexString"], recurses := true, named := ["internal/bytealg.MaxLen", "unicode/utf8.first", "unicode/utf8.acceptRanges"], apart := false, laid := [("unicode/utf8.acceptRanges", laid_unicode_utf8_acceptRanges), ("unicode/utf8.first", laid_unicode_utf8_first)], narrowed := true }
def NamesNetsUptoSaid : Prop := namesNetsUptoRow.holds Tryd.pinned (OpenSpec.upto namesNetsSpec)

/-- 'virgatelaw12.NamesOf', WHERE WHAT IT READS IS OF BULK AT MOST 1048576: true; the input reads as it did. -/
def namesOfUptoRow : OpenClaim := { program := "ytcdopgkkieenjaadoor", sum := "73bf0ecd1d15b0b7e7a797d7f860c396fec32201137c1718f9b75adcd75da44d", func := "virgate/virgatelaw12.NamesOf", spec := "namesOf", inPlace := ["internal/bytealg.IndexByteString", "internal/bytealg.IndexString", "internal/bytealg.CountString", "internal/abi.NoEscape", "internal/bytealg.MakeNoZero"], recurses := true, named := ["internal/bytealg.MaxLen", "unicode/utf8.first", "unicode/utf8.acceptRanges"], apart := false, laid := [("unicode/utf8.acceptRanges", laid_unicode_utf8_acceptRanges), ("unicode/utf8.first", laid_unicode_utf8_first)], narrowed := true }
def NamesOfUptoSaid : Prop := namesOfUptoRow.holds Tryd.pinned (OpenSpec.upto namesOfSpec)

/-- 'virgatelaw12.NamesFit', WHERE WHAT IT READS IS OF BULK AT MOST 1048576: true; the input reads as it did. -/
def namesFitUptoRow : OpenClaim := { program := "ytcdopgkkieenjaadoor", sum := "73bf0ecd1d15b0b7e7a797d7f860c396fec32201137c1718f9b75adcd75da44d", func := "virgate/virgatelaw12.NamesFit", spec := "namesFit", inPlace := ["internal/abi.NoEscape", "internal/bytealg.MakeNoZero", "internal/bytealg.CountString", "internal/bytealg.IndexByteString", "internal/bytealg.IndexString"], recurses := true, named := ["internal/bytealg.MaxLen", "unicode/utf8.first", "unicode/utf8.acceptRanges"], apart := false, laid := [("unicode/utf8.acceptRanges", laid_unicode_utf8_acceptRanges), ("unicode/utf8.first", laid_unicode_utf8_first)], narrowed := true }
def NamesFitUptoSaid : Prop := namesFitUptoRow.holds Tryd.pinned (OpenSpec.upto namesFitSpec)

/-- 'virgatelaw12.NamesNamed', WHERE WHAT IT READS IS OF BULK AT MOST 1048576: true; the input reads as it did. -/
def namesNamedUptoRow : OpenClaim := { program := "ytcdopgkkieenjaadoor", sum := "73bf0ecd1d15b0b7e7a797d7f860c396fec32201137c1718f9b75adcd75da44d", func := "virgate/virgatelaw12.NamesNamed", spec := "namesNamed", inPlace := ["internal/abi.NoEscape", "internal/bytealg.MakeNoZero", "internal/bytealg.CountString", "internal/bytealg.IndexByteString", "internal/bytealg.IndexString"], recurses := true, named := ["internal/bytealg.MaxLen", "unicode/utf8.first", "unicode/utf8.acceptRanges"], apart := false, laid := [("unicode/utf8.acceptRanges", laid_unicode_utf8_acceptRanges), ("unicode/utf8.first", laid_unicode_utf8_first)], narrowed := true }
def NamesNamedUptoSaid : Prop := namesNamedUptoRow.holds Tryd.pinned (OpenSpec.upto namesNamedSpec)

end Rows
end Go.Proofs.YtcdopgkkieenjaaDoor
