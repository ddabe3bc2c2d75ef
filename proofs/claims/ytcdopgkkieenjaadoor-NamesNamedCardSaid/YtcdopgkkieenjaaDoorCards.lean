/-
  DERIVED. GIVEN WITH THE SEED: THE CARDS: each row of YtcdopgkkieenjaaDoorRows.lean that lists a variable, with what it lists TIED to the program's text (the seventh form; the later family's looks); each row that meets fmt, with fmt's text TOLD by the authors' own Lean function (tested against real Go, not proved from fmt's source: count such statements apart). THE CARD IS WHAT COUNTS. Prove the row's statement (the work); the ties are given (YtcdopgkkieenjaaDoorTie.lean); close each card by the builder's one call (the guide's Derived/Test/ToyasCard.lean, 'card_holds'). Laid BY PROGRAM, IN A SANDBOX (cutbox-door.mjs). By AI agents, Wed Nov 11 2026. No macro, syntax, notation, axiom, sorry.
-/
import Derived.Test.YtcdopgkkieenjaaDoorRows
import GoSem.ClaimSeven
namespace Go.Proofs.YtcdopgkkieenjaaDoor
namespace Rows

/-- THE TIED CARD OF 'virgatelaw01.IpPrint'. -/
def ipPrintCard : Claim7 := { stood := { row := ipPrintRow, standIns := [], harness := (true, "3f78d9149f1bb54561202fa8b1fdf2fbe50cf39bc880aa747bb616a0064a1a2c"), looks := false }, kinds := [], alts := [], laidByText := true, laidKinds := [.data, .pinned], laidTests := true, laidLooks := .later }
def IpPrintCardSaid : Prop := Claim7.holds Tryd.pinned (.plain (OpenSpec.ofChange ipPrintSpec)) ipPrintCard

/-- THE TIED CARD OF 'virgatelaw01.IpParse'. -/
def ipParseCard : Claim7 := { stood := { row := ipParseRow, standIns := [], harness := (true, "3f78d9149f1bb54561202fa8b1fdf2fbe50cf39bc880aa747bb616a0064a1a2c"), looks := false }, kinds := [], alts := [], laidByText := true, laidKinds := [.data, .pinned], laidTests := true, laidLooks := .later }
def IpParseCardSaid : Prop := Claim7.holds Tryd.pinned (.plain (OpenSpec.ofChange ipParseSpec)) ipParseCard

/-- THE TIED CARD OF 'virgatelaw01.IpBytes'. -/
def ipBytesCard : Claim7 := { stood := { row := ipBytesRow, standIns := [], harness := (true, "3f78d9149f1bb54561202fa8b1fdf2fbe50cf39bc880aa747bb616a0064a1a2c"), looks := false }, kinds := [], alts := [], laidByText := true, laidKinds := [.data, .pinned], laidTests := true, laidLooks := .later }
def IpBytesCardSaid : Prop := Claim7.holds Tryd.pinned (.plain (OpenSpec.ofChange ipBytesSpec)) ipBytesCard

/-- THE TIED CARD OF 'virgatelaw01.IpAdd'. -/
def ipAddCard : Claim7 := { stood := { row := ipAddRow, standIns := [], harness := (true, "3f78d9149f1bb54561202fa8b1fdf2fbe50cf39bc880aa747bb616a0064a1a2c"), looks := false }, kinds := [], alts := [], laidByText := true, laidKinds := [.data, .pinned], laidTests := true, laidLooks := .later }
def IpAddCardSaid : Prop := Claim7.holds Tryd.pinned (.plain (OpenSpec.ofChange ipAddSpec)) ipAddCard

/-- THE TIED CARD OF 'virgatelaw01.IpBits'. -/
def ipBitsCard : Claim7 := { stood := { row := ipBitsRow, standIns := [], harness := (true, "3f78d9149f1bb54561202fa8b1fdf2fbe50cf39bc880aa747bb616a0064a1a2c"), looks := false }, kinds := [], alts := [], laidByText := true, laidKinds := [.data, .pinned], laidTests := true, laidLooks := .later }
def IpBitsCardSaid : Prop := Claim7.holds Tryd.pinned (.plain (OpenSpec.ofChange ipBitsSpec)) ipBitsCard

/-- THE TIED CARD OF 'virgatelaw02.CidrPrint'. -/
def cidrPrintCard : Claim7 := { stood := { row := cidrPrintRow, standIns := [], harness := (true, "3f78d9149f1bb54561202fa8b1fdf2fbe50cf39bc880aa747bb616a0064a1a2c"), looks := false }, kinds := [], alts := [], laidByText := true, laidKinds := [.data, .pinned], laidTests := true, laidLooks := .later }
def CidrPrintCardSaid : Prop := Claim7.holds Tryd.pinned (.plain (OpenSpec.ofChange cidrPrintSpec)) cidrPrintCard

/-- THE TIED CARD OF 'virgatelaw02.CidrParse'. -/
def cidrParseCard : Claim7 := { stood := { row := cidrParseRow, standIns := [], harness := (true, "3f78d9149f1bb54561202fa8b1fdf2fbe50cf39bc880aa747bb616a0064a1a2c"), looks := false }, kinds := [], alts := [], laidByText := true, laidKinds := [.data, .pinned], laidTests := true, laidLooks := .later }
def CidrParseCardSaid : Prop := Claim7.holds Tryd.pinned (.plain (OpenSpec.ofChange cidrParseSpec)) cidrParseCard

/-- THE TIED CARD OF 'virgatelaw02.CidrCovers'. -/
def cidrCoversCard : Claim7 := { stood := { row := cidrCoversRow, standIns := [], harness := (true, "3f78d9149f1bb54561202fa8b1fdf2fbe50cf39bc880aa747bb616a0064a1a2c"), looks := false }, kinds := [], alts := [], laidByText := true, laidKinds := [.data, .pinned], laidTests := true, laidLooks := .later }
def CidrCoversCardSaid : Prop := Claim7.holds Tryd.pinned (.plain (OpenSpec.ofChange cidrCoversSpec)) cidrCoversCard

/-- THE TIED CARD OF 'virgatelaw02.CidrBlock'. -/
def cidrBlockCard : Claim7 := { stood := { row := cidrBlockRow, standIns := [], harness := (true, "3f78d9149f1bb54561202fa8b1fdf2fbe50cf39bc880aa747bb616a0064a1a2c"), looks := false }, kinds := [], alts := [], laidByText := true, laidKinds := [.data, .pinned], laidTests := true, laidLooks := .later }
def CidrBlockCardSaid : Prop := Claim7.holds Tryd.pinned (.plain (OpenSpec.ofChange cidrBlockSpec)) cidrBlockCard

/-- THE TIED CARD OF 'virgatelaw02.CidrSplit'. -/
def cidrSplitCard : Claim7 := { stood := { row := cidrSplitRow, standIns := [], harness := (true, "3f78d9149f1bb54561202fa8b1fdf2fbe50cf39bc880aa747bb616a0064a1a2c"), looks := false }, kinds := [], alts := [], laidByText := true, laidKinds := [.data, .pinned], laidTests := true, laidLooks := .later }
def CidrSplitCardSaid : Prop := Claim7.holds Tryd.pinned (.plain (OpenSpec.ofChange cidrSplitSpec)) cidrSplitCard

/-- THE TIED CARD OF 'virgatelaw02.CidrHas'. -/
def cidrHasCard : Claim7 := { stood := { row := cidrHasRow, standIns := [], harness := (true, "3f78d9149f1bb54561202fa8b1fdf2fbe50cf39bc880aa747bb616a0064a1a2c"), looks := false }, kinds := [], alts := [], laidByText := true, laidKinds := [.data, .pinned], laidTests := true, laidLooks := .later }
def CidrHasCardSaid : Prop := Claim7.holds Tryd.pinned (.plain (OpenSpec.ofChange cidrHasSpec)) cidrHasCard

/-- THE TIED CARD OF 'virgatelaw12.NamesNets'. -/
def namesNetsCard : Claim7 := { stood := { row := namesNetsRow, standIns := [], harness := (true, "3f78d9149f1bb54561202fa8b1fdf2fbe50cf39bc880aa747bb616a0064a1a2c"), looks := false }, kinds := [], alts := [], laidByText := true, laidKinds := [.data, .pinned], laidTests := true, laidLooks := .later }
def NamesNetsCardSaid : Prop := Claim7.holds Tryd.pinned (.plain (OpenSpec.ofChange namesNetsSpec)) namesNetsCard

/-- THE TIED CARD OF 'virgatelaw12.NamesOf'. -/
def namesOfCard : Claim7 := { stood := { row := namesOfRow, standIns := [], harness := (true, "3f78d9149f1bb54561202fa8b1fdf2fbe50cf39bc880aa747bb616a0064a1a2c"), looks := false }, kinds := [], alts := [], laidByText := true, laidKinds := [.data, .pinned], laidTests := true, laidLooks := .later }
def NamesOfCardSaid : Prop := Claim7.holds Tryd.pinned (.plain (OpenSpec.ofChange namesOfSpec)) namesOfCard

/-- THE TIED CARD OF 'virgatelaw12.NamesFit'. -/
def namesFitCard : Claim7 := { stood := { row := namesFitRow, standIns := [], harness := (true, "3f78d9149f1bb54561202fa8b1fdf2fbe50cf39bc880aa747bb616a0064a1a2c"), looks := false }, kinds := [], alts := [], laidByText := true, laidKinds := [.data, .pinned], laidTests := true, laidLooks := .later }
def NamesFitCardSaid : Prop := Claim7.holds Tryd.pinned (.plain (OpenSpec.ofChange namesFitSpec)) namesFitCard

/-- THE TIED CARD OF 'virgatelaw12.NamesNamed'. -/
def namesNamedCard : Claim7 := { stood := { row := namesNamedRow, standIns := [], harness := (true, "3f78d9149f1bb54561202fa8b1fdf2fbe50cf39bc880aa747bb616a0064a1a2c"), looks := false }, kinds := [], alts := [], laidByText := true, laidKinds := [.data, .pinned], laidTests := true, laidLooks := .later }
def NamesNamedCardSaid : Prop := Claim7.holds Tryd.pinned (.plain (OpenSpec.ofChange namesNamedSpec)) namesNamedCard

/-- THE SECOND FORM's CARD OF 'virgatelaw01.IpPrint'. -/
def ipPrintUptoCard : Claim7 := { stood := { row := ipPrintUptoRow, standIns := [], harness := (true, "3f78d9149f1bb54561202fa8b1fdf2fbe50cf39bc880aa747bb616a0064a1a2c"), looks := false }, kinds := [], alts := [], laidByText := true, laidKinds := [.data, .pinned], laidTests := true, laidLooks := .later }
def IpPrintUptoCardSaid : Prop := Claim7.holds Tryd.pinned (.plain (OpenSpec.upto ipPrintSpec)) ipPrintUptoCard

/-- THE SECOND FORM's CARD OF 'virgatelaw01.IpParse'. -/
def ipParseUptoCard : Claim7 := { stood := { row := ipParseUptoRow, standIns := [], harness := (true, "3f78d9149f1bb54561202fa8b1fdf2fbe50cf39bc880aa747bb616a0064a1a2c"), looks := false }, kinds := [], alts := [], laidByText := true, laidKinds := [.data, .pinned], laidTests := true, laidLooks := .later }
def IpParseUptoCardSaid : Prop := Claim7.holds Tryd.pinned (.plain (OpenSpec.upto ipParseSpec)) ipParseUptoCard

/-- THE SECOND FORM's CARD OF 'virgatelaw01.IpBytes'. -/
def ipBytesUptoCard : Claim7 := { stood := { row := ipBytesUptoRow, standIns := [], harness := (true, "3f78d9149f1bb54561202fa8b1fdf2fbe50cf39bc880aa747bb616a0064a1a2c"), looks := false }, kinds := [], alts := [], laidByText := true, laidKinds := [.data, .pinned], laidTests := true, laidLooks := .later }
def IpBytesUptoCardSaid : Prop := Claim7.holds Tryd.pinned (.plain (OpenSpec.upto ipBytesSpec)) ipBytesUptoCard

/-- THE SECOND FORM's CARD OF 'virgatelaw01.IpAdd'. -/
def ipAddUptoCard : Claim7 := { stood := { row := ipAddUptoRow, standIns := [], harness := (true, "3f78d9149f1bb54561202fa8b1fdf2fbe50cf39bc880aa747bb616a0064a1a2c"), looks := false }, kinds := [], alts := [], laidByText := true, laidKinds := [.data, .pinned], laidTests := true, laidLooks := .later }
def IpAddUptoCardSaid : Prop := Claim7.holds Tryd.pinned (.plain (OpenSpec.upto ipAddSpec)) ipAddUptoCard

/-- THE SECOND FORM's CARD OF 'virgatelaw01.IpBits'. -/
def ipBitsUptoCard : Claim7 := { stood := { row := ipBitsUptoRow, standIns := [], harness := (true, "3f78d9149f1bb54561202fa8b1fdf2fbe50cf39bc880aa747bb616a0064a1a2c"), looks := false }, kinds := [], alts := [], laidByText := true, laidKinds := [.data, .pinned], laidTests := true, laidLooks := .later }
def IpBitsUptoCardSaid : Prop := Claim7.holds Tryd.pinned (.plain (OpenSpec.upto ipBitsSpec)) ipBitsUptoCard

/-- THE SECOND FORM's CARD OF 'virgatelaw02.CidrPrint'. -/
def cidrPrintUptoCard : Claim7 := { stood := { row := cidrPrintUptoRow, standIns := [], harness := (true, "3f78d9149f1bb54561202fa8b1fdf2fbe50cf39bc880aa747bb616a0064a1a2c"), looks := false }, kinds := [], alts := [], laidByText := true, laidKinds := [.data, .pinned], laidTests := true, laidLooks := .later }
def CidrPrintUptoCardSaid : Prop := Claim7.holds Tryd.pinned (.plain (OpenSpec.upto cidrPrintSpec)) cidrPrintUptoCard

/-- THE SECOND FORM's CARD OF 'virgatelaw02.CidrParse'. -/
def cidrParseUptoCard : Claim7 := { stood := { row := cidrParseUptoRow, standIns := [], harness := (true, "3f78d9149f1bb54561202fa8b1fdf2fbe50cf39bc880aa747bb616a0064a1a2c"), looks := false }, kinds := [], alts := [], laidByText := true, laidKinds := [.data, .pinned], laidTests := true, laidLooks := .later }
def CidrParseUptoCardSaid : Prop := Claim7.holds Tryd.pinned (.plain (OpenSpec.upto cidrParseSpec)) cidrParseUptoCard

/-- THE SECOND FORM's CARD OF 'virgatelaw02.CidrCovers'. -/
def cidrCoversUptoCard : Claim7 := { stood := { row := cidrCoversUptoRow, standIns := [], harness := (true, "3f78d9149f1bb54561202fa8b1fdf2fbe50cf39bc880aa747bb616a0064a1a2c"), looks := false }, kinds := [], alts := [], laidByText := true, laidKinds := [.data, .pinned], laidTests := true, laidLooks := .later }
def CidrCoversUptoCardSaid : Prop := Claim7.holds Tryd.pinned (.plain (OpenSpec.upto cidrCoversSpec)) cidrCoversUptoCard

/-- THE SECOND FORM's CARD OF 'virgatelaw02.CidrBlock'. -/
def cidrBlockUptoCard : Claim7 := { stood := { row := cidrBlockUptoRow, standIns := [], harness := (true, "3f78d9149f1bb54561202fa8b1fdf2fbe50cf39bc880aa747bb616a0064a1a2c"), looks := false }, kinds := [], alts := [], laidByText := true, laidKinds := [.data, .pinned], laidTests := true, laidLooks := .later }
def CidrBlockUptoCardSaid : Prop := Claim7.holds Tryd.pinned (.plain (OpenSpec.upto cidrBlockSpec)) cidrBlockUptoCard

/-- THE SECOND FORM's CARD OF 'virgatelaw02.CidrSplit'. -/
def cidrSplitUptoCard : Claim7 := { stood := { row := cidrSplitUptoRow, standIns := [], harness := (true, "3f78d9149f1bb54561202fa8b1fdf2fbe50cf39bc880aa747bb616a0064a1a2c"), looks := false }, kinds := [], alts := [], laidByText := true, laidKinds := [.data, .pinned], laidTests := true, laidLooks := .later }
def CidrSplitUptoCardSaid : Prop := Claim7.holds Tryd.pinned (.plain (OpenSpec.upto cidrSplitSpec)) cidrSplitUptoCard

/-- THE SECOND FORM's CARD OF 'virgatelaw02.CidrHas'. -/
def cidrHasUptoCard : Claim7 := { stood := { row := cidrHasUptoRow, standIns := [], harness := (true, "3f78d9149f1bb54561202fa8b1fdf2fbe50cf39bc880aa747bb616a0064a1a2c"), looks := false }, kinds := [], alts := [], laidByText := true, laidKinds := [.data, .pinned], laidTests := true, laidLooks := .later }
def CidrHasUptoCardSaid : Prop := Claim7.holds Tryd.pinned (.plain (OpenSpec.upto cidrHasSpec)) cidrHasUptoCard

/-- THE SECOND FORM's CARD OF 'virgatelaw12.NamesNets'. -/
def namesNetsUptoCard : Claim7 := { stood := { row := namesNetsUptoRow, standIns := [], harness := (true, "3f78d9149f1bb54561202fa8b1fdf2fbe50cf39bc880aa747bb616a0064a1a2c"), looks := false }, kinds := [], alts := [], laidByText := true, laidKinds := [.data, .pinned], laidTests := true, laidLooks := .later }
def NamesNetsUptoCardSaid : Prop := Claim7.holds Tryd.pinned (.plain (OpenSpec.upto namesNetsSpec)) namesNetsUptoCard

/-- THE SECOND FORM's CARD OF 'virgatelaw12.NamesOf'. -/
def namesOfUptoCard : Claim7 := { stood := { row := namesOfUptoRow, standIns := [], harness := (true, "3f78d9149f1bb54561202fa8b1fdf2fbe50cf39bc880aa747bb616a0064a1a2c"), looks := false }, kinds := [], alts := [], laidByText := true, laidKinds := [.data, .pinned], laidTests := true, laidLooks := .later }
def NamesOfUptoCardSaid : Prop := Claim7.holds Tryd.pinned (.plain (OpenSpec.upto namesOfSpec)) namesOfUptoCard

/-- THE SECOND FORM's CARD OF 'virgatelaw12.NamesFit'. -/
def namesFitUptoCard : Claim7 := { stood := { row := namesFitUptoRow, standIns := [], harness := (true, "3f78d9149f1bb54561202fa8b1fdf2fbe50cf39bc880aa747bb616a0064a1a2c"), looks := false }, kinds := [], alts := [], laidByText := true, laidKinds := [.data, .pinned], laidTests := true, laidLooks := .later }
def NamesFitUptoCardSaid : Prop := Claim7.holds Tryd.pinned (.plain (OpenSpec.upto namesFitSpec)) namesFitUptoCard

/-- THE SECOND FORM's CARD OF 'virgatelaw12.NamesNamed'. -/
def namesNamedUptoCard : Claim7 := { stood := { row := namesNamedUptoRow, standIns := [], harness := (true, "3f78d9149f1bb54561202fa8b1fdf2fbe50cf39bc880aa747bb616a0064a1a2c"), looks := false }, kinds := [], alts := [], laidByText := true, laidKinds := [.data, .pinned], laidTests := true, laidLooks := .later }
def NamesNamedUptoCardSaid : Prop := Claim7.holds Tryd.pinned (.plain (OpenSpec.upto namesNamedSpec)) namesNamedUptoCard
end Rows
end Go.Proofs.YtcdopgkkieenjaaDoor
