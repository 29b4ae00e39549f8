/-
  DERIVED. GIVEN WITH THE SEED: THE CARDS: each row of YtoaneiidomdljaaDoorRows.lean that lists a variable, with what it lists TIED to the program's text (the seventh form; the later family's looks); each row that meets fmt, with fmt's text TOLD by the authors' own Lean function (tested against real Go, not proved from fmt's source: count such statements apart). THE CARD IS WHAT COUNTS. Prove the row's statement (the work); the ties are given (YtoaneiidomdljaaDoorTie.lean); close each card by the builder's one call (the guide's Derived/Test/ToyasCard.lean, 'card_holds'). Laid BY PROGRAM, IN A SANDBOX (cutbox-door.mjs). By AI agents, Wed Nov 11 2026. No macro, syntax, notation, axiom, sorry.
-/
import Derived.Test.YtoaneiidomdljaaDoorRows
import GoSem.ClaimSeven
namespace Go.Proofs.YtoaneiidomdljaaDoor
namespace Rows

/-- THE TIED CARD OF 'fallowlaw07.IsaLays'. -/
def isaLaysCard : Claim7 := { stood := { row := isaLaysRow, standIns := [], harness := (true, "62426936c780e610cae380f2b2528ec859b3d70509805e38d2c432d465b17018"), looks := false }, kinds := [], alts := [], laidByText := true, laidKinds := [.data], laidTests := true, laidLooks := .later }
def IsaLaysCardSaid : Prop := Claim7.holds Tryd.pinned (.plain (OpenSpec.ofChange isaLaysSpec)) isaLaysCard

/-- THE TIED CARD OF 'fallowlaw07.IsaReads'. -/
def isaReadsCard : Claim7 := { stood := { row := isaReadsRow, standIns := [], harness := (true, "62426936c780e610cae380f2b2528ec859b3d70509805e38d2c432d465b17018"), looks := false }, kinds := [], alts := [], laidByText := true, laidKinds := [.data], laidTests := true, laidLooks := .later }
def IsaReadsCardSaid : Prop := Claim7.holds Tryd.pinned (.plain (OpenSpec.ofChange isaReadsSpec)) isaReadsCard

/-- THE TIED CARD OF 'fallowlaw07.IsaBack'. -/
def isaBackCard : Claim7 := { stood := { row := isaBackRow, standIns := [], harness := (true, "62426936c780e610cae380f2b2528ec859b3d70509805e38d2c432d465b17018"), looks := false }, kinds := [], alts := [], laidByText := true, laidKinds := [.data], laidTests := true, laidLooks := .later }
def IsaBackCardSaid : Prop := Claim7.holds Tryd.pinned (.plain (OpenSpec.ofChange isaBackSpec)) isaBackCard

/-- THE TIED CARD OF 'fallowlaw07.IsaApart'. -/
def isaApartCard : Claim7 := { stood := { row := isaApartRow, standIns := [], harness := (true, "62426936c780e610cae380f2b2528ec859b3d70509805e38d2c432d465b17018"), looks := false }, kinds := [], alts := [], laidByText := true, laidKinds := [.data], laidTests := true, laidLooks := .later }
def IsaApartCardSaid : Prop := Claim7.holds Tryd.pinned (.plain (OpenSpec.ofChange isaApartSpec)) isaApartCard

/-- THE TIED CARD OF 'fallowlaw07.IsaFields'. -/
def isaFieldsCard : Claim7 := { stood := { row := isaFieldsRow, standIns := [], harness := (true, "62426936c780e610cae380f2b2528ec859b3d70509805e38d2c432d465b17018"), looks := false }, kinds := [], alts := [], laidByText := true, laidKinds := [.data], laidTests := true, laidLooks := .later }
def IsaFieldsCardSaid : Prop := Claim7.holds Tryd.pinned (.plain (OpenSpec.ofChange isaFieldsSpec)) isaFieldsCard

/-- THE TIED CARD OF 'fallowlaw07.IsaNames'. -/
def isaNamesCard : Claim7 := { stood := { row := isaNamesRow, standIns := [], harness := (true, "62426936c780e610cae380f2b2528ec859b3d70509805e38d2c432d465b17018"), looks := false }, kinds := [], alts := [], laidByText := true, laidKinds := [.data], laidTests := true, laidLooks := .later }
def IsaNamesCardSaid : Prop := Claim7.holds Tryd.pinned (.plain (OpenSpec.ofChange isaNamesSpec)) isaNamesCard

/-- THE TIED CARD OF 'fallowlaw07.IsaKnown'. -/
def isaKnownCard : Claim7 := { stood := { row := isaKnownRow, standIns := [], harness := (true, "62426936c780e610cae380f2b2528ec859b3d70509805e38d2c432d465b17018"), looks := false }, kinds := [], alts := [], laidByText := true, laidKinds := [.data], laidTests := true, laidLooks := .later }
def IsaKnownCardSaid : Prop := Claim7.holds Tryd.pinned (.plain (OpenSpec.ofChange isaKnownSpec)) isaKnownCard

/-- THE SECOND FORM's CARD OF 'fallowlaw07.IsaLays'. -/
def isaLaysUptoCard : Claim7 := { stood := { row := isaLaysUptoRow, standIns := [], harness := (true, "62426936c780e610cae380f2b2528ec859b3d70509805e38d2c432d465b17018"), looks := false }, kinds := [], alts := [], laidByText := true, laidKinds := [.data], laidTests := true, laidLooks := .later }
def IsaLaysUptoCardSaid : Prop := Claim7.holds Tryd.pinned (.plain (OpenSpec.upto isaLaysSpec)) isaLaysUptoCard

/-- THE SECOND FORM's CARD OF 'fallowlaw07.IsaReads'. -/
def isaReadsUptoCard : Claim7 := { stood := { row := isaReadsUptoRow, standIns := [], harness := (true, "62426936c780e610cae380f2b2528ec859b3d70509805e38d2c432d465b17018"), looks := false }, kinds := [], alts := [], laidByText := true, laidKinds := [.data], laidTests := true, laidLooks := .later }
def IsaReadsUptoCardSaid : Prop := Claim7.holds Tryd.pinned (.plain (OpenSpec.upto isaReadsSpec)) isaReadsUptoCard

/-- THE SECOND FORM's CARD OF 'fallowlaw07.IsaBack'. -/
def isaBackUptoCard : Claim7 := { stood := { row := isaBackUptoRow, standIns := [], harness := (true, "62426936c780e610cae380f2b2528ec859b3d70509805e38d2c432d465b17018"), looks := false }, kinds := [], alts := [], laidByText := true, laidKinds := [.data], laidTests := true, laidLooks := .later }
def IsaBackUptoCardSaid : Prop := Claim7.holds Tryd.pinned (.plain (OpenSpec.upto isaBackSpec)) isaBackUptoCard

/-- THE SECOND FORM's CARD OF 'fallowlaw07.IsaApart'. -/
def isaApartUptoCard : Claim7 := { stood := { row := isaApartUptoRow, standIns := [], harness := (true, "62426936c780e610cae380f2b2528ec859b3d70509805e38d2c432d465b17018"), looks := false }, kinds := [], alts := [], laidByText := true, laidKinds := [.data], laidTests := true, laidLooks := .later }
def IsaApartUptoCardSaid : Prop := Claim7.holds Tryd.pinned (.plain (OpenSpec.upto isaApartSpec)) isaApartUptoCard

/-- THE SECOND FORM's CARD OF 'fallowlaw07.IsaFields'. -/
def isaFieldsUptoCard : Claim7 := { stood := { row := isaFieldsUptoRow, standIns := [], harness := (true, "62426936c780e610cae380f2b2528ec859b3d70509805e38d2c432d465b17018"), looks := false }, kinds := [], alts := [], laidByText := true, laidKinds := [.data], laidTests := true, laidLooks := .later }
def IsaFieldsUptoCardSaid : Prop := Claim7.holds Tryd.pinned (.plain (OpenSpec.upto isaFieldsSpec)) isaFieldsUptoCard

/-- THE SECOND FORM's CARD OF 'fallowlaw07.IsaNames'. -/
def isaNamesUptoCard : Claim7 := { stood := { row := isaNamesUptoRow, standIns := [], harness := (true, "62426936c780e610cae380f2b2528ec859b3d70509805e38d2c432d465b17018"), looks := false }, kinds := [], alts := [], laidByText := true, laidKinds := [.data], laidTests := true, laidLooks := .later }
def IsaNamesUptoCardSaid : Prop := Claim7.holds Tryd.pinned (.plain (OpenSpec.upto isaNamesSpec)) isaNamesUptoCard

/-- THE SECOND FORM's CARD OF 'fallowlaw07.IsaKnown'. -/
def isaKnownUptoCard : Claim7 := { stood := { row := isaKnownUptoRow, standIns := [], harness := (true, "62426936c780e610cae380f2b2528ec859b3d70509805e38d2c432d465b17018"), looks := false }, kinds := [], alts := [], laidByText := true, laidKinds := [.data], laidTests := true, laidLooks := .later }
def IsaKnownUptoCardSaid : Prop := Claim7.holds Tryd.pinned (.plain (OpenSpec.upto isaKnownSpec)) isaKnownUptoCard
end Rows
end Go.Proofs.YtoaneiidomdljaaDoor
