/-
  NARROWER THAN 'FOR EVERY INPUT', by the rows' own cells (each row's printed sentence says how): IsaLays: laid · IsaReads: laid · IsaBack: laid · IsaApart: laid · IsaFields: laid · IsaNames: laid · IsaKnown: laid.
  DERIVED. THE GIVEN ROWS OF THIS SEAT. 7 by the template 'for every input the law returns true; each argument reads behind the call as it read before'; 0 by the template 'total and deterministic' (their statements: YtoaneiidomdljaaDoorTotals.lean).
  GIVEN WITH THE SEED: the statements are not yours to turn. If you find one false, say at which input.
  Laid BY PROGRAM, IN A SANDBOX (cutbox-rows.mjs): the forced cells as the released guide's own fill.sh prints them over the translation da3b40ec6ff9ade3… (all of the seat's roots in one cut). By AI agents, Wed Nov 11 2026. No macro, syntax, notation, axiom, sorry.
-/
import Derived.Test.YtoaneiidomdljaaDoorChecked
import GoSem.Claim
import GoSem.ClaimJoined
import GoSem.ClaimMapViews
import Derived.JoinedTies
import Derived.KernelRfl
namespace Go.Proofs.YtoaneiidomdljaaDoor
/- THE CELL 'sum', in the pinned program and in every row, IS THE sha256 OF THE DUMP (.gsa) THAT YtoaneiidomdljaaDoorProg.lean LOADS. Nothing in Lean hashes anything: it is a label: what it is worth is what the hold of that sum in a sandbox is worth. -/
noncomputable def Tryd.pinned : Pinned := { name := "ytoaneiidomdljaadoor", sum := "da3b40ec6ff9ade3d6a51639baf2c73980b50810b9b8f91cc0ecac080ed20c92", checked := Tryd.checked }
namespace Rows
def none {H : Type} : Left H := { results := [], args := [] }

/- WHAT THE LISTED PACKAGE-LEVEL VARIABLES READ AS WHEN THE CALL BEGINS. Each datum BY PROGRAM (the guide's laid-datum.mjs) off the statement by which the dump's own 'gosem.cut.vars' lays the variable. In a bare row this is a premise. The card (YtoaneiidomdljaaDoorCards.lean) ties it to the program's text. -/
def laid_fallow_isa_rows {H : Type} : DataW H := .agg [.agg [.lit (.string []), .lit (.string [])], .agg [.lit (.string [108, 105]), .lit (.string [97, 105])], .agg [.lit (.string [108, 117, 105]), .lit (.string [97, 106])], .agg [.lit (.string [97, 100, 100]), .lit (.string [97, 98, 99])], .agg [.lit (.string [115, 117, 98]), .lit (.string [97, 98, 99])], .agg [.lit (.string [109, 117, 108]), .lit (.string [97, 98, 99])], .agg [.lit (.string [100, 105, 118]), .lit (.string [97, 98, 99])], .agg [.lit (.string [114, 101, 109]), .lit (.string [97, 98, 99])], .agg [.lit (.string [97, 110, 100]), .lit (.string [97, 98, 99])], .agg [.lit (.string [111, 114]), .lit (.string [97, 98, 99])], .agg [.lit (.string [120, 111, 114]), .lit (.string [97, 98, 99])], .agg [.lit (.string [115, 104, 108]), .lit (.string [97, 98, 99])], .agg [.lit (.string [115, 104, 114]), .lit (.string [97, 98, 99])], .agg [.lit (.string [108, 116]), .lit (.string [97, 98, 99])], .agg [.lit (.string [108, 116, 117]), .lit (.string [97, 98, 99])], .agg [.lit (.string [101, 113]), .lit (.string [97, 98, 99])], .agg [.lit (.string [97, 100, 100, 105]), .lit (.string [97, 98, 105])], .agg [.lit (.string [108, 98]), .lit (.string [97, 98, 105])], .agg [.lit (.string [108, 104]), .lit (.string [97, 98, 105])], .agg [.lit (.string [108, 119]), .lit (.string [97, 98, 105])], .agg [.lit (.string [115, 98]), .lit (.string [97, 98, 105])], .agg [.lit (.string [115, 104]), .lit (.string [97, 98, 105])], .agg [.lit (.string [115, 119]), .lit (.string [97, 98, 105])], .agg [.lit (.string [108, 99]), .lit (.string [97, 98, 105])], .agg [.lit (.string [115, 99]), .lit (.string [97, 98, 105])], .agg [.lit (.string [98, 101, 113]), .lit (.string [97, 98, 105])], .agg [.lit (.string [98, 110, 101]), .lit (.string [97, 98, 105])], .agg [.lit (.string [98, 108, 116]), .lit (.string [97, 98, 105])], .agg [.lit (.string [98, 103, 101]), .lit (.string [97, 98, 105])], .agg [.lit (.string [106, 97, 108]), .lit (.string [97, 106])], .agg [.lit (.string [106, 97, 108, 114]), .lit (.string [97, 98])], .agg [.lit (.string [109, 111, 118, 101]), .lit (.string [97, 98])], .agg [.lit (.string [105, 110, 99]), .lit (.string [97, 98, 99])], .agg [.lit (.string [105, 110, 99, 105]), .lit (.string [97, 98, 105])], .agg [.lit (.string [97, 100, 100, 114]), .lit (.string [97, 98, 99])], .agg [.lit (.string [115, 101, 116]), .lit (.string [97, 98, 99])], .agg [.lit (.string [101, 120, 97, 99, 116]), .lit (.string [97, 98, 99])], .agg [.lit (.string [97, 110, 100, 115]), .lit (.string [97, 98, 99])], .agg [.lit (.string [115, 101, 97, 108]), .lit (.string [97, 98, 99])], .agg [.lit (.string [111, 112, 101, 110]), .lit (.string [97, 98, 99])], .agg [.lit (.string [98, 117, 105, 108, 100]), .lit (.string [97, 98, 99])], .agg [.lit (.string [99, 108, 101, 97, 114]), .lit (.string [97, 98])], .agg [.lit (.string [103, 97, 100, 100, 114]), .lit (.string [97, 98])], .agg [.lit (.string [103, 98, 97, 115, 101]), .lit (.string [97, 98])], .agg [.lit (.string [103, 108, 101, 110]), .lit (.string [97, 98])], .agg [.lit (.string [103, 112, 101, 114, 109]), .lit (.string [97, 98])], .agg [.lit (.string [103, 116, 121, 112, 101]), .lit (.string [97, 98])], .agg [.lit (.string [103, 116, 97, 103]), .lit (.string [97, 98])], .agg [.lit (.string [105, 115, 105, 110, 116]), .lit (.string [97, 98])], .agg [.lit (.string [112, 99]), .lit (.string [97, 106])], .agg [.lit (.string [99, 97, 108, 108]), .lit (.string [97, 98])], .agg [.lit (.string [114, 101, 116]), .lit (.string [])], .agg [.lit (.string [101, 99, 97, 108, 108]), .lit (.string [105])], .agg [.lit (.string [116, 114, 97, 112]), .lit (.string [])]]

/-- 'fallowlaw07.IsaLays': WHATEVER THE INPUT: true; the input reads as it did. -/
def isaLaysSpec : ChangeSpec := { name := "isaLays", fn := fun _ => fun
  | [d] => { results := [.lit (.bool true)], args := [d] }
  | _ => none }
def isaLaysRow : OpenClaim := { program := "ytoaneiidomdljaadoor", sum := "da3b40ec6ff9ade3d6a51639baf2c73980b50810b9b8f91cc0ecac080ed20c92", func := "fallow/fallowlaw07.IsaLays", spec := "isaLays", unfollowed := true, recurses := true, named := ["fallow/isa.rows"], apart := false, laid := [("fallow/isa.rows", laid_fallow_isa_rows)] }
def IsaLaysSaid : Prop := isaLaysRow.holds Tryd.pinned (OpenSpec.ofChange isaLaysSpec)

/-- ITS FALSE NEIGHBOUR: 'it returns false'. Refute it at one input. -/
def isaLaysWrong : ChangeSpec := { name := "isaLays", fn := fun _ => fun
  | [d] => { results := [.lit (.bool false)], args := [d] }
  | _ => none }
def IsaLaysWrongFalsely : Prop := isaLaysRow.holds Tryd.pinned (OpenSpec.ofChange isaLaysWrong)

/-- 'fallowlaw07.IsaReads': WHATEVER THE INPUT: true; the input reads as it did. -/
def isaReadsSpec : ChangeSpec := { name := "isaReads", fn := fun _ => fun
  | [d] => { results := [.lit (.bool true)], args := [d] }
  | _ => none }
def isaReadsRow : OpenClaim := { program := "ytoaneiidomdljaadoor", sum := "da3b40ec6ff9ade3d6a51639baf2c73980b50810b9b8f91cc0ecac080ed20c92", func := "fallow/fallowlaw07.IsaReads", spec := "isaReads", unfollowed := true, recurses := true, named := ["fallow/isa.rows"], apart := false, laid := [("fallow/isa.rows", laid_fallow_isa_rows)] }
def IsaReadsSaid : Prop := isaReadsRow.holds Tryd.pinned (OpenSpec.ofChange isaReadsSpec)

/-- ITS FALSE NEIGHBOUR: 'it returns false'. Refute it at one input. -/
def isaReadsWrong : ChangeSpec := { name := "isaReads", fn := fun _ => fun
  | [d] => { results := [.lit (.bool false)], args := [d] }
  | _ => none }
def IsaReadsWrongFalsely : Prop := isaReadsRow.holds Tryd.pinned (OpenSpec.ofChange isaReadsWrong)

/-- 'fallowlaw07.IsaBack': WHATEVER THE INPUT: true; the input reads as it did. -/
def isaBackSpec : ChangeSpec := { name := "isaBack", fn := fun _ => fun
  | [d1, d2] => { results := [.lit (.bool true)], args := [d1, d2] }
  | _ => none }
def isaBackRow : OpenClaim := { program := "ytoaneiidomdljaadoor", sum := "da3b40ec6ff9ade3d6a51639baf2c73980b50810b9b8f91cc0ecac080ed20c92", func := "fallow/fallowlaw07.IsaBack", spec := "isaBack", unfollowed := true, recurses := true, named := ["fallow/isa.rows"], apart := false, laid := [("fallow/isa.rows", laid_fallow_isa_rows)] }
def IsaBackSaid : Prop := isaBackRow.holds Tryd.pinned (OpenSpec.ofChange isaBackSpec)

/-- ITS FALSE NEIGHBOUR: 'it returns false'. Refute it at one input. -/
def isaBackWrong : ChangeSpec := { name := "isaBack", fn := fun _ => fun
  | [d1, d2] => { results := [.lit (.bool false)], args := [d1, d2] }
  | _ => none }
def IsaBackWrongFalsely : Prop := isaBackRow.holds Tryd.pinned (OpenSpec.ofChange isaBackWrong)

/-- 'fallowlaw07.IsaApart': WHATEVER THE INPUT: true; the input reads as it did. -/
def isaApartSpec : ChangeSpec := { name := "isaApart", fn := fun _ => fun
  | [d1, d2] => { results := [.lit (.bool true)], args := [d1, d2] }
  | _ => none }
def isaApartRow : OpenClaim := { program := "ytoaneiidomdljaadoor", sum := "da3b40ec6ff9ade3d6a51639baf2c73980b50810b9b8f91cc0ecac080ed20c92", func := "fallow/fallowlaw07.IsaApart", spec := "isaApart", unfollowed := true, recurses := true, named := ["fallow/isa.rows"], apart := false, laid := [("fallow/isa.rows", laid_fallow_isa_rows)] }
def IsaApartSaid : Prop := isaApartRow.holds Tryd.pinned (OpenSpec.ofChange isaApartSpec)

/-- ITS FALSE NEIGHBOUR: 'it returns false'. Refute it at one input. -/
def isaApartWrong : ChangeSpec := { name := "isaApart", fn := fun _ => fun
  | [d1, d2] => { results := [.lit (.bool false)], args := [d1, d2] }
  | _ => none }
def IsaApartWrongFalsely : Prop := isaApartRow.holds Tryd.pinned (OpenSpec.ofChange isaApartWrong)

/-- 'fallowlaw07.IsaFields': WHATEVER THE INPUT: true; the input reads as it did. -/
def isaFieldsSpec : ChangeSpec := { name := "isaFields", fn := fun _ => fun
  | [d] => { results := [.lit (.bool true)], args := [d] }
  | _ => none }
def isaFieldsRow : OpenClaim := { program := "ytoaneiidomdljaadoor", sum := "da3b40ec6ff9ade3d6a51639baf2c73980b50810b9b8f91cc0ecac080ed20c92", func := "fallow/fallowlaw07.IsaFields", spec := "isaFields", unfollowed := true, recurses := true, named := ["fallow/isa.rows"], apart := false, laid := [("fallow/isa.rows", laid_fallow_isa_rows)] }
def IsaFieldsSaid : Prop := isaFieldsRow.holds Tryd.pinned (OpenSpec.ofChange isaFieldsSpec)

/-- ITS FALSE NEIGHBOUR: 'it returns false'. Refute it at one input. -/
def isaFieldsWrong : ChangeSpec := { name := "isaFields", fn := fun _ => fun
  | [d] => { results := [.lit (.bool false)], args := [d] }
  | _ => none }
def IsaFieldsWrongFalsely : Prop := isaFieldsRow.holds Tryd.pinned (OpenSpec.ofChange isaFieldsWrong)

/-- 'fallowlaw07.IsaNames': WHATEVER THE INPUT: true; the input reads as it did. -/
def isaNamesSpec : ChangeSpec := { name := "isaNames", fn := fun _ => fun
  | [d1, d2] => { results := [.lit (.bool true)], args := [d1, d2] }
  | _ => none }
def isaNamesRow : OpenClaim := { program := "ytoaneiidomdljaadoor", sum := "da3b40ec6ff9ade3d6a51639baf2c73980b50810b9b8f91cc0ecac080ed20c92", func := "fallow/fallowlaw07.IsaNames", spec := "isaNames", unfollowed := true, recurses := true, named := ["fallow/isa.rows"], apart := false, laid := [("fallow/isa.rows", laid_fallow_isa_rows)] }
def IsaNamesSaid : Prop := isaNamesRow.holds Tryd.pinned (OpenSpec.ofChange isaNamesSpec)

/-- ITS FALSE NEIGHBOUR: 'it returns false'. Refute it at one input. -/
def isaNamesWrong : ChangeSpec := { name := "isaNames", fn := fun _ => fun
  | [d1, d2] => { results := [.lit (.bool false)], args := [d1, d2] }
  | _ => none }
def IsaNamesWrongFalsely : Prop := isaNamesRow.holds Tryd.pinned (OpenSpec.ofChange isaNamesWrong)

/-- 'fallowlaw07.IsaKnown': WHATEVER THE INPUT: true; the input reads as it did. -/
def isaKnownSpec : ChangeSpec := { name := "isaKnown", fn := fun _ => fun
  | [] => { results := [.lit (.bool true)], args := [] }
  | _ => none }
def isaKnownRow : OpenClaim := { program := "ytoaneiidomdljaadoor", sum := "da3b40ec6ff9ade3d6a51639baf2c73980b50810b9b8f91cc0ecac080ed20c92", func := "fallow/fallowlaw07.IsaKnown", spec := "isaKnown", unfollowed := true, recurses := true, named := ["fallow/isa.rows"], apart := false, laid := [("fallow/isa.rows", laid_fallow_isa_rows)] }
def IsaKnownSaid : Prop := isaKnownRow.holds Tryd.pinned (OpenSpec.ofChange isaKnownSpec)

/-- ITS FALSE NEIGHBOUR: 'it returns false'. Refute it at one input. -/
def isaKnownWrong : ChangeSpec := { name := "isaKnown", fn := fun _ => fun
  | [] => { results := [.lit (.bool false)], args := [] }
  | _ => none }
def IsaKnownWrongFalsely : Prop := isaKnownRow.holds Tryd.pinned (OpenSpec.ofChange isaKnownWrong)

/- THE SECOND FORM. 'bulk': how many values and letters a reading holds, each counted each time it is reached (what is shared counts as often as it is met; a slice's spare places count too). A statement '..UptoSaid' is the law's where the arguments, and the package variables that the reading takes, are together of bulk at most 1048576: NARROWER than '..Said'. Prove '..Said' where nothing that the law and all that it calls make is longer than what came in: it says more and counts as full. Else prove '..UptoSaid'. A law counts once. -/
mutual
def uptoBulk {H : Type} : DataW H → Nat
  | .lit (.string bytes) => bytes.length + 1
  | .lit _ => 1
  | .nil => 1
  | .ptr d => uptoBulk d + 1
  | .slice elems spare => uptoBulkAll elems + uptoBulkAll spare + 1
  | .agg parts => uptoBulkAll parts + 1
  | .iface _ d => uptoBulk d + 1
  | .map entries => uptoBulkEntries entries + 1
  | .held _ => 1
def uptoBulkAll {H : Type} : List (DataW H) → Nat
  | [] => 0
  | d :: r => uptoBulk d + uptoBulkAll r
def uptoBulkEntries {H : Type} : List (Lit × DataW H) → Nat
  | [] => 0
  | x :: r => uptoBulkEntry x + uptoBulkEntries r
def uptoBulkEntry {H : Type} : Lit × DataW H → Nat
  | (.string bytes, d) => bytes.length + uptoBulk d + 1
  | (_, d) => uptoBulk d + 1
 end
def uptoSmall : (H : Type) → List (DataW H) → Bool := fun _ ds => decide (uptoBulkAll ds ≤ 1048576)
def OpenSpec.upto (s : _root_.Go.ChangeSpec) : _root_.Go.OpenSpec := { _root_.Go.OpenSpec.ofChange s with cond := some uptoSmall }

/-- 'fallowlaw07.IsaLays', WHERE WHAT IT READS IS OF BULK AT MOST 1048576: true; the input reads as it did. -/
def isaLaysUptoRow : OpenClaim := { program := "ytoaneiidomdljaadoor", sum := "da3b40ec6ff9ade3d6a51639baf2c73980b50810b9b8f91cc0ecac080ed20c92", func := "fallow/fallowlaw07.IsaLays", spec := "isaLays", unfollowed := true, recurses := true, named := ["fallow/isa.rows"], apart := false, laid := [("fallow/isa.rows", laid_fallow_isa_rows)], narrowed := true }
def IsaLaysUptoSaid : Prop := isaLaysUptoRow.holds Tryd.pinned (OpenSpec.upto isaLaysSpec)

/-- 'fallowlaw07.IsaReads', WHERE WHAT IT READS IS OF BULK AT MOST 1048576: true; the input reads as it did. -/
def isaReadsUptoRow : OpenClaim := { program := "ytoaneiidomdljaadoor", sum := "da3b40ec6ff9ade3d6a51639baf2c73980b50810b9b8f91cc0ecac080ed20c92", func := "fallow/fallowlaw07.IsaReads", spec := "isaReads", unfollowed := true, recurses := true, named := ["fallow/isa.rows"], apart := false, laid := [("fallow/isa.rows", laid_fallow_isa_rows)], narrowed := true }
def IsaReadsUptoSaid : Prop := isaReadsUptoRow.holds Tryd.pinned (OpenSpec.upto isaReadsSpec)

/-- 'fallowlaw07.IsaBack', WHERE WHAT IT READS IS OF BULK AT MOST 1048576: true; the input reads as it did. -/
def isaBackUptoRow : OpenClaim := { program := "ytoaneiidomdljaadoor", sum := "da3b40ec6ff9ade3d6a51639baf2c73980b50810b9b8f91cc0ecac080ed20c92", func := "fallow/fallowlaw07.IsaBack", spec := "isaBack", unfollowed := true, recurses := true, named := ["fallow/isa.rows"], apart := false, laid := [("fallow/isa.rows", laid_fallow_isa_rows)], narrowed := true }
def IsaBackUptoSaid : Prop := isaBackUptoRow.holds Tryd.pinned (OpenSpec.upto isaBackSpec)

/-- 'fallowlaw07.IsaApart', WHERE WHAT IT READS IS OF BULK AT MOST 1048576: true; the input reads as it did. -/
def isaApartUptoRow : OpenClaim := { program := "ytoaneiidomdljaadoor", sum := "da3b40ec6ff9ade3d6a51639baf2c73980b50810b9b8f91cc0ecac080ed20c92", func := "fallow/fallowlaw07.IsaApart", spec := "isaApart", unfollowed := true, recurses := true, named := ["fallow/isa.rows"], apart := false, laid := [("fallow/isa.rows", laid_fallow_isa_rows)], narrowed := true }
def IsaApartUptoSaid : Prop := isaApartUptoRow.holds Tryd.pinned (OpenSpec.upto isaApartSpec)

/-- 'fallowlaw07.IsaFields', WHERE WHAT IT READS IS OF BULK AT MOST 1048576: true; the input reads as it did. -/
def isaFieldsUptoRow : OpenClaim := { program := "ytoaneiidomdljaadoor", sum := "da3b40ec6ff9ade3d6a51639baf2c73980b50810b9b8f91cc0ecac080ed20c92", func := "fallow/fallowlaw07.IsaFields", spec := "isaFields", unfollowed := true, recurses := true, named := ["fallow/isa.rows"], apart := false, laid := [("fallow/isa.rows", laid_fallow_isa_rows)], narrowed := true }
def IsaFieldsUptoSaid : Prop := isaFieldsUptoRow.holds Tryd.pinned (OpenSpec.upto isaFieldsSpec)

/-- 'fallowlaw07.IsaNames', WHERE WHAT IT READS IS OF BULK AT MOST 1048576: true; the input reads as it did. -/
def isaNamesUptoRow : OpenClaim := { program := "ytoaneiidomdljaadoor", sum := "da3b40ec6ff9ade3d6a51639baf2c73980b50810b9b8f91cc0ecac080ed20c92", func := "fallow/fallowlaw07.IsaNames", spec := "isaNames", unfollowed := true, recurses := true, named := ["fallow/isa.rows"], apart := false, laid := [("fallow/isa.rows", laid_fallow_isa_rows)], narrowed := true }
def IsaNamesUptoSaid : Prop := isaNamesUptoRow.holds Tryd.pinned (OpenSpec.upto isaNamesSpec)

/-- 'fallowlaw07.IsaKnown', WHERE WHAT IT READS IS OF BULK AT MOST 1048576: true; the input reads as it did. -/
def isaKnownUptoRow : OpenClaim := { program := "ytoaneiidomdljaadoor", sum := "da3b40ec6ff9ade3d6a51639baf2c73980b50810b9b8f91cc0ecac080ed20c92", func := "fallow/fallowlaw07.IsaKnown", spec := "isaKnown", unfollowed := true, recurses := true, named := ["fallow/isa.rows"], apart := false, laid := [("fallow/isa.rows", laid_fallow_isa_rows)], narrowed := true }
def IsaKnownUptoSaid : Prop := isaKnownUptoRow.holds Tryd.pinned (OpenSpec.upto isaKnownSpec)

end Rows
end Go.Proofs.YtoaneiidomdljaaDoor
