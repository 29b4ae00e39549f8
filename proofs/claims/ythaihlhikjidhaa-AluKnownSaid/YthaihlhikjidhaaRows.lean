/-
  No cell of these rows narrows 'for every input' (looked for: loops, veiled, ifaces, maps, wideKeys, modest, calm, conditions, laid).
  DERIVED. THE GIVEN ROWS OF THIS SEAT. 7 by the template 'for every input the law returns true; each argument reads behind the call as it read before'; 0 by the template 'total and deterministic' (their statements: YthaihlhikjidhaaTotals.lean).
  GIVEN WITH THE SEED: the statements are not yours to turn. If you find one false, say at which input.
  Laid BY PROGRAM, IN A SANDBOX (cutbox-rows.mjs): the forced cells as the released guide's own fill.sh prints them over the translation 6d3cda491f4aa70a… (all of the seat's roots in one cut). By AI agents, Wed Nov 11 2026. No macro, syntax, notation, axiom, sorry.
-/
import Derived.Test.YthaihlhikjidhaaChecked
import GoSem.Claim
import GoSem.ClaimJoined
import GoSem.ClaimMapViews
import Derived.JoinedTies
import Derived.KernelRfl
namespace Go.Proofs.Ythaihlhikjidhaa
/- THE CELL 'sum', in the pinned program and in every row, IS THE sha256 OF THE DUMP (.gsa) THAT YthaihlhikjidhaaProg.lean LOADS. Nothing in Lean hashes anything: it is a label: what it is worth is what the hold of that sum in a sandbox is worth. -/
noncomputable def Try.pinned : Pinned := { name := "ythaihlhikjidhaa", sum := "6d3cda491f4aa70a458403615d4387a7cb5bef8002b3b6879bb652754aa530cc", checked := Try.checked }
namespace Rows
def none {H : Type} : Left H := { results := [], args := [] }

/-- 'fallowlaw09.AluReckons': WHATEVER THE INPUT: true; the input reads as it did. -/
def aluReckonsSpec : ChangeSpec := { name := "aluReckons", fn := fun _ => fun
  | [d1, d2, d3] => { results := [.lit (.bool true)], args := [d1, d2, d3] }
  | _ => none }
def aluReckonsRow : OpenClaim := { program := "ythaihlhikjidhaa", sum := "6d3cda491f4aa70a458403615d4387a7cb5bef8002b3b6879bb652754aa530cc", func := "fallow/fallowlaw09.AluReckons", spec := "aluReckons", unfollowed := true, recurses := true, apart := false }
def AluReckonsSaid : Prop := aluReckonsRow.holds Try.pinned (OpenSpec.ofChange aluReckonsSpec)

/-- ITS FALSE NEIGHBOUR: 'it returns false'. Refute it at one input. -/
def aluReckonsWrong : ChangeSpec := { name := "aluReckons", fn := fun _ => fun
  | [d1, d2, d3] => { results := [.lit (.bool false)], args := [d1, d2, d3] }
  | _ => none }
def AluReckonsWrongFalsely : Prop := aluReckonsRow.holds Try.pinned (OpenSpec.ofChange aluReckonsWrong)

/-- 'fallowlaw09.AluRing': WHATEVER THE INPUT: true; the input reads as it did. -/
def aluRingSpec : ChangeSpec := { name := "aluRing", fn := fun _ => fun
  | [d1, d2, d3] => { results := [.lit (.bool true)], args := [d1, d2, d3] }
  | _ => none }
def aluRingRow : OpenClaim := { program := "ythaihlhikjidhaa", sum := "6d3cda491f4aa70a458403615d4387a7cb5bef8002b3b6879bb652754aa530cc", func := "fallow/fallowlaw09.AluRing", spec := "aluRing", unfollowed := true, recurses := true, apart := false }
def AluRingSaid : Prop := aluRingRow.holds Try.pinned (OpenSpec.ofChange aluRingSpec)

/-- ITS FALSE NEIGHBOUR: 'it returns false'. Refute it at one input. -/
def aluRingWrong : ChangeSpec := { name := "aluRing", fn := fun _ => fun
  | [d1, d2, d3] => { results := [.lit (.bool false)], args := [d1, d2, d3] }
  | _ => none }
def AluRingWrongFalsely : Prop := aluRingRow.holds Try.pinned (OpenSpec.ofChange aluRingWrong)

/-- 'fallowlaw09.AluDivides': WHATEVER THE INPUT: true; the input reads as it did. -/
def aluDividesSpec : ChangeSpec := { name := "aluDivides", fn := fun _ => fun
  | [d1, d2] => { results := [.lit (.bool true)], args := [d1, d2] }
  | _ => none }
def aluDividesRow : OpenClaim := { program := "ythaihlhikjidhaa", sum := "6d3cda491f4aa70a458403615d4387a7cb5bef8002b3b6879bb652754aa530cc", func := "fallow/fallowlaw09.AluDivides", spec := "aluDivides", unfollowed := true, recurses := true, apart := false }
def AluDividesSaid : Prop := aluDividesRow.holds Try.pinned (OpenSpec.ofChange aluDividesSpec)

/-- ITS FALSE NEIGHBOUR: 'it returns false'. Refute it at one input. -/
def aluDividesWrong : ChangeSpec := { name := "aluDivides", fn := fun _ => fun
  | [d1, d2] => { results := [.lit (.bool false)], args := [d1, d2] }
  | _ => none }
def AluDividesWrongFalsely : Prop := aluDividesRow.holds Try.pinned (OpenSpec.ofChange aluDividesWrong)

/-- 'fallowlaw09.AluBits': WHATEVER THE INPUT: true; the input reads as it did. -/
def aluBitsSpec : ChangeSpec := { name := "aluBits", fn := fun _ => fun
  | [d1, d2, d3] => { results := [.lit (.bool true)], args := [d1, d2, d3] }
  | _ => none }
def aluBitsRow : OpenClaim := { program := "ythaihlhikjidhaa", sum := "6d3cda491f4aa70a458403615d4387a7cb5bef8002b3b6879bb652754aa530cc", func := "fallow/fallowlaw09.AluBits", spec := "aluBits", unfollowed := true, recurses := true, apart := false }
def AluBitsSaid : Prop := aluBitsRow.holds Try.pinned (OpenSpec.ofChange aluBitsSpec)

/-- ITS FALSE NEIGHBOUR: 'it returns false'. Refute it at one input. -/
def aluBitsWrong : ChangeSpec := { name := "aluBits", fn := fun _ => fun
  | [d1, d2, d3] => { results := [.lit (.bool false)], args := [d1, d2, d3] }
  | _ => none }
def AluBitsWrongFalsely : Prop := aluBitsRow.holds Try.pinned (OpenSpec.ofChange aluBitsWrong)

/-- 'fallowlaw09.AluTakes': WHATEVER THE INPUT: true; the input reads as it did. -/
def aluTakesSpec : ChangeSpec := { name := "aluTakes", fn := fun _ => fun
  | [d1, d2, d3] => { results := [.lit (.bool true)], args := [d1, d2, d3] }
  | _ => none }
def aluTakesRow : OpenClaim := { program := "ythaihlhikjidhaa", sum := "6d3cda491f4aa70a458403615d4387a7cb5bef8002b3b6879bb652754aa530cc", func := "fallow/fallowlaw09.AluTakes", spec := "aluTakes", unfollowed := true, recurses := true, apart := false }
def AluTakesSaid : Prop := aluTakesRow.holds Try.pinned (OpenSpec.ofChange aluTakesSpec)

/-- ITS FALSE NEIGHBOUR: 'it returns false'. Refute it at one input. -/
def aluTakesWrong : ChangeSpec := { name := "aluTakes", fn := fun _ => fun
  | [d1, d2, d3] => { results := [.lit (.bool false)], args := [d1, d2, d3] }
  | _ => none }
def AluTakesWrongFalsely : Prop := aluTakesRow.holds Try.pinned (OpenSpec.ofChange aluTakesWrong)

/-- 'fallowlaw09.AluOrder': WHATEVER THE INPUT: true; the input reads as it did. -/
def aluOrderSpec : ChangeSpec := { name := "aluOrder", fn := fun _ => fun
  | [d1, d2, d3] => { results := [.lit (.bool true)], args := [d1, d2, d3] }
  | _ => none }
def aluOrderRow : OpenClaim := { program := "ythaihlhikjidhaa", sum := "6d3cda491f4aa70a458403615d4387a7cb5bef8002b3b6879bb652754aa530cc", func := "fallow/fallowlaw09.AluOrder", spec := "aluOrder", unfollowed := true, recurses := true, apart := false }
def AluOrderSaid : Prop := aluOrderRow.holds Try.pinned (OpenSpec.ofChange aluOrderSpec)

/-- ITS FALSE NEIGHBOUR: 'it returns false'. Refute it at one input. -/
def aluOrderWrong : ChangeSpec := { name := "aluOrder", fn := fun _ => fun
  | [d1, d2, d3] => { results := [.lit (.bool false)], args := [d1, d2, d3] }
  | _ => none }
def AluOrderWrongFalsely : Prop := aluOrderRow.holds Try.pinned (OpenSpec.ofChange aluOrderWrong)

/-- 'fallowlaw09.AluKnown': WHATEVER THE INPUT: true; the input reads as it did. -/
def aluKnownSpec : ChangeSpec := { name := "aluKnown", fn := fun _ => fun
  | [] => { results := [.lit (.bool true)], args := [] }
  | _ => none }
def aluKnownRow : OpenClaim := { program := "ythaihlhikjidhaa", sum := "6d3cda491f4aa70a458403615d4387a7cb5bef8002b3b6879bb652754aa530cc", func := "fallow/fallowlaw09.AluKnown", spec := "aluKnown", unfollowed := true, recurses := true, apart := false }
def AluKnownSaid : Prop := aluKnownRow.holds Try.pinned (OpenSpec.ofChange aluKnownSpec)

/-- ITS FALSE NEIGHBOUR: 'it returns false'. Refute it at one input. -/
def aluKnownWrong : ChangeSpec := { name := "aluKnown", fn := fun _ => fun
  | [] => { results := [.lit (.bool false)], args := [] }
  | _ => none }
def AluKnownWrongFalsely : Prop := aluKnownRow.holds Try.pinned (OpenSpec.ofChange aluKnownWrong)

/- THE SECOND FORM. 'bulk': how many values and letters a reading holds, each counted each time it is reached (what is shared counts as often as it is met; a slice's spare places count too). A statement '..UptoSaid' is the law's where the arguments, and the package variables that the reading takes, are together of bulk at most 1048576: NARROWER than '..Said'. Prove '..Said' where nothing that the law and all that it calls make is longer than what came in: it says more and counts as full. Else prove '..UptoSaid'. A law counts once. -/
mutual
def uptoBulk {H : Type} : DataW H → Nat
  | .lit (.string bytes) => bytes.length + 1
  | .lit _ => 1
  | .nil => 1
  | .ptr d => uptoBulk d + 1
  | .slice elems spare => uptoBulkAll elems + uptoBulkAll spare + 1
  | .agg parts => uptoBulkAll parts + 1
  | .iface _ d => uptoBulk d + 1
  | .map entries => uptoBulkEntries entries + 1
  | .held _ => 1
def uptoBulkAll {H : Type} : List (DataW H) → Nat
  | [] => 0
  | d :: r => uptoBulk d + uptoBulkAll r
def uptoBulkEntries {H : Type} : List (Lit × DataW H) → Nat
  | [] => 0
  | x :: r => uptoBulkEntry x + uptoBulkEntries r
def uptoBulkEntry {H : Type} : Lit × DataW H → Nat
  | (.string bytes, d) => bytes.length + uptoBulk d + 1
  | (_, d) => uptoBulk d + 1
 end
def uptoSmall : (H : Type) → List (DataW H) → Bool := fun _ ds => decide (uptoBulkAll ds ≤ 1048576)
def OpenSpec.upto (s : _root_.Go.ChangeSpec) : _root_.Go.OpenSpec := { _root_.Go.OpenSpec.ofChange s with cond := some uptoSmall }

/-- 'fallowlaw09.AluReckons', WHERE WHAT IT READS IS OF BULK AT MOST 1048576: true; the input reads as it did. -/
def aluReckonsUptoRow : OpenClaim := { program := "ythaihlhikjidhaa", sum := "6d3cda491f4aa70a458403615d4387a7cb5bef8002b3b6879bb652754aa530cc", func := "fallow/fallowlaw09.AluReckons", spec := "aluReckons", unfollowed := true, recurses := true, apart := false, narrowed := true }
def AluReckonsUptoSaid : Prop := aluReckonsUptoRow.holds Try.pinned (OpenSpec.upto aluReckonsSpec)

/-- 'fallowlaw09.AluRing', WHERE WHAT IT READS IS OF BULK AT MOST 1048576: true; the input reads as it did. -/
def aluRingUptoRow : OpenClaim := { program := "ythaihlhikjidhaa", sum := "6d3cda491f4aa70a458403615d4387a7cb5bef8002b3b6879bb652754aa530cc", func := "fallow/fallowlaw09.AluRing", spec := "aluRing", unfollowed := true, recurses := true, apart := false, narrowed := true }
def AluRingUptoSaid : Prop := aluRingUptoRow.holds Try.pinned (OpenSpec.upto aluRingSpec)

/-- 'fallowlaw09.AluDivides', WHERE WHAT IT READS IS OF BULK AT MOST 1048576: true; the input reads as it did. -/
def aluDividesUptoRow : OpenClaim := { program := "ythaihlhikjidhaa", sum := "6d3cda491f4aa70a458403615d4387a7cb5bef8002b3b6879bb652754aa530cc", func := "fallow/fallowlaw09.AluDivides", spec := "aluDivides", unfollowed := true, recurses := true, apart := false, narrowed := true }
def AluDividesUptoSaid : Prop := aluDividesUptoRow.holds Try.pinned (OpenSpec.upto aluDividesSpec)

/-- 'fallowlaw09.AluBits', WHERE WHAT IT READS IS OF BULK AT MOST 1048576: true; the input reads as it did. -/
def aluBitsUptoRow : OpenClaim := { program := "ythaihlhikjidhaa", sum := "6d3cda491f4aa70a458403615d4387a7cb5bef8002b3b6879bb652754aa530cc", func := "fallow/fallowlaw09.AluBits", spec := "aluBits", unfollowed := true, recurses := true, apart := false, narrowed := true }
def AluBitsUptoSaid : Prop := aluBitsUptoRow.holds Try.pinned (OpenSpec.upto aluBitsSpec)

/-- 'fallowlaw09.AluTakes', WHERE WHAT IT READS IS OF BULK AT MOST 1048576: true; the input reads as it did. -/
def aluTakesUptoRow : OpenClaim := { program := "ythaihlhikjidhaa", sum := "6d3cda491f4aa70a458403615d4387a7cb5bef8002b3b6879bb652754aa530cc", func := "fallow/fallowlaw09.AluTakes", spec := "aluTakes", unfollowed := true, recurses := true, apart := false, narrowed := true }
def AluTakesUptoSaid : Prop := aluTakesUptoRow.holds Try.pinned (OpenSpec.upto aluTakesSpec)

/-- 'fallowlaw09.AluOrder', WHERE WHAT IT READS IS OF BULK AT MOST 1048576: true; the input reads as it did. -/
def aluOrderUptoRow : OpenClaim := { program := "ythaihlhikjidhaa", sum := "6d3cda491f4aa70a458403615d4387a7cb5bef8002b3b6879bb652754aa530cc", func := "fallow/fallowlaw09.AluOrder", spec := "aluOrder", unfollowed := true, recurses := true, apart := false, narrowed := true }
def AluOrderUptoSaid : Prop := aluOrderUptoRow.holds Try.pinned (OpenSpec.upto aluOrderSpec)

/-- 'fallowlaw09.AluKnown', WHERE WHAT IT READS IS OF BULK AT MOST 1048576: true; the input reads as it did. -/
def aluKnownUptoRow : OpenClaim := { program := "ythaihlhikjidhaa", sum := "6d3cda491f4aa70a458403615d4387a7cb5bef8002b3b6879bb652754aa530cc", func := "fallow/fallowlaw09.AluKnown", spec := "aluKnown", unfollowed := true, recurses := true, apart := false, narrowed := true }
def AluKnownUptoSaid : Prop := aluKnownUptoRow.holds Try.pinned (OpenSpec.upto aluKnownSpec)

end Rows
end Go.Proofs.Ythaihlhikjidhaa
