/- Lemmas on the way to the claim. -/
import Derived.Test.YtbeaaimcpkogcaaGreatDoorRows
import Derived.WalkKit
import Derived.ProofKit
import Derived.SevenTiedAt
set_option linter.unusedSimpArgs false
set_option linter.unusedVariables false
namespace Go.Proofs.YtbeaaimcpkogcaaGreatDoor
open Go.Proofs.Tryz Go.RowKit
section
open Go.ChangeShapes Go.WideShapes Go.ChangeAt
theorem sN:joinedFacts prog 3 Tryz.f3 Rows.topPrintedSpec Rows.topPrintedRow=true:=by kernel_rfl
end
end Go.Proofs.YtbeaaimcpkogcaaGreatDoor
