/- Lemmas on the way to the claim. -/
import Derived.Test.YtbeaaimcpkogcaaGreatDoorRows
import Derived.WalkKit
import Derived.ProofKit
import Derived.SevenTiedAt
set_option linter.unusedSimpArgs false
set_option linter.unusedVariables false
namespace Go.Proofs.YtbeaaimcpkogcaaGreatDoor
open Go.Proofs.Tryz Go.RowKit
section
open Go.ChangeShapes Go.WideShapes Go.ChangeAt
theorem wj:joinedFacts prog 4 Tryz.f4 Rows.topWordsSpec Rows.topWordsRow=true:=by kernel_rfl
end
end Go.Proofs.YtbeaaimcpkogcaaGreatDoor
