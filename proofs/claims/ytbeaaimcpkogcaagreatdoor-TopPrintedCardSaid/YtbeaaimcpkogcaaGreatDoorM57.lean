/- Lemmas on the way to the claim. -/
import Derived.Test.YtbeaaimcpkogcaaGreatDoorM54
import Derived.Test.YtbeaaimcpkogcaaGreatDoorM56
set_option linter.unusedSimpArgs false
set_option linter.unusedVariables false
namespace Go.Proofs.YtbeaaimcpkogcaaGreatDoor
open Go.Proofs.Tryz Go.RowKit
theorem wO (w : World) (l : Tx) (hL : Lay w) (hpow : Lib.TabIs prog w "internal/strconv.uint64pow10" .u64 Lib.pow10Tab):
  Calls prog 3 #[.string ⟨l.toArray⟩] w λe w'=>Below w.heap.size w w'/\e=.returned (.bool true):=Am uP w l hL hpow
end Go.Proofs.YtbeaaimcpkogcaaGreatDoor
