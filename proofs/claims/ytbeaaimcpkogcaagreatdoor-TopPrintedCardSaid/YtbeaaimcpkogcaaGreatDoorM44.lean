/- Lemmas on the way to the claim. -/
import Derived.Test.YtbeaaimcpkogcaaGreatDoorM21
import Derived.Test.YtbeaaimcpkogcaaGreatDoorM39
set_option linter.unusedSimpArgs false
set_option linter.unusedVariables false
namespace Go.Proofs.YtbeaaimcpkogcaaGreatDoor
theorem dU.trip {l:Tx} {fs:List Fun} (h:dU l (some fs)) (hl:(eL fs).length<=32768) {q:Option (List Fun)} (hq:dU (eL fs) q):q=some fs:=by
 obtain⟨d,c,N,b⟩:=Ag fs h.fun.1 hl;have a:dU (eL fs) (some fs):=by unfold dU;rw[c];exact⟨N,b N (ag _)⟩
 exact hq.det a
end Go.Proofs.YtbeaaimcpkogcaaGreatDoor
