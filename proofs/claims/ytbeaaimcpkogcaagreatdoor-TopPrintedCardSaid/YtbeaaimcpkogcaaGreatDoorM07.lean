/- Lemmas on the way to the claim. -/
import Derived.Test.YtbeaaimcpkogcaaGreatDoorRows
import Derived.ProofKit
import Derived.SevenTiedAt
import Derived.Test.YtbeaaimcpkogcaaGreatDoorM00
set_option linter.unusedSimpArgs false
set_option linter.unusedVariables false
namespace Go.Proofs.YtbeaaimcpkogcaaGreatDoor
open Go.Proofs.Tryz Go.RowKit
section
open Go.ChangeShapes Go.WideShapes Go.ChangeAt
theorem ut:Tryz.f3.isWrapper prog Rows.topPrintedRow.wrapper Rows.topPrintedRow.mainSum:=by unfold Func.isWrapper;first|(rw[ax (by decide +kernel)];kernel_rfl)|(rw[ap (by decide +kernel)];exact⟨rfl,rfl⟩)
theorem uv:Tryz.f3.isInstance prog Rows.topPrintedRow.origin Rows.topPrintedRow.targs:=bm (by kernel_rfl)
theorem nF:Tryz.prog.funcNamed Rows.topPrintedRow.func=some 3:=by kernel_rfl
theorem Al:Rows.topPrintedRow.wfByText (OpenSpec.ofChange Rows.topPrintedSpec)=true:=by kernel_rfl
theorem uu: Tryz.prog.mainIs = some (true, "24c1a0688b63394245981ed06cc735b1767c21acb8d2f32a026638d33cc65055".toList) := by kernel_rfl
theorem sM:true=Tryz.prog.looks []:=by kernel_rfl
theorem uw:false=Rows.topPrintedRow.goesBy prog:=by kernel_rfl
theorem sL:(([9]:List TypeId).all λu=>!Tryz.prog.wantsStandIn u)=true:=by kernel_rfl
end
end Go.Proofs.YtbeaaimcpkogcaaGreatDoor
