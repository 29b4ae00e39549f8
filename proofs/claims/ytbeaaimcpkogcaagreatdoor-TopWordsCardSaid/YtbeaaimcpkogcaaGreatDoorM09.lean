/- Lemmas on the way to the claim. -/
import Derived.Test.YtbeaaimcpkogcaaGreatDoorRows
import Derived.ProofKit
import Derived.SevenTiedAt
import Derived.Test.YtbeaaimcpkogcaaGreatDoorM00
set_option linter.unusedSimpArgs false
set_option linter.unusedVariables false
namespace Go.Proofs.YtbeaaimcpkogcaaGreatDoor
open Go.Proofs.Tryz Go.RowKit
section
open Go.ChangeShapes Go.WideShapes Go.ChangeAt
theorem zJ:Tryz.f4.isWrapper prog Rows.topWordsRow.wrapper Rows.topWordsRow.mainSum:=by unfold Func.isWrapper;first|(rw[ax (by decide +kernel)];kernel_rfl)|(rw[ap (by decide +kernel)];exact⟨rfl,rfl⟩)
theorem zL:Tryz.f4.isInstance prog Rows.topWordsRow.origin Rows.topWordsRow.targs:=bm (by kernel_rfl)
theorem pW:Tryz.prog.funcNamed Rows.topWordsRow.func=some 4:=by kernel_rfl
theorem Ez:Rows.topWordsRow.wfByText (OpenSpec.ofChange Rows.topWordsSpec)=true:=by kernel_rfl
theorem zK: Tryz.prog.mainIs = some (true, "24c1a0688b63394245981ed06cc735b1767c21acb8d2f32a026638d33cc65055".toList) := by kernel_rfl
theorem wi:true=Tryz.prog.looks []:=by kernel_rfl
theorem zM:false=Rows.topWordsRow.goesBy prog:=by kernel_rfl
theorem wh:(([9,34]:List TypeId).all λu=>!Tryz.prog.wantsStandIn u)=true:=by kernel_rfl
end
end Go.Proofs.YtbeaaimcpkogcaaGreatDoor
