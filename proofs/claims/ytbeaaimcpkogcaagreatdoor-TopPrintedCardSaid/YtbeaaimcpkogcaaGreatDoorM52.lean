/- Lemmas on the way to the claim. -/
import Derived.Lay
import Derived.SevenTiedAt
import Derived.Test.YtbeaaimcpkogcaaGreatDoorM50
set_option linter.unusedSimpArgs false
set_option linter.unusedVariables false
namespace Go.Proofs.YtbeaaimcpkogcaaGreatDoor
open Go.Proofs.Tryz Go.RowKit
section
open Go.ChangeShapes Go.WideShapes Go.ChangeAt
noncomputable def wH (os:Os):World:={ World.holding prog os ⟨#[],#[],[]⟩with heap:=⟨Lay.setRows (World.holding prog os ⟨#[],#[],[]⟩).heap.toList [(0,[.iface 212 (.agg #[.pointer (some ⟨13,24,none⟩)])])]⟩ }
noncomputable def wL (os:Os):World:=(wH os).layVars prog kJ
noncomputable def wC (os:Os) (args:Array Value):World:=(wL os).forCall (λ_ _=>0) ⟨#[],args,[]⟩
theorem LE (os:Os):(wL os).os=os:=World.layVars_os _ _ _
theorem Fy (os:Os):(wH os).layFits prog kJ []=true:=by kernel_rfl
theorem AG (os:Os):(wH os).layIfaces prog kJ (wL os)=true:=by kernel_rfl
theorem Ci (os:Os) (args:Array Value):laidMet prog kJ (wC os args).memory:=by
 have a:(kJ.filter λx=>(kJ.map (·.1)).contains x.1)=kJ:=List.filter_eq_self.2 λx hx=>iz.2 (bM.2 ⟨x,hx,rfl⟩);have b:(kJ.filter λx=>!(kJ.map (·.1)).contains x.1)=[]:=List.filter_eq_nil_iff.2 λx hx=>by rw[iz.2 (bM.2 ⟨x,hx,rfl⟩)];simp
 have h:laidMet prog kJ (wL os):=laidMet_layVars (w0:=wH os) (kJ.map (·.1)) [] (by rw[a];rfl) (by rw[a];exact Fy os) (by rw[a];exact AG os) (by rw[b];exact LaidIn.none);exact h.of_heap (by simp[wC,World.memory,World.forCall,Input.heap])
theorem FJ (os:Os) (args:Array Value):(mr.filter λx=>x.2.handleName?.isSome&&x.2.funcsIn?.isNone).all (handleAtB prog (wC os args).memory)=true:=by kernel_rfl
theorem Fl:funcsListed mr=[]:=by kernel_rfl
theorem Ap:(mr.filter λx=>x.2.handleName?.isNone)=kJ:=by kernel_rfl
theorem BF (os:Os) (args:Array Value):laidMetH prog mr (wC os args).memory:=
 laidMetH_of_parts3 (fuel:=8) (by rw[Ap];exact Ci os args) (FJ os args) (by rw[Fl];rfl)
theorem zX (os:Os) (args:Array Value):(wC os args).variablesZipB prog=true:=by kernel_rfl
theorem ul (os:Os) (args:Array Value):(wC os args).Shaped prog:=World.shaped_of_ZipB (zX os args) (by kernel_rfl)
end
end Go.Proofs.YtbeaaimcpkogcaaGreatDoor
