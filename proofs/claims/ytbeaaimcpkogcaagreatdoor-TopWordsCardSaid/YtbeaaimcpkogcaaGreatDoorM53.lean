/- Lemmas on the way to the claim. -/
import Derived.LaidSub
import Derived.Lay
import Derived.SevenTiedAt
import Derived.Test.YtbeaaimcpkogcaaGreatDoorM50
set_option linter.unusedSimpArgs false
set_option linter.unusedVariables false
namespace Go.Proofs.YtbeaaimcpkogcaaGreatDoor
open Go.Proofs.Tryz Go.RowKit
section
open Go.ChangeShapes Go.WideShapes Go.ChangeAt
def nP:List (String×DataW Unit):=Rows.topWordsRow.laid
def kY : List (String × DataW Unit) := [("math/bits.deBruijn32tab", Rows.laid_math_bits_deBruijn32tab), ("math/bits.deBruijn64tab", Rows.laid_math_bits_deBruijn64tab), ("internal/strconv.uint64pow10", Rows.laid_internal_strconv_uint64pow10), ("unicode/utf8.acceptRanges", Rows.laid_unicode_utf8_acceptRanges), ("strconv.ErrRange", Rows.laid_strconv_ErrRange), ("strconv.ErrSyntax", Rows.laid_strconv_ErrSyntax), ("fallow/isa.rows", Rows.laid_fallow_isa_rows), ("unicode.White_Space", Rows.laid_unicode_White_Space), ("strings.asciiSpace", Rows.laid_strings_asciiSpace), ("unicode/utf8.first", Rows.laid_unicode_utf8_first)]
theorem C0: nP.filter (fun x => x.1 != "unicode/utf8.acceptRanges" && x.1 != "unicode/utf8.first") = mr := by kernel_rfl
theorem CZ {W:World} (h:laidMetH prog nP W):laidMetH prog mr W:=C0▸h.filter _
noncomputable def wHW (os:Os):World:={ World.holding prog os ⟨#[],#[],[]⟩with heap:=⟨Lay.setRows (World.holding prog os ⟨#[],#[],[]⟩).heap.toList [(0,[.iface 212 (.agg #[.pointer (some ⟨13,24,none⟩)])])]⟩ }
noncomputable def wLW (os:Os):World:=(wHW os).layVars prog kY
noncomputable def wCW (os:Os) (args:Array Value):World:=(wLW os).forCall (λ_ _=>0) ⟨#[],args,[]⟩
theorem JX (os:Os):(wLW os).os=os:=World.layVars_os _ _ _
theorem CY (os:Os):(wHW os).layFits prog kY []=true:=by kernel_rfl
theorem xj (os:Os):(wHW os).layIfaces prog kY (wLW os)=true:=by kernel_rfl
theorem Ao (os:Os) (args:Array Value):laidMet prog kY (wCW os args).memory:=by
 have a:(kY.filter λx=>(kY.map (·.1)).contains x.1)=kY:=List.filter_eq_self.2 λx hx=>iz.2 (bM.2 ⟨x,hx,rfl⟩);have b:(kY.filter λx=>!(kY.map (·.1)).contains x.1)=[]:=List.filter_eq_nil_iff.2 λx hx=>by rw[iz.2 (bM.2 ⟨x,hx,rfl⟩)];simp
 have h:laidMet prog kY (wLW os):=laidMet_layVars (w0:=wHW os) (kY.map (·.1)) [] (by rw[a];rfl) (by rw[a];exact CY os) (by rw[a];exact xj os) (by rw[b];exact LaidIn.none);exact h.of_heap (by simp[wCW,World.memory,World.forCall,Input.heap])
theorem Dc (os:Os) (args:Array Value):(nP.filter λx=>x.2.handleName?.isSome&&x.2.funcsIn?.isNone).all (handleAtB prog (wCW os args).memory)=true:=by kernel_rfl
theorem CA:funcsListed nP=[]:=by kernel_rfl
theorem wP:(nP.filter λx=>x.2.handleName?.isNone)=kY:=by kernel_rfl
theorem zY (os:Os) (args:Array Value):laidMetH prog nP (wCW os args).memory:=
 laidMetH_of_parts3 (fuel:=8) (by rw[wP];exact Ao os args) (Dc os args) (by rw[CA];rfl)
theorem wt (os:Os) (args:Array Value):(wCW os args).variablesZipB prog=true:=by kernel_rfl
theorem sB (os:Os) (args:Array Value):(wCW os args).Shaped prog:=World.shaped_of_ZipB (wt os args) (by kernel_rfl)
end
end Go.Proofs.YtbeaaimcpkogcaaGreatDoor
