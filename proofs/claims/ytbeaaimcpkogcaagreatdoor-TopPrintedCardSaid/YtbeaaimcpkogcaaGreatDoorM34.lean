/- Lemmas on the way to the claim. -/
import Derived.Laws.EntriesVeiled
import Derived.Test.YtbeaaimcpkogcaaGreatDoorM26
set_option linter.unusedSimpArgs false
set_option linter.unusedVariables false
set_option maxRecDepth 100000
namespace Go.Proofs.YtbeaaimcpkogcaaGreatDoor
open Go.Proofs.Tryz Go.RowKit
theorem xT (w:World) (e:TypeId) (s:ByteArray):Below w.heap.size w (Lib.bytesWorld w e s):=
 ⟨rfl,rfl,rfl,by rw[Lib.bytesWorld_size];omega,λj hj=>Lib.bytesWorld_at_old w e s j hj⟩
theorem IS (w:World) (T:Tx) (hT:1<=T.length) (hl:T.length<=1000000):
  Calls prog 24 #[.string ⟨T.toArray⟩] w λe w'=>Below w.heap.size w w'/\e=.returned (pB (w.heap.size+1))/\RdAt w' (w.heap.size+1) w.heap.size T 0/\w'.heap.size=w.heap.size+2:=by
 have g:=Lib.run_convert_string_bytes (P:=prog) w 9 65 5 ⟨T.toArray⟩ underlying9 underlying65 underlying5;have b:=xT w 5 ⟨T.toArray⟩;have c:=Lib.bytesWorld_size w 5 ⟨T.toArray⟩;have d:=Lib.bytesWorld_cell w 5 ⟨T.toArray⟩;have a:T.length<=grownCap w (⟨T.toArray⟩:ByteArray).size 0 5:=by
  have:=grownCap_ge w (⟨T.toArray⟩:ByteArray).size 0 5;rw[oB]at this;exact this
 generalize h:Lib.bytesWorld w 5 ⟨T.toArray⟩=wb at g b c d;generalize grownCap w (⟨T.toArray⟩:ByteArray).size 0 5=cap at g a;have i:(⟨T.toArray⟩:ByteArray).size=T.length:=oB T;have k:Hid (Below w.heap.size w (wb.alloc (.cells #[.slice (some ⟨w.heap.size,0,none⟩) T.length cap] 164))/\RdAt (wb.alloc (.cells #[.slice (some ⟨w.heap.size,0,none⟩) T.length cap] 164)) (w.heap.size+1) w.heap.size T 0/\(wb.alloc (.cells #[.slice (some ⟨w.heap.size,0,none⟩) T.length cap] 164)).heap.size=w.heap.size+2):=by
  refine⟨b.alloc b.size _,⟨⟨0,cap,by omega,λ_=>rfl,dw c⟩,λj u hj=>?_,by omega,by omega,hl⟩,by rw[ah,c]⟩;have f:=(aE.1 hj).1;rw[dW _ _ ⟨w.heap.size,j,none⟩ (by show w.heap.size<wb.heap.size;omega),d j (by rw[i];exact f)];show some (Value.int .u8 ((T.toArray.toList.getD j 0).toNat:Int))=_;rw[List.toList_toArray,dD,hj];rfl
 rw[i]at g;have l:=aa c;clear b d a h i
 go_enter func24,ntmps24
 go_wp2_with fail;go_ret;exact⟨k.out.1,rfl,k.out.2⟩
end Go.Proofs.YtbeaaimcpkogcaaGreatDoor
