/- Lemmas on the way to the claim. -/
import Derived.Test.YtbeaaimcpkogcaaGreatDoorM10
set_option linter.unusedSimpArgs false
set_option linter.unusedVariables false
namespace Go.Proofs
section
open YtbeaaimcpkogcaaGreatDoor (csf)
open Tryz Go.Shelf
def Tryz.lays105_ren:Go.Shelf.Ren:=⟨λ| 105=>172|212=>217|99=>51|165=>140|166=>49|170=>19|169=>20|263=>250|264=>251|206=>102|240=>101|241=>194|276=>158|277=>237|n=>n,λ| 9=>9|3=>3|4=>4|20=>20|0=>0|46=>177|109=>312|5=>5|72=>67|76=>119|51=>40|146=>293|53=>107|148=>341|70=>64|37=>65|75=>24|127=>144|164=>151|80=>72|n=>n,λ| n=>n⟩
theorem Tryz.lays105:Go.Proofs.Lays.n105 prog Tryz.lays105_ren:={
 mixed:=by kernel_rfl
 f99:=csf func51 (by kernel_rfl)
 f105:=csf func172 (by kernel_rfl)
 f165:=csf func140 (by kernel_rfl)
 f166:=csf func49 (by kernel_rfl)
 f169:=csf func20 (by kernel_rfl)
 f170:=csf func19 (by kernel_rfl)
 f206:=csf func102 (by kernel_rfl)
 f212:=csf func217 (by kernel_rfl)
 f240:=csf func101 (by kernel_rfl)
 f241:=csf func194 (by kernel_rfl)
 f263:=csf func250 (by kernel_rfl)
 f264:=csf func251 (by kernel_rfl)
 f276:=csf func158 (by kernel_rfl)
 f277:=csf func237 (by kernel_rfl)
 t0:=underlying0
 a0:=isAgg0
 z0:=sizeOf0
 v0:=zeroValue0
 t3:=underlying3
 a3:=isAgg3
 z3:=sizeOf3
 v3:=zeroValue3
 t4:=underlying4
 a4:=isAgg4
 z4:=sizeOf4
 v4:=zeroValue4
 t5:=underlying5
 a5:=isAgg5
 z5:=sizeOf5
 v5:=zeroValue5
 t9:=underlying9
 a9:=isAgg9
 z9:=sizeOf9
 v9:=zeroValue9
 t20:=underlying20
 a20:=isAgg20
 z20:=sizeOf20
 v20:=zeroValue20
 t37:=underlying65
 a37:=isAgg65
 z37:=sizeOf65
 v37:=zeroValue65
 t46:=underlying177
 a46:=isAgg177
 z46:=sizeOf177
 v46:=zeroValue177
 t51:=underlying40
 a51:=isAgg40
 z51:=sizeOf40
 v51:=zeroValue40
 t53:=underlying107
 a53:=isAgg107
 z53:=sizeOf107
 v53:=zeroValue107
 t70:=underlying64
 a70:=isAgg64
 z70:=sizeOf64
 v70:=zeroValue64
 t72:=underlying67
 a72:=isAgg67
 z72:=sizeOf67
 v72:=zeroValue67
 t75:=underlying24
 a75:=isAgg24
 z75:=sizeOf24
 v75:=zeroValue24
 t76:=underlying119
 a76:=isAgg119
 z76:=sizeOf119
 v76:=zeroValue119
 t109:=underlying312
 a109:=isAgg312
 z109:=sizeOf312
 v109:=zeroValue312
 t127:=underlying144
 a127:=isAgg144
 z127:=sizeOf144
 v127:=zeroValue144
 t146:=underlying293
 a146:=isAgg293
 z146:=sizeOf293
 v146:=zeroValue293
 t148:=underlying341
 a148:=isAgg341
 z148:=sizeOf341
 v148:=zeroValue341
 t164:=underlying151
 a164:=isAgg151
 z164:=sizeOf151
 v164:=zeroValue151 }
theorem Tryz.Builder_Extra_105:Builder.Extra prog Tryz.lays105_ren:={
 sizeBuilder:=by kernel_rfl
 liesBuilder:=by kernel_rfl
 t5:=underlying5
 a5:=isAgg5
 z5:=sizeOf5
 v5:=zeroValue5
 infoByte:=by kernel_rfl
 cellsByte:=by kernel_rfl
 sizeByte:=by kernel_rfl
 neB5:=by decide }
open Go.RowKit Go.Lib in
theorem Tryz.strings_Repeat (s:ByteArray) (c:Nat) (w:World) (hc:c<=9223372036854775807) (hlen:s.size*c<=140737488355328) :
  Calls prog 172 #[.string s,.int .i64 c] w λe w'=>e=.returned (.string ⟨(Lib.repeatL s.data.toList c).toArray⟩)/\Below w.heap.size w w':=Any.strings_Repeat Tryz.lays105 Tryz.Builder_Extra_105 s c w hc hlen
end
end Go.Proofs
