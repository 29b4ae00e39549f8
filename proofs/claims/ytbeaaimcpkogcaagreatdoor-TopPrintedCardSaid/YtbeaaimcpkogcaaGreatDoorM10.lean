/- Lemmas on the way to the claim. -/
import Derived.Shelf.LaysC
import Derived.Shelf.Strconv.Itoa1
import Derived.Shelf.Strconv.Itoa2
import Derived.Shelf.Slices.Turned
import Derived.Shelf.Pu.ErrVarParseUint
import Derived.Shelf.Strings.IndexAnyAll
import Derived.Shelf.Strings.SplitShaped
import Derived.Shelf.Strings.Repeat
import Derived.Test.YtbeaaimcpkogcaaGreatDoorProg
import Derived.Test.YtbeaaimcpkogcaaGreatDoorM00
set_option linter.unusedSimpArgs false
set_option linter.unusedVariables false
namespace Go.Proofs
section
open YtbeaaimcpkogcaaGreatDoor (csf)
open Tryz Go.Shelf
def Tryz.lays169_ren:Go.Shelf.Ren:=⟨λ| 169=>20|n=>n,λ| 70=>64|9=>9|0=>0|72=>67|37=>65|127=>144|3=>3|5=>5|n=>n,λ| n=>n⟩
theorem Tryz.lays169:Go.Proofs.Lays.n169 prog Tryz.lays169_ren:={
 mixed:=by kernel_rfl
 f169:=csf func20 (by kernel_rfl)
 t0:=underlying0
 a0:=isAgg0
 z0:=sizeOf0
 v0:=zeroValue0
 t3:=underlying3
 a3:=isAgg3
 z3:=sizeOf3
 v3:=zeroValue3
 t9:=underlying9
 a9:=isAgg9
 z9:=sizeOf9
 v9:=zeroValue9
 t37:=underlying65
 a37:=isAgg65
 z37:=sizeOf65
 v37:=zeroValue65
 t70:=underlying64
 a70:=isAgg64
 z70:=sizeOf64
 v70:=zeroValue64
 t72:=underlying67
 a72:=isAgg67
 z72:=sizeOf67
 v72:=zeroValue67
 t127:=underlying144
 a127:=isAgg144
 z127:=sizeOf144
 v127:=zeroValue144 }
theorem Tryz.Builder_Extra_169:Builder.Extra prog Tryz.lays169_ren:={
 sizeBuilder:=by kernel_rfl
 liesBuilder:=by kernel_rfl
 t5:=underlying5
 a5:=isAgg5
 z5:=sizeOf5
 v5:=zeroValue5
 infoByte:=by kernel_rfl
 cellsByte:=by kernel_rfl
 sizeByte:=by kernel_rfl
 neB5:=by decide }
def Tryz.lays137_ren:Go.Shelf.Ren:=⟨λ| 137=>52|217=>103|266=>159|n=>n,λ| 9=>9|5=>5|3=>3|n=>n,λ| n=>n⟩
theorem Tryz.lays137:Go.Proofs.Lays.n137 prog Tryz.lays137_ren:={
 mixed:=by kernel_rfl
 f137:=csf func52 (by kernel_rfl)
 f217:=csf func103 (by kernel_rfl)
 f266:=csf func159 (by kernel_rfl)
 t3:=underlying3
 a3:=isAgg3
 z3:=sizeOf3
 v3:=zeroValue3
 t5:=underlying5
 a5:=isAgg5
 z5:=sizeOf5
 v5:=zeroValue5
 t9:=underlying9
 a9:=isAgg9
 z9:=sizeOf9
 v9:=zeroValue9 }
open Go.RowKit in
theorem Tryz.strings_IndexByte (s:ByteArray) (c:Int) (w:World) :
  Calls prog 52 #[.string s,.int .u8 c] w λe w'=>e=.returned (.int .i64 (Lib.indexByte s.data.toList c.toNat.toUInt8))/\w'=w:=Any.strings_IndexByte Tryz.lays137 s c w
open Go.RowKit in
theorem Tryz.Builder_String_any_f (B b:Nat) (l:List UInt8) (w:World) (h:Lib.IsBuilderF 67 5 B b (Lib.byteCells l) w) (hBw:B<=w.heap.size) :
  Calls prog 20 #[.pointer (some ⟨b,0,none⟩)] w λe w'=>e=.returned (.string ⟨l.toArray⟩)/\(Lib.IsBuilderF 67 5 B b (Lib.byteCells l) w'/\Below B w w'):=Any.Builder_String_any_f Tryz.lays169 Tryz.Builder_Extra_169 B b l w h hBw
def Tryz.lays283_ren:Go.Shelf.Ren:=⟨λ| 283=>141|n=>n,λ| 3=>3|9=>9|4=>4|n=>n,λ| n=>n⟩
theorem Tryz.lays283:Go.Proofs.Lays.n283 prog Tryz.lays283_ren:={
 mixed:=by kernel_rfl
 f283:=csf func141 (by kernel_rfl)
 t3:=underlying3
 a3:=isAgg3
 z3:=sizeOf3
 v3:=zeroValue3
 t4:=underlying4
 a4:=isAgg4
 z4:=sizeOf4
 v4:=zeroValue4
 t9:=underlying9
 a9:=isAgg9
 z9:=sizeOf9
 v9:=zeroValue9 }
open Go.Lib in
theorem Tryz.internal_strconv_small (i:Nat) (h:i<100) (w:World) :
  Calls prog 141 #[.int .i64 i] w λe w'=>e=.returned (.string ⟨(Lib.decDigits i).toArray⟩)/\w'=w:=Any.internal_strconv_small Tryz.lays283 i h w
def Tryz.lays285_ren:Go.Shelf.Ren:=⟨λ| 285=>143|n=>n,λ| 37=>65|53=>107|3=>3|4=>4|51=>40|9=>9|5=>5|0=>0|n=>n,λ| n=>n⟩
theorem Tryz.lays285:Go.Proofs.Lays.n285 prog Tryz.lays285_ren:={
 mixed:=by kernel_rfl
 f285:=csf func143 (by kernel_rfl)
 t0:=underlying0
 a0:=isAgg0
 z0:=sizeOf0
 v0:=zeroValue0
 t3:=underlying3
 a3:=isAgg3
 z3:=sizeOf3
 v3:=zeroValue3
 t4:=underlying4
 a4:=isAgg4
 z4:=sizeOf4
 v4:=zeroValue4
 t5:=underlying5
 a5:=isAgg5
 z5:=sizeOf5
 v5:=zeroValue5
 t9:=underlying9
 a9:=isAgg9
 z9:=sizeOf9
 v9:=zeroValue9
 t37:=underlying65
 a37:=isAgg65
 z37:=sizeOf65
 v37:=zeroValue65
 t51:=underlying40
 a51:=isAgg40
 z51:=sizeOf40
 v51:=zeroValue40
 t53:=underlying107
 a53:=isAgg107
 z53:=sizeOf107
 v53:=zeroValue107 }
open Go.RowKit Go.Sort Go.Lib in
theorem Tryz.internal_strconv_formatBase10 (blk off cap:Nat) (u:Nat) (d:Array UInt8) (w:World) (hH:Holds (λ(b:UInt8)=>Value.int .u8 (b.toNat:Int)) w blk off d) (hu:u<10^d.size) (hu64:u<18446744073709551616) (hsz:d.size<4611686018427387904) :
  Calls prog 143 #[.slice (some ⟨blk,off,none⟩) d.size cap,.int .u64 u] w λe w' =>
   e=.returned (.tuple #[])/\∃(n v':Nat) (dk:Array UInt8),w'=(putRow (λ(b:UInt8)=>Value.int .u8 (b.toNat:Int)) w blk off dk).drewN n/\FmtInv d.size u 0 v' dk:=Any.internal_strconv_formatBase10 Tryz.lays285 blk off cap u d w hH hu hu64 hsz
def Tryz.laysPu14_ren:Go.Shelf.Ren:=⟨λ| 14=>57|16=>107|17=>108|19=>162|20=>163|21=>164|22=>165|23=>166|24=>167|25=>210|27=>41|26=>211|28=>94|29=>145|30=>141|31=>142|32=>143|33=>144|35=>196|34=>195|36=>197|37=>198|38=>199|39=>238|40=>239|n=>n,λ| 9=>9|3=>3|22=>107|24=>24|25=>131|4=>4|34=>256|5=>5|36=>177|37=>65|0=>0|39=>258|21=>21|44=>309|47=>144|50=>359|48=>357|2=>2|52=>239|55=>242|59=>298|60=>40|20=>20|61=>299|65=>368|66=>369|67=>72|n=>n,λ| 0=>6|1=>7|2=>3|3=>8|4=>9|n=>n⟩
theorem Tryz.laysPu14:Go.Proofs.LaysPu.n14 prog Tryz.laysPu14_ren:={
 mixed:=by kernel_rfl
 f14:=csf func57 (by kernel_rfl)
 f16:=csf func107 (by kernel_rfl)
 f17:=csf func108 (by kernel_rfl)
 f19:=csf func162 (by kernel_rfl)
 f20:=csf func163 (by kernel_rfl)
 f21:=csf func164 (by kernel_rfl)
 f22:=csf func165 (by kernel_rfl)
 f23:=csf func166 (by kernel_rfl)
 f24:=csf func167 (by kernel_rfl)
 f25:=csf func210 (by kernel_rfl)
 f26:=csf func211 (by kernel_rfl)
 f27:=csf func41 (by kernel_rfl)
 f28:=csf func94 (by kernel_rfl)
 f29:=csf func145 (by kernel_rfl)
 f30:=csf func141 (by kernel_rfl)
 f31:=csf func142 (by kernel_rfl)
 f32:=csf func143 (by kernel_rfl)
 f33:=csf func144 (by kernel_rfl)
 f34:=csf func195 (by kernel_rfl)
 f35:=csf func196 (by kernel_rfl)
 f36:=csf func197 (by kernel_rfl)
 f37:=csf func198 (by kernel_rfl)
 f38:=csf func199 (by kernel_rfl)
 f39:=csf func238 (by kernel_rfl)
 f40:=csf func239 (by kernel_rfl)
 t0:=underlying0
 a0:=isAgg0
 z0:=sizeOf0
 v0:=zeroValue0
 i0:=by kernel_rfl
 t2:=underlying2
 a2:=isAgg2
 z2:=sizeOf2
 v2:=zeroValue2
 i2:=by kernel_rfl
 t3:=underlying3
 a3:=isAgg3
 z3:=sizeOf3
 v3:=zeroValue3
 i3:=by kernel_rfl
 t4:=underlying4
 a4:=isAgg4
 z4:=sizeOf4
 v4:=zeroValue4
 i4:=by kernel_rfl
 t5:=underlying5
 a5:=isAgg5
 z5:=sizeOf5
 v5:=zeroValue5
 i5:=by kernel_rfl
 t9:=underlying9
 a9:=isAgg9
 z9:=sizeOf9
 v9:=zeroValue9
 i9:=by kernel_rfl
 t20:=underlying20
 a20:=isAgg20
 z20:=sizeOf20
 v20:=zeroValue20
 i20:=by kernel_rfl
 t21:=underlying21
 a21:=isAgg21
 z21:=sizeOf21
 v21:=zeroValue21
 i21:=by kernel_rfl
 t22:=underlying107
 a22:=isAgg107
 z22:=sizeOf107
 v22:=zeroValue107
 i22:=by kernel_rfl
 t24:=underlying24
 a24:=isAgg24
 z24:=sizeOf24
 v24:=zeroValue24
 i24:=by kernel_rfl
 t25:=underlying131
 a25:=isAgg131
 z25:=sizeOf131
 v25:=zeroValue131
 i25:=by kernel_rfl
 t34:=underlying256
 a34:=isAgg256
 z34:=sizeOf256
 v34:=zeroValue256
 i34:=by kernel_rfl
 c34:=by kernel_rfl
 t36:=underlying177
 a36:=isAgg177
 z36:=sizeOf177
 v36:=zeroValue177
 i36:=by kernel_rfl
 t37:=underlying65
 a37:=isAgg65
 z37:=sizeOf65
 v37:=zeroValue65
 i37:=by kernel_rfl
 t39:=underlying258
 a39:=isAgg258
 z39:=sizeOf258
 v39:=zeroValue258
 i39:=by kernel_rfl
 t44:=underlying309
 a44:=isAgg309
 z44:=sizeOf309
 v44:=zeroValue309
 i44:=by kernel_rfl
 t47:=underlying144
 a47:=isAgg144
 z47:=sizeOf144
 v47:=zeroValue144
 i47:=by kernel_rfl
 t48:=underlying357
 a48:=isAgg357
 z48:=sizeOf357
 v48:=zeroValue357
 i48:=by kernel_rfl
 t50:=underlying359
 a50:=isAgg359
 z50:=sizeOf359
 v50:=zeroValue359
 i50:=by kernel_rfl
 t52:=underlying239
 a52:=isAgg239
 z52:=sizeOf239
 v52:=zeroValue239
 i52:=by kernel_rfl
 t55:=underlying242
 a55:=isAgg242
 z55:=sizeOf242
 v55:=zeroValue242
 i55:=by kernel_rfl
 t59:=underlying298
 a59:=isAgg298
 z59:=sizeOf298
 v59:=zeroValue298
 i59:=by kernel_rfl
 t60:=underlying40
 a60:=isAgg40
 z60:=sizeOf40
 v60:=zeroValue40
 i60:=by kernel_rfl
 t61:=underlying299
 a61:=isAgg299
 z61:=sizeOf299
 t65:=underlying368
 a65:=isAgg368
 z65:=sizeOf368
 v65:=zeroValue368
 i65:=by kernel_rfl
 t66:=underlying369
 a66:=isAgg369
 z66:=sizeOf369
 v66:=zeroValue369
 i66:=by kernel_rfl
 t67:=underlying72
 a67:=isAgg72
 z67:=sizeOf72
 v67:=zeroValue72
 i67:=by kernel_rfl
 g0:=by kernel_rfl
 m0:=by kernel_rfl
 g1:=by kernel_rfl
 m1:=by kernel_rfl
 g2:=by kernel_rfl
 m2:=by kernel_rfl
 g3:=by kernel_rfl
 m3:=by kernel_rfl
 g4:=by kernel_rfl
 m4:=by kernel_rfl }
open Go.RowKit in
theorem Tryz.strconv_ParseUint_10_at32_ok (s:ByteArray) (hmax:s.size<=9223372036854775806) (u:Nat) (h:Lib.parseUintB 32 s.data.toList=.ok u) (w:World) :
  Calls prog 57 #[.string s,.int .i64 10,.int .i64 32] w λe w'=>e=.returned (.tuple #[.int .u64 u,.nilIface])/\(w'=w\/w'=Lib.bytesWorld w 5 s):=Any.strconv_ParseUint_10_at32_ok Tryz.laysPu14 s hmax u h w
open Go.RowKit in
theorem Tryz.strconv_ParseUint_10_at32_range_var (s : ByteArray) (hlim : s.size ≤ 281474976710656) (h : Lib.parseUintB 32 s.data.toList = .range) (tp : TypeId) (p : Value) (w : World) (hvar : w.var? prog "strconv.ErrRange" = some #[.iface tp p]) :
  Calls prog 57 #[.string s,.int .i64 10,.int .i64 32] w λe w'=>∃N,e=.returned (.tuple #[.int .u64 4294967295,.iface 258 (.pointer (some ⟨N,0,none⟩))])/\w.heap.size<=N/\w'.heap[N]?=some (.cells #[.string ⟨#[80,97,114,115,101,85,105,110,116]⟩,.string s,.iface tp p] 309 (0,0))/\Below w.heap.size w w':=Any.strconv_ParseUint_10_at32_range_var Tryz.laysPu14 s hlim h tp p w hvar
def Tryz.lays144_ren:Go.Shelf.Ren:=⟨λ| 144=>97|143=>154|219=>157|217=>103|225=>206|224=>207|267=>208|266=>159|314=>243|n=>n,λ| 9=>9|4=>4|3=>3|5=>5|46=>177|146=>293|51=>40|n=>n,λ| 1=>4|n=>n⟩
theorem Tryz.lays144:Go.Proofs.Lays.n144 prog Tryz.lays144_ren:={
 mixed:=by kernel_rfl
 f143:=csf func154 (by kernel_rfl)
 f144:=csf func97 (by kernel_rfl)
 f217:=csf func103 (by kernel_rfl)
 f219:=csf func157 (by kernel_rfl)
 f224:=csf func207 (by kernel_rfl)
 f225:=csf func206 (by kernel_rfl)
 f266:=csf func159 (by kernel_rfl)
 f267:=csf func208 (by kernel_rfl)
 f314:=csf func243 (by kernel_rfl)
 t3:=underlying3
 a3:=isAgg3
 z3:=sizeOf3
 v3:=zeroValue3
 t4:=underlying4
 a4:=isAgg4
 z4:=sizeOf4
 v4:=zeroValue4
 t5:=underlying5
 a5:=isAgg5
 z5:=sizeOf5
 v5:=zeroValue5
 t9:=underlying9
 a9:=isAgg9
 z9:=sizeOf9
 v9:=zeroValue9
 t46:=underlying177
 a46:=isAgg177
 z46:=sizeOf177
 v46:=zeroValue177
 t51:=underlying40
 a51:=isAgg40
 z51:=sizeOf40
 v51:=zeroValue40
 t146:=underlying293
 a146:=isAgg293
 z146:=sizeOf293
 v146:=zeroValue293
 g1:=by kernel_rfl }
open Go.RowKit Go.Lib in
theorem Tryz.strings_Contains (s sub:ByteArray) (m:Int) (w:World) (hs:s.size<4294967281) (hm:w.cell? ⟨4,0,none⟩=some (.int .i64 m)) :
  Calls prog 97 #[.string s,.string sub] w λe w'=>e=.returned (.bool (Lib.contains s.data.toList sub.data.toList))/\w'=w:=Any.strings_Contains Tryz.lays144 s sub m w hs hm
def Tryz.lays99_ren:Go.Shelf.Ren:=⟨λ| 99=>51|206=>102|n=>n,λ| 9=>9|4=>4|3=>3|n=>n,λ| n=>n⟩
theorem Tryz.lays99:Go.Proofs.Lays.n99 prog Tryz.lays99_ren:={
 mixed:=by kernel_rfl
 f99:=csf func51 (by kernel_rfl)
 f206:=csf func102 (by kernel_rfl)
 t3:=underlying3
 a3:=isAgg3
 z3:=sizeOf3
 v3:=zeroValue3
 t4:=underlying4
 a4:=isAgg4
 z4:=sizeOf4
 v4:=zeroValue4
 t9:=underlying9
 a9:=isAgg9
 z9:=sizeOf9
 v9:=zeroValue9 }
open Go.RowKit Go.Lib in
theorem Tryz.strings_HasPrefix (s p:ByteArray) (w:World) :
  Calls prog 51 #[.string s,.string p] w λe w'=>e=.returned (.bool (Lib.hasPrefix s.data.toList p.data.toList))/\w'=w:=Any.strings_HasPrefix Tryz.lays99 s p w
def Tryz.laysM157_ren:Go.Shelf.Ren:=⟨λ| 157=>106|229=>83|199=>161|261=>209|311=>244|312=>245|n=>n,λ| 9=>9|31=>96|3=>3|5=>5|4=>4|119=>255|0=>0|40=>173|152=>231|21=>21|154=>233|51=>40|141=>306|196=>350|193=>347|198=>352|49=>92|194=>348|201=>355|226=>373|46=>177|227=>374|n=>n,λ| 0=>2|6=>5|n=>n⟩
theorem Tryz.laysM157:Go.Proofs.LaysM.n157 prog Tryz.laysM157_ren:={
 mixed:=by kernel_rfl
 f157:=csf func106 (by kernel_rfl)
 f199:=csf func161 (by kernel_rfl)
 f229:=csf func83 (by kernel_rfl)
 f261:=csf func209 (by kernel_rfl)
 f311:=csf func244 (by kernel_rfl)
 f312:=csf func245 (by kernel_rfl)
 t0:=underlying0
 a0:=isAgg0
 z0:=sizeOf0
 v0:=zeroValue0
 t3:=underlying3
 a3:=isAgg3
 z3:=sizeOf3
 v3:=zeroValue3
 t4:=underlying4
 a4:=isAgg4
 z4:=sizeOf4
 v4:=zeroValue4
 t5:=underlying5
 a5:=isAgg5
 z5:=sizeOf5
 v5:=zeroValue5
 t9:=underlying9
 a9:=isAgg9
 z9:=sizeOf9
 v9:=zeroValue9
 t21:=underlying21
 a21:=isAgg21
 z21:=sizeOf21
 v21:=zeroValue21
 t31:=underlying96
 a31:=isAgg96
 z31:=sizeOf96
 v31:=zeroValue96
 t40:=underlying173
 a40:=isAgg173
 z40:=sizeOf173
 v40:=zeroValue173
 t46:=underlying177
 a46:=isAgg177
 z46:=sizeOf177
 v46:=zeroValue177
 t49:=underlying92
 a49:=isAgg92
 z49:=sizeOf92
 v49:=zeroValue92
 t51:=underlying40
 a51:=isAgg40
 z51:=sizeOf40
 v51:=zeroValue40
 t119:=underlying255
 a119:=isAgg255
 z119:=sizeOf255
 t141:=underlying306
 a141:=isAgg306
 z141:=sizeOf306
 v141:=zeroValue306
 t152:=underlying231
 a152:=isAgg231
 z152:=sizeOf231
 v152:=zeroValue231
 t154:=underlying233
 a154:=isAgg233
 z154:=sizeOf233
 v154:=zeroValue233
 t193:=underlying347
 a193:=isAgg347
 z193:=sizeOf347
 v193:=zeroValue347
 t194:=underlying348
 a194:=isAgg348
 z194:=sizeOf348
 v194:=zeroValue348
 t196:=underlying350
 a196:=isAgg350
 z196:=sizeOf350
 v196:=zeroValue350
 t198:=underlying352
 a198:=isAgg352
 z198:=sizeOf352
 v198:=zeroValue352
 t201:=underlying355
 a201:=isAgg355
 z201:=sizeOf355
 v201:=zeroValue355
 t226:=underlying373
 a226:=isAgg373
 z226:=sizeOf373
 v226:=zeroValue373
 t227:=underlying374
 a227:=isAgg374
 z227:=sizeOf374
 v227:=zeroValue374
 g0:=by kernel_rfl
 g6:=by kernel_rfl
 i0:=by kernel_rfl
 i3:=by kernel_rfl
 i4:=by kernel_rfl
 i5:=by kernel_rfl
 i9:=by kernel_rfl
 i21:=by kernel_rfl
 i31:=by kernel_rfl
 i40:=by kernel_rfl
 i46:=by kernel_rfl
 i49:=by kernel_rfl
 i51:=by kernel_rfl
 i141:=by kernel_rfl
 i152:=by kernel_rfl
 i154:=by kernel_rfl
 i193:=by kernel_rfl
 i194:=by kernel_rfl
 i196:=by kernel_rfl
 i198:=by kernel_rfl
 i201:=by kernel_rfl
 i226:=by kernel_rfl
 i227:=by kernel_rfl
 m0:=by kernel_rfl
 m6:=by kernel_rfl }
open Go.RowKit Go.Lib in
theorem Tryz.strings_Fields_laid (s : ByteArray) (w : World) (hs : s.size < 4294967281) (hascii : ∀ (j : Nat) b, s.data.toList[j]? = some b → b.toNat < 128) (htab : Lib.TabIs prog w "strings.asciiSpace" .u8 Lib.asciiSpaceTab) :
  Calls prog 106 #[.string s] w λe w' =>
   e=.returned (.slice (some ⟨w.heap.size,0,none⟩) (Lib.fields s.data.toList).length (Lib.fields s.data.toList).length)/\w'=w.alloc (.cells ((Lib.fields s.data.toList).map λl=>Value.string ⟨l.toArray⟩).toArray 9):=Any.strings_Fields_laid Tryz.laysM157 s w hs hascii htab
def Tryz.lays150_ren:Go.Shelf.Ren:=⟨λ| 150=>287|153=>288|152=>241|226=>289|227=>149|228=>200|137=>52|119=>261|224=>207|225=>206|217=>103|266=>159|n=>n,λ| 9=>9|4=>4|3=>3|5=>5|21=>21|117=>247|116=>246|0=>0|46=>177|124=>250|n=>n,λ| n=>n⟩
theorem Tryz.lays150:Go.Proofs.Lays.n150 prog Tryz.lays150_ren:={
 mixed:=by kernel_rfl
 f119:=csf func261 (by kernel_rfl)
 f137:=csf func52 (by kernel_rfl)
 f150:=csf func287 (by kernel_rfl)
 f152:=csf func241 (by kernel_rfl)
 f153:=csf func288 (by kernel_rfl)
 f217:=csf func103 (by kernel_rfl)
 f224:=csf func207 (by kernel_rfl)
 f225:=csf func206 (by kernel_rfl)
 f226:=csf func289 (by kernel_rfl)
 f227:=csf func149 (by kernel_rfl)
 f228:=csf func200 (by kernel_rfl)
 f266:=csf func159 (by kernel_rfl)
 t0:=underlying0
 a0:=isAgg0
 z0:=sizeOf0
 v0:=zeroValue0
 t3:=underlying3
 a3:=isAgg3
 z3:=sizeOf3
 v3:=zeroValue3
 t4:=underlying4
 a4:=isAgg4
 z4:=sizeOf4
 v4:=zeroValue4
 t5:=underlying5
 a5:=isAgg5
 z5:=sizeOf5
 v5:=zeroValue5
 t9:=underlying9
 a9:=isAgg9
 z9:=sizeOf9
 v9:=zeroValue9
 t21:=underlying21
 a21:=isAgg21
 z21:=sizeOf21
 v21:=zeroValue21
 t46:=underlying177
 a46:=isAgg177
 z46:=sizeOf177
 v46:=zeroValue177
 t116:=underlying246
 a116:=isAgg246
 z116:=sizeOf246
 t117:=underlying247
 a117:=isAgg247
 z117:=sizeOf247
 v117:=zeroValue247
 t124:=underlying250
 a124:=isAgg250
 z124:=sizeOf250
 v124:=zeroValue250 }
open Go.RowKit Go.Lib in
theorem Tryz.strings_ContainsAny_laid (s chars:ByteArray) (w:World) (hs:s.size<4294967281) (hcs:chars.size<4294967281) (has:∀(j:Nat) b,s.data.toList[j]?=some b->b.toNat<128) (hac:∀(j:Nat) b,chars.data.toList[j]?=some b->b.toNat<128) :
  Calls prog 287 #[.string s,.string chars] w λe w'=>e=.returned (.bool (Lib.containsAny s.data.toList chars.data.toList))/\Below w.heap.size w w':=Any.strings_ContainsAny_laid Tryz.lays150 (by kernel_rfl) s chars w hs hcs has hac
def Tryz.lays110_ren:Go.Shelf.Ren:=⟨λ| 110=>55|109=>105|n=>n,λ| 31=>96|9=>9|4=>4|3=>3|0=>0|n=>n,λ| n=>n⟩
theorem Tryz.lays110:Go.Proofs.Lays.n110 prog Tryz.lays110_ren:={
 mixed:=by kernel_rfl
 f109:=csf func105 (by kernel_rfl)
 f110:=csf func55 (by kernel_rfl)
 t0:=underlying0
 a0:=isAgg0
 z0:=sizeOf0
 v0:=zeroValue0
 t3:=underlying3
 a3:=isAgg3
 z3:=sizeOf3
 v3:=zeroValue3
 t4:=underlying4
 a4:=isAgg4
 z4:=sizeOf4
 v4:=zeroValue4
 t9:=underlying9
 a9:=isAgg9
 z9:=sizeOf9
 v9:=zeroValue9
 t31:=underlying96
 a31:=isAgg96
 z31:=sizeOf96
 v31:=zeroValue96 }
open Go.Lib in
theorem Tryz.slices_Contains_string (b off n c:Nat) (zs:List ByteArray) (x:ByteArray) (w:World) (hz:n<=zs.length) (hbig:n<=9223372036854775807) (hc:∀j,j<zs.length->w.cell? ⟨b,off+j,none⟩=some (.string (zs.getD j ByteArray.empty))) :
  Calls prog 55 #[.slice (some ⟨b,off,none⟩) n c,.string x] w λe w'=>e=.returned (.bool (Lib.containsS (zs.take n) x))/\w'=w:=Any.slices_Contains_string Tryz.lays110 b off n c zs x w hz hbig hc
end
section
open YtbeaaimcpkogcaaGreatDoor (csf)
open Tryz Go.Shelf
def Tryz.laysM284_ren:Go.Shelf.Ren:=⟨λ| 284=>142|129=>196|317=>195|318=>197|n=>n,λ| 53=>107|3=>3|212=>298|0=>0|4=>4|46=>177|5=>5|9=>9|n=>n,λ| 17=>3|n=>n⟩
theorem Tryz.laysM284:Go.Proofs.LaysM.n284 prog Tryz.laysM284_ren:={
 mixed:=by kernel_rfl
 f129:=csf func196 (by kernel_rfl)
 f284:=csf func142 (by kernel_rfl)
 f317:=csf func195 (by kernel_rfl)
 f318:=csf func197 (by kernel_rfl)
 t0:=underlying0
 a0:=isAgg0
 z0:=sizeOf0
 v0:=zeroValue0
 t3:=underlying3
 a3:=isAgg3
 z3:=sizeOf3
 v3:=zeroValue3
 t4:=underlying4
 a4:=isAgg4
 z4:=sizeOf4
 v4:=zeroValue4
 t5:=underlying5
 a5:=isAgg5
 z5:=sizeOf5
 v5:=zeroValue5
 t9:=underlying9
 a9:=isAgg9
 z9:=sizeOf9
 v9:=zeroValue9
 t46:=underlying177
 a46:=isAgg177
 z46:=sizeOf177
 v46:=zeroValue177
 t53:=underlying107
 a53:=isAgg107
 z53:=sizeOf107
 v53:=zeroValue107
 t212:=underlying298
 a212:=isAgg298
 z212:=sizeOf298
 v212:=zeroValue298
 g17:=by kernel_rfl
 i0:=by kernel_rfl
 i3:=by kernel_rfl
 i4:=by kernel_rfl
 i5:=by kernel_rfl
 i9:=by kernel_rfl
 i46:=by kernel_rfl
 i53:=by kernel_rfl
 i212:=by kernel_rfl
 m17:=by kernel_rfl }
open Go.Lib in
theorem Tryz.internal_strconv_numDigits (u : Nat) (h1 : 1 ≤ u) (h2 : u < 18446744073709551616) (w : World) (htab : Lib.TabIs prog w "internal/strconv.uint64pow10" .u64 Lib.pow10Tab) :
  Calls prog 142 #[.int .u64 u] w λe w'=>e=.returned (.int .i64 (Lib.nDigits u))/\w'=w:=Any.internal_strconv_numDigits Tryz.laysM284 u h1 h2 w htab
end
end Go.Proofs
