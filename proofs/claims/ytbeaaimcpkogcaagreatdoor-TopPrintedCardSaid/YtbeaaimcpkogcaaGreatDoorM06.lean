/- Lemmas on the way to the claim. -/
import Derived.Test.YtbeaaimcpkogcaaGreatDoorRows
import Derived.Stop.Asserts
import Derived.RowKitTokens
import Derived.Test.YtbeaaimcpkogcaaGreatDoorM00
set_option linter.unusedSimpArgs false
set_option linter.unusedVariables false
set_option maxHeartbeats 4000000
set_option maxRecDepth 100000
namespace Go.Proofs.YtbeaaimcpkogcaaGreatDoor
open Go.Proofs.Tryz Go.RowKit
section
open Go.Extern.Stop Go.Stop Go.Extern
theorem asT.valueOf27 (t:Addr) (w:World):(ReflectliteValue.unpack (.iface 83 (.pointer (some t)))).run prog w
  = .ok (.agg #[.pointer (some ⟨13,83,none⟩),.pointer (some ⟨w.heap.size,0,none⟩),.int .u64 150]) (w.alloc (.cells #[.pointer (some t)] 83)):=by kernel_rfl
theorem asT.type27 (a : Addr) (w : World): (ReflectliteValue.methodAny (ReflectliteValue.valueError "reflectlite.Value.Type" 0) (fun t _ _ _ => ReflectliteType.toType t) #[.agg #[.pointer (some ⟨13, 83, none⟩), .pointer (some a), .int .u64 150]]).run prog w
  = .ok (.iface 212 (.agg #[.pointer (some ⟨13,83,none⟩)])) w:=by kernel_rfl
theorem asT.methodKind (h : Value) (w : World): (Go.method 513 212 (.agg #[h]) "Kind").run prog w = .ok (304, h) w := by kernel_rfl
theorem asT.kind27 (w:World):((ReflectliteType.abiMethod λt=>Functor.map (λa:Nat=>Value.int IntKind.u8 (a:Int)) (Rtype.kind t)) #[.pointer (some ⟨13,83,none⟩)]).run prog w=.ok (.int .u8 22) w:=by kernel_rfl
theorem asT.kind25 (w:World):((ReflectliteType.abiMethod λt=>Functor.map (λa:Nat=>Value.int IntKind.u8 (a:Int)) (Rtype.kind t)) #[.pointer (some ⟨13,52,none⟩)]).run prog w=.ok (.int .u8 22) w:=by kernel_rfl
theorem rlm (z:Sem Value) (f:TypeId->Addr->Nat->Nat->Sem Value) (v:Value):
  ReflectliteValue.method z f #[v]=(do match <- ReflectliteValue.parts v with|none=>z|some (t,a,fl)=>f t a fl (fl%32)):=rfl
theorem asT.parts27 (a:Addr) (w:World):(ReflectliteValue.parts (.agg #[.pointer (some ⟨13,83,none⟩),.pointer (some a),.int .u64 150])).run prog w=.ok (some (83,a,150)) w:=by kernel_rfl
theorem asT.isNil27 (a p:Addr) (W:World) (ha:W.cell? a=some (.pointer (some p))):
  (ReflectliteValue.method (ReflectliteValue.valueError "reflectlite.Value.IsNil" 0) ReflectliteValue.isNil #[.agg #[.pointer (some ⟨13, 83, none⟩), .pointer (some a), .int .u64 150]]).run prog W = .ok (.bool false) W := by
 rw[rlm];simp only[jX,asT.parts27,Result.andThen];simp[ReflectliteValue.isNil,loadVar,isAgg,underlying,underlying83,ha,Result.andThen]
theorem asT.methodElem (h : Value) (w : World): (Go.method 513 212 (.agg #[h]) "Elem").run prog w = .ok (317, .agg #[h]) w := by kernel_rfl
theorem asT.methodImplements (h : Value) (w : World): (Go.method 513 212 (.agg #[h]) "Implements").run prog w = .ok (318, .agg #[h]) w := by kernel_rfl
theorem asT.methodAssignableTo (h : Value) (w : World): (Go.method 513 212 (.agg #[h]) "AssignableTo").run prog w = .ok (315, .agg #[h]) w := by kernel_rfl
theorem asT.elem27 (w:World):(ReflectliteType.method ReflectliteType.elem #[.agg #[.pointer (some ⟨13,83,none⟩)]]).run prog w=.ok (.iface 212 (.agg #[.pointer (some ⟨13,52,none⟩)])) w:=by kernel_rfl
theorem asT.implements25 (w : World): (ReflectliteType.relation "Implements" ReflectliteType.implements_ #[.agg #[.pointer (some ⟨13, 52, none⟩)], .iface 212 (.agg #[.pointer (some ⟨13, 24, none⟩)])]).run prog w = .ok (.bool true) w := by kernel_rfl
theorem asT.typeOf25 (v:Value) (w:World):(ReflectliteType.typeOf #[.iface 52 v]).run prog w=.ok (.iface 212 (.agg #[.pointer (some ⟨13,52,none⟩)])) w:=by kernel_rfl
theorem asT.assignable25 (w : World): (ReflectliteType.relation "AssignableTo" ReflectliteType.assignableTo #[.agg #[.pointer (some ⟨13, 52, none⟩)], .iface 212 (.agg #[.pointer (some ⟨13, 52, none⟩)])]).run prog w = .ok (.bool true) w := by kernel_rfl
theorem asT.valueOf25 (e:Addr) (w:World):(ReflectliteValue.unpack (.iface 52 (.pointer (some e)))).run prog w
  = .ok (.agg #[.pointer (some ⟨13,52,none⟩),.pointer (some ⟨w.heap.size,0,none⟩),.int .u64 150]) (w.alloc (.cells #[.pointer (some e)] 52)):=by kernel_rfl
theorem asT.elemOf27 (w:World):(Rtype.elem? 83).run prog w=.ok (some 52) w:=by kernel_rfl
theorem asT.mk25 (p:Addr) (w:World):(ReflectliteValue.mk 52 p ReflectliteValue.flagAddr).run prog w=.ok (.agg #[.pointer (some ⟨13,52,none⟩),.pointer (some p),.int .u64 406]) w:=by kernel_rfl
theorem asT.elemV27 (a p:Addr) (W:World) (ha:W.cell? a=some (.pointer (some p))):
  (ReflectliteValue.method (ReflectliteValue.valueError "reflectlite.Value.Elem" 0) ReflectliteValue.elem #[.agg #[.pointer (some ⟨13, 83, none⟩), .pointer (some a), .int .u64 150]]).run prog W
   = .ok (.agg #[.pointer (some ⟨13,52,none⟩),.pointer (some p),.int .u64 406]) W:=by
 rw[rlm];simp only[jX,asT.parts27,Result.andThen];simp[ReflectliteValue.elem,loadVar,isAgg,underlying,underlying83,ha,Result.andThen,asT.elemOf27,asT.mk25]
theorem rls (v x:Value):ReflectliteValue.set #[v,x]=(do
  let (some (dst,a,fl),some (src,b,_)):=(<- ReflectliteValue.parts v,<- ReflectliteValue.parts x)
   | unsupported (.noEntry "extern/(internal/reflectlite.Value).Set.zeroValue")
  if fl / ReflectliteValue.flagAddr % 2 == 0 then unsupported (.noEntry "extern/(internal/reflectlite.Value).Set.unaddressable")
  let val <- loadVar src b
  if <- Rtype.directlyAssignable dst src then storeVar dst a val
  else if <- Rtype.implements dst src then
   if(<- Rtype.kind src)==20 then
    match val with
    | .nilIface => unsupported (.noEntry "extern/reflectlite: a nil value of one interface type handed on as a value of another")
    | _=>storeVar dst a val
   else storeVar dst a (.iface src val)
  else panicString ("reflectlite.Set: value of type " ++ (← Rtype.spelt src) ++ " is not assignable to type " ++ (← Rtype.spelt dst))
  pure (.tuple #[])):=rfl
theorem asT.parts25a (a:Addr) (w:World):(ReflectliteValue.parts (.agg #[.pointer (some ⟨13,52,none⟩),.pointer (some a),.int .u64 406])).run prog w=.ok (some (52,a,406)) w:=by kernel_rfl
theorem asT.parts25 (a:Addr) (w:World):(ReflectliteValue.parts (.agg #[.pointer (some ⟨13,52,none⟩),.pointer (some a),.int .u64 150])).run prog w=.ok (some (52,a,150)) w:=by kernel_rfl
theorem asT.direct25 (w:World):(Rtype.directlyAssignable 52 52).run prog w=.ok true w:=by kernel_rfl
theorem asT.set25 (ta b e:Addr) (old:Value) (W:World) (hb:W.cell? b=some (.pointer (some e))) (ht:W.cell? ta=some old) (hf:W.frozen? ta=false):
  (ReflectliteValue.set #[.agg #[.pointer (some ⟨13,52,none⟩),.pointer (some ta),.int .u64 406],.agg #[.pointer (some ⟨13,52,none⟩),.pointer (some b),.int .u64 150]]).run prog W
   = .ok (.tuple #[]) (W.setCell ta (.pointer (some e))):=by
 rw[rls];simp only[jX,asT.parts25a,asT.parts25,Result.andThen];simp[ReflectliteValue.flagAddr,loadVar,isAgg,underlying,underlying52,hb,Result.andThen,asT.direct25,storeVar,Value.cells,storeCells,Addr.add];rw[run_store prog W ta _ _ (by rfl)];simp[ht,hf]
theorem Lk (e t:Addr) (old:Value) (w:World) (hg:w.cell? ⟨0,0,none⟩=some (.iface 212 (.agg #[.pointer (some ⟨13,24,none⟩)]))) (ht0:w.cell? t=some old) (hf0:w.frozen? t=false):
  Calls prog 23 #[.iface 52 (.pointer (some e)),.iface 83 (.pointer (some t))] w λev w'=>ev=.returned (.bool true)/\w'=((((w.alloc (.cells #[.pointer (some t)] 83)).alloc (.cells #[.pointer (some ⟨13,83,none⟩),.pointer (some ⟨w.heap.size,0,none⟩),.int .u64 150] 154)).alloc (.cells #[.pointer (some ⟨13,83,none⟩),.pointer (some ⟨w.heap.size,0,none⟩),.int .u64 150] 154)).alloc (.cells #[.pointer (some e)] 52)).setCell t (.pointer (some e)):=by
 have y:=@run_callFunc_extern prog 77 _ (λargs=>ReflectliteValue.unpack (args.getD 0 (.tuple #[]))) func77 (by kernel_rfl) (by kernel_rfl) (by kernel_rfl) (by kernel_rfl)
 have z := @run_callFunc_extern prog 78 _ (ReflectliteValue.methodAny (ReflectliteValue.valueError "reflectlite.Value.Type" 0) (fun t _ _ _ => ReflectliteType.toType t)) func78 (by kernel_rfl) (by kernel_rfl) (by kernel_rfl) (by kernel_rfl)
 have A := @run_callFunc_extern prog 79 _ (ReflectliteValue.method (ReflectliteValue.valueError "reflectlite.Value.IsNil" 0) ReflectliteValue.isNil) func79 (by kernel_rfl) (by kernel_rfl) (by kernel_rfl) (by kernel_rfl)
 have k:=@run_callFunc_extern prog 304 _ (ReflectliteType.abiMethod λt=>do pure (.int .u8 (<- Rtype.kind t))) func304 (by kernel_rfl) (by kernel_rfl) (by kernel_rfl) (by kernel_rfl);have m:=@run_callFunc_extern prog 317 _ (ReflectliteType.method ReflectliteType.elem) func317 (by kernel_rfl) (by kernel_rfl) (by kernel_rfl) (by kernel_rfl)
 have n := @run_callFunc_extern prog 318 _ (ReflectliteType.relation "Implements" ReflectliteType.implements_) func318 (by kernel_rfl) (by kernel_rfl) (by kernel_rfl) (by kernel_rfl)
 have g:=@run_callFunc_extern prog 128 _ ReflectliteType.typeOf func128 (by kernel_rfl) (by kernel_rfl) (by kernel_rfl) (by kernel_rfl)
 have l := @run_callFunc_extern prog 315 _ (ReflectliteType.relation "AssignableTo" ReflectliteType.assignableTo) func315 (by kernel_rfl) (by kernel_rfl) (by kernel_rfl) (by kernel_rfl)
 have i := @run_callFunc_extern prog 129 _ (ReflectliteValue.method (ReflectliteValue.valueError "reflectlite.Value.Elem" 0) ReflectliteValue.elem) func129 (by kernel_rfl) (by kernel_rfl) (by kernel_rfl) (by kernel_rfl)
 have j:=@run_callFunc_extern prog 130 _ ReflectliteValue.set func130 (by kernel_rfl) (by kernel_rfl) (by kernel_rfl) (by kernel_rfl);have G:=asT.typeOf25;have B:=asT.methodAssignableTo;have c:=asT.assignable25;have s:=asT.valueOf25;have v:=asT.valueOf27;have x:=asT.type27;have E:=asT.methodKind;have C:=asT.methodElem;have D:=asT.methodImplements;have r:=asT.kind27;have q:=asT.kind25;have d:=asT.elem27;have p:=asT.implements25;have F:=asT.isNil27 ⟨w.heap.size,0,none⟩ t ((w.alloc (.cells #[.pointer (some t)] 83)).alloc (.cells #[.pointer (some ⟨13,83,none⟩),.pointer (some ⟨w.heap.size,0,none⟩),.int .u64 150] 154)) (by simp);have b:0<w.heap.size:=by
  rcases Nat.eq_zero_or_pos w.heap.size with f|h
  ·simp[World.cell?,f]at hg
  ·exact h
 have o:((w.alloc (.cells #[.pointer (some t)] 83)).alloc (.cells #[.pointer (some ⟨13,83,none⟩),.pointer (some ⟨w.heap.size,0,none⟩),.int .u64 150] 154)).cell? ⟨0,0,none⟩=some (.iface 212 (.agg #[.pointer (some ⟨13,24,none⟩)])):=by
  rw[dW _ _ ⟨0,0,none⟩ (by simp),dW _ _ ⟨0,0,none⟩ b];exact hg
 have a:t.block<w.heap.size:=by
  rcases gG t.block w.heap.size with h|h
  ·exact h
  ·simp[World.cell?,Array.getElem?_eq_none h]at ht0
 have u:=asT.elemV27 ⟨w.heap.size,0,none⟩ t (((w.alloc (.cells #[.pointer (some t)] 83)).alloc (.cells #[.pointer (some ⟨13,83,none⟩),.pointer (some ⟨w.heap.size,0,none⟩),.int .u64 150] 154)).alloc (.cells #[.pointer (some ⟨13,83,none⟩),.pointer (some ⟨w.heap.size,0,none⟩),.int .u64 150] 154)) (by rw[dW _ _ ⟨w.heap.size,0,none⟩ (by simp;omega)];simp);have st:=asT.set25 t ⟨w.heap.size+1+1+1,0,none⟩ e old ((((w.alloc (.cells #[.pointer (some t)] 83)).alloc (.cells #[.pointer (some ⟨13,83,none⟩),.pointer (some ⟨w.heap.size,0,none⟩),.int .u64 150] 154)).alloc (.cells #[.pointer (some ⟨13,83,none⟩),.pointer (some ⟨w.heap.size,0,none⟩),.int .u64 150] 154)).alloc (.cells #[.pointer (some e)] 52))
  (by rw[World.cell?_alloc_at _ _ _ _ (by simp)];rfl)
  (by rw[dW _ _ t (by simp;omega),dW _ _ t (by simp;omega),dW _ _ t (by simp;omega),dW _ _ t a];exact ht0)
  (by rw[M4 _ _ t (by simp;omega),M4 _ _ t (by simp;omega),M4 _ _ t (by simp;omega),M4 _ _ t (Nat.ne_of_lt a)];exact hf0)
 go_enter func23,ntmps23
 go_wp2
 refine bC 1 ?_;rw[aO]
 go_wp2
 go_ret;exact⟨rfl,rfl⟩
end
end Go.Proofs.YtbeaaimcpkogcaaGreatDoor
