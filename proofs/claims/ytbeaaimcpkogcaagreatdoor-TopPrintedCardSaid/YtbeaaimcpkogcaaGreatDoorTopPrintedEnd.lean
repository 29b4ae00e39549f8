/- The law: the Go function answers true; the claim says what is proved. -/
import Derived.Test.YtbeaaimcpkogcaaGreatDoorCards
import Derived.Test.YtbeaaimcpkogcaaGreatDoorTie
import Derived.ShutString
import Derived.HandedShaped
import Derived.Test.YtbeaaimcpkogcaaGreatDoorM02
import Derived.Test.YtbeaaimcpkogcaaGreatDoorM07
import Derived.Test.YtbeaaimcpkogcaaGreatDoorM52
import Derived.Test.YtbeaaimcpkogcaaGreatDoorM57
set_option linter.unusedSimpArgs false
set_option linter.unusedVariables false
set_option maxRecDepth 100000
namespace Go.Proofs.YtbeaaimcpkogcaaGreatDoor.topPrinted
section
open Go.ChangeMaps (open_string shut_string)
open Go.Proofs.Tryz Go.ChangeShapes Go.WideShapes Go.ChangeAt Go.RowKit
theorem own:ownKnob Tryz.prog.godebug=none:=by kernel_rfl
theorem wX:Tryz.prog.inits.idxOf? 3=none:=by kernel_rfl
theorem sC (os:Os):Input.okWideB prog (wC os #[.string ByteArray.empty]) 3 ⟨#[],#[.string ByteArray.empty],[]⟩=true:=by kernel_rfl
theorem qi (os:Os) (H:Type) (enc:TypeId×Value->H):Rows.topPrintedSpec.preB enc prog Tryz.f3 [] false (wC os #[.string ByteArray.empty]).memory #[.string ByteArray.empty] 8=true:=by kernel_rfl
theorem mN (os:Os) (H:Type) (enc:TypeId×Value->H):Rows.topPrintedSpec.sizedB enc prog Tryz.f3 false (wC os #[.string ByteArray.empty]).memory #[.string ByteArray.empty] 8=true:=by kernel_rfl
theorem mL {H:Type} {enc:TypeId×Value->H} {a:Assume} {C:Checked} {os:Os} {f:FuncId} {fn:Func} {s:ChangeSpec} {conds:List PathCond} {apart fresh handsOn again:Bool} {X:World->Array Value->Prop}
  (hX:∀(w w':World) (args:Array Value),w.heap=w'.heap->X w args->X w' args)
  (own:ownKnob C.prog.godebug=none) (started:os.Started) (noInit:C.prog.inits.idxOf? f=none) (hfn:C.prog.funcs[f]?=some fn)
  (witness:∃(w:World) (tape:Tape) (i:Input),w.os=os/\(w.forCall tape i).Shaped C.prog/\i.vars=[]/\Input.okWide C.prog (w.forCall tape i) .any w.heap.size f i /\
   ((s.pre enc C.prog fn conds apart (w.forCall tape i).memory i.args/\X (w.forCall tape i).memory i.args)/\sizedMet enc C.prog fn (OpenSpec.ofChange s) apart (w.forCall tape i).memory i.args)/\a.holds C.prog (lone (Frame.enter C.prog f i.args .normal) [] (w.forCall tape i)))
  (contract:∀(W:World) (base:Nat) (args:Array Value) (ds gs:List (DataW H)) (before:List MemPlace),
   (∀(j:Nat) t v,fn.params[j]?=some t->args[j]?=some v->Value.okWide C.prog W .any base t v) ->
   DataW.Whole enc C.prog fn.params.toList s.vars apart W args.toList ds gs before ->
   X W args->W.ShapedOpen C.prog ->
   Calls C.prog f args W λe W'=>∃v,e=.returned v/\s.post enc C.prog fn apart fresh handsOn again W args v W') :
  ReturnsInHanded a C os f .any (λw args=>(s.pre enc C.prog fn conds apart w args/\X w args)/\sizedMet enc C.prog fn (OpenSpec.ofChange s) apart w args) (s.post enc C.prog fn apart fresh handsOn again):=by
 refine returnsInHanded_of_calls own started noInit witness ?_;intro w tape i _ l _ k c g;obtain⟨_,_,_,h,b,_,_,_,_,d⟩:=k;have e:h=fn:=aT (b.symm.trans hfn);subst e;obtain⟨⟨⟨ds,gs,before,n,p⟩,o⟩,q⟩:=c;have m:=DataW.Whole.of_heap (w':=w.forCall tape i) (by rfl) n;refine(contract (w.forCall tape i) w.heap.size i.args ds gs before d m (hX _ _ _ (by rfl) o) l).mono λe W' ⟨v,he,hp⟩=>?_;subst he;exact ChangeSpec.post_blind hp
theorem CT (os:Os) (started:os.Started) (H:Type) (enc:TypeId×Value->H) :
  ReturnsInHanded {} Tryz.checked os 3 .any (λw args=>(Rows.topPrintedSpec.pre enc prog Tryz.f3 [] false w args/\laidMetH prog mr w)/\sizedMet enc prog Tryz.f3 (OpenSpec.ofChange Rows.topPrintedSpec) false w args)
   (Rows.topPrintedSpec.post enc prog Tryz.f3 false true false false):=by
 refine mL (C:=Tryz.checked) (X:=λw _=>laidMetH prog mr w) (λ_ _ _ hh h=>h.of_heap hh) own started wX func3
  (ChangeSpec.witness_shaped (enc:=enc) (C:=Tryz.checked) (os:=os) (X:=λw _=>laidMetH prog mr w) false (wL os) #[.string ByteArray.empty] 8 (LE os) (ul os _) (sC os) (qi os H enc) (mN os H enc) (BF os _)) ?_
 intro W c args u K g a o n l;have b:∀(j:Nat) t v,Tryz.f3.params[j]?=some t->args[j]?=some v->Value.okWide prog W .any c t v:=a;have i:=o;obtain⟨p,q,d,z,rfl,A,B⟩:=o;have m:DataW.TrodAll enc prog W 0 (λ_=>true) true Tryz.f3.params.toList args.toList u p:=d;rw[params3]at m b;obtain⟨r,G,J,x,L,M,k,rfl,rfl,y,F⟩:=trodAll_cons m;obtain⟨rfl,rfl,rfl⟩:=trodAll_nil F;obtain rfl:args=#[r]:=by cases args;simp_all
 obtain⟨rfl,rfl⟩:=trodVars_none z;obtain⟨s,rfl,rfl,rfl,I⟩:=open_string underlying9 (b 0 9 r rfl rfl) y;have D:=ze n l;have f:=yK n;obtain⟨⟨E⟩⟩:=s;clear d a;refine(wO W E D f).mono λe W' ⟨bel,he⟩=>?_;subst he;exact⟨_,rfl,_,_,_,[],_,[],i,trodAll_mk1 (shut_bool underlying4 _),(trodAll_cons_mk (shut_string underlying9 I) trodAll_mk0),rfl,bel.frame _,λh=>by cases h⟩
theorem qr:Rows.TopPrintedSaid:=
 OpenClaim.holds_of_wide 3 Tryz.f3 rfl rfl rfl rfl rfl rfl rfl ⟨rfl,rfl,rfl,rfl,rfl⟩ rfl rfl rfl rfl rfl nF func3 sN uv ut
  (λos started H enc _=>CT os started H enc)
theorem proved:Rows.TopPrintedCardSaid:=
 Claim7.holds_tied_plain_at .later [] [.data, .data, .data, .handle, .sentinel, .sentinel, .data, .listed, .data] true (true, "24c1a0688b63394245981ed06cc735b1767c21acb8d2f32a026638d33cc65055") true
  qr (λ_ h=>by cases h) Al (λ_ h=>by cases h) topPrinted_row_tie rfl ⟨rfl,rfl⟩ uu rfl
  (λf fn hf hfn=>by
   obtain rfl:f=3:=aT (nF.symm.trans hf) |>.symm;obtain rfl:fn=Tryz.f3:=(aT (Tryz.func3.symm.trans hfn)).symm;exact⟨sM,λj t ht=>by
    rw[params3]at ht;have a:t∈([9]:List TypeId):=by simpa using Array.mem_of_getElem? ht
    exact(show Tryz.prog.wantsStandIn t=false by simpa using fZ.1 sL t a)⟩)
  uw
#print axioms proved
end
end Go.Proofs.YtbeaaimcpkogcaaGreatDoor.topPrinted
