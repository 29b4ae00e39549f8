/- The law: the Go function answers true; the claim says what is proved. -/
import Derived.Test.YtbeaaimcpkogcaaGreatDoorCards
import Derived.Test.YtbeaaimcpkogcaaGreatDoorTie
import Derived.ShutString
import Derived.HandedShaped
import Derived.Test.YtbeaaimcpkogcaaGreatDoorM03
import Derived.Test.YtbeaaimcpkogcaaGreatDoorM09
import Derived.Test.YtbeaaimcpkogcaaGreatDoorM53
import Derived.Test.YtbeaaimcpkogcaaGreatDoorM58
set_option linter.unusedSimpArgs false
set_option linter.unusedVariables false
set_option maxRecDepth 100000
namespace Go.Proofs.YtbeaaimcpkogcaaGreatDoor.topWords
section
open Go.ChangeMaps (open_string shut_string)
open Go.Proofs.Tryz Go.ChangeShapes Go.WideShapes Go.ChangeAt Go.RowKit
theorem own:ownKnob Tryz.prog.godebug=none:=by kernel_rfl
theorem wX:Tryz.prog.inits.idxOf? 4=none:=by kernel_rfl
theorem sC (os:Os):Input.okWideB prog (wCW os #[.string ByteArray.empty,.slice none 0 0]) 4 ⟨#[],#[.string ByteArray.empty,.slice none 0 0],[]⟩=true:=by kernel_rfl
theorem qi (os:Os) (H:Type) (enc:TypeId×Value->H):Rows.topWordsSpec.preB enc prog Tryz.f4 [] false (wCW os #[.string ByteArray.empty,.slice none 0 0]).memory #[.string ByteArray.empty,.slice none 0 0] 8=true:=by kernel_rfl
theorem mN (os:Os) (H:Type) (enc:TypeId×Value->H):Rows.topWordsSpec.sizedB enc prog Tryz.f4 false (wCW os #[.string ByteArray.empty,.slice none 0 0]).memory #[.string ByteArray.empty,.slice none 0 0] 8=true:=by kernel_rfl
theorem Jc:laidOutB prog=true:=by kernel_rfl
theorem E7 {W:World} {x:Addr} {len cap:Nat} {zs:List Int} (hl:len<=cap) (hm:cap<=maxLen) (hz:zs.length=cap) (hcell:∀i,i<zs.length->W.cell? (x.add i)=some (.int .u32 (zs.getD i 0))) (hwz:∀n∈zs,(Lit.int .u32 n).wf=true):Gi W (some x) len cap (zs.take len):=by
 refine .inr ⟨x,rfl,hl,hm,by rw[bN];omega,λj z hj=>?_,λz hz2=>?_⟩
 ·have a:=(aE.1 hj).1
  rw[bN]at a;have:=hcell j (by omega);rw[List.getElem?_take,ax (by omega)]at hj;rw[this,dD,hj];rfl
 ·have:=hwz z (List.mem_of_mem_take hz2)
  simp[Lit.wf,IntKind.min,IntKind.max,IntKind.signed,IntKind.bits]at this;omega
theorem mL {H:Type} {enc:TypeId×Value->H} {a:Assume} {C:Checked} {os:Os} {f:FuncId} {fn:Func} {s:ChangeSpec} {conds:List PathCond} {apart fresh handsOn again:Bool} {X:World->Array Value->Prop}
  (hX:∀(w w':World) (args:Array Value),w.heap=w'.heap->X w args->X w' args)
  (own:ownKnob C.prog.godebug=none) (started:os.Started) (noInit:C.prog.inits.idxOf? f=none) (hfn:C.prog.funcs[f]?=some fn)
  (witness:∃(w:World) (tape:Tape) (i:Input),w.os=os/\(w.forCall tape i).Shaped C.prog/\i.vars=[]/\Input.okWide C.prog (w.forCall tape i) .any w.heap.size f i /\
   ((s.pre enc C.prog fn conds apart (w.forCall tape i).memory i.args/\X (w.forCall tape i).memory i.args)/\sizedMet enc C.prog fn (OpenSpec.ofChange s) apart (w.forCall tape i).memory i.args)/\a.holds C.prog (lone (Frame.enter C.prog f i.args .normal) [] (w.forCall tape i)))
  (contract:∀(W:World) (base:Nat) (args:Array Value) (ds gs:List (DataW H)) (before:List MemPlace),
   (∀(j:Nat) t v,fn.params[j]?=some t->args[j]?=some v->Value.okWide C.prog W .any base t v) ->
   DataW.Whole enc C.prog fn.params.toList s.vars apart W args.toList ds gs before ->
   X W args->W.ShapedOpen C.prog ->
   Calls C.prog f args W λe W'=>∃v,e=.returned v/\s.post enc C.prog fn apart fresh handsOn again W args v W') :
  ReturnsInHanded a C os f .any (λw args=>(s.pre enc C.prog fn conds apart w args/\X w args)/\sizedMet enc C.prog fn (OpenSpec.ofChange s) apart w args) (s.post enc C.prog fn apart fresh handsOn again):=by
 refine returnsInHanded_of_calls own started noInit witness ?_;intro w tape i _ l _ k c g;obtain⟨_,_,_,h,b,_,_,_,_,d⟩:=k;have e:h=fn:=aT (b.symm.trans hfn);subst e;obtain⟨⟨⟨ds,gs,before,n,p⟩,o⟩,q⟩:=c;have m:=DataW.Whole.of_heap (w':=w.forCall tape i) (by rfl) n;refine(contract (w.forCall tape i) w.heap.size i.args ds gs before d m (hX _ _ _ (by rfl) o) l).mono λe W' ⟨v,he,hp⟩=>?_;subst he;exact ChangeSpec.post_blind hp
theorem CT (os:Os) (started:os.Started) (H:Type) (enc:TypeId×Value->H) :
  ReturnsInHanded {} Tryz.checked os 4 .any (λw args=>(Rows.topWordsSpec.pre enc prog Tryz.f4 [] false w args/\laidMetH prog nP w)/\sizedMet enc prog Tryz.f4 (OpenSpec.ofChange Rows.topWordsSpec) false w args)
   (Rows.topWordsSpec.post enc prog Tryz.f4 false true false false):=by
 refine mL (C:=Tryz.checked) (X:=λw _=>laidMetH prog nP w) (λ_ _ _ hh h=>h.of_heap hh) own started wX func4
  (ChangeSpec.witness_shaped (enc:=enc) (C:=Tryz.checked) (os:=os) (X:=λw _=>laidMetH prog nP w) false (wLW os) #[.string ByteArray.empty,.slice none 0 0] 8 (JX os) (sB os _) (sC os) (qi os H enc) (mN os H enc) (zY os _)) ?_
 intro W k args P gs r d K J z;have b:∀(j:Nat) t v,Tryz.f4.params[j]?=some t->args[j]?=some v->Value.okWide prog W .any k t v:=d;have s:=K;obtain⟨p,q,n,T,rfl,V,Z⟩:=K;have I:DataW.TrodAll enc prog W 0 (λ_=>true) true Tryz.f4.params.toList args.toList P p:=n;rw[params4]at I b;obtain⟨M,a2,d0,Q,p0,q0,u,rfl,rfl,S,r0⟩:=trodAll_cons I;obtain⟨N,a3,d1,R,p1,q1,rfl,rfl,rfl,G,r1⟩:=trodAll_cons r0;obtain⟨rfl,rfl,rfl⟩:=trodAll_nil r1;obtain rfl:args=#[M,N]:=by cases args;simp_all
 obtain⟨rfl,rfl⟩:=trodVars_none T;obtain⟨O,rfl,rfl,rfl,w0⟩:=open_string underlying9 (b 0 9 M rfl rfl) S;obtain⟨E,f,g,rfl⟩:=okWide_slice underlying34 (b 1 34 N rfl rfl);have L:=G;have B:∀x∈p1,x.block<W.heap.size:=by obtain⟨m,y⟩:=L;exact DataW.trod_lt m _ _ _ y
 obtain⟨z1,w1⟩:∃D,Gi W E f g D:=by
  obtain⟨F,U⟩:=G;rcases open_ints underlying34 underlying40 (by kernel_rfl) U with⟨a,_⟩|⟨x,l,c,D,a,_,Y,y,hz,_,i,A⟩
  ·simp[Value.cells]at a
   obtain⟨rfl,rfl,rfl⟩:=a;exact⟨[],.inl ⟨rfl,rfl,rfl,rfl⟩⟩
  ·simp[Value.cells]at a
   obtain⟨rfl,rfl,rfl⟩:=a;exact⟨D.take f,E7 Y y (by simpa using hz) i A⟩
 have ht:=ze (CZ J) z;have o:=yK (CZ J);obtain⟨⟨l0⟩⟩:=O;clear n d;refine(Be W l0 E f g z1 w1 ht o).mono λe W' ⟨bel,he⟩=>?_;subst he;exact⟨_,rfl,_,_,_,[],_,[],s,trodAll_mk1 (shut_bool underlying4 _),(trodAll_cons_mk (shut_string underlying9 w0) (trodAll_cons_mk (Below.trod Jc (by kernel_rfl) (bm (by kernel_rfl)) L bel B) trodAll_mk0)),rfl,bel.frame _,λh=>by cases h⟩
theorem qr:Rows.TopWordsSaid:=
 OpenClaim.holds_of_wide 4 Tryz.f4 rfl rfl rfl rfl rfl rfl rfl ⟨rfl,rfl,rfl,rfl,rfl⟩ rfl rfl rfl rfl rfl pW func4 wj zL zJ
  (λos started H enc _=>CT os started H enc)
theorem proved:Rows.TopWordsCardSaid:=
 Claim7.holds_tied_plain_at .later [] [.data, .data, .data, .data, .handle, .sentinel, .sentinel, .data, .listed, .data, .pinned] true (true, "24c1a0688b63394245981ed06cc735b1767c21acb8d2f32a026638d33cc65055") true
  qr (λ_ h=>by cases h) Ez (λ_ h=>by cases h) topWords_row_tie rfl ⟨rfl,rfl⟩ zK rfl
  (λf fn hf hfn=>by
   obtain rfl:f=4:=aT (pW.symm.trans hf) |>.symm;obtain rfl:fn=Tryz.f4:=(aT (Tryz.func4.symm.trans hfn)).symm;exact⟨wi,λj t ht=>by
    rw[params4]at ht;have a:t∈([9,34]:List TypeId):=by simpa using Array.mem_of_getElem? ht
    exact(show Tryz.prog.wantsStandIn t=false by simpa using fZ.1 wh t a)⟩)
  zM
#print axioms proved
end
end Go.Proofs.YtbeaaimcpkogcaaGreatDoor.topWords
